/- For ScanTokens: its callees return what is said of them. -/
import Derived.Test.YtkkpjonfaflkmaaGreatDoorCScanTokens19
namespace Go.Proofs.YtkkpjonfaflkmaaGreatDoor.T
open Go.RowKit Go.Proofs.ah.aT Go.Proofs.ah.bn Go.Proofs.ah.bA
set_option linter.unusedSimpArgs false
set_option linter.unusedVariables false
attribute [local go_sem] fB fC gI gJ eD eF fD fE   -- for this text's walks alone
def bI.f (a0:ByteArray) (a1:Int) (a2:ByteArray):Option (Bool):=if (wrap64 (a1+(a2.size:Int))) > (a0.size:Int) then (some false) else (if 0<=a1 then (if a1<=(wrap64 (a1+(a2.size:Int))) then (if (wrap64 (a1+(a2.size:Int)))<=(a0.size:Int) then (some ((a0.extract (a1:Int).toNat ((wrap64 (a1+(a2.size:Int))):Int).toNat).toList==a2.toList)) else (none)) else (none)) else (none))
set_option maxHeartbeats 8000000 in
set_option maxRecDepth 100000 in
theorem bI.calls (a0:ByteArray) (a1:Int) (a2:ByteArray) (r:Bool) (w:World) (h:bI.f a0 a1 a2=some r) :
  Calls Tryz.prog 80 #[.string a0,.int .i64 a1,.string a2] w fun e w'=>e=.returned (.bool r)/\aM w w':=by
 have H:(if (wrap64 (a1+(a2.size:Int))) > (a0.size:Int) then (some false) else (if 0<=a1 then (if a1<=(wrap64 (a1+(a2.size:Int))) then (if (wrap64 (a1+(a2.size:Int)))<=(a0.size:Int) then (some ((a0.extract (a1:Int).toNat ((wrap64 (a1+(a2.size:Int))):Int).toNat).toList==a2.toList)) else (none)) else (none)) else (none)))=some r:=h;clear h;by_cases c4:(wrap64 (a1+(a2.size:Int))) > (a0.size:Int)
 ·rw [if_pos c4] at H
  have pF:decide ((a0.size:Int) < (wrap64 (a1+(a2.size:Int))))=true:=decide_eq_true c4;clear c4;obtain rfl:=Option.some.inj H;go_enter Tryz.func80,Tryz.ntmps80
  go_wp2;go_ret;exact ⟨by first | rfl | (simp;done) | (simp [*];done),by repeat (first | exact aM.refl _ | apply aM.step)⟩
 rw [if_neg c4] at H;have pF:decide ((a0.size:Int) < (wrap64 (a1+(a2.size:Int))))=false:=decide_eq_false c4;clear c4;by_cases c5:0<=a1
 rotate_left
 ·rw [if_neg c5] at H
  exact absurd H (by simp)
 rw [if_pos c5] at H;have nV:=eq_true c5;have JK:decide (0<=a1)=true:=decide_eq_true c5;clear c5;by_cases c6:a1<=(wrap64 (a1+(a2.size:Int)))
 rotate_left
 ·rw [if_neg c6] at H
  exact absurd H (by simp)
 rw [if_pos c6] at H;have kP:=eq_true c6;have Bj:decide (a1<=(wrap64 (a1+(a2.size:Int))))=true:=decide_eq_true c6;by_cases c7:(wrap64 (a1+(a2.size:Int)))<=(a0.size:Int)
 ·rw [if_pos c7] at H
  have sI:=eq_true c7;have Ut:decide ((wrap64 (a1+(a2.size:Int)))<=(a0.size:Int))=true:=decide_eq_true c7;obtain rfl:=Option.some.inj H;go_enter Tryz.func80,Tryz.ntmps80
  go_wp2;go_ret;exact ⟨by first | rfl | (simp;done) | (simp [*];done),by repeat (first | exact aM.refl _ | apply aM.step)⟩
 rw [if_neg c7] at H;exact absurd H (by simp)
mutual
def aZ.j0:Nat->ByteArray->Int->Int->Bool->Option (Int × ByteArray × Int × Int × Int)
 | 0,_,_,_,_=>none
 | k+1,x0,x1,x2,x19=>if x19=true then ((aC.f k x0 x1 x2).bind fun IE=>(some (IE.1,IE.2.1,IE.2.2.1,IE.2.2.2.1,IE.2.2.2.2))) else (if 0<=x1 then (if x1 < (x0.size:Int) then ((bF.f (bt x0 x1)).bind fun UZ=>(if UZ=true then ((aK.f k x0 x1 x2).bind fun uE=>(some (uE.1,uE.2.1,uE.2.2.1,uE.2.2.2.1,uE.2.2.2.2))) else ((ig.f).bind fun t203=>(aZ.l0 k x0 x1 x2 t203 0)))) else (none)) else (none))
def aZ.l0:Nat->ByteArray->Int->Int->List ByteArray->Int->Option (Int × ByteArray × Int × Int × Int)
 | 0,_,_,_,_,_=>none
 | k+1,x0,x1,x2,x7,x8=>if x8 < (x7.length:Int) then (if 0<=x8 then ((bI.f x0 x1 (pW ByteArray.empty x7 x8)).bind fun Va=>(if Va=true then (some (3,pW ByteArray.empty x7 x8,wrap64 (x1+((pW ByteArray.empty x7 x8).size:Int)),0,0)) else (aZ.l0 k x0 x1 x2 x7 (wrap64 (x8+1))))) else (none)) else (some (0,(⟨#[]⟩:ByteArray),0,13,x2))
end
def aZ.f (k:Nat) (a0:ByteArray) (a1:Int) (a2:Int):Option (Int × ByteArray × Int × Int × Int):=if 0<=a1 then (if a1 < (a0.size:Int) then (if (bt a0 a1)=39 then (aZ.j0 k a0 a1 a2 true) else (aZ.j0 k a0 a1 a2 ((bt a0 a1)==34))) else (none)) else (none)
def aZ.T11:Bool × List (List Nat × List Nat):=(true,[([],[]),([],[]),([0,1],[0,1]),([2],[2]),([],[]),([],[]),([],[]),([5,6],[5,6]),([7],[7]),([8],[8]),([4,9],[4,9]),([3,10],[3,10]),([11,0,1,2,3,4,5,6,7,8,9,10,11],[11])])
def aZ.B11:List Nat:=[0,0,3,7,0,0,0,96,224,480,1008,2047,4095]
theorem aZ.adt:pz .any (opsOf Tryz.f85 11)=aZ.T11:=by kernel_rfl
theorem aZ.Zy:rU aZ.T11.2 aZ.B11=true:=by kernel_rfl
set_option maxHeartbeats 8000000 in
set_option maxRecDepth 100000 in
theorem aZ.calls (k:Nat) (a0:ByteArray) (a1:Int) (a2:Int) (r1:Int) (r2:ByteArray) (r3:Int) (r4:Int) (r5:Int) (w:World) (h:aZ.f k a0 a1 a2=some (r1,r2,r3,r4,r5)) :
  Calls Tryz.prog 85 #[.string a0,.int .i64 a1,.int .i64 a2] w fun e w'=>e=.returned (.agg #[.int .i64 r1,.string r2,.int .i64 r3,.int .i64 r4,.int .i64 r5])/\Below w.heap.size w w':=by
 have Zl:=Tryz.underlying82;have HB:=aj.mk (Below.refl w.heap.size w);have H:(if 0<=a1 then (if a1 < (a0.size:Int) then (if (bt a0 a1)=39 then (aZ.j0 k a0 a1 a2 true) else (aZ.j0 k a0 a1 a2 ((bt a0 a1)==34))) else (none)) else (none))=some (r1,r2,r3,r4,r5):=h;clear h;have Ig:=aj.mk H;clear H;go_enter Tryz.func85,Tryz.ntmps85
 go_upto_region 1 with (first | ((with_reducible refine jW (N:=6) rfl ?_);refine jG ?hg (N:=6) ?hd (cs:=#[.int .i64 0,.string (⟨#[]⟩:ByteArray),.int .i64 0,.int .i64 0,.int .i64 0]) (t:=82) ?hr ?_;(case hd=>rfl);(case hg=>rfl);(case hr=>first | (go_simp;done) | (go_simp;rfl));intro gq hg w5 lM hb;have dW:=aj.mk (bH (by repeat (first | (with_reducible first | exact HB.out | apply ay | apply ak | apply aD) | exact HB.out)) hb);have fF:=aj.mk (lM);have jJ:=aj.mk ((by rw [hg];exact (bR (by repeat (first | (with_reducible first | exact HB.out | apply ay | apply ak | apply aD) | exact HB.out))):w.heap.size<=gq));have lZ:=aj.mk ((by rw [hg];exact (bR (by repeat (first | (with_reducible first | exact HB.out | apply ay | apply ak | apply aD) | exact HB.out))):w.heap.size<=gq));clear HB;have HB:=dW;have bQ:=fF;have alp:=jJ;have qU:=lZ;clear dW fF jJ lZ;clear hb lM hg))
 (try simp only [Act.put,List.setIfInBounds_toArray,List.set_cons_zero,List.set_cons_succ])
 go_cut [19] (fun v19 wc=>∃ (kq:Nat) (MK:Bool),v19=.bool MK/\aj (aZ.j0 kq a0 a1 a2 MK=some (r1,r2,r3,r4,r5))/\aj (kq<=k)/\aj (wc.heap[gq]?=some (.cells #[.int .i64 0,.string (⟨#[]⟩:ByteArray),.int .i64 0,.int .i64 0,.int .i64 0] 82 (0,0)))/\aj (Below w.heap.size w wc))
 case first =>
  have H:=Ig.out;clear Ig;by_cases c6:0<=a1
  rotate_left
  ·rw [if_neg c6] at H
   exact absurd H (by simp)
  rw [if_pos c6] at H;have kP:decide (0<=a1)=true:=decide_eq_true c6;clear c6
  (first | rw [kP] | (simp only [dx,dK];rw [kP]) | skip)
  by_cases c7:a1 < (a0.size:Int)
  rotate_left
  ·rw [if_neg c7] at H
   exact absurd H (by simp)
  rw [if_pos c7] at H;have sI:decide (a1 < (a0.size:Int))=true:=decide_eq_true c7;clear c7;by_cases c9:(bt a0 a1)=39
  ·rw [if_pos c9] at H
   have Uy:((bt a0 a1)==39)=true:=beq_iff_eq.mpr c9;have YV:((bt a0 a1) != 39)=false:=bne_eq_false_iff_eq.mpr c9;clear c9;have H':=aj.mk H;clear H;have p8:0<=(a1:Int):=of_decide_eq_true (by first | (with_reducible assumption) | assumption);have q8:a1 < (a0.size:Int):=of_decide_eq_true (by first | (with_reducible assumption) | assumption);have hx8:=bY a0 a1;replace p8:=eq_true p8;replace q8:=eq_true q8;go_wp2;go_meet
   case rel=>exact ⟨_,(true),(by first | rfl | (simp;done) | (simp [*];done)),H',⟨by first | omega | exact Nat.le_refl _⟩,⟨by (with_reducible repeat (first | refine aH ?_ _ | refine aI ?_ | refine aG ?_ _));exact bQ.out⟩,⟨by repeat (first | (with_reducible first | exact HB.out | apply ay | apply ak | apply aD | refine aQ ?_ qU.out) | exact HB.out)⟩⟩
  rw [if_neg c9] at H;have Uy:((bt a0 a1)==39)=false:=beq_eq_false_iff_ne.mpr c9;have YV:((bt a0 a1) != 39)=true:=bne_iff_ne.mpr c9;have H':=aj.mk H;clear H;have p8:0<=(a1:Int):=of_decide_eq_true (by first | (with_reducible assumption) | assumption);have q8:a1 < (a0.size:Int):=of_decide_eq_true (by first | (with_reducible assumption) | assumption);have hx8:=bY a0 a1;replace p8:=eq_true p8;replace q8:=eq_true q8;have p10:0<=(a1:Int):=of_decide_eq_true (by first | (with_reducible assumption) | assumption);have q10:a1 < (a0.size:Int):=of_decide_eq_true (by first | (with_reducible assumption) | assumption);have aiP:=bY a0 a1;replace p10:=eq_true p10;replace q10:=eq_true q10;go_wp2;go_meet
  case rel=>exact ⟨_,(((bt a0 a1)==34)),(by first | rfl | (simp;done) | (simp [*];done)),H',⟨by first | omega | exact Nat.le_refl _⟩,⟨by (with_reducible repeat (first | refine aH ?_ _ | refine aI ?_ | refine aG ?_ _));exact bQ.out⟩,⟨by repeat (first | (with_reducible first | exact HB.out | apply ay | apply ak | apply aD | refine aQ ?_ qU.out) | exact HB.out)⟩⟩
 case rest =>
  clear Ig;obtain ⟨kq,MK,rfl,HA,Jw,bQ,HB⟩:=hcut;cases kq with
  | zero=>exact absurd HA.out (by simp [aZ.j0])
  | succ yY =>
   have H:=HA.out;clear HA;simp only [aZ.j0] at H;by_cases c11:MK=true
   ·subst c11
    rw [if_pos rfl] at H;replace H:=Option.bind_eq_some_iff.mp H;obtain ⟨⟨KX,t193,t194,Vd,t196⟩,GN,H⟩:=H;replace H:(some (KX,t193,t194,Vd,t196))=some (r1,r2,r3,r4,r5):=H;have Yg:=aj.mk GN;clear GN;simp only [Option.some.injEq,Prod.mk.injEq] at H;obtain ⟨rfl,rfl,rfl,rfl,rfl⟩:=H;go_wp2_with (first | ((with_reducible refine bg (f:=71) rfl ?_);refine cO (some 23) rfl rfl Tryz.func71 (by kernel_rfl) rfl #[.string a0,.int .i64 a1,.int .i64 a2] rfl (by (try simp only [List.map_toArray,List.map_cons,List.map_nil]);first | done | rfl | (simp only [List.length_drop,List.length_take];rfl)) ?_;(with_reducible refine (aC.calls yY a0 a1 a2 KX t193 t194 Vd t196 _ Yg.out).mono ?_);rintro e WT ⟨rfl,hb⟩;refine ⟨_,rfl,?_⟩;have dW:=aj.mk (fU (g:=gq) (o:=.cells #[.int .i64 0,.string (⟨#[]⟩:ByteArray),.int .i64 0,.int .i64 0,.int .i64 0] 82 (0,0)) (by (with_reducible repeat (first | refine aH ?_ _ | refine aI ?_ | refine aG ?_ _));exact bQ.out) hb);have fF:=aj.mk (bH (by repeat (first | (with_reducible first | exact HB.out | apply ay | apply ak | apply aD | refine aQ ?_ qU.out) | exact HB.out)) hb);clear bQ;clear HB;have bQ:=dW;have HB:=fF;clear dW fF;(try clear hb);(try clear hb2);(try clear hk);(try clear hi);have ahh:WT.cell? ⟨gq,0,none⟩=some (.int .i64 0):=(au bQ.out 0).trans rfl;have ahi:WT.cell? ⟨gq,1,none⟩=some (.string (⟨#[]⟩:ByteArray)):=(au bQ.out 1).trans rfl;have ahj:WT.cell? ⟨gq,2,none⟩=some (.int .i64 0):=(au bQ.out 2).trans rfl;have ahk:WT.cell? ⟨gq,3,none⟩=some (.int .i64 0):=(au bQ.out 3).trans rfl;have ahl:WT.cell? ⟨gq,4,none⟩=some (.int .i64 0):=(au bQ.out 4).trans rfl;have ahm:=aA bQ.out 0;have ahn:=aA bQ.out 1;have aho:=aA bQ.out 2;have ahp:=aA bQ.out 3;have ahq:=aA bQ.out 4))
    refine bodyPost_ret (results_cell_row rfl _ _ gq 82 #[.int .i64 KX,.string t193,.int .i64 t194,.int .i64 Vd,.int .i64 t196] (0,0) _ rfl (by (with_reducible repeat (first | refine aH ?_ _ | refine aI ?_ | refine aG ?_ _));refine aR (cs:=#[.int .i64 KX,.string t193,.int .i64 t194,.int .i64 Vd,.int .i64 0]) ?_ 4 _ rfl;(with_reducible repeat (first | refine aH ?_ _ | refine aI ?_ | refine aG ?_ _));refine aR (cs:=#[.int .i64 KX,.string t193,.int .i64 t194,.int .i64 0,.int .i64 0]) ?_ 3 _ rfl;(with_reducible repeat (first | refine aH ?_ _ | refine aI ?_ | refine aG ?_ _));refine aR (cs:=#[.int .i64 KX,.string t193,.int .i64 0,.int .i64 0,.int .i64 0]) ?_ 2 _ rfl;(with_reducible repeat (first | refine aH ?_ _ | refine aI ?_ | refine aG ?_ _));refine aR (cs:=#[.int .i64 KX,.string (⟨#[]⟩:ByteArray),.int .i64 0,.int .i64 0,.int .i64 0]) ?_ 1 _ rfl;(with_reducible repeat (first | refine aH ?_ _ | refine aI ?_ | refine aG ?_ _));refine aR (cs:=#[.int .i64 0,.string (⟨#[]⟩:ByteArray),.int .i64 0,.int .i64 0,.int .i64 0]) ?_ 0 _ rfl;(with_reducible repeat (first | refine aH ?_ _ | refine aI ?_ | refine aG ?_ _));exact bQ.out) Tryz.underlying82 rfl (by kernel_rfl)) rfl ?_;exact ⟨by first | rfl | (simp [aV,aW]<;>rfl) | (simp [*,aV,aW]<;>rfl),by repeat (first | (with_reducible first | exact HB.out | apply ay | apply ak | apply aD | refine aQ ?_ qU.out) | exact HB.out)⟩
   replace c11:=Bool.eq_false_iff.mpr c11;subst c11;rw [if_neg (show ¬ (false=true) by decide)] at H;by_cases c15:0<=a1
   rotate_left
   ·rw [if_neg c15] at H
    exact absurd H (by simp)
   rw [if_pos c15] at H;have Dz:decide (0<=a1)=true:=decide_eq_true c15;clear c15;by_cases c16:a1 < (a0.size:Int)
   rotate_left
   ·rw [if_neg c16] at H
    exact absurd H (by simp)
   rw [if_pos c16] at H;have Br:decide (a1 < (a0.size:Int))=true:=decide_eq_true c16;clear c16;replace H:=Option.bind_eq_some_iff.mp H;obtain ⟨UZ,Qa,H⟩:=H;replace H:(if UZ=true then ((aK.f yY a0 a1 a2).bind fun uE=>(some (uE.1,uE.2.1,uE.2.2.1,uE.2.2.2.1,uE.2.2.2.2))) else ((ig.f).bind fun t203=>(aZ.l0 yY a0 a1 a2 t203 0)))=some (r1,r2,r3,r4,r5):=H;have A18:=aj.mk Qa;clear Qa;by_cases c19:UZ=true
   ·subst c19
    rw [if_pos rfl] at H;replace H:=Option.bind_eq_some_iff.mp H;obtain ⟨⟨t198,Ot,Rp,t201,Zz⟩,adu,H⟩:=H;replace H:(some (t198,Ot,Rp,t201,Zz))=some (r1,r2,r3,r4,r5):=H;have CX:=aj.mk adu;clear adu;simp only [Option.some.injEq,Prod.mk.injEq] at H;obtain ⟨rfl,rfl,rfl,rfl,rfl⟩:=H;have QX:0<=(a1:Int):=of_decide_eq_true (by first | (with_reducible assumption) | assumption);have QY:a1 < (a0.size:Int):=of_decide_eq_true (by first | (with_reducible assumption) | assumption);have Zk:=bY a0 a1;replace QX:=eq_true QX;replace QY:=eq_true QY;go_wp2_with (first | ((with_reducible refine bg (f:=58) rfl ?_);refine cO (some 27) rfl rfl Tryz.func58 (by kernel_rfl) rfl #[.int .u8 (bt a0 a1)] rfl (by (try simp only [List.map_toArray,List.map_cons,List.map_nil]);first | done | rfl | (simp only [List.length_drop,List.length_take];rfl)) ?_;(with_reducible refine (bF.calls (bt a0 a1) true _ A18.out).mono ?_);rintro e w' ⟨rfl,⟨nd,rfl⟩⟩;refine ⟨_,rfl,?_⟩;(try (rw [nH wc];generalize yI:World.drewN wc _=wc;have dW:aj (wc.heap[gq]?=some (.cells #[.int .i64 0,.string (⟨#[]⟩:ByteArray),.int .i64 0,.int .i64 0,.int .i64 0] 82 (0,0))):=⟨by rw [<- yI];exact (by (with_reducible repeat (first | refine aH ?_ _ | refine aI ?_ | refine aG ?_ _));exact bQ.out)⟩;have fF:aj (Below w.heap.size w wc):=⟨by rw [<- yI];exact (by repeat (first | (with_reducible first | exact HB.out | apply ay | apply ak | apply aD | refine aQ ?_ qU.out) | exact HB.out))⟩;clear bQ HB yI;have bQ:=dW;have HB:=fF;clear dW fF))) | ((with_reducible refine bg (f:=59) rfl ?_);refine cO (some 31) rfl rfl Tryz.func59 (by kernel_rfl) rfl #[.string a0,.int .i64 a1,.int .i64 a2] rfl (by (try simp only [List.map_toArray,List.map_cons,List.map_nil]);first | done | rfl | (simp only [List.length_drop,List.length_take];rfl)) ?_;(with_reducible refine (aK.calls yY a0 a1 a2 t198 Ot Rp t201 Zz _ CX.out).mono ?_);rintro e w21 ⟨rfl,hb⟩;refine ⟨_,rfl,?_⟩;have dW:=aj.mk (fU (g:=gq) (o:=.cells #[.int .i64 0,.string (⟨#[]⟩:ByteArray),.int .i64 0,.int .i64 0,.int .i64 0] 82 (0,0)) (by (with_reducible repeat (first | refine aH ?_ _ | refine aI ?_ | refine aG ?_ _));exact bQ.out) hb);have fF:=aj.mk (bH (by repeat (first | (with_reducible first | exact HB.out | apply ay | apply ak | apply aD | refine aQ ?_ qU.out) | exact HB.out)) hb);clear bQ;clear HB;have bQ:=dW;have HB:=fF;clear dW fF;(try clear hb);(try clear hb2);(try clear hk);(try clear hi);have Ve:w21.cell? ⟨gq,0,none⟩=some (.int .i64 0):=(au bQ.out 0).trans rfl;have Vf:w21.cell? ⟨gq,1,none⟩=some (.string (⟨#[]⟩:ByteArray)):=(au bQ.out 1).trans rfl;have Vg:w21.cell? ⟨gq,2,none⟩=some (.int .i64 0):=(au bQ.out 2).trans rfl;have Vh:w21.cell? ⟨gq,3,none⟩=some (.int .i64 0):=(au bQ.out 3).trans rfl;have Vi:w21.cell? ⟨gq,4,none⟩=some (.int .i64 0):=(au bQ.out 4).trans rfl;have Vj:=aA bQ.out 0;have Vk:=aA bQ.out 1;have Vl:=aA bQ.out 2;have Vm:=aA bQ.out 3;have Vn:=aA bQ.out 4))
    refine bodyPost_ret (results_cell_row rfl _ _ gq 82 #[.int .i64 t198,.string Ot,.int .i64 Rp,.int .i64 t201,.int .i64 Zz] (0,0) _ rfl (by (with_reducible repeat (first | refine aH ?_ _ | refine aI ?_ | refine aG ?_ _));refine aR (cs:=#[.int .i64 t198,.string Ot,.int .i64 Rp,.int .i64 t201,.int .i64 0]) ?_ 4 _ rfl;(with_reducible repeat (first | refine aH ?_ _ | refine aI ?_ | refine aG ?_ _));refine aR (cs:=#[.int .i64 t198,.string Ot,.int .i64 Rp,.int .i64 0,.int .i64 0]) ?_ 3 _ rfl;(with_reducible repeat (first | refine aH ?_ _ | refine aI ?_ | refine aG ?_ _));refine aR (cs:=#[.int .i64 t198,.string Ot,.int .i64 0,.int .i64 0,.int .i64 0]) ?_ 2 _ rfl;(with_reducible repeat (first | refine aH ?_ _ | refine aI ?_ | refine aG ?_ _));refine aR (cs:=#[.int .i64 t198,.string (⟨#[]⟩:ByteArray),.int .i64 0,.int .i64 0,.int .i64 0]) ?_ 1 _ rfl;(with_reducible repeat (first | refine aH ?_ _ | refine aI ?_ | refine aG ?_ _));refine aR (cs:=#[.int .i64 0,.string (⟨#[]⟩:ByteArray),.int .i64 0,.int .i64 0,.int .i64 0]) ?_ 0 _ rfl;(with_reducible repeat (first | refine aH ?_ _ | refine aI ?_ | refine aG ?_ _));exact bQ.out) Tryz.underlying82 rfl (by kernel_rfl)) rfl ?_;exact ⟨by first | rfl | (simp [aV,aW]<;>rfl) | (simp [*,aV,aW]<;>rfl),by repeat (first | (with_reducible first | exact HB.out | apply ay | apply ak | apply aD | refine aQ ?_ qU.out) | exact HB.out)⟩
   replace c19:=Bool.eq_false_iff.mpr c19;subst c19;rw [if_neg (show ¬ (false=true) by decide)] at H;replace H:=Option.bind_eq_some_iff.mp H;obtain ⟨t203,PZ,H⟩:=H;replace H:(aZ.l0 yY a0 a1 a2 t203 0)=some (r1,r2,r3,r4,r5):=H;have A23:=aj.mk PZ;clear PZ;have H':=aj.mk H;clear H;have QX:0<=(a1:Int):=of_decide_eq_true (by first | (with_reducible assumption) | assumption);have QY:a1 < (a0.size:Int):=of_decide_eq_true (by first | (with_reducible assumption) | assumption);have Zk:=bY a0 a1;replace QX:=eq_true QX;replace QY:=eq_true QY;go_wp2_with (first | ((with_reducible refine bg (f:=58) rfl ?_);refine cO (some 27) rfl rfl Tryz.func58 (by kernel_rfl) rfl #[.int .u8 (bt a0 a1)] rfl (by (try simp only [List.map_toArray,List.map_cons,List.map_nil]);first | done | rfl | (simp only [List.length_drop,List.length_take];rfl)) ?_;(with_reducible refine (bF.calls (bt a0 a1) false _ A18.out).mono ?_);rintro e w' ⟨rfl,⟨nd,rfl⟩⟩;refine ⟨_,rfl,?_⟩) | ((with_reducible refine bg (f:=121) rfl ?_);refine cO (some 32) rfl rfl Tryz.func121 (by kernel_rfl) rfl #[] rfl (by (try simp only [List.map_toArray,List.map_cons,List.map_nil]);first | done | rfl | (simp only [List.length_drop,List.length_take];rfl)) ?_;(with_reducible refine (ig.calls  t203 _ A23.out).mono ?_);rintro e w24 ⟨ajz,rfl,ho0,hb⟩;refine ⟨_,rfl,?_⟩;have dW:=aj.mk (Kd.nN ho0 (bR (by repeat (first | (with_reducible first | exact HB.out | apply ay | apply ak | apply aD | refine aQ ?_ qU.out) | exact HB.out))));have fF:=aj.mk (fU (g:=gq) (o:=.cells #[.int .i64 0,.string (⟨#[]⟩:ByteArray),.int .i64 0,.int .i64 0,.int .i64 0] 82 (0,0)) (by (with_reducible repeat (first | refine aH ?_ _ | refine aI ?_ | refine aG ?_ _));exact bQ.out) hb);have jJ:=aj.mk (bH (by repeat (first | (with_reducible first | exact HB.out | apply ay | apply ak | apply aD | refine aQ ?_ qU.out) | exact HB.out)) hb);clear bQ;clear HB;have adv:=dW;have bQ:=fF;have HB:=jJ;clear dW fF jJ;(try clear hb);(try clear hb2);(try clear hk);(try clear hi);(try clear ho0)))
   go_loopg [8] yY (fun kq v8 w'=>∃ (jV:Int) (mh:Int) (jZ:ByteArray) (jk:Int) (iM:Int) (gM:Int),v8=.int .i64 jV/\aj (aZ.l0 kq a0 a1 a2 t203 jV=some (r1,r2,r3,r4,r5))/\aj (kq<=yY)/\aj (Kd.R Kd.string 9 w' w.heap.size (fun _=>True) ajz t203)/\aj (w'.heap[gq]?=some (.cells #[.int .i64 mh,.string jZ,.int .i64 jk,.int .i64 iM,.int .i64 gM] 82 (0,0)))/\aj (Below w.heap.size w w'))
   case atStart=>exact ⟨(0),(0),((⟨#[]⟩:ByteArray)),(0),(0),(0),(by first | rfl | (simp;done) | (simp [*];done)),H',⟨Nat.le_refl _⟩,⟨by (with_reducible repeat (first | apply Kd.bW | apply Kd.bV | apply Kd.dw));exact adv.out⟩,⟨by (with_reducible repeat (first | refine aH ?_ _ | refine aI ?_ | refine aG ?_ _));exact bQ.out⟩,⟨by repeat (first | (with_reducible first | exact HB.out | apply ay | apply ak | apply aD | refine aQ ?_ qU.out) | exact HB.out)⟩⟩
   case round =>
    clear H';obtain ⟨jV,mh,jZ,jk,iM,gM,rfl,HA,CY,iq,bQ,HB⟩:=hrel;cases gk with
    | zero=>exact absurd HA.out (by simp [aZ.l0])
    | succ k2 =>
     have H:=HA.out;clear HA;simp only [aZ.l0] at H;by_cases FJ:jV < (t203.length:Int)
     rotate_left
     ·rw [if_neg FJ] at H
      have Rq:decide (jV < (t203.length:Int))=false:=decide_eq_false FJ;clear FJ;simp only [Option.some.injEq,Prod.mk.injEq] at H;obtain ⟨rfl,rfl,rfl,rfl,rfl⟩:=H;obtain ⟨ami,amj,ajA⟩:=Kd.nO iq.out;subst ajA;have ahr:wr.cell? ⟨gq,0,none⟩=some (.int .i64 mh):=(au bQ.out 0).trans rfl;have ahs:wr.cell? ⟨gq,1,none⟩=some (.string jZ):=(au bQ.out 1).trans rfl;have aht:wr.cell? ⟨gq,2,none⟩=some (.int .i64 jk):=(au bQ.out 2).trans rfl;have ahu:wr.cell? ⟨gq,3,none⟩=some (.int .i64 iM):=(au bQ.out 3).trans rfl;have ahv:wr.cell? ⟨gq,4,none⟩=some (.int .i64 gM):=(au bQ.out 4).trans rfl;have ahw:=aA bQ.out 0;have ahx:=aA bQ.out 1;have ahy:=aA bQ.out 2;have ahz:=aA bQ.out 3;have ahA:=aA bQ.out 4;go_wp2;refine bodyPost_ret (results_cell_row rfl _ _ gq 82 #[.int .i64 0,.string (⟨#[]⟩:ByteArray),.int .i64 0,.int .i64 13,.int .i64 a2] (0,0) _ rfl (by (with_reducible repeat (first | refine aH ?_ _ | refine aI ?_ | refine aG ?_ _));refine aR (cs:=#[.int .i64 0,.string (⟨#[]⟩:ByteArray),.int .i64 0,.int .i64 13,.int .i64 gM]) ?_ 4 _ rfl;(with_reducible repeat (first | refine aH ?_ _ | refine aI ?_ | refine aG ?_ _));refine aR (cs:=#[.int .i64 0,.string (⟨#[]⟩:ByteArray),.int .i64 0,.int .i64 iM,.int .i64 gM]) ?_ 3 _ rfl;(with_reducible repeat (first | refine aH ?_ _ | refine aI ?_ | refine aG ?_ _));refine aR (cs:=#[.int .i64 0,.string (⟨#[]⟩:ByteArray),.int .i64 jk,.int .i64 iM,.int .i64 gM]) ?_ 2 _ rfl;(with_reducible repeat (first | refine aH ?_ _ | refine aI ?_ | refine aG ?_ _));refine aR (cs:=#[.int .i64 0,.string jZ,.int .i64 jk,.int .i64 iM,.int .i64 gM]) ?_ 1 _ rfl;(with_reducible repeat (first | refine aH ?_ _ | refine aI ?_ | refine aG ?_ _));refine aR (cs:=#[.int .i64 mh,.string jZ,.int .i64 jk,.int .i64 iM,.int .i64 gM]) ?_ 0 _ rfl;(with_reducible repeat (first | refine aH ?_ _ | refine aI ?_ | refine aG ?_ _));exact bQ.out) Tryz.underlying82 rfl (by kernel_rfl)) rfl ?_;exact ⟨by first | rfl | (simp [aV,aW]<;>rfl) | (simp [*,aV,aW]<;>rfl),by repeat (first | (with_reducible first | exact HB.out | apply ay | apply ak | apply aD | refine aQ ?_ qU.out) | exact HB.out)⟩
     rw [if_pos FJ] at H;have Rq:decide (jV < (t203.length:Int))=true:=decide_eq_true FJ;clear FJ;by_cases UR:0<=jV
     rotate_left
     ·rw [if_neg UR] at H
      exact absurd H (by simp)
     rw [if_pos UR] at H;have alq:decide (0<=jV)=true:=decide_eq_true UR;clear UR;replace H:=Option.bind_eq_some_iff.mp H;obtain ⟨Va,adw,H⟩:=H;replace H:(if Va=true then (some (3,pW ByteArray.empty t203 jV,wrap64 (a1+((pW ByteArray.empty t203 jV).size:Int)),0,0)) else (aZ.l0 k2 a0 a1 a2 t203 (wrap64 (jV+1))))=some (r1,r2,r3,r4,r5):=H;have A27:=aj.mk adw;clear adw;by_cases c28:Va=true
     rotate_left
     ·replace c28:=Bool.eq_false_iff.mpr c28
      subst c28;rw [if_neg (show ¬ (false=true) by decide)] at H;have H':=aj.mk H;clear H;obtain ⟨amk,aml,ajB⟩:=Kd.nO iq.out;subst ajB;have KY:0<=(jV:Int):=of_decide_eq_true (by first | (with_reducible assumption) | assumption);have KZ:jV < (t203.length:Int):=of_decide_eq_true (by first | (with_reducible assumption) | assumption);obtain ⟨DY,e206,Vo⟩:=Kd.oV (Kd.iy iq.out).2.2 jV KY KZ;cases e206
      replace KY:=eq_true KY;replace KZ:=eq_true KZ;go_wp2_with (first | ((with_reducible refine bg (f:=80) rfl ?_);refine cO (some 45) rfl rfl Tryz.func80 (by kernel_rfl) rfl #[.string a0,.int .i64 a1,.string (pW ByteArray.empty t203 jV)] rfl (by (try simp only [List.map_toArray,List.map_cons,List.map_nil]);first | done | rfl | (simp only [List.length_drop,List.length_take];rfl)) ?_;(with_reducible refine (bI.calls a0 a1 (pW ByteArray.empty t203 jV) false _ A27.out).mono ?_);rintro e w' ⟨rfl,⟨nd,rfl⟩⟩;refine ⟨_,rfl,?_⟩))
      go_roundg k2
      case measure=>have:=Jw.out;have:=CY.out;omega
      case rel=>exact ⟨(wrap64 (jV+1)),(mh),(jZ),(jk),(iM),(gM),(by first | rfl | (simp;done) | (simp [*];done)),H',⟨by have:=Jw.out;have:=CY.out;omega⟩,⟨by (with_reducible repeat (first | apply Kd.bW | apply Kd.bV | apply Kd.dw));exact iq.out⟩,⟨by (with_reducible repeat (first | refine aH ?_ _ | refine aI ?_ | refine aG ?_ _));exact bQ.out⟩,⟨by repeat (first | (with_reducible first | exact HB.out | apply ay | apply ak | apply aD | refine aQ ?_ qU.out) | exact HB.out)⟩⟩
     subst c28;rw [if_pos rfl] at H;simp only [Option.some.injEq,Prod.mk.injEq] at H;obtain ⟨rfl,rfl,rfl,rfl,rfl⟩:=H;obtain ⟨amm,ajC,ajD⟩:=Kd.nO iq.out;subst ajD;have KY:0<=(jV:Int):=of_decide_eq_true (by first | (with_reducible assumption) | assumption);have KZ:jV < (t203.length:Int):=of_decide_eq_true (by first | (with_reducible assumption) | assumption);obtain ⟨DY,e206,Vo⟩:=Kd.oV (Kd.iy iq.out).2.2 jV KY KZ;cases e206
     replace KY:=eq_true KY;replace KZ:=eq_true KZ;try go_wp2_with (first | ((with_reducible refine bg (f:=80) rfl ?_);refine cO (some 45) rfl rfl Tryz.func80 (by kernel_rfl) rfl #[.string a0,.int .i64 a1,.string (pW ByteArray.empty t203 jV)] rfl (by (try simp only [List.map_toArray,List.map_cons,List.map_nil]);first | done | rfl | (simp only [List.length_drop,List.length_take];rfl)) ?_;(with_reducible refine (bI.calls a0 a1 (pW ByteArray.empty t203 jV) true _ A27.out).mono ?_);rintro e w' ⟨rfl,⟨nd,rfl⟩⟩;refine ⟨_,rfl,?_⟩;(try (rw [nH wr];generalize yI:World.drewN wr _=wr;have dW:aj (Kd.R Kd.string 9 wr w.heap.size (fun _=>True) (.slice (some DY) t203.length ajC) t203):=⟨by rw [<- yI];exact (by (with_reducible repeat (first | apply Kd.bW | apply Kd.bV | apply Kd.dw));exact iq.out)⟩;have fF:aj (wr.heap[gq]?=some (.cells #[.int .i64 mh,.string jZ,.int .i64 jk,.int .i64 iM,.int .i64 gM] 82 (0,0))):=⟨by rw [<- yI];exact (by (with_reducible repeat (first | refine aH ?_ _ | refine aI ?_ | refine aG ?_ _));exact bQ.out)⟩;have jJ:aj (Below w.heap.size w wr):=⟨by rw [<- yI];exact (by repeat (first | (with_reducible first | exact HB.out | apply ay | apply ak | apply aD | refine aQ ?_ qU.out) | exact HB.out))⟩;clear iq bQ HB yI;have iq:=dW;have bQ:=fF;have HB:=jJ;clear dW fF jJ))))
     have dW:=aj.mk (Kd.dw iq.out);have fF:=aj.mk (aI bQ.out);have jJ:=aj.mk (aD HB.out);clear iq;clear bQ;clear HB;have iq:=dW;have bQ:=fF;have HB:=jJ;clear dW fF jJ;have ZA:0<=(jV:Int):=of_decide_eq_true (by first | (with_reducible assumption) | assumption);have ZB:jV < (t203.length:Int):=of_decide_eq_true (by first | (with_reducible assumption) | assumption);obtain ⟨adx,e208,ML⟩:=Kd.oV (Kd.iy iq.out).2.2 jV ZA ZB;obtain rfl:DY=adx:=(by injection e208);replace ZA:=eq_true ZA;replace ZB:=eq_true ZB;have ZC:0<=(jV:Int):=of_decide_eq_true (by first | (with_reducible assumption) | assumption);have ZE:jV < (t203.length:Int):=of_decide_eq_true (by first | (with_reducible assumption) | assumption);obtain ⟨ady,e209,MN⟩:=Kd.oV (Kd.iy iq.out).2.2 jV ZC ZE;obtain rfl:DY=ady:=(by injection e209);replace ZC:=eq_true ZC;replace ZE:=eq_true ZE;refine JF (n:=13) (S:=fun w'=>w'.cell? (DY.add (jV).toNat)=some (.string (pW ByteArray.empty t203 jV))/\w'.cell? (DY.add (jV).toNat)=some (.string (pW ByteArray.empty t203 jV))) (ds:=[]) #[false,false,false,false,false,false,false,false,false,false,false,false,false] (by kernel_rfl) rfl rfl ⟨ML,MN⟩ (fun hHeld=>?_);refine yN aZ.adt aZ.Zy (fun oK Sz=>?_);generalize wr.drew=w30 at iq bQ HB ML MN hHeld |-
     refine je (i:=0) (N:=some 47) (v:=?_) (a':=?_) #[true,false,false,false,false,false,false,false,false,false,false,false,false] rfl rfl (fV oK.out (by kernel_rfl)) (fun _ _ _ h=>h) (Or.inl ⟨by rfl,?_⟩) ?_ ?_;rotate_left
     ·intro w'
      go_simp;with_reducible rfl
     rotate_left
     ·simp only [Act.put,List.setIfInBounds_toArray,List.set_cons_zero,List.set_cons_succ,dx,dK]
      rfl
     refine je (i:=1) (N:=some 48) (v:=?_) (a':=?_) #[true,true,false,false,false,false,false,false,false,false,false,false,false] rfl rfl (fV oK.out (by kernel_rfl)) (fun _ _ _ h=>h) (Or.inl ⟨by rfl,?_⟩) ?_ ?_;rotate_left
     ·intro w'
      go_simp;with_reducible rfl
     rotate_left
     ·simp only [Act.put,List.setIfInBounds_toArray,List.set_cons_zero,List.set_cons_succ,dx,dK]
      rfl
     refine je (i:=2) (N:=some 49) (v:=?_) (a':=?_) #[true,true,true,false,false,false,false,false,false,false,false,false,false] rfl rfl (fV oK.out (by kernel_rfl)) (fun _ _ _ h=>h) (Or.inl ⟨by rfl,?_⟩) ?_ ?_;rotate_left
     ·intro w'
      go_simp;with_reducible rfl
     rotate_left
     ·simp only [Act.put,List.setIfInBounds_toArray,List.set_cons_zero,List.set_cons_succ,dx,dK]
      rfl
     refine je (i:=4) (N:=some 51) (v:=?_) (a':=?_) #[true,true,true,false,true,false,false,false,false,false,false,false,false] rfl rfl (fV oK.out (by kernel_rfl)) (fun _ _ _ h=>h) (Or.inl ⟨by rfl,?_⟩) ?_ ?_;rotate_left
     ·intro w'
      go_simp;with_reducible rfl
     rotate_left
     ·simp only [Act.put,List.setIfInBounds_toArray,List.set_cons_zero,List.set_cons_succ,dx,dK]
      rfl
     refine je (i:=5) (N:=some 52) (v:=?_) (a':=?_) #[true,true,true,false,true,true,false,false,false,false,false,false,false] rfl rfl (fV oK.out (by kernel_rfl)) (fun _ _ _ h=>h) (Or.inl ⟨by rfl,?_⟩) ?_ ?_;rotate_left
     ·intro w'
      go_simp;with_reducible rfl
     rotate_left
     ·simp only [Act.put,List.setIfInBounds_toArray,List.set_cons_zero,List.set_cons_succ,dx,dK]
      rfl
     refine je (i:=6) (N:=some 53) (v:=?_) (a':=?_) #[true,true,true,false,true,true,true,false,false,false,false,false,false] rfl rfl (fV oK.out (by kernel_rfl)) (fun _ _ _ h=>h) (Or.inl ⟨by rfl,?_⟩) ?_ ?_;rotate_left
     ·intro w'
      go_simp;with_reducible rfl
     rotate_left
     ·simp only [Act.put,List.setIfInBounds_toArray,List.set_cons_zero,List.set_cons_succ,dx,dK]
      rfl
     refine je (i:=7) (N:=some 54) (v:=?_) (a':=?_) #[true,true,true,false,true,true,true,true,false,false,false,false,false] rfl rfl (fV oK.out (by kernel_rfl)) (fun _ _ _ h=>h) (Or.inl ⟨by rfl,?_⟩) ?_ ?_;rotate_left
     ·intro w'
      go_simp;with_reducible rfl
     rotate_left
     ·simp only [Act.put,List.setIfInBounds_toArray,List.set_cons_zero,List.set_cons_succ,dx,dK]
      rfl
     refine vK (i:=3) (N:=some 50) (v:=?_) (a':=?_) #[true,true,true,true,true,true,true,true,false,false,false,false,false] rfl rfl (nT oK.out Sz.out (by kernel_rfl)) (fun _ _ _ h=>h) (Or.inl ⟨by rfl,?_⟩) hHeld ?_ ?_;rotate_left
     ·rintro w' ⟨s0,s1⟩
      go_simp;with_reducible rfl
     rotate_left
     ·simp only [Act.put,List.setIfInBounds_toArray,List.set_cons_zero,List.set_cons_succ,dx,dK]
      rfl
     refine vK (i:=8) (N:=some 55) (v:=?_) (a':=?_) #[true,true,true,true,true,true,true,true,true,false,false,false,false] rfl rfl (nT oK.out Sz.out (by kernel_rfl)) (fun _ _ _ h=>h) (Or.inl ⟨by rfl,?_⟩) hHeld ?_ ?_;rotate_left
     ·rintro w' ⟨s0,s1⟩
      go_simp;with_reducible rfl
     rotate_left
     ·simp only [Act.put,List.setIfInBounds_toArray,List.set_cons_zero,List.set_cons_succ,dx,dK]
      rfl
     refine je (i:=9) (N:=some 56) (v:=?_) (a':=?_) #[true,true,true,true,true,true,true,true,true,true,false,false,false] rfl rfl (fV oK.out (by kernel_rfl)) (fun _ _ _ h=>h) (Or.inl ⟨by rfl,?_⟩) ?_ ?_;rotate_left
     ·intro w'
      go_simp;with_reducible rfl
     rotate_left
     ·simp only [Act.put,List.setIfInBounds_toArray,List.set_cons_zero,List.set_cons_succ,dx,dK]
      rfl
     refine je (i:=10) (N:=some 57) (v:=?_) (a':=?_) #[true,true,true,true,true,true,true,true,true,true,true,false,false] rfl rfl (fV oK.out (by kernel_rfl)) (fun _ _ _ h=>h) (Or.inl ⟨by rfl,?_⟩) ?_ ?_;rotate_left
     ·intro w'
      go_simp;with_reducible rfl
     rotate_left
     ·simp only [Act.put,List.setIfInBounds_toArray,List.set_cons_zero,List.set_cons_succ,dx,dK]
      rfl
     refine je (i:=11) (N:=some 58) (v:=?_) (a':=?_) #[true,true,true,true,true,true,true,true,true,true,true,true,false] rfl rfl (fV oK.out (by kernel_rfl)) (fun _ _ _ h=>h) (Or.inl ⟨by rfl,?_⟩) ?_ ?_;rotate_left
     ·intro w'
      go_simp;with_reducible rfl
     rotate_left
     ·simp only [Act.put,List.setIfInBounds_toArray,List.set_cons_zero,List.set_cons_succ,dx,dK]
      rfl
     refine XQ (i:=12) (N:=none) #[true,true,true,true,true,true,true,true,true,true,true,true,true] rfl rfl (Ba oK.out (by kernel_rfl)) (by decide) (fun K hK=>?_);have amn:w30.cell? ⟨gq,0,none⟩=some (.int .i64 mh):=(au bQ.out 0).trans rfl;have alr:=aA bQ.out 0;have amo:w30.cell? ⟨gq,1,none⟩=some (.string jZ):=(au bQ.out 1).trans rfl;have als:=aA bQ.out 1;have amq:w30.cell? ⟨gq,2,none⟩=some (.int .i64 jk):=(au bQ.out 2).trans rfl;have alu:=aA bQ.out 2;have amr:w30.cell? ⟨gq,3,none⟩=some (.int .i64 iM):=(au bQ.out 3).trans rfl;have alv:=aA bQ.out 3;have ams:w30.cell? ⟨gq,4,none⟩=some (.int .i64 gM):=(au bQ.out 4).trans rfl;have alx:=aA bQ.out 4;refine aaI (w1:=?_) (by rfl) rfl ?_ ?_;rotate_left
     ·go_simp
      rfl
     refine hK.out _ _ ⟨((cell_far (p:=⟨gq,_,none⟩) (by first | exact Kd.dG (Kd.jB iq.out bQ.out (by decide)) | (rw [add_block];exact Kd.dG (Kd.jB iq.out bQ.out (by decide))) | (show (Addr.add _ _).block≠_;rw [add_block];exact Kd.dG (Kd.jB iq.out bQ.out (by decide))) | (dsimp only;exact Kd.dG (Kd.jB iq.out bQ.out (by decide)))) _).trans (((cell_far (p:=⟨gq,_,none⟩) (by first | exact Kd.dG (Kd.jB iq.out bQ.out (by decide)) | (rw [add_block];exact Kd.dG (Kd.jB iq.out bQ.out (by decide))) | (show (Addr.add _ _).block≠_;rw [add_block];exact Kd.dG (Kd.jB iq.out bQ.out (by decide))) | (dsimp only;exact Kd.dG (Kd.jB iq.out bQ.out (by decide)))) _).trans (((cell_far (p:=⟨gq,_,none⟩) (by first | exact Kd.dG (Kd.jB iq.out bQ.out (by decide)) | (rw [add_block];exact Kd.dG (Kd.jB iq.out bQ.out (by decide))) | (show (Addr.add _ _).block≠_;rw [add_block];exact Kd.dG (Kd.jB iq.out bQ.out (by decide))) | (dsimp only;exact Kd.dG (Kd.jB iq.out bQ.out (by decide)))) _).trans (((cell_far (p:=⟨gq,_,none⟩) (by first | exact Kd.dG (Kd.jB iq.out bQ.out (by decide)) | (rw [add_block];exact Kd.dG (Kd.jB iq.out bQ.out (by decide))) | (show (Addr.add _ _).block≠_;rw [add_block];exact Kd.dG (Kd.jB iq.out bQ.out (by decide))) | (dsimp only;exact Kd.dG (Kd.jB iq.out bQ.out (by decide)))) _).trans (((cell_far (p:=⟨gq,_,none⟩) (by first | exact Kd.dG (Kd.jB iq.out bQ.out (by decide)) | (rw [add_block];exact Kd.dG (Kd.jB iq.out bQ.out (by decide))) | (show (Addr.add _ _).block≠_;rw [add_block];exact Kd.dG (Kd.jB iq.out bQ.out (by decide))) | (dsimp only;exact Kd.dG (Kd.jB iq.out bQ.out (by decide)))) _).trans (hHeld.1)))))))))),((cell_far (p:=⟨gq,_,none⟩) (by first | exact Kd.dG (Kd.jB iq.out bQ.out (by decide)) | (rw [add_block];exact Kd.dG (Kd.jB iq.out bQ.out (by decide))) | (show (Addr.add _ _).block≠_;rw [add_block];exact Kd.dG (Kd.jB iq.out bQ.out (by decide))) | (dsimp only;exact Kd.dG (Kd.jB iq.out bQ.out (by decide)))) _).trans (((cell_far (p:=⟨gq,_,none⟩) (by first | exact Kd.dG (Kd.jB iq.out bQ.out (by decide)) | (rw [add_block];exact Kd.dG (Kd.jB iq.out bQ.out (by decide))) | (show (Addr.add _ _).block≠_;rw [add_block];exact Kd.dG (Kd.jB iq.out bQ.out (by decide))) | (dsimp only;exact Kd.dG (Kd.jB iq.out bQ.out (by decide)))) _).trans (((cell_far (p:=⟨gq,_,none⟩) (by first | exact Kd.dG (Kd.jB iq.out bQ.out (by decide)) | (rw [add_block];exact Kd.dG (Kd.jB iq.out bQ.out (by decide))) | (show (Addr.add _ _).block≠_;rw [add_block];exact Kd.dG (Kd.jB iq.out bQ.out (by decide))) | (dsimp only;exact Kd.dG (Kd.jB iq.out bQ.out (by decide)))) _).trans (((cell_far (p:=⟨gq,_,none⟩) (by first | exact Kd.dG (Kd.jB iq.out bQ.out (by decide)) | (rw [add_block];exact Kd.dG (Kd.jB iq.out bQ.out (by decide))) | (show (Addr.add _ _).block≠_;rw [add_block];exact Kd.dG (Kd.jB iq.out bQ.out (by decide))) | (dsimp only;exact Kd.dG (Kd.jB iq.out bQ.out (by decide)))) _).trans (((cell_far (p:=⟨gq,_,none⟩) (by first | exact Kd.dG (Kd.jB iq.out bQ.out (by decide)) | (rw [add_block];exact Kd.dG (Kd.jB iq.out bQ.out (by decide))) | (show (Addr.add _ _).block≠_;rw [add_block];exact Kd.dG (Kd.jB iq.out bQ.out (by decide))) | (dsimp only;exact Kd.dG (Kd.jB iq.out bQ.out (by decide)))) _).trans (hHeld.2))))))))))⟩ (fun hHeld=>?_);clear hK K;refine Pp (Ep oK.out (by kernel_rfl)) ?_;try go_wp2
     refine bodyPost_ret (results_cell_row rfl _ _ gq 82 #[.int .i64 3,.string (pW ByteArray.empty t203 jV),.int .i64 (wrap64 (a1+((pW ByteArray.empty t203 jV).size:Int))),.int .i64 0,.int .i64 0] (0,0) _ rfl (by (with_reducible repeat (first | refine aH ?_ _ | refine aI ?_ | refine aG ?_ _));refine aR (cs:=#[.int .i64 3,.string (pW ByteArray.empty t203 jV),.int .i64 (wrap64 (a1+((pW ByteArray.empty t203 jV).size:Int))),.int .i64 0,.int .i64 gM]) ?_ 4 _ rfl;(with_reducible repeat (first | refine aH ?_ _ | refine aI ?_ | refine aG ?_ _));refine aR (cs:=#[.int .i64 3,.string (pW ByteArray.empty t203 jV),.int .i64 (wrap64 (a1+((pW ByteArray.empty t203 jV).size:Int))),.int .i64 iM,.int .i64 gM]) ?_ 3 _ rfl;(with_reducible repeat (first | refine aH ?_ _ | refine aI ?_ | refine aG ?_ _));refine aR (cs:=#[.int .i64 3,.string (pW ByteArray.empty t203 jV),.int .i64 jk,.int .i64 iM,.int .i64 gM]) ?_ 2 _ rfl;(with_reducible repeat (first | refine aH ?_ _ | refine aI ?_ | refine aG ?_ _));refine aR (cs:=#[.int .i64 3,.string jZ,.int .i64 jk,.int .i64 iM,.int .i64 gM]) ?_ 1 _ rfl;(with_reducible repeat (first | refine aH ?_ _ | refine aI ?_ | refine aG ?_ _));refine aR (cs:=#[.int .i64 mh,.string jZ,.int .i64 jk,.int .i64 iM,.int .i64 gM]) ?_ 0 _ rfl;(with_reducible repeat (first | refine aH ?_ _ | refine aI ?_ | refine aG ?_ _));exact bQ.out) Tryz.underlying82 rfl (by kernel_rfl)) rfl ?_;exact ⟨by first | rfl | (simp [aV,aW]<;>rfl) | (simp [*,aV,aW]<;>rfl),by repeat (first | (with_reducible first | exact HB.out | apply ay | apply ak | apply aD | refine aQ ?_ qU.out) | exact HB.out)⟩
end Go.Proofs.YtkkpjonfaflkmaaGreatDoor.T
namespace Go.Proofs.YtkkpjonfaflkmaaGreatDoor.T
open Go.RowKit Go.Proofs.ah.aT Go.Proofs.ah.bn Go.Proofs.ah.bA
set_option linter.unusedSimpArgs false
set_option linter.unusedVariables false
def La (a0:ByteArray) (p ln n:Nat):Int × ByteArray × Int × Int × Int:=if 40 < n - p then (0,⟨#[]⟩,0,30,(ln:Int)) else (1,Yh (a0.extract p n),(n:Int),0,0)
theorem Cu (a0:ByteArray) (hs:a0.size<=100000) (p ln n:Nat) (hp:p<=n) (hn:n<=a0.size) :
  (if (wrap64 ((n:Int) - (p:Int))) > 40 then (some ((0:Int),(⟨#[]⟩:ByteArray),(0:Int),(30:Int),(ln:Int))) else (if 0<=(p:Int) then (if (p:Int)<=(n:Int) then (if (n:Int)<=(a0.size:Int) then ((dU.f (a0.extract ((p:Int)).toNat ((n:Int)).toNat)).bind fun t168=>(some ((1:Int),t168,(n:Int),(0:Int),(0:Int)))) else (none)) else (none)) else (none)))=some (La a0 p ln n):=by
 have hw:wrap64 ((n:Int) - (p:Int))=((n - p:Nat):Int):=by unfold wrap64;omega
 rw [hw];unfold La;by_cases h:((n - p:Nat):Int) > 40
 ·rw [if_pos h,if_pos (by omega)]
 rw [if_neg h,if_neg (show ¬ 40 < n - p by omega),if_pos (show (0:Int)<=p by omega),if_pos (show (p:Int)<=n by omega),if_pos (show (n:Int)<=(a0.size:Int) by omega)];unfold dU.f;rw [if_pos (by rw [ByteArray.size_extract];omega),Option.bind_some];rfl
theorem MO (a0:ByteArray) (hs:a0.size<=100000) (p ln:Nat):∀ (m k i:Nat),p<=i->i+m=a0.size->m < k ->
  aK.l1 k a0 (p:Int) (ln:Int) (i:Int)=some (La a0 p ln (i+S.run S.lU ((bytesOf a0).drop i)))
 | 0,k,i,hp,h,hk=>by
  obtain ⟨k,rfl⟩:∃ k',k=k'+1:=⟨k - 1,by omega⟩;have hl:(bytesOf a0).drop i=[]:=List.drop_of_length_le (by rw [bytesOf_length];omega);rw [aK.l1,if_neg (by omega),hl,S.run];exact Cu a0 hs p ln i hp (by omega)
 | m+1,k,i,hp,h,hk=>by
  obtain ⟨k,rfl⟩:∃ k',k=k'+1:=⟨k - 1,by omega⟩;rw [aK.l1,if_pos (by omega),if_pos (by omega),Ci,Option.bind_some,iL a0 (by omega),S.run];by_cases hd:S.lU (bt a0 (i:Int))=true
  ·rw [if_pos hd,if_pos hd,oq (by omega),MO a0 hs p ln m k (i+1) (by omega) (by omega) (by omega)]
   congr 2
   omega
  rw [if_neg hd,if_neg hd];exact Cu a0 hs p ln i hp (by omega)
theorem MP (a0:ByteArray) (hs:a0.size<=100000) (p ln:Nat):∀ (m k i:Nat),i+m=a0.size->m < k ->
  ∃ k',k<=k'+m+1/\aK.l0 k a0 (p:Int) (ln:Int) (i:Int)=aK.j1 k' a0 (p:Int) (ln:Int) ((i+S.run S.sym ((bytesOf a0).drop i):Nat):Int)
 | 0,k,i,h,hk=>by
  obtain ⟨k,rfl⟩:∃ k',k=k'+1:=⟨k - 1,by omega⟩;have hl:(bytesOf a0).drop i=[]:=List.drop_of_length_le (by rw [bytesOf_length];omega);rw [aK.l0,if_neg (by omega),hl,S.run];exact ⟨k,by omega,rfl⟩
 | m+1,k,i,h,hk=>by
  obtain ⟨k,rfl⟩:∃ k',k=k'+1:=⟨k - 1,by omega⟩;rw [aK.l0,if_pos (by omega),if_pos (by omega),Rj,Option.bind_some,iL a0 (by omega),S.run];by_cases hd:S.sym (bt a0 (i:Int))=true
  ·rw [if_pos hd,if_pos hd,oq (by omega)]
   obtain ⟨k',hk',e⟩:=MP a0 hs p ln m k (i+1) (by omega) (by omega);refine ⟨k',by omega,?_⟩;rw [e];congr 2
   omega
  rw [if_neg hd,if_neg hd];exact ⟨k,by omega,rfl⟩
theorem Cv (a0:ByteArray) (hs:a0.size<=100000) (p ln k n:Nat) (hp:p<=n) (hn:n<=a0.size):aK.j2 (k+1) a0 (p:Int) (ln:Int) (n:Int) false=some (La a0 p ln n):=by
 rw [aK.j2,if_neg Bool.false_ne_true];exact Cu a0 hs p ln n hp hn
theorem Vp (a0:ByteArray) (hs:a0.size<=100000) (p ln:Nat) (hp:p<=a0.size) (k:Nat) (hk:3*a0.size+10 < k):aK.f k a0 (p:Int) (ln:Int)=some (La a0 p ln (p+S.gB ((bytesOf a0).drop p))):=by
 unfold aK.f;obtain ⟨k',hk',e⟩:=MP a0 hs p ln (a0.size - p) k p (by omega) (by omega);rw [e];have hr:=Im S.sym ((bytesOf a0).drop p);rw [List.length_drop,bytesOf_length] at hr;unfold S.gB;generalize S.run S.sym ((bytesOf a0).drop p)=r at hr |-
 obtain ⟨k,rfl⟩:∃ k'',k'=k''+2:=⟨k' - 2,by omega⟩;have hm:=acA (a0.extract p (p+r)) (by rw [ByteArray.size_extract];omega) (k+1) (by rw [ByteArray.size_extract];omega);rw [iT,Nat.add_sub_cancel_left] at hm;rw [aK.j1,if_pos (by omega),if_pos (by omega),if_pos (by omega)];rw [show ((p:Int)).toNat=p from rfl,show (((p+r:Nat):Int)).toNat=p+r from rfl,hm,Option.bind_some];have hdd:∀ j,((bytesOf a0).drop p).drop j=(bytesOf a0).drop (p+j):=fun j=>by rw [List.drop_drop]
 by_cases hM:S.sG (((bytesOf a0).drop p).take r)=true
 rotate_left
 ·rw [if_neg hM,if_neg (fun h=>hM h.1)]
  exact Cv a0 hs p ln k (p+r) (by omega) (by omega)
 rw [if_pos hM];by_cases h1:p+r+1 < a0.size
 rotate_left
 ·rw [oq (by omega),if_neg (by omega)]
  have hx:S.rF (((bytesOf a0).drop p).drop r)=false:=by
   have hl:(((bytesOf a0).drop p).drop r).length<=1:=by rw [List.length_drop,List.length_drop,bytesOf_length];omega
   match ((bytesOf a0).drop p).drop r,hl with
   | [],_=>rfl
   | [c],_=>rfl
  rw [if_neg (by rw [hx];exact fun h=>Bool.false_ne_true h.2)];exact Cv a0 hs p ln k (p+r) (by omega) (by omega)
 have hd1:=iL a0 (i:=p+r) (by omega);have hd2:=iL a0 (i:=p+r+1) (by omega);rw [oq (by omega),if_pos (by omega),if_pos (by omega),if_pos (by omega)];have hx:S.rF (((bytesOf a0).drop p).drop r)=((decide (bt a0 ((p+r:Nat):Int)=43)||decide (bt a0 ((p+r:Nat):Int)=45))&&S.lU (bt a0 ((p+r+1:Nat):Int))):=by rw [hdd,hd1,hd2,S.rF]
 have hj:∀ b:Bool,S.rF (((bytesOf a0).drop p).drop r)=b->aK.j2 (k+1) a0 (p:Int) (ln:Int) ((p+r:Nat):Int) b=some (La a0 p ln (p+(if S.sG (((bytesOf a0).drop p).take r)=true/\S.rF (((bytesOf a0).drop p).drop r)=true then r+1+S.run S.lU (((bytesOf a0).drop p).drop (r+1)) else r))):=fun b hb=>by
  cases b with
  | false=>rw [if_neg (by rw [hb];exact fun h=>Bool.false_ne_true h.2)];exact Cv a0 hs p ln k (p+r) (by omega) (by omega)
  | true =>
   rw [if_pos ⟨hM,hb⟩,aK.j2,if_pos rfl,oq (by omega),hdd];have:=MO a0 hs p ln (a0.size - (p+r+1)) k (p+r+1) (by omega) (by omega) (by omega);rw [this,show p+(r+1)=p+r+1 by omega];congr 2
   omega
 rw [Ci];simp only [Option.bind_some];rw [if_pos (by omega:(0:Int)<=((p+r+1:Nat):Int))];by_cases h43:bt a0 ((p+r:Nat):Int)=43
 ·rw [if_pos h43]
  exact hj _ (by rw [hx,decide_eq_true h43];simp)
 rw [if_neg h43];by_cases h45:bt a0 ((p+r:Nat):Int)=45
 ·rw [if_pos h45]
  exact hj _ (by rw [hx,decide_eq_true h45];simp)
 rw [if_neg h45];exact hj _ (by rw [hx,decide_eq_false h43,decide_eq_false h45];rfl)
def Ou (kd p ln:Nat):S.TR->Int × ByteArray × Int × Int × Int
 | .err c=>(0,⟨#[]⟩,0,(c:Int),(ln:Int))
 | .ok t n=>((kd:Nat),strOfNums t,((p+n:Nat):Int),0,0)
theorem Rs (a0:ByteArray) (hs:a0.size<=100000) (p ln:Nat) (hp:p<=a0.size) (k:Nat) (hk:3*a0.size+10 < k):aK.f k a0 (p:Int) (ln:Int)=some (Ou 1 p ln (S.jw ((bytesOf a0).drop p))):=by
 rw [Vp a0 hs p ln hp k hk];congr 1
 unfold La S.jw;rw [Nat.add_sub_cancel_left];by_cases h:40 < S.gB ((bytesOf a0).drop p)
 ·rw [if_pos h,if_pos h];rfl
 rw [if_neg h,if_neg h];unfold Yh;rw [iT,Nat.add_sub_cancel_left];rfl
theorem yt (a0 x:ByteArray) (i:Nat) (hi:i<=a0.size) (h1:a0.size<=100000) (h2:x.size<=1000):bI.f a0 (i:Int) x=some ((bytesOf x).isPrefixOf ((bytesOf a0).drop i)):=by
 have hw:wrap64 ((i:Int)+(x.size:Int))=((i+x.size:Nat):Int):=by unfold wrap64;omega
 have hxl:(bytesOf x).length=x.size:=bytesOf_length x;unfold bI.f;rw [hw];by_cases h:((i+x.size:Nat):Int) > (a0.size:Int)
 ·rw [if_pos h]
  have:(bytesOf x).isPrefixOf ((bytesOf a0).drop i)=false:=by
   cases hb:(bytesOf x).isPrefixOf ((bytesOf a0).drop i) with
   | false=>rfl
   | true =>
    have:=S.wz _ _ hb;have h3:(bytesOf a0).length=a0.size:=bytesOf_length a0;rw [List.length_drop] at this;omega
  rw [this]
 rw [if_neg h,if_pos (by omega),if_pos (by omega),if_pos (by omega)];congr 1
 have e1:((a0.extract ((i:Int)).toNat (((i+x.size:Nat):Int)).toNat).toList==x.toList)=decide (((bytesOf a0).drop i).take x.size=bytesOf x):=by
  rw [str_eq,iT,Lib.toList_data,<- jm];rw [show ((i:Int)).toNat=i from rfl,show (((i+x.size:Nat):Int)).toNat=i+x.size from rfl,Nat.add_sub_cancel_left]
 rw [e1];cases hb:(bytesOf x).isPrefixOf ((bytesOf a0).drop i) with
 | true =>
  refine decide_eq_true ?_;have:=S.uY _ _ hb;rw [this,List.take_left' hxl]
 | false =>
  refine decide_eq_false fun e=>?_
  have hp:(bytesOf x).isPrefixOf ((bytesOf a0).drop i)=true:=by
   rw [<- List.take_append_drop x.size ((bytesOf a0).drop i),e];exact S.Ch _ _ _ (S.zO _)
  rw [hb] at hp;cases hp
theorem Ov:(ig.f).map (fun l=>l.map bytesOf)=some S.signs:=by decide +kernel
theorem IG (a0:ByteArray) (hs:a0.size<=100000) (p ln:Nat) (hp:p<=a0.size) (L:List ByteArray) (hL:L.map bytesOf=S.signs):∀ (m k j:Nat),j+m=L.length->m < k ->
  aZ.l0 k a0 (p:Int) (ln:Int) L (j:Int)=some (Ou 3 p ln (match (S.signs.drop j).find? (fun x=>x.isPrefixOf ((bytesOf a0).drop p)) with
   | none=>.err 13
   | some x=>.ok x x.length))
 | 0,k,j,h,hk=>by
  obtain ⟨k,rfl⟩:∃ k',k=k'+1:=⟨k - 1,by omega⟩;have hll:S.signs.length=L.length:=by rw [<- hL,List.length_map]
  have hd:S.signs.drop j=[]:=List.drop_of_length_le (by omega);rw [aZ.l0,if_neg (by omega),hd];rfl
 | m+1,k,j,h,hk=>by
  obtain ⟨k,rfl⟩:∃ k',k=k'+1:=⟨k - 1,by omega⟩;have hll:S.signs.length=L.length:=by rw [<- hL,List.length_map]
  have h35:S.signs.length=35:=rfl;have hj:j < L.length:=by omega
  have hrd:pW ByteArray.empty L (j:Int)=L[j]:=by
   unfold pW;rw [Int.toNat_natCast,List.getD_eq_getElem?_getD,List.getElem?_eq_getElem hj];rfl
  have hsj:S.signs.drop j=bytesOf L[j]::S.signs.drop (j+1):=by
   rw [List.drop_eq_getElem_cons (by omega)];congr 1
   have:(L.map bytesOf)[j]?=S.signs[j]?:=by rw [hL]
   rw [List.getElem?_map,List.getElem?_eq_getElem hj,List.getElem?_eq_getElem (by omega)] at this;exact (Option.some.inj this).symm
  have hmem:bytesOf L[j]∈S.signs:=by
   rw [<- hL];exact List.mem_map_of_mem (List.getElem_mem hj)
  have hlen:=S.Oe _ hmem;rw [bytesOf_length] at hlen;rw [aZ.l0,if_pos (by omega),if_pos (by omega),hrd,yt a0 L[j] p hp hs (by omega),Option.bind_some,hsj];by_cases hpx:(bytesOf L[j]).isPrefixOf ((bytesOf a0).drop p)=true
  ·rw [if_pos hpx,List.find?_cons_of_pos (p:=fun x:List Int=>x.isPrefixOf ((bytesOf a0).drop p)) hpx]
   simp only [Ou];have hw:wrap64 ((p:Int)+((L[j]).size:Int))=((p+(L[j]).size:Nat):Int):=by unfold wrap64;omega
   rw [hw,bytesOf_length,Od];rfl
  rw [if_neg hpx,List.find?_cons_of_neg (p:=fun x:List Int=>x.isPrefixOf ((bytesOf a0).drop p)) hpx,oq (by omega)];exact IG a0 hs p ln hp L hL m k (j+1) (by omega) (by omega)
end Go.Proofs.YtkkpjonfaflkmaaGreatDoor.T
