/- A part of the proof of ScanWrites. -/
import Derived.Test.YtkkpjonfaflkmaaGreatDoorCScanWrites16
set_option linter.all false
namespace Go.Proofs.YtkkpjonfaflkmaaGreatDoor.T
open Go.RowKit Go.Proofs.aj.aI Go.Proofs.aj.aY Go.Proofs.aj.bq
attribute [local go_sem] eY eZ gH gI dV dW fq fu
mutual
def aV.j0:Nat->ByteArray->Int->Int->Bool->Option (Int × ByteArray × Int × Int × Int)
 | 0,_,_,_,_=>none
 | k+1,x0,x1,x2,x19=>if x19=true then ((eX.f k x0 x1 x2).bind fun JF=>(some (JF.1,JF.2.1,JF.2.2.1,JF.2.2.2.1,JF.2.2.2.2))) else (if 0<=x1 then (if x1 < (x0.size:Int) then ((dw.f (bt x0 x1)).bind fun XO=>(if XO=true then ((eO.f k x0 x1 x2).bind fun tJ=>(some (tJ.1,tJ.2.1,tJ.2.2.1,tJ.2.2.2.1,tJ.2.2.2.2))) else ((fT.f).bind fun kI=>(aV.l0 k x0 x1 x2 kI 0)))) else (none)) else (none))
def aV.l0:Nat->ByteArray->Int->Int->List ByteArray->Int->Option (Int × ByteArray × Int × Int × Int)
 | 0,_,_,_,_,_=>none
 | k+1,x0,x1,x2,x7,x8=>if x8 < (x7.length:Int) then (if 0<=x8 then ((bC.f x0 x1 (pq ByteArray.empty x7 x8)).bind fun XP=>(if XP=true then (some (3,pq ByteArray.empty x7 x8,wrap64 (x1+((pq ByteArray.empty x7 x8).size:Int)),0,0)) else (aV.l0 k x0 x1 x2 x7 (wrap64 (x8+1))))) else (none)) else (some (0,(⟨#[]⟩:ByteArray),0,13,x2))
end
def aV.f (k:Nat) (a0:ByteArray) (a1:Int) (a2:Int):Option (Int × ByteArray × Int × Int × Int):=if 0<=a1 then (if a1 < (a0.size:Int) then (if (bt a0 a1)=39 then (aV.j0 k a0 a1 a2 true) else (aV.j0 k a0 a1 a2 ((bt a0 a1)==34))) else (none)) else (none)
def aV.T11:Bool × List (List Nat × List Nat):=(true,[([],[]),([],[]),([0,1],[0,1]),([2],[2]),([],[]),([],[]),([],[]),([5,6],[5,6]),([7],[7]),([8],[8]),([4,9],[4,9]),([3,10],[3,10]),([11,0,1,2,3,4,5,6,7,8,9,10,11],[11])])
def aV.B11:List Nat:=[0,0,3,7,0,0,0,96,224,480,1008,2047,4095]
theorem aV.aeN:oh .any (opsOf Tryz.f85 11)=aV.T11:=by kernel_rfl
theorem aV.abM:uj aV.T11.2 aV.B11=true:=by kernel_rfl
set_option maxHeartbeats 8000000 in
set_option maxRecDepth 100000 in
theorem aV.calls (k:Nat) (a0:ByteArray) (a1:Int) (a2:Int) (r1:Int) (r2:ByteArray) (r3:Int) (r4:Int) (r5:Int) (w:World) (h:aV.f k a0 a1 a2=some (r1,r2,r3,r4,r5)) :
  Calls Tryz.prog 85 #[.string a0,.int .i64 a1,.int .i64 a2] w fun e w'=>e=.returned (.agg #[.int .i64 r1,.string r2,.int .i64 r3,.int .i64 r4,.int .i64 r5])/\Below w.heap.size w w':=by
 have aeO:=Tryz.underlying82;have HB:=ah.mk (Below.refl w.heap.size w);have H:(if 0<=a1 then (if a1 < (a0.size:Int) then (if (bt a0 a1)=39 then (aV.j0 k a0 a1 a2 true) else (aV.j0 k a0 a1 a2 ((bt a0 a1)==34))) else (none)) else (none))=some (r1,r2,r3,r4,r5):=h;clear h;have Jp:=ah.mk H;clear H;go_enter Tryz.func85,Tryz.ntmps85
 go_upto_region 1 with (first | ((with_reducible refine fO (N:=6) rfl ?_);refine fG ?hg (N:=6) ?hd (cs:=#[.int .i64 0,.string (⟨#[]⟩:ByteArray),.int .i64 0,.int .i64 0,.int .i64 0]) (t:=82) ?hr ?_;(case hd=>rfl);(case hg=>rfl);(case hr=>first | (go_simp;done) | (go_simp;rfl));intro eP hg w5 iE hb;have bY:=ah.mk (aX (by with_reducible repeat (first | exact HB.out | apply av | apply ak | apply ay)) hb);have dO:=ah.mk (iE);have jA:=ah.mk ((by rw [hg];exact (bG (by with_reducible repeat (first | exact HB.out | apply av | apply ak | apply ay))):w.heap.size<=eP));have mW:=ah.mk ((by rw [hg];exact (bG (by with_reducible repeat (first | exact HB.out | apply av | apply ak | apply ay))):w.heap.size<=eP));clear HB;have HB:=bY;have bK:=dO;have akh:=jA;have pV:=mW;clear bY dO jA mW;clear hb iE hg))
 (try simp only [Act.put,sArr,sZer,sSuc])
 go_cut [19] (fun v19 wc=>∃ (kq:Nat) (Og:Bool),v19=.bool Og/\ah (aV.j0 kq a0 a1 a2 Og=some (r1,r2,r3,r4,r5))/\ah (kq<=k)/\ah (wc.heap[eP]?=some (.cells #[.int .i64 0,.string (⟨#[]⟩:ByteArray),.int .i64 0,.int .i64 0,.int .i64 0] 82 (0,0)))/\ah (Below w.heap.size w wc))
 case first =>
  have H:=Jp.out;clear Jp;by_cases c6:0<=a1
  rotate_left
  ·rw [if_neg c6] at H
   exact absurd H (by simp)
  rw [if_pos c6] at H;have lJ:decide (0<=a1)=true:=decide_eq_true c6;clear c6
  (first | rw [lJ] | (simp only [dK,fM];rw [lJ]) | skip)
  by_cases c7:a1 < (a0.size:Int)
  rotate_left
  ·rw [if_neg c7] at H
   exact absurd H (by simp)
  rw [if_pos c7] at H;have sJ:decide (a1 < (a0.size:Int))=true:=decide_eq_true c7;clear c7;by_cases c9:(bt a0 a1)=39
  ·rw [if_pos c9] at H
   have KW:((bt a0 a1)==39)=true:=beq_iff_eq.mpr c9;have aaZ:((bt a0 a1) != 39)=false:=bne_eq_false_iff_eq.mpr c9;clear c9;have H':=ah.mk H;clear H;have p8:0<=(a1:Int):=of_decide_eq_true (by with_reducible assumption);have q8:a1 < (a0.size:Int):=of_decide_eq_true (by with_reducible assumption);have hx8:=dJ a0 a1;replace p8:=eq_true p8;replace q8:=eq_true q8;go_wp2;go_meet
   case rel=>exact ⟨_,(true),(by first | rfl | (simp;done) | (simp [*];done)),H',⟨by first | omega | exact Nat.le_refl _⟩,⟨by (with_reducible repeat (first | refine aH ?_ _ | refine aU ?_ | refine aN ?_ _));exact bK.out⟩,⟨by with_reducible repeat (first | exact HB.out | apply av | apply ak | apply ay | refine bf ?_ pV.out)⟩⟩
  rw [if_neg c9] at H;have KW:((bt a0 a1)==39)=false:=beq_eq_false_iff_ne.mpr c9;have aaZ:((bt a0 a1) != 39)=true:=bne_iff_ne.mpr c9;have H':=ah.mk H;clear H;have p8:0<=(a1:Int):=of_decide_eq_true (by with_reducible assumption);have q8:a1 < (a0.size:Int):=of_decide_eq_true (by with_reducible assumption);have hx8:=dJ a0 a1;replace p8:=eq_true p8;replace q8:=eq_true q8;have p10:0<=(a1:Int):=of_decide_eq_true (by with_reducible assumption);have q10:a1 < (a0.size:Int):=of_decide_eq_true (by with_reducible assumption);have aiE:=dJ a0 a1;replace p10:=eq_true p10;replace q10:=eq_true q10;go_wp2;go_meet
  case rel=>exact ⟨_,(((bt a0 a1)==34)),(by first | rfl | (simp;done) | (simp [*];done)),H',⟨by first | omega | exact Nat.le_refl _⟩,⟨by (with_reducible repeat (first | refine aH ?_ _ | refine aU ?_ | refine aN ?_ _));exact bK.out⟩,⟨by with_reducible repeat (first | exact HB.out | apply av | apply ak | apply ay | refine bf ?_ pV.out)⟩⟩
 case rest =>
  clear Jp;obtain ⟨kq,Og,rfl,HA,LV,bK,HB⟩:=hcut;cases kq with
  | zero=>exact absurd HA.out (by simp [aV.j0])
  | succ CK =>
   have H:=HA.out;clear HA;simp only [aV.j0] at H;by_cases c11:Og=true
   ·subst c11
    rw [if_pos rfl] at H;replace H:=Option.bind_eq_some_iff.mp H;obtain ⟨⟨Mj,Ql,t171,XQ,t173⟩,Bh,H⟩:=H;replace H:(some (Mj,Ql,t171,XQ,t173))=some (r1,r2,r3,r4,r5):=H;have WM:=ah.mk Bh;clear Bh;simp only [Option.some.injEq,Prod.mk.injEq] at H;obtain ⟨rfl,rfl,rfl,rfl,rfl⟩:=H;go_wp2_with (first | ((with_reducible refine aQ (f:=71) rfl ?_);refine bL (some 23) rfl rfl Tryz.func71 (by kernel_rfl) rfl #[.string a0,.int .i64 a1,.int .i64 a2] rfl (by (try simp only [List.map_toArray,List.map_cons,List.map_nil]);first | done | rfl) ?_;(with_reducible refine (eX.calls CK a0 a1 a2 Mj Ql t171 XQ t173 _ WM.out).mono ?_);rintro e VA ⟨rfl,hb⟩;refine ⟨_,rfl,?_⟩;have bY:=ah.mk (fF (g:=eP) (o:=.cells #[.int .i64 0,.string (⟨#[]⟩:ByteArray),.int .i64 0,.int .i64 0,.int .i64 0] 82 (0,0)) (by (with_reducible repeat (first | refine aH ?_ _ | refine aU ?_ | refine aN ?_ _));exact bK.out) hb);have dO:=ah.mk (aX (by with_reducible repeat (first | exact HB.out | apply av | apply ak | apply ay | refine bf ?_ pV.out)) hb);clear bK;clear HB;have bK:=bY;have HB:=dO;clear bY dO;(try clear hb);(try clear hb2);(try clear hk);(try clear hi);have agV:VA.cell? ⟨eP,0,none⟩=some (.int .i64 0):=(au bK.out 0).trans rfl;have agW:VA.cell? ⟨eP,1,none⟩=some (.string (⟨#[]⟩:ByteArray)):=(au bK.out 1).trans rfl;have agX:VA.cell? ⟨eP,2,none⟩=some (.int .i64 0):=(au bK.out 2).trans rfl;have agY:VA.cell? ⟨eP,3,none⟩=some (.int .i64 0):=(au bK.out 3).trans rfl;have agZ:VA.cell? ⟨eP,4,none⟩=some (.int .i64 0):=(au bK.out 4).trans rfl;have aha:=aA bK.out 0;have ahb:=aA bK.out 1;have ahc:=aA bK.out 2;have ahd:=aA bK.out 3;have ahe:=aA bK.out 4))
    refine bodyPost_ret (results_cell_row rfl _ _ eP 82 #[.int .i64 Mj,.string Ql,.int .i64 t171,.int .i64 XQ,.int .i64 t173] (0,0) _ rfl (by (with_reducible repeat (first | refine aH ?_ _ | refine aU ?_ | refine aN ?_ _));refine aW (cs:=#[.int .i64 Mj,.string Ql,.int .i64 t171,.int .i64 XQ,.int .i64 0]) ?_ 4 _ rfl;(with_reducible repeat (first | refine aH ?_ _ | refine aU ?_ | refine aN ?_ _));refine aW (cs:=#[.int .i64 Mj,.string Ql,.int .i64 t171,.int .i64 0,.int .i64 0]) ?_ 3 _ rfl;(with_reducible repeat (first | refine aH ?_ _ | refine aU ?_ | refine aN ?_ _));refine aW (cs:=#[.int .i64 Mj,.string Ql,.int .i64 0,.int .i64 0,.int .i64 0]) ?_ 2 _ rfl;(with_reducible repeat (first | refine aH ?_ _ | refine aU ?_ | refine aN ?_ _));refine aW (cs:=#[.int .i64 Mj,.string (⟨#[]⟩:ByteArray),.int .i64 0,.int .i64 0,.int .i64 0]) ?_ 1 _ rfl;(with_reducible repeat (first | refine aH ?_ _ | refine aU ?_ | refine aN ?_ _));refine aW (cs:=#[.int .i64 0,.string (⟨#[]⟩:ByteArray),.int .i64 0,.int .i64 0,.int .i64 0]) ?_ 0 _ rfl;(with_reducible repeat (first | refine aH ?_ _ | refine aU ?_ | refine aN ?_ _));exact bK.out) Tryz.underlying82 rfl (by kernel_rfl)) rfl ?_;exact ⟨by first | rfl | (simp [aJ,aK]<;>rfl) | (simp [*,aJ,aK]<;>rfl),by with_reducible repeat (first | exact HB.out | apply av | apply ak | apply ay | refine bf ?_ pV.out)⟩
   replace c11:=Bool.eq_false_iff.mpr c11;subst c11;rw [if_neg (show ¬ (false=true) by decide)] at H;by_cases c15:0<=a1
   rotate_left
   ·rw [if_neg c15] at H
    exact absurd H (by simp)
   rw [if_pos c15] at H;have wK:decide (0<=a1)=true:=decide_eq_true c15;clear c15;by_cases c16:a1 < (a0.size:Int)
   rotate_left
   ·rw [if_neg c16] at H
    exact absurd H (by simp)
   rw [if_pos c16] at H;have sM:decide (a1 < (a0.size:Int))=true:=decide_eq_true c16;clear c16;replace H:=Option.bind_eq_some_iff.mp H;obtain ⟨XO,RD,H⟩:=H;replace H:(if XO=true then ((eO.f CK a0 a1 a2).bind fun tJ=>(some (tJ.1,tJ.2.1,tJ.2.2.1,tJ.2.2.2.1,tJ.2.2.2.2))) else ((fT.f).bind fun kI=>(aV.l0 CK a0 a1 a2 kI 0)))=some (r1,r2,r3,r4,r5):=H;have A18:=ah.mk RD;clear RD;by_cases c19:XO=true
   ·subst c19
    rw [if_pos rfl] at H;replace H:=Option.bind_eq_some_iff.mp H;obtain ⟨⟨t175,Qm,TU,XR,abN⟩,aeP,H⟩:=H;replace H:(some (t175,Qm,TU,XR,abN))=some (r1,r2,r3,r4,r5):=H;have EY:=ah.mk aeP;clear aeP;simp only [Option.some.injEq,Prod.mk.injEq] at H;obtain ⟨rfl,rfl,rfl,rfl,rfl⟩:=H;have TD:0<=(a1:Int):=of_decide_eq_true (by with_reducible assumption);have TF:a1 < (a0.size:Int):=of_decide_eq_true (by with_reducible assumption);have abF:=dJ a0 a1;replace TD:=eq_true TD;replace TF:=eq_true TF;go_wp2_with (first | ((with_reducible refine aQ (f:=58) rfl ?_);refine bL (some 27) rfl rfl Tryz.func58 (by kernel_rfl) rfl #[.int .u8 (bt a0 a1)] rfl (by (try simp only [List.map_toArray,List.map_cons,List.map_nil]);first | done | rfl) ?_;(with_reducible refine (dw.calls (bt a0 a1) true _ A18.out).mono ?_);rintro e w' ⟨rfl,⟨nd,rfl⟩⟩;refine ⟨_,rfl,?_⟩;(try (rw [kW wc];generalize vP:World.drewN wc _=wc;have bY:ah (wc.heap[eP]?=some (.cells #[.int .i64 0,.string (⟨#[]⟩:ByteArray),.int .i64 0,.int .i64 0,.int .i64 0] 82 (0,0))):=⟨by rw [<- vP];exact (by (with_reducible repeat (first | refine aH ?_ _ | refine aU ?_ | refine aN ?_ _));exact bK.out)⟩;have dO:ah (Below w.heap.size w wc):=⟨by rw [<- vP];exact (by with_reducible repeat (first | exact HB.out | apply av | apply ak | apply ay | refine bf ?_ pV.out))⟩;clear bK HB vP;have bK:=bY;have HB:=dO;clear bY dO))) | ((with_reducible refine aQ (f:=59) rfl ?_);refine bL (some 31) rfl rfl Tryz.func59 (by kernel_rfl) rfl #[.string a0,.int .i64 a1,.int .i64 a2] rfl (by (try simp only [List.map_toArray,List.map_cons,List.map_nil]);first | done | rfl) ?_;(with_reducible refine (eO.calls CK a0 a1 a2 t175 Qm TU XR abN _ EY.out).mono ?_);rintro e w21 ⟨rfl,hb⟩;refine ⟨_,rfl,?_⟩;have bY:=ah.mk (fF (g:=eP) (o:=.cells #[.int .i64 0,.string (⟨#[]⟩:ByteArray),.int .i64 0,.int .i64 0,.int .i64 0] 82 (0,0)) (by (with_reducible repeat (first | refine aH ?_ _ | refine aU ?_ | refine aN ?_ _));exact bK.out) hb);have dO:=ah.mk (aX (by with_reducible repeat (first | exact HB.out | apply av | apply ak | apply ay | refine bf ?_ pV.out)) hb);clear bK;clear HB;have bK:=bY;have HB:=dO;clear bY dO;(try clear hb);(try clear hb2);(try clear hk);(try clear hi);have XT:w21.cell? ⟨eP,0,none⟩=some (.int .i64 0):=(au bK.out 0).trans rfl;have XU:w21.cell? ⟨eP,1,none⟩=some (.string (⟨#[]⟩:ByteArray)):=(au bK.out 1).trans rfl;have XV:w21.cell? ⟨eP,2,none⟩=some (.int .i64 0):=(au bK.out 2).trans rfl;have XW:w21.cell? ⟨eP,3,none⟩=some (.int .i64 0):=(au bK.out 3).trans rfl;have XY:w21.cell? ⟨eP,4,none⟩=some (.int .i64 0):=(au bK.out 4).trans rfl;have XZ:=aA bK.out 0;have Ya:=aA bK.out 1;have Yb:=aA bK.out 2;have Yc:=aA bK.out 3;have Yd:=aA bK.out 4))
    refine bodyPost_ret (results_cell_row rfl _ _ eP 82 #[.int .i64 t175,.string Qm,.int .i64 TU,.int .i64 XR,.int .i64 abN] (0,0) _ rfl (by (with_reducible repeat (first | refine aH ?_ _ | refine aU ?_ | refine aN ?_ _));refine aW (cs:=#[.int .i64 t175,.string Qm,.int .i64 TU,.int .i64 XR,.int .i64 0]) ?_ 4 _ rfl;(with_reducible repeat (first | refine aH ?_ _ | refine aU ?_ | refine aN ?_ _));refine aW (cs:=#[.int .i64 t175,.string Qm,.int .i64 TU,.int .i64 0,.int .i64 0]) ?_ 3 _ rfl;(with_reducible repeat (first | refine aH ?_ _ | refine aU ?_ | refine aN ?_ _));refine aW (cs:=#[.int .i64 t175,.string Qm,.int .i64 0,.int .i64 0,.int .i64 0]) ?_ 2 _ rfl;(with_reducible repeat (first | refine aH ?_ _ | refine aU ?_ | refine aN ?_ _));refine aW (cs:=#[.int .i64 t175,.string (⟨#[]⟩:ByteArray),.int .i64 0,.int .i64 0,.int .i64 0]) ?_ 1 _ rfl;(with_reducible repeat (first | refine aH ?_ _ | refine aU ?_ | refine aN ?_ _));refine aW (cs:=#[.int .i64 0,.string (⟨#[]⟩:ByteArray),.int .i64 0,.int .i64 0,.int .i64 0]) ?_ 0 _ rfl;(with_reducible repeat (first | refine aH ?_ _ | refine aU ?_ | refine aN ?_ _));exact bK.out) Tryz.underlying82 rfl (by kernel_rfl)) rfl ?_;exact ⟨by first | rfl | (simp [aJ,aK]<;>rfl) | (simp [*,aJ,aK]<;>rfl),by with_reducible repeat (first | exact HB.out | apply av | apply ak | apply ay | refine bf ?_ pV.out)⟩
   replace c19:=Bool.eq_false_iff.mpr c19;subst c19;rw [if_neg (show ¬ (false=true) by decide)] at H;replace H:=Option.bind_eq_some_iff.mp H;obtain ⟨kI,RA,H⟩:=H;replace H:(aV.l0 CK a0 a1 a2 kI 0)=some (r1,r2,r3,r4,r5):=H;have A23:=ah.mk RA;clear RA;have H':=ah.mk H;clear H;have TD:0<=(a1:Int):=of_decide_eq_true (by with_reducible assumption);have TF:a1 < (a0.size:Int):=of_decide_eq_true (by with_reducible assumption);have abF:=dJ a0 a1;replace TD:=eq_true TD;replace TF:=eq_true TF;go_wp2_with (first | ((with_reducible refine aQ (f:=58) rfl ?_);refine bL (some 27) rfl rfl Tryz.func58 (by kernel_rfl) rfl #[.int .u8 (bt a0 a1)] rfl (by (try simp only [List.map_toArray,List.map_cons,List.map_nil]);first | done | rfl) ?_;(with_reducible refine (dw.calls (bt a0 a1) false _ A18.out).mono ?_);rintro e w' ⟨rfl,⟨nd,rfl⟩⟩;refine ⟨_,rfl,?_⟩) | ((with_reducible refine aQ (f:=121) rfl ?_);refine bL (some 32) rfl rfl Tryz.func121 (by kernel_rfl) rfl #[] rfl (by (try simp only [List.map_toArray,List.map_cons,List.map_nil]);first | done | rfl) ?_;(with_reducible refine (fT.calls  kI _ A23.out).mono ?_);rintro e w24 ⟨aja,rfl,ho0,hb⟩;refine ⟨_,rfl,?_⟩;have bY:=ah.mk (Kd.nZ ho0 (bG (by with_reducible repeat (first | exact HB.out | apply av | apply ak | apply ay | refine bf ?_ pV.out))));have dO:=ah.mk (fF (g:=eP) (o:=.cells #[.int .i64 0,.string (⟨#[]⟩:ByteArray),.int .i64 0,.int .i64 0,.int .i64 0] 82 (0,0)) (by (with_reducible repeat (first | refine aH ?_ _ | refine aU ?_ | refine aN ?_ _));exact bK.out) hb);have jA:=ah.mk (aX (by with_reducible repeat (first | exact HB.out | apply av | apply ak | apply ay | refine bf ?_ pV.out)) hb);clear bK;clear HB;have aeQ:=bY;have bK:=dO;have HB:=jA;clear bY dO jA;(try clear hb);(try clear hb2);(try clear hk);(try clear hi);(try clear ho0)))
   go_loopg [8] CK (fun kq v8 w'=>∃ (jr:Int) (lD:Int) (jE:ByteArray) (iK:Int) (gL:Int) (fI:Int),v8=.int .i64 jr/\ah (aV.l0 kq a0 a1 a2 kI jr=some (r1,r2,r3,r4,r5))/\ah (kq<=CK)/\ah (Kd.R Kd.string 9 w' w.heap.size (fun _=>True) aja kI)/\ah (w'.heap[eP]?=some (.cells #[.int .i64 lD,.string jE,.int .i64 iK,.int .i64 gL,.int .i64 fI] 82 (0,0)))/\ah (Below w.heap.size w w'))
   case atStart=>exact ⟨(0),(0),((⟨#[]⟩:ByteArray)),(0),(0),(0),(by first | rfl | (simp;done) | (simp [*];done)),H',⟨Nat.le_refl _⟩,⟨by (with_reducible repeat (first | apply Kd.cO | apply Kd.cB | apply Kd.dF));exact aeQ.out⟩,⟨by (with_reducible repeat (first | refine aH ?_ _ | refine aU ?_ | refine aN ?_ _));exact bK.out⟩,⟨by with_reducible repeat (first | exact HB.out | apply av | apply ak | apply ay | refine bf ?_ pV.out)⟩⟩
   case round =>
    clear H';obtain ⟨jr,lD,jE,iK,gL,fI,rfl,HA,CG,fU,bK,HB⟩:=hrel;cases gk with
    | zero=>exact absurd HA.out (by simp [aV.l0])
    | succ k2 =>
     have H:=HA.out;clear HA;simp only [aV.l0] at H;by_cases Ye:jr < (kI.length:Int)
     rotate_left
     ·rw [if_neg Ye] at H
      have aeR:decide (jr < (kI.length:Int))=false:=decide_eq_false Ye;clear Ye;simp only [Option.some.injEq,Prod.mk.injEq] at H;obtain ⟨rfl,rfl,rfl,rfl,rfl⟩:=H;obtain ⟨alA,alB,ajb⟩:=Kd.nD fU.out;subst ajb;have ahf:wr.cell? ⟨eP,0,none⟩=some (.int .i64 lD):=(au bK.out 0).trans rfl;have ahg:wr.cell? ⟨eP,1,none⟩=some (.string jE):=(au bK.out 1).trans rfl;have ahh:wr.cell? ⟨eP,2,none⟩=some (.int .i64 iK):=(au bK.out 2).trans rfl;have ahi:wr.cell? ⟨eP,3,none⟩=some (.int .i64 gL):=(au bK.out 3).trans rfl;have ahj:wr.cell? ⟨eP,4,none⟩=some (.int .i64 fI):=(au bK.out 4).trans rfl;have ahk:=aA bK.out 0;have ahl:=aA bK.out 1;have ahm:=aA bK.out 2;have ahn:=aA bK.out 3;have aho:=aA bK.out 4;go_wp2;refine bodyPost_ret (results_cell_row rfl _ _ eP 82 #[.int .i64 0,.string (⟨#[]⟩:ByteArray),.int .i64 0,.int .i64 13,.int .i64 a2] (0,0) _ rfl (by (with_reducible repeat (first | refine aH ?_ _ | refine aU ?_ | refine aN ?_ _));refine aW (cs:=#[.int .i64 0,.string (⟨#[]⟩:ByteArray),.int .i64 0,.int .i64 13,.int .i64 fI]) ?_ 4 _ rfl;(with_reducible repeat (first | refine aH ?_ _ | refine aU ?_ | refine aN ?_ _));refine aW (cs:=#[.int .i64 0,.string (⟨#[]⟩:ByteArray),.int .i64 0,.int .i64 gL,.int .i64 fI]) ?_ 3 _ rfl;(with_reducible repeat (first | refine aH ?_ _ | refine aU ?_ | refine aN ?_ _));refine aW (cs:=#[.int .i64 0,.string (⟨#[]⟩:ByteArray),.int .i64 iK,.int .i64 gL,.int .i64 fI]) ?_ 2 _ rfl;(with_reducible repeat (first | refine aH ?_ _ | refine aU ?_ | refine aN ?_ _));refine aW (cs:=#[.int .i64 0,.string jE,.int .i64 iK,.int .i64 gL,.int .i64 fI]) ?_ 1 _ rfl;(with_reducible repeat (first | refine aH ?_ _ | refine aU ?_ | refine aN ?_ _));refine aW (cs:=#[.int .i64 lD,.string jE,.int .i64 iK,.int .i64 gL,.int .i64 fI]) ?_ 0 _ rfl;(with_reducible repeat (first | refine aH ?_ _ | refine aU ?_ | refine aN ?_ _));exact bK.out) Tryz.underlying82 rfl (by kernel_rfl)) rfl ?_;exact ⟨by first | rfl | (simp [aJ,aK]<;>rfl) | (simp [*,aJ,aK]<;>rfl),by with_reducible repeat (first | exact HB.out | apply av | apply ak | apply ay | refine bf ?_ pV.out)⟩
     rw [if_pos Ye] at H;have aeR:decide (jr < (kI.length:Int))=true:=decide_eq_true Ye;clear Ye;by_cases VG:0<=jr
     rotate_left
     ·rw [if_neg VG] at H
      exact absurd H (by simp)
     rw [if_pos VG] at H;have aeS:decide (0<=jr)=true:=decide_eq_true VG;clear VG;replace H:=Option.bind_eq_some_iff.mp H;obtain ⟨XP,aeT,H⟩:=H;replace H:(if XP=true then (some (3,pq ByteArray.empty kI jr,wrap64 (a1+((pq ByteArray.empty kI jr).size:Int)),0,0)) else (aV.l0 k2 a0 a1 a2 kI (wrap64 (jr+1))))=some (r1,r2,r3,r4,r5):=H;have A27:=ah.mk aeT;clear aeT;by_cases c28:XP=true
     rotate_left
     ·replace c28:=Bool.eq_false_iff.mpr c28
      subst c28;rw [if_neg (show ¬ (false=true) by decide)] at H;have H':=ah.mk H;clear H;obtain ⟨alC,alD,ajc⟩:=Kd.nD fU.out;subst ajc;have Mk:0<=(jr:Int):=of_decide_eq_true (by with_reducible assumption);have Ml:jr < (kI.length:Int):=of_decide_eq_true (by with_reducible assumption);obtain ⟨Ec,abO,Yf⟩:=Kd.oD (Kd.jy fU.out).2.2 jr Mk Ml;cases abO
      replace Mk:=eq_true Mk;replace Ml:=eq_true Ml;go_wp2_with (first | ((with_reducible refine aQ (f:=80) rfl ?_);refine bL (some 45) rfl rfl Tryz.func80 (by kernel_rfl) rfl #[.string a0,.int .i64 a1,.string (pq ByteArray.empty kI jr)] rfl (by (try simp only [List.map_toArray,List.map_cons,List.map_nil]);first | done | rfl) ?_;(with_reducible refine (bC.calls a0 a1 (pq ByteArray.empty kI jr) false _ A27.out).mono ?_);rintro e w' ⟨rfl,⟨nd,rfl⟩⟩;refine ⟨_,rfl,?_⟩))
      go_roundg k2
      case measure=>have:=LV.out;have:=CG.out;omega
      case rel=>exact ⟨(wrap64 (jr+1)),(lD),(jE),(iK),(gL),(fI),(by first | rfl | (simp;done) | (simp [*];done)),H',⟨by have:=LV.out;have:=CG.out;omega⟩,⟨by (with_reducible repeat (first | apply Kd.cO | apply Kd.cB | apply Kd.dF));exact fU.out⟩,⟨by (with_reducible repeat (first | refine aH ?_ _ | refine aU ?_ | refine aN ?_ _));exact bK.out⟩,⟨by with_reducible repeat (first | exact HB.out | apply av | apply ak | apply ay | refine bf ?_ pV.out)⟩⟩
     subst c28;rw [if_pos rfl] at H;simp only [Option.some.injEq,Prod.mk.injEq] at H;obtain ⟨rfl,rfl,rfl,rfl,rfl⟩:=H;obtain ⟨alE,ajd,aje⟩:=Kd.nD fU.out;subst aje;have Mk:0<=(jr:Int):=of_decide_eq_true (by with_reducible assumption);have Ml:jr < (kI.length:Int):=of_decide_eq_true (by with_reducible assumption);obtain ⟨Ec,abO,Yf⟩:=Kd.oD (Kd.jy fU.out).2.2 jr Mk Ml;cases abO
     replace Mk:=eq_true Mk;replace Ml:=eq_true Ml;try go_wp2_with (first | ((with_reducible refine aQ (f:=80) rfl ?_);refine bL (some 45) rfl rfl Tryz.func80 (by kernel_rfl) rfl #[.string a0,.int .i64 a1,.string (pq ByteArray.empty kI jr)] rfl (by (try simp only [List.map_toArray,List.map_cons,List.map_nil]);first | done | rfl) ?_;(with_reducible refine (bC.calls a0 a1 (pq ByteArray.empty kI jr) true _ A27.out).mono ?_);rintro e w' ⟨rfl,⟨nd,rfl⟩⟩;refine ⟨_,rfl,?_⟩;(try (rw [kW wr];generalize vP:World.drewN wr _=wr;have bY:ah (Kd.R Kd.string 9 wr w.heap.size (fun _=>True) (.slice (some Ec) kI.length ajd) kI):=⟨by rw [<- vP];exact (by (with_reducible repeat (first | apply Kd.cO | apply Kd.cB | apply Kd.dF));exact fU.out)⟩;have dO:ah (wr.heap[eP]?=some (.cells #[.int .i64 lD,.string jE,.int .i64 iK,.int .i64 gL,.int .i64 fI] 82 (0,0))):=⟨by rw [<- vP];exact (by (with_reducible repeat (first | refine aH ?_ _ | refine aU ?_ | refine aN ?_ _));exact bK.out)⟩;have jA:ah (Below w.heap.size w wr):=⟨by rw [<- vP];exact (by with_reducible repeat (first | exact HB.out | apply av | apply ak | apply ay | refine bf ?_ pV.out))⟩;clear fU bK HB vP;have fU:=bY;have bK:=dO;have HB:=jA;clear bY dO jA))))
     have bY:=ah.mk (Kd.dF fU.out);have dO:=ah.mk (aU bK.out);have jA:=ah.mk (ay HB.out);clear fU;clear bK;clear HB;have fU:=bY;have bK:=dO;have HB:=jA;clear bY dO jA;have abP:0<=(jr:Int):=of_decide_eq_true (by with_reducible assumption);have abQ:jr < (kI.length:Int):=of_decide_eq_true (by with_reducible assumption);obtain ⟨aeU,e185,Oh⟩:=Kd.oD (Kd.jy fU.out).2.2 jr abP abQ;obtain rfl:Ec=aeU:=(by injection e185);replace abP:=eq_true abP;replace abQ:=eq_true abQ;have abR:0<=(jr:Int):=of_decide_eq_true (by with_reducible assumption);have abS:jr < (kI.length:Int):=of_decide_eq_true (by with_reducible assumption);obtain ⟨aeV,ajf,Oi⟩:=Kd.oD (Kd.jy fU.out).2.2 jr abR abS;obtain rfl:Ec=aeV:=(by injection ajf);replace abR:=eq_true abR;replace abS:=eq_true abS;refine Ra (n:=13) (S:=fun w'=>w'.cell? (Ec.add (jr).toNat)=some (.string (pq ByteArray.empty kI jr))/\w'.cell? (Ec.add (jr).toNat)=some (.string (pq ByteArray.empty kI jr))) (ds:=[]) #[false,false,false,false,false,false,false,false,false,false,false,false,false] (by kernel_rfl) rfl rfl ⟨Oh,Oi⟩ (fun hHeld=>?_);refine Dy aV.aeN aV.abM (fun xk HW_=>?_);generalize wr.drew=w30 at fU bK HB Oh Oi hHeld |-
     refine lI (i:=0) (N:=some 47) (v:=?_) (a':=?_) #[true,false,false,false,false,false,false,false,false,false,false,false,false] rfl rfl (jo xk.out (by kernel_rfl)) (fun _ _ _ h=>h) (Or.inl ⟨by rfl,?_⟩) ?_ ?_;rotate_left
     ·intro w'
      go_simp;with_reducible rfl
     rotate_left
     ·simp only [Act.put,sArr,sZer,sSuc,dK,fM]
      rfl
     refine lI (i:=1) (N:=some 48) (v:=?_) (a':=?_) #[true,true,false,false,false,false,false,false,false,false,false,false,false] rfl rfl (jo xk.out (by kernel_rfl)) (fun _ _ _ h=>h) (Or.inl ⟨by rfl,?_⟩) ?_ ?_;rotate_left
     ·intro w'
      go_simp;with_reducible rfl
     rotate_left
     ·simp only [Act.put,sArr,sZer,sSuc,dK,fM]
      rfl
     refine lI (i:=2) (N:=some 49) (v:=?_) (a':=?_) #[true,true,true,false,false,false,false,false,false,false,false,false,false] rfl rfl (jo xk.out (by kernel_rfl)) (fun _ _ _ h=>h) (Or.inl ⟨by rfl,?_⟩) ?_ ?_;rotate_left
     ·intro w'
      go_simp;with_reducible rfl
     rotate_left
     ·simp only [Act.put,sArr,sZer,sSuc,dK,fM]
      rfl
     refine lI (i:=4) (N:=some 51) (v:=?_) (a':=?_) #[true,true,true,false,true,false,false,false,false,false,false,false,false] rfl rfl (jo xk.out (by kernel_rfl)) (fun _ _ _ h=>h) (Or.inl ⟨by rfl,?_⟩) ?_ ?_;rotate_left
     ·intro w'
      go_simp;with_reducible rfl
     rotate_left
     ·simp only [Act.put,sArr,sZer,sSuc,dK,fM]
      rfl
     refine lI (i:=5) (N:=some 52) (v:=?_) (a':=?_) #[true,true,true,false,true,true,false,false,false,false,false,false,false] rfl rfl (jo xk.out (by kernel_rfl)) (fun _ _ _ h=>h) (Or.inl ⟨by rfl,?_⟩) ?_ ?_;rotate_left
     ·intro w'
      go_simp;with_reducible rfl
     rotate_left
     ·simp only [Act.put,sArr,sZer,sSuc,dK,fM]
      rfl
     refine lI (i:=6) (N:=some 53) (v:=?_) (a':=?_) #[true,true,true,false,true,true,true,false,false,false,false,false,false] rfl rfl (jo xk.out (by kernel_rfl)) (fun _ _ _ h=>h) (Or.inl ⟨by rfl,?_⟩) ?_ ?_;rotate_left
     ·intro w'
      go_simp;with_reducible rfl
     rotate_left
     ·simp only [Act.put,sArr,sZer,sSuc,dK,fM]
      rfl
     refine lI (i:=7) (N:=some 54) (v:=?_) (a':=?_) #[true,true,true,false,true,true,true,true,false,false,false,false,false] rfl rfl (jo xk.out (by kernel_rfl)) (fun _ _ _ h=>h) (Or.inl ⟨by rfl,?_⟩) ?_ ?_;rotate_left
     ·intro w'
      go_simp;with_reducible rfl
     rotate_left
     ·simp only [Act.put,sArr,sZer,sSuc,dK,fM]
      rfl
     refine Dp (i:=3) (N:=some 50) (v:=?_) (a':=?_) #[true,true,true,true,true,true,true,true,false,false,false,false,false] rfl rfl (wC xk.out HW_.out (by kernel_rfl)) (fun _ _ _ h=>h) (Or.inl ⟨by rfl,?_⟩) hHeld ?_ ?_;rotate_left
     ·rintro w' ⟨s0,s1⟩
      go_simp;with_reducible rfl
     rotate_left
     ·simp only [Act.put,sArr,sZer,sSuc,dK,fM]
      rfl
     refine Dp (i:=8) (N:=some 55) (v:=?_) (a':=?_) #[true,true,true,true,true,true,true,true,true,false,false,false,false] rfl rfl (wC xk.out HW_.out (by kernel_rfl)) (fun _ _ _ h=>h) (Or.inl ⟨by rfl,?_⟩) hHeld ?_ ?_;rotate_left
     ·rintro w' ⟨s0,s1⟩
      go_simp;with_reducible rfl
     rotate_left
     ·simp only [Act.put,sArr,sZer,sSuc,dK,fM]
      rfl
     refine lI (i:=9) (N:=some 56) (v:=?_) (a':=?_) #[true,true,true,true,true,true,true,true,true,true,false,false,false] rfl rfl (jo xk.out (by kernel_rfl)) (fun _ _ _ h=>h) (Or.inl ⟨by rfl,?_⟩) ?_ ?_;rotate_left
     ·intro w'
      go_simp;with_reducible rfl
     rotate_left
     ·simp only [Act.put,sArr,sZer,sSuc,dK,fM]
      rfl
     refine lI (i:=10) (N:=some 57) (v:=?_) (a':=?_) #[true,true,true,true,true,true,true,true,true,true,true,false,false] rfl rfl (jo xk.out (by kernel_rfl)) (fun _ _ _ h=>h) (Or.inl ⟨by rfl,?_⟩) ?_ ?_;rotate_left
     ·intro w'
      go_simp;with_reducible rfl
     rotate_left
     ·simp only [Act.put,sArr,sZer,sSuc,dK,fM]
      rfl
     refine lI (i:=11) (N:=some 58) (v:=?_) (a':=?_) #[true,true,true,true,true,true,true,true,true,true,true,true,false] rfl rfl (jo xk.out (by kernel_rfl)) (fun _ _ _ h=>h) (Or.inl ⟨by rfl,?_⟩) ?_ ?_;rotate_left
     ·intro w'
      go_simp;with_reducible rfl
     rotate_left
     ·simp only [Act.put,sArr,sZer,sSuc,dK,fM]
      rfl
     refine ait (i:=12) (N:=none) #[true,true,true,true,true,true,true,true,true,true,true,true,true] rfl rfl (KL xk.out (by kernel_rfl)) (by decide) (fun K hK=>?_);have alF:w30.cell? ⟨eP,0,none⟩=some (.int .i64 lD):=(au bK.out 0).trans rfl;have aki:=aA bK.out 0;have alG:w30.cell? ⟨eP,1,none⟩=some (.string jE):=(au bK.out 1).trans rfl;have akj:=aA bK.out 1;have alH:w30.cell? ⟨eP,2,none⟩=some (.int .i64 iK):=(au bK.out 2).trans rfl;have akk:=aA bK.out 2;have alI:w30.cell? ⟨eP,3,none⟩=some (.int .i64 gL):=(au bK.out 3).trans rfl;have akl:=aA bK.out 3;have alJ:w30.cell? ⟨eP,4,none⟩=some (.int .i64 fI):=(au bK.out 4).trans rfl;have akm:=aA bK.out 4;refine adx (w1:=?_) (by rfl) rfl ?_ ?_;rotate_left
     ·go_simp
      rfl
     refine hK.out _ _ ⟨((cell_far (p:=⟨eP,_,none⟩) (by first | exact Kd.dn (Kd.iZ fU.out bK.out (by decide)) | (rw [add_block];exact Kd.dn (Kd.iZ fU.out bK.out (by decide))) | (show (Addr.add _ _).block≠_;rw [add_block];exact Kd.dn (Kd.iZ fU.out bK.out (by decide))) | (dsimp only;exact Kd.dn (Kd.iZ fU.out bK.out (by decide)))) _).trans (((cell_far (p:=⟨eP,_,none⟩) (by first | exact Kd.dn (Kd.iZ fU.out bK.out (by decide)) | (rw [add_block];exact Kd.dn (Kd.iZ fU.out bK.out (by decide))) | (show (Addr.add _ _).block≠_;rw [add_block];exact Kd.dn (Kd.iZ fU.out bK.out (by decide))) | (dsimp only;exact Kd.dn (Kd.iZ fU.out bK.out (by decide)))) _).trans (((cell_far (p:=⟨eP,_,none⟩) (by first | exact Kd.dn (Kd.iZ fU.out bK.out (by decide)) | (rw [add_block];exact Kd.dn (Kd.iZ fU.out bK.out (by decide))) | (show (Addr.add _ _).block≠_;rw [add_block];exact Kd.dn (Kd.iZ fU.out bK.out (by decide))) | (dsimp only;exact Kd.dn (Kd.iZ fU.out bK.out (by decide)))) _).trans (((cell_far (p:=⟨eP,_,none⟩) (by first | exact Kd.dn (Kd.iZ fU.out bK.out (by decide)) | (rw [add_block];exact Kd.dn (Kd.iZ fU.out bK.out (by decide))) | (show (Addr.add _ _).block≠_;rw [add_block];exact Kd.dn (Kd.iZ fU.out bK.out (by decide))) | (dsimp only;exact Kd.dn (Kd.iZ fU.out bK.out (by decide)))) _).trans (((cell_far (p:=⟨eP,_,none⟩) (by first | exact Kd.dn (Kd.iZ fU.out bK.out (by decide)) | (rw [add_block];exact Kd.dn (Kd.iZ fU.out bK.out (by decide))) | (show (Addr.add _ _).block≠_;rw [add_block];exact Kd.dn (Kd.iZ fU.out bK.out (by decide))) | (dsimp only;exact Kd.dn (Kd.iZ fU.out bK.out (by decide)))) _).trans (hHeld.1)))))))))),((cell_far (p:=⟨eP,_,none⟩) (by first | exact Kd.dn (Kd.iZ fU.out bK.out (by decide)) | (rw [add_block];exact Kd.dn (Kd.iZ fU.out bK.out (by decide))) | (show (Addr.add _ _).block≠_;rw [add_block];exact Kd.dn (Kd.iZ fU.out bK.out (by decide))) | (dsimp only;exact Kd.dn (Kd.iZ fU.out bK.out (by decide)))) _).trans (((cell_far (p:=⟨eP,_,none⟩) (by first | exact Kd.dn (Kd.iZ fU.out bK.out (by decide)) | (rw [add_block];exact Kd.dn (Kd.iZ fU.out bK.out (by decide))) | (show (Addr.add _ _).block≠_;rw [add_block];exact Kd.dn (Kd.iZ fU.out bK.out (by decide))) | (dsimp only;exact Kd.dn (Kd.iZ fU.out bK.out (by decide)))) _).trans (((cell_far (p:=⟨eP,_,none⟩) (by first | exact Kd.dn (Kd.iZ fU.out bK.out (by decide)) | (rw [add_block];exact Kd.dn (Kd.iZ fU.out bK.out (by decide))) | (show (Addr.add _ _).block≠_;rw [add_block];exact Kd.dn (Kd.iZ fU.out bK.out (by decide))) | (dsimp only;exact Kd.dn (Kd.iZ fU.out bK.out (by decide)))) _).trans (((cell_far (p:=⟨eP,_,none⟩) (by first | exact Kd.dn (Kd.iZ fU.out bK.out (by decide)) | (rw [add_block];exact Kd.dn (Kd.iZ fU.out bK.out (by decide))) | (show (Addr.add _ _).block≠_;rw [add_block];exact Kd.dn (Kd.iZ fU.out bK.out (by decide))) | (dsimp only;exact Kd.dn (Kd.iZ fU.out bK.out (by decide)))) _).trans (((cell_far (p:=⟨eP,_,none⟩) (by first | exact Kd.dn (Kd.iZ fU.out bK.out (by decide)) | (rw [add_block];exact Kd.dn (Kd.iZ fU.out bK.out (by decide))) | (show (Addr.add _ _).block≠_;rw [add_block];exact Kd.dn (Kd.iZ fU.out bK.out (by decide))) | (dsimp only;exact Kd.dn (Kd.iZ fU.out bK.out (by decide)))) _).trans (hHeld.2))))))))))⟩ (fun hHeld=>?_);clear hK K;refine ZK (Nb xk.out (by kernel_rfl)) ?_;try go_wp2
     refine bodyPost_ret (results_cell_row rfl _ _ eP 82 #[.int .i64 3,.string (pq ByteArray.empty kI jr),.int .i64 (wrap64 (a1+((pq ByteArray.empty kI jr).size:Int))),.int .i64 0,.int .i64 0] (0,0) _ rfl (by (with_reducible repeat (first | refine aH ?_ _ | refine aU ?_ | refine aN ?_ _));refine aW (cs:=#[.int .i64 3,.string (pq ByteArray.empty kI jr),.int .i64 (wrap64 (a1+((pq ByteArray.empty kI jr).size:Int))),.int .i64 0,.int .i64 fI]) ?_ 4 _ rfl;(with_reducible repeat (first | refine aH ?_ _ | refine aU ?_ | refine aN ?_ _));refine aW (cs:=#[.int .i64 3,.string (pq ByteArray.empty kI jr),.int .i64 (wrap64 (a1+((pq ByteArray.empty kI jr).size:Int))),.int .i64 gL,.int .i64 fI]) ?_ 3 _ rfl;(with_reducible repeat (first | refine aH ?_ _ | refine aU ?_ | refine aN ?_ _));refine aW (cs:=#[.int .i64 3,.string (pq ByteArray.empty kI jr),.int .i64 iK,.int .i64 gL,.int .i64 fI]) ?_ 2 _ rfl;(with_reducible repeat (first | refine aH ?_ _ | refine aU ?_ | refine aN ?_ _));refine aW (cs:=#[.int .i64 3,.string jE,.int .i64 iK,.int .i64 gL,.int .i64 fI]) ?_ 1 _ rfl;(with_reducible repeat (first | refine aH ?_ _ | refine aU ?_ | refine aN ?_ _));refine aW (cs:=#[.int .i64 lD,.string jE,.int .i64 iK,.int .i64 gL,.int .i64 fI]) ?_ 0 _ rfl;(with_reducible repeat (first | refine aH ?_ _ | refine aU ?_ | refine aN ?_ _));exact bK.out) Tryz.underlying82 rfl (by kernel_rfl)) rfl ?_;exact ⟨by first | rfl | (simp [aJ,aK]<;>rfl) | (simp [*,aJ,aK]<;>rfl),by with_reducible repeat (first | exact HB.out | apply av | apply ak | apply ay | refine bf ?_ pV.out)⟩
end Go.Proofs.YtkkpjonfaflkmaaGreatDoor.T
namespace Go.Proofs.YtkkpjonfaflkmaaGreatDoor.T
open Go.RowKit Go.Proofs.aj.aI Go.Proofs.aj.aY Go.Proofs.aj.bq
def Qn (kd p ln:Nat):S.TR->Int × ByteArray × Int × Int × Int
 | .err c=>(0,⟨#[]⟩,0,(c:Int),(ln:Int))
 | .ok t n=>((kd:Nat),strOfNums t,((p+n:Nat):Int),0,0)
theorem TV (a0:ByteArray) (hs:a0.size<=100000) (p ln:Nat) (hp:p<=a0.size) (k:Nat) (hk:3*a0.size+10 < k):eO.f k a0 (p:Int) (ln:Int)=some (Qn 1 p ln (S.iH ((bytesOf a0).drop p))):=by
 unfold eO.f;rw [if_pos ⟨by omega,by omega,hs⟩,Int.toNat_natCast];congr 1
 unfold abL S.iH;rw [Nat.add_sub_cancel_left];by_cases h:40 < S.dH ((bytesOf a0).drop p)
 ·rw [if_pos h,if_pos h];rfl
 rw [if_neg h,if_neg h];unfold ZU;rw [gP,Nat.add_sub_cancel_left];rfl
theorem tK (a0 x:ByteArray) (i:Nat) (hi:i<=a0.size) (h1:a0.size<=100000) (h2:x.size<=1000):bC.f a0 (i:Int) x=some ((bytesOf x).isPrefixOf ((bytesOf a0).drop i)):=by
 have hw:wrap64 ((i:Int)+(x.size:Int))=((i+x.size:Nat):Int):=by unfold wrap64;omega
 have hxl:(bytesOf x).length=x.size:=bytesOf_length x;unfold bC.f;rw [hw];by_cases h:((i+x.size:Nat):Int) > (a0.size:Int)
 ·rw [if_pos h]
  have:(bytesOf x).isPrefixOf ((bytesOf a0).drop i)=false:=by
   cases hb:(bytesOf x).isPrefixOf ((bytesOf a0).drop i) with
   | false=>rfl
   | true =>
    have:=S.vK _ _ hb;have h3:(bytesOf a0).length=a0.size:=bytesOf_length a0;rw [List.length_drop] at this;omega
  rw [this]
 rw [if_neg h,if_pos (by omega),if_pos (by omega),if_pos (by omega)];congr 1
 have e1:((a0.extract ((i:Int)).toNat (((i+x.size:Nat):Int)).toNat).toList==x.toList)=decide (((bytesOf a0).drop i).take x.size=bytesOf x):=by
  rw [str_eq,gP,Lib.toList_data,<- gY];rw [show ((i:Int)).toNat=i from rfl,show (((i+x.size:Nat):Int)).toNat=i+x.size from rfl,Nat.add_sub_cancel_left]
 rw [e1];cases hb:(bytesOf x).isPrefixOf ((bytesOf a0).drop i) with
 | true =>
  refine decide_eq_true ?_;have:=S.oG _ _ hb;rw [this,List.take_left' hxl]
 | false =>
  refine decide_eq_false fun e=>?_
  have hp:(bytesOf x).isPrefixOf ((bytesOf a0).drop i)=true:=by
   rw [<- List.take_append_drop x.size ((bytesOf a0).drop i),e];exact S.BM _ _ _ (S.zF _)
  rw [hb] at hp;cases hp
theorem Qo:(fT.f).map (fun l=>l.map bytesOf)=some S.signs:=by decide +kernel
theorem JG (a0:ByteArray) (hs:a0.size<=100000) (p ln:Nat) (hp:p<=a0.size) (L:List ByteArray) (hL:L.map bytesOf=S.signs):∀ (m k j:Nat),j+m=L.length->m < k ->
  aV.l0 k a0 (p:Int) (ln:Int) L (j:Int)=some (Qn 3 p ln (match (S.signs.drop j).find? (fun x=>x.isPrefixOf ((bytesOf a0).drop p)) with
   | none=>.err 13
   | some x=>.ok x x.length))
 | 0,k,j,h,hk=>by
  obtain ⟨k,rfl⟩:∃ k',k=k'+1:=⟨k - 1,by omega⟩;have hll:S.signs.length=L.length:=by rw [<- hL,List.length_map]
  have hd:S.signs.drop j=[]:=List.drop_of_length_le (by omega);rw [aV.l0,if_neg (by omega),hd];rfl
 | m+1,k,j,h,hk=>by
  obtain ⟨k,rfl⟩:∃ k',k=k'+1:=⟨k - 1,by omega⟩;have hll:S.signs.length=L.length:=by rw [<- hL,List.length_map]
  have h35:S.signs.length=35:=rfl;have hj:j < L.length:=by omega
  have hrd:pq ByteArray.empty L (j:Int)=L[j]:=by
   unfold pq;rw [Int.toNat_natCast,List.getD_eq_getElem?_getD,List.getElem?_eq_getElem hj];rfl
  have hsj:S.signs.drop j=bytesOf L[j]::S.signs.drop (j+1):=by
   rw [List.drop_eq_getElem_cons (by omega)];congr 1
   have:(L.map bytesOf)[j]?=S.signs[j]?:=by rw [hL]
   rw [List.getElem?_map,List.getElem?_eq_getElem hj,List.getElem?_eq_getElem (by omega)] at this;exact (Option.some.inj this).symm
  have hmem:bytesOf L[j]∈S.signs:=by
   rw [<- hL];exact List.mem_map_of_mem (List.getElem_mem hj)
  have hlen:=S.Qi _ hmem;rw [bytesOf_length] at hlen;rw [aV.l0,if_pos (by omega),if_pos (by omega),hrd,tK a0 L[j] p hp hs (by omega),Option.bind_some,hsj];by_cases hpx:(bytesOf L[j]).isPrefixOf ((bytesOf a0).drop p)=true
  ·rw [if_pos hpx,List.find?_cons_of_pos (p:=fun x:List Int=>x.isPrefixOf ((bytesOf a0).drop p)) hpx]
   simp only [Qn];have hw:wrap64 ((p:Int)+((L[j]).size:Int))=((p+(L[j]).size:Nat):Int):=by unfold wrap64;omega
   rw [hw,bytesOf_length,yJ];rfl
  rw [if_neg hpx,List.find?_cons_of_neg (p:=fun x:List Int=>x.isPrefixOf ((bytesOf a0).drop p)) hpx,yI (by omega)];exact JG a0 hs p ln hp L hL m k (j+1) (by omega) (by omega)
end Go.Proofs.YtkkpjonfaflkmaaGreatDoor.T
