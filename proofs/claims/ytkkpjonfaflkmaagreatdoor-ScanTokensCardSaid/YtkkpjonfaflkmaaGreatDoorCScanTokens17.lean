/- For ScanTokens: its callees return what is said of them. -/
import Derived.Test.YtkkpjonfaflkmaaGreatDoorCScanTokens16
import Derived.Test.YtkkpjonfaflkmaaGreatDoorCScanTokens12
namespace Go.Proofs.YtkkpjonfaflkmaaGreatDoor.T
open Go.RowKit Go.Proofs.ah.aT Go.Proofs.ah.bn Go.Proofs.ah.bA
set_option linter.unusedSimpArgs false
set_option linter.unusedVariables false
attribute [local go_sem] fB fC gI gJ eD eF fD fE   -- for this text's walks alone
mutual
def aK.j1:Nat->ByteArray->Int->Int->Int->Option (Int × ByteArray × Int × Int × Int)
 | 0,_,_,_,_=>none
 | k+1,x0,x1,x2,x7=>if 0<=x1 then (if x1<=x7 then (if x7<=(x0.size:Int) then ((aY.f k (x0.extract (x1:Int).toNat (x7:Int).toNat)).bind fun t162=>(if t162=true then (if (wrap64 (x7+1)) < (x0.size:Int) then (if 0<=x7 then (if x7 < (x0.size:Int) then (if (bt x0 x7)=43 then (if 0<=(wrap64 (x7+1)) then ((bB.f (bt x0 (wrap64 (x7+1)))).bind fun Fu=>(aK.j2 k x0 x1 x2 x7 Fu)) else (none)) else (if (bt x0 x7)=45 then (if 0<=(wrap64 (x7+1)) then ((bB.f (bt x0 (wrap64 (x7+1)))).bind fun t164=>(aK.j2 k x0 x1 x2 x7 t164)) else (none)) else (aK.j2 k x0 x1 x2 x7 false))) else (none)) else (none)) else (aK.j2 k x0 x1 x2 x7 false)) else (aK.j2 k x0 x1 x2 x7 false))) else (none)) else (none)) else (none)
def aK.j2:Nat->ByteArray->Int->Int->Int->Bool->Option (Int × ByteArray × Int × Int × Int)
 | 0,_,_,_,_,_=>none
 | k+1,x0,x1,x2,x7,x51=>if x51=true then (aK.l1 k x0 x1 x2 (wrap64 (x7+1))) else (if (wrap64 (x7 - x1)) > 40 then (some (0,(⟨#[]⟩:ByteArray),0,30,x2)) else (if 0<=x1 then (if x1<=x7 then (if x7<=(x0.size:Int) then ((dU.f (x0.extract (x1:Int).toNat (x7:Int).toNat)).bind fun t168=>(some (1,t168,x7,0,0))) else (none)) else (none)) else (none)))
def aK.l1:Nat->ByteArray->Int->Int->Int->Option (Int × ByteArray × Int × Int × Int)
 | 0,_,_,_,_=>none
 | k+1,x0,x1,x2,x7=>if x7 < (x0.size:Int) then (if 0<=x7 then ((bB.f (bt x0 x7)).bind fun UE=>(if UE=true then (aK.l1 k x0 x1 x2 (wrap64 (x7+1))) else (if (wrap64 (x7 - x1)) > 40 then (some (0,(⟨#[]⟩:ByteArray),0,30,x2)) else (if 0<=x1 then (if x1<=x7 then (if x7<=(x0.size:Int) then ((dU.f (x0.extract (x1:Int).toNat (x7:Int).toNat)).bind fun Dm=>(some (1,Dm,x7,0,0))) else (none)) else (none)) else (none))))) else (none)) else (if (wrap64 (x7 - x1)) > 40 then (some (0,(⟨#[]⟩:ByteArray),0,30,x2)) else (if 0<=x1 then (if x1<=x7 then (if x7<=(x0.size:Int) then ((dU.f (x0.extract (x1:Int).toNat (x7:Int).toNat)).bind fun t167=>(some (1,t167,x7,0,0))) else (none)) else (none)) else (none)))
def aK.l0:Nat->ByteArray->Int->Int->Int->Option (Int × ByteArray × Int × Int × Int)
 | 0,_,_,_,_=>none
 | k+1,x0,x1,x2,x7=>if x7 < (x0.size:Int) then (if 0<=x7 then ((bF.f (bt x0 x7)).bind fun UF=>(if UF=true then (aK.l0 k x0 x1 x2 (wrap64 (x7+1))) else (aK.j1 k x0 x1 x2 x7))) else (none)) else (aK.j1 k x0 x1 x2 x7)
end
def aK.f (k:Nat) (a0:ByteArray) (a1:Int) (a2:Int):Option (Int × ByteArray × Int × Int × Int):=aK.l0 k a0 a1 a2 a1
set_option maxHeartbeats 8000000 in
set_option maxRecDepth 100000 in
theorem aK.calls (k:Nat) (a0:ByteArray) (a1:Int) (a2:Int) (r1:Int) (r2:ByteArray) (r3:Int) (r4:Int) (r5:Int) (w:World) (h:aK.f k a0 a1 a2=some (r1,r2,r3,r4,r5)) :
  Calls Tryz.prog 59 #[.string a0,.int .i64 a1,.int .i64 a2] w fun e w'=>e=.returned (.agg #[.int .i64 r1,.string r2,.int .i64 r3,.int .i64 r4,.int .i64 r5])/\Below w.heap.size w w':=by
 have Zl:=Tryz.underlying82;have HB:=aj.mk (Below.refl w.heap.size w);have H:(aK.l0 k a0 a1 a2 a1)=some (r1,r2,r3,r4,r5):=h;clear h;have Ig:=aj.mk H;clear H;go_enter Tryz.func59,Tryz.ntmps59
 go_upto_block 0 with (first | ((with_reducible refine jW (N:=6) rfl ?_);(try (refine pE (by rfl) ?_;dsimp only));refine jG ?hg (N:=6) ?hd (cs:=#[.int .i64 0,.string (⟨#[]⟩:ByteArray),.int .i64 0,.int .i64 0,.int .i64 0]) (t:=82) ?hr ?_;(case hd=>rfl);(case hg=>rfl);(case hr=>first | (go_simp;done) | (go_simp;rfl));intro fG hg w5 lM hb;have dW:=aj.mk (bH (by repeat (first | (with_reducible first | exact HB.out | apply ay | apply ak | apply aD) | exact HB.out)) hb);have fF:=aj.mk (lM);have jJ:=aj.mk ((by rw [hg];exact (bR (by repeat (first | (with_reducible first | exact HB.out | apply ay | apply ak | apply aD) | exact HB.out))):w.heap.size<=fG));have lZ:=aj.mk ((by rw [hg];exact (bR (by repeat (first | (with_reducible first | exact HB.out | apply ay | apply ak | apply aD) | exact HB.out))):w.heap.size<=fG));clear HB;have HB:=dW;have bU:=fF;have akG:=jJ;have lG:=lZ;clear dW fF jJ lZ;clear hb lM hg))
 (try simp only [Act.put,List.setIfInBounds_toArray,List.set_cons_zero,List.set_cons_succ])
 go_cut [7] (fun v7 wc=>∃ (kq:Nat) (bX:Int),v7=.int .i64 bX/\aj (aK.j1 kq a0 a1 a2 bX=some (r1,r2,r3,r4,r5))/\aj (kq<=k)/\aj (wc.heap[fG]?=some (.cells #[.int .i64 0,.string (⟨#[]⟩:ByteArray),.int .i64 0,.int .i64 0,.int .i64 0] 82 (0,0)))/\aj (Below w.heap.size w wc))
 case first =>
  have H:=Ig.out;clear Ig;have H':=aj.mk H;clear H;go_wp2;go_loopg [7] k (fun kq v7 w'=>∃ (iC:Int),v7=.int .i64 iC/\aj (aK.l0 kq a0 a1 a2 iC=some (r1,r2,r3,r4,r5))/\aj (kq<=k)/\aj (w'.heap[fG]?=some (.cells #[.int .i64 0,.string (⟨#[]⟩:ByteArray),.int .i64 0,.int .i64 0,.int .i64 0] 82 (0,0)))/\aj (Below w.heap.size w w'))
  case atStart=>exact ⟨(a1),(by first | rfl | (simp;done) | (simp [*];done)),H',⟨Nat.le_refl _⟩,⟨by (with_reducible repeat (first | refine aH ?_ _ | refine aI ?_ | refine aG ?_ _));exact bU.out⟩,⟨by repeat (first | (with_reducible first | exact HB.out | apply ay | apply ak | apply aD | refine aQ ?_ lG.out) | exact HB.out)⟩⟩
  case round =>
   clear H';obtain ⟨iC,rfl,HA,jQ,bU,HB⟩:=hrel;cases gk with
   | zero=>exact absurd HA.out (by simp [aK.l0])
   | succ k1 =>
    have H:=HA.out;clear HA;simp only [aK.l0] at H;by_cases c6:iC < (a0.size:Int)
    rotate_left
    ·rw [if_neg c6] at H
     have kP:decide (iC < (a0.size:Int))=false:=decide_eq_false c6;clear c6
     (first | rw [kP] | (simp only [dx,dK];rw [kP]) | skip)
     have H':=aj.mk H;clear H;go_wp2;go_meet
     case rel=>exact ⟨_,(iC),(by first | rfl | (simp;done) | (simp [*];done)),H',⟨by have:=jQ.out;first | omega | exact Nat.le_refl _⟩,⟨by (with_reducible repeat (first | refine aH ?_ _ | refine aI ?_ | refine aG ?_ _));exact bU.out⟩,⟨by repeat (first | (with_reducible first | exact HB.out | apply ay | apply ak | apply aD | refine aQ ?_ lG.out) | exact HB.out)⟩⟩
    rw [if_pos c6] at H;have kP:decide (iC < (a0.size:Int))=true:=decide_eq_true c6;clear c6
    (first | rw [kP] | (simp only [dx,dK];rw [kP]) | skip)
    by_cases c7:0<=iC
    rotate_left
    ·rw [if_neg c7] at H
     exact absurd H (by simp)
    rw [if_pos c7] at H;have sI:decide (0<=iC)=true:=decide_eq_true c7;clear c7;replace H:=Option.bind_eq_some_iff.mp H;obtain ⟨UF,Qb,H⟩:=H;replace H:(if UF=true then (aK.l0 k1 a0 a1 a2 (wrap64 (iC+1))) else (aK.j1 k1 a0 a1 a2 iC))=some (r1,r2,r3,r4,r5):=H;have A9:=aj.mk Qb;clear Qb;by_cases c10:UF=true
    ·subst c10
     rw [if_pos rfl] at H;have H':=aj.mk H;clear H;have p8:0<=(iC:Int):=of_decide_eq_true (by first | (with_reducible assumption) | assumption);have q8:iC < (a0.size:Int):=of_decide_eq_true (by first | (with_reducible assumption) | assumption);have hx8:=bY a0 iC;replace p8:=eq_true p8;replace q8:=eq_true q8;go_wp2_with (first | (go_at_call 58;(with_reducible refine (bF.calls (bt a0 iC) true _ A9.out).mono ?_);rintro e w' ⟨rfl,⟨nd,rfl⟩⟩))
     go_roundg k1
     case measure=>have:=jQ.out;omega
     case rel=>exact ⟨(wrap64 (iC+1)),(by first | rfl | (simp;done) | (simp [*];done)),H',⟨by have:=jQ.out;omega⟩,⟨by (with_reducible repeat (first | refine aH ?_ _ | refine aI ?_ | refine aG ?_ _));exact bU.out⟩,⟨by repeat (first | (with_reducible first | exact HB.out | apply ay | apply ak | apply aD | refine aQ ?_ lG.out) | exact HB.out)⟩⟩
    replace c10:=Bool.eq_false_iff.mpr c10;subst c10;rw [if_neg (show ¬ (false=true) by decide)] at H;have H':=aj.mk H;clear H;have p8:0<=(iC:Int):=of_decide_eq_true (by first | (with_reducible assumption) | assumption);have q8:iC < (a0.size:Int):=of_decide_eq_true (by first | (with_reducible assumption) | assumption);have hx8:=bY a0 iC;replace p8:=eq_true p8;replace q8:=eq_true q8;go_wp2_with (first | (go_at_call 58;(with_reducible refine (bF.calls (bt a0 iC) false _ A9.out).mono ?_);rintro e w' ⟨rfl,⟨nd,rfl⟩⟩))
    go_meet
    case rel=>exact ⟨_,(iC),(by first | rfl | (simp;done) | (simp [*];done)),H',⟨by have:=jQ.out;first | omega | exact Nat.le_refl _⟩,⟨by (with_reducible repeat (first | refine aH ?_ _ | refine aI ?_ | refine aG ?_ _));exact bU.out⟩,⟨by repeat (first | (with_reducible first | exact HB.out | apply ay | apply ak | apply aD | refine aQ ?_ lG.out) | exact HB.out)⟩⟩
 case rest =>
  clear Ig;obtain ⟨kq,bX,rfl,HA,Jw,bU,HB⟩:=hcut;cases kq with
  | zero=>exact absurd HA.out (by simp [aK.j1])
  | succ yY =>
   have H:=HA.out;clear HA;simp only [aK.j1] at H;have Zm:=aj.mk H;clear H;go_upto_region 4 with (fail)
   go_cut [51] (fun v51 wc=>∃ (kq:Nat) (Fv:Bool),v51=.bool Fv/\aj (aK.j2 kq a0 a1 a2 bX Fv=some (r1,r2,r3,r4,r5))/\aj (kq<=yY)/\aj (wc.heap[fG]?=some (.cells #[.int .i64 0,.string (⟨#[]⟩:ByteArray),.int .i64 0,.int .i64 0,.int .i64 0] 82 (0,0)))/\aj (Below w.heap.size w wc))
   case first =>
    have H:=Zm.out;clear Zm;by_cases c12:0<=a1
    rotate_left
    ·rw [if_neg c12] at H
     exact absurd H (by simp)
    rw [if_pos c12] at H;have Xm:=eq_true c12;have akH:decide (0<=a1)=true:=decide_eq_true c12;clear c12;by_cases c13:a1<=bX
    rotate_left
    ·rw [if_neg c13] at H
     exact absurd H (by simp)
    rw [if_pos c13] at H;have DV:=eq_true c13;have Xp:decide (a1<=bX)=true:=decide_eq_true c13;clear c13;by_cases c14:bX<=(a0.size:Int)
    rotate_left
    ·rw [if_neg c14] at H
     exact absurd H (by simp)
    rw [if_pos c14] at H;have Bq:=eq_true c14;have Xq:decide (bX<=(a0.size:Int))=true:=decide_eq_true c14;clear c14;replace H:=Option.bind_eq_some_iff.mp H;obtain ⟨t162,QU,H⟩:=H;replace H:(if t162=true then (if (wrap64 (bX+1)) < (a0.size:Int) then (if 0<=bX then (if bX < (a0.size:Int) then (if (bt a0 bX)=43 then (if 0<=(wrap64 (bX+1)) then ((bB.f (bt a0 (wrap64 (bX+1)))).bind fun Fu=>(aK.j2 yY a0 a1 a2 bX Fu)) else (none)) else (if (bt a0 bX)=45 then (if 0<=(wrap64 (bX+1)) then ((bB.f (bt a0 (wrap64 (bX+1)))).bind fun t164=>(aK.j2 yY a0 a1 a2 bX t164)) else (none)) else (aK.j2 yY a0 a1 a2 bX false))) else (none)) else (none)) else (aK.j2 yY a0 a1 a2 bX false)) else (aK.j2 yY a0 a1 a2 bX false))=some (r1,r2,r3,r4,r5):=H;have QV:=aj.mk QU;clear QU;by_cases c16:t162=true
    rotate_left
    ·replace c16:=Bool.eq_false_iff.mpr c16
     subst c16;rw [if_neg (show ¬ (false=true) by decide)] at H;have H':=aj.mk H;clear H;go_wp2_with (first | ((with_reducible refine bg (f:=100) rfl ?_);refine cO (some 25) rfl rfl Tryz.func100 (by kernel_rfl) rfl #[.string (a0.extract (a1:Int).toNat (bX:Int).toNat)] rfl (by (try simp only [List.map_toArray,List.map_cons,List.map_nil]);first | done | rfl | (simp only [List.length_drop,List.length_take];rfl)) ?_;(with_reducible refine (aY.calls yY (a0.extract (a1:Int).toNat (bX:Int).toNat) false _ QV.out).mono ?_);rintro e w' ⟨rfl,⟨nd,rfl⟩⟩;refine ⟨_,rfl,?_⟩))
     go_meet
     case rel=>exact ⟨_,(false),(by first | rfl | (simp;done) | (simp [*];done)),H',⟨by have:=Jw.out;first | omega | exact Nat.le_refl _⟩,⟨by (with_reducible repeat (first | refine aH ?_ _ | refine aI ?_ | refine aG ?_ _));exact bU.out⟩,⟨by repeat (first | (with_reducible first | exact HB.out | apply ay | apply ak | apply aD | refine aQ ?_ lG.out) | exact HB.out)⟩⟩
    subst c16;rw [if_pos rfl] at H;by_cases c17:(wrap64 (bX+1)) < (a0.size:Int)
    rotate_left
    ·rw [if_neg c17] at H
     have rG:decide ((wrap64 (bX+1)) < (a0.size:Int))=false:=decide_eq_false c17;clear c17
     (first | rw [rG] | (simp only [dx,dK];rw [rG]) | skip)
     have H':=aj.mk H;clear H;go_wp2_with (first | ((with_reducible refine bg (f:=100) rfl ?_);refine cO (some 25) rfl rfl Tryz.func100 (by kernel_rfl) rfl #[.string (a0.extract (a1:Int).toNat (bX:Int).toNat)] rfl (by (try simp only [List.map_toArray,List.map_cons,List.map_nil]);first | done | rfl | (simp only [List.length_drop,List.length_take];rfl)) ?_;(with_reducible refine (aY.calls yY (a0.extract (a1:Int).toNat (bX:Int).toNat) true _ QV.out).mono ?_);rintro e w' ⟨rfl,⟨nd,rfl⟩⟩;refine ⟨_,rfl,?_⟩))
     go_meet
     case rel=>exact ⟨_,(false),(by first | rfl | (simp;done) | (simp [*];done)),H',⟨by have:=Jw.out;first | omega | exact Nat.le_refl _⟩,⟨by (with_reducible repeat (first | refine aH ?_ _ | refine aI ?_ | refine aG ?_ _));exact bU.out⟩,⟨by repeat (first | (with_reducible first | exact HB.out | apply ay | apply ak | apply aD | refine aQ ?_ lG.out) | exact HB.out)⟩⟩
    rw [if_pos c17] at H;have rG:decide ((wrap64 (bX+1)) < (a0.size:Int))=true:=decide_eq_true c17;clear c17
    (first | rw [rG] | (simp only [dx,dK];rw [rG]) | skip)
    by_cases c18:0<=bX
    rotate_left
    ·rw [if_neg c18] at H
     exact absurd H (by simp)
    rw [if_pos c18] at H;have yg:decide (0<=bX)=true:=decide_eq_true c18;clear c18;by_cases c19:bX < (a0.size:Int)
    rotate_left
    ·rw [if_neg c19] at H
     exact absurd H (by simp)
    rw [if_pos c19] at H;have DU:decide (bX < (a0.size:Int))=true:=decide_eq_true c19;clear c19;by_cases c21:(bt a0 bX)=43
    ·rw [if_pos c21] at H
     have vP:((bt a0 bX)==43)=true:=beq_iff_eq.mpr c21;have QZ:((bt a0 bX) != 43)=false:=bne_eq_false_iff_eq.mpr c21;clear c21;obtain ⟨sU,uw⟩:∃ j_:Int,(wrap64 (bX+1))=j_:=⟨_,rfl⟩;replace H:(if 0<=(sU) then ((bB.f (bt a0 (sU))).bind fun Fu=>(aK.j2 yY a0 a1 a2 bX Fu)) else (none))=some (r1,r2,r3,r4,r5):=by first | (rw [uw] at H;exact H) | (simp only [uw] at H |-;exact H)
     (try rw [uw] at rG)
     (try rw [uw] at QV)
     have Zn:(IntKind.i64.wrap (bX+1))=sU:=(dx _).trans uw;by_cases c23:0<=(sU)
     rotate_left
     ·rw [if_neg c23] at H
      exact absurd H (by simp)
     rw [if_pos c23] at H;have Ra:decide (0<=(sU))=true:=decide_eq_true c23;clear c23;replace H:=Option.bind_eq_some_iff.mp H;obtain ⟨Fu,abZ,H⟩:=H;replace H:(aK.j2 yY a0 a1 a2 bX Fu)=some (r1,r2,r3,r4,r5):=H;have A25:=aj.mk abZ;clear abZ;have H':=aj.mk H;clear H;go_wp2_with (first | ((with_reducible refine bg (f:=100) rfl ?_);refine cO (some 25) rfl rfl Tryz.func100 (by kernel_rfl) rfl #[.string (a0.extract (a1:Int).toNat (bX:Int).toNat)] rfl (by (try simp only [List.map_toArray,List.map_cons,List.map_nil]);first | done | rfl | (simp only [List.length_drop,List.length_take];rfl)) ?_;(with_reducible refine (aY.calls yY (a0.extract (a1:Int).toNat (bX:Int).toNat) true _ QV.out).mono ?_);rintro e w' ⟨rfl,⟨nd,rfl⟩⟩;refine ⟨_,rfl,?_⟩;have Ih:0<=(bX:Int):=of_decide_eq_true (by first | (with_reducible assumption) | assumption);have Ii:bX < (a0.size:Int):=of_decide_eq_true (by first | (with_reducible assumption) | assumption);have Rb:=bY a0 bX;replace Ih:=eq_true Ih;replace Ii:=eq_true Ii;have p24:0<=((sU):Int):=of_decide_eq_true (by first | (with_reducible assumption) | assumption);have q24:(sU) < (a0.size:Int):=of_decide_eq_true (by first | (with_reducible assumption) | assumption);have hx24:=bY a0 (sU);replace p24:=eq_true p24;replace q24:=eq_true q24) | (go_at_call 60;(with_reducible refine (bB.calls (bt a0 (sU)) Fu _ A25.out).mono ?_);rintro e w' ⟨rfl,⟨nd,rfl⟩⟩))
     go_meet
     case rel=>exact ⟨_,(Fu),(by first | rfl | (simp;done) | (simp [*];done)),H',⟨by have:=Jw.out;first | omega | exact Nat.le_refl _⟩,⟨by (with_reducible repeat (first | refine aH ?_ _ | refine aI ?_ | refine aG ?_ _));exact bU.out⟩,⟨by repeat (first | (with_reducible first | exact HB.out | apply ay | apply ak | apply aD | refine aQ ?_ lG.out) | exact HB.out)⟩⟩
    rw [if_neg c21] at H;have vP:((bt a0 bX)==43)=false:=beq_eq_false_iff_ne.mpr c21;have QZ:((bt a0 bX) != 43)=true:=bne_iff_ne.mpr c21;by_cases Zo:(bt a0 bX)=45
    rotate_left
    ·rw [if_neg Zo] at H
     have acd:((bt a0 bX)==45)=false:=beq_eq_false_iff_ne.mpr Zo;have ace:((bt a0 bX) != 45)=true:=bne_iff_ne.mpr Zo;have H':=aj.mk H;clear H;go_wp2_with (first | ((with_reducible refine bg (f:=100) rfl ?_);refine cO (some 25) rfl rfl Tryz.func100 (by kernel_rfl) rfl #[.string (a0.extract (a1:Int).toNat (bX:Int).toNat)] rfl (by (try simp only [List.map_toArray,List.map_cons,List.map_nil]);first | done | rfl | (simp only [List.length_drop,List.length_take];rfl)) ?_;(with_reducible refine (aY.calls yY (a0.extract (a1:Int).toNat (bX:Int).toNat) true _ QV.out).mono ?_);rintro e w' ⟨rfl,⟨nd,rfl⟩⟩;refine ⟨_,rfl,?_⟩;have Ih:0<=(bX:Int):=of_decide_eq_true (by first | (with_reducible assumption) | assumption);have Ii:bX < (a0.size:Int):=of_decide_eq_true (by first | (with_reducible assumption) | assumption);have Rb:=bY a0 bX;replace Ih:=eq_true Ih;replace Ii:=eq_true Ii;have p26:0<=(bX:Int):=of_decide_eq_true (by first | (with_reducible assumption) | assumption);have q26:bX < (a0.size:Int):=of_decide_eq_true (by first | (with_reducible assumption) | assumption);have ajm:=bY a0 bX;replace p26:=eq_true p26;replace q26:=eq_true q26))
     go_meet
     case rel=>exact ⟨_,(false),(by first | rfl | (simp;done) | (simp [*];done)),H',⟨by have:=Jw.out;first | omega | exact Nat.le_refl _⟩,⟨by (with_reducible repeat (first | refine aH ?_ _ | refine aI ?_ | refine aG ?_ _));exact bU.out⟩,⟨by repeat (first | (with_reducible first | exact HB.out | apply ay | apply ak | apply aD | refine aQ ?_ lG.out) | exact HB.out)⟩⟩
    rw [if_pos Zo] at H;have acd:((bt a0 bX)==45)=true:=beq_iff_eq.mpr Zo;have ace:((bt a0 bX) != 45)=false:=bne_eq_false_iff_eq.mpr Zo;clear Zo;obtain ⟨Fw,Ij⟩:∃ j_:Int,(wrap64 (bX+1))=j_:=⟨_,rfl⟩;replace H:(if 0<=(Fw) then ((bB.f (bt a0 (Fw))).bind fun t164=>(aK.j2 yY a0 a1 a2 bX t164)) else (none))=some (r1,r2,r3,r4,r5):=by first | (rw [Ij] at H;exact H) | (simp only [Ij] at H |-;exact H)
    (try rw [Ij] at rG)
    (try rw [Ij] at QV)
    have ajn:(IntKind.i64.wrap (bX+1))=Fw:=(dx _).trans Ij;by_cases UG:0<=(Fw)
    rotate_left
    ·rw [if_neg UG] at H
     exact absurd H (by simp)
    rw [if_pos UG] at H;have acf:decide (0<=(Fw))=true:=decide_eq_true UG;clear UG;replace H:=Option.bind_eq_some_iff.mp H;obtain ⟨t164,acg,H⟩:=H;replace H:(aK.j2 yY a0 a1 a2 bX t164)=some (r1,r2,r3,r4,r5):=H;have A31:=aj.mk acg;clear acg;have H':=aj.mk H;clear H;go_wp2_with (first | ((with_reducible refine bg (f:=100) rfl ?_);refine cO (some 25) rfl rfl Tryz.func100 (by kernel_rfl) rfl #[.string (a0.extract (a1:Int).toNat (bX:Int).toNat)] rfl (by (try simp only [List.map_toArray,List.map_cons,List.map_nil]);first | done | rfl | (simp only [List.length_drop,List.length_take];rfl)) ?_;(with_reducible refine (aY.calls yY (a0.extract (a1:Int).toNat (bX:Int).toNat) true _ QV.out).mono ?_);rintro e w' ⟨rfl,⟨nd,rfl⟩⟩;refine ⟨_,rfl,?_⟩;have Ih:0<=(bX:Int):=of_decide_eq_true (by first | (with_reducible assumption) | assumption);have Ii:bX < (a0.size:Int):=of_decide_eq_true (by first | (with_reducible assumption) | assumption);have Rb:=bY a0 bX;replace Ih:=eq_true Ih;replace Ii:=eq_true Ii;have p26:0<=(bX:Int):=of_decide_eq_true (by first | (with_reducible assumption) | assumption);have q26:bX < (a0.size:Int):=of_decide_eq_true (by first | (with_reducible assumption) | assumption);have ajm:=bY a0 bX;replace p26:=eq_true p26;replace q26:=eq_true q26;have p30:0<=((Fw):Int):=of_decide_eq_true (by first | (with_reducible assumption) | assumption);have Xr:(Fw) < (a0.size:Int):=of_decide_eq_true (by first | (with_reducible assumption) | assumption);have ach:=bY a0 (Fw);replace p30:=eq_true p30;replace Xr:=eq_true Xr) | (go_at_call 60;(with_reducible refine (bB.calls (bt a0 (Fw)) t164 _ A31.out).mono ?_);rintro e w' ⟨rfl,⟨nd,rfl⟩⟩))
    go_meet
    case rel=>exact ⟨_,(t164),(by first | rfl | (simp;done) | (simp [*];done)),H',⟨by have:=Jw.out;first | omega | exact Nat.le_refl _⟩,⟨by (with_reducible repeat (first | refine aH ?_ _ | refine aI ?_ | refine aG ?_ _));exact bU.out⟩,⟨by repeat (first | (with_reducible first | exact HB.out | apply ay | apply ak | apply aD | refine aQ ?_ lG.out) | exact HB.out)⟩⟩
   case rest =>
    clear Zm;obtain ⟨kq,Fv,rfl,HA,aci,bU,HB⟩:=hcut;cases kq with
    | zero=>exact absurd HA.out (by simp [aK.j2])
    | succ acj =>
     have H:=HA.out;clear HA;simp only [aK.j2] at H;by_cases c32:Fv=true
     rotate_left
     ·replace c32:=Bool.eq_false_iff.mpr c32
      subst c32;rw [if_neg (show ¬ (false=true) by decide)] at H;by_cases Mt:(wrap64 (bX - a1)) > 40
      ·rw [if_pos Mt] at H
       have Rf:decide (40 < (wrap64 (bX - a1)))=true:=decide_eq_true Mt;clear Mt;simp only [Option.some.injEq,Prod.mk.injEq] at H;obtain ⟨rfl,rfl,rfl,rfl,rfl⟩:=H;have aeE:wc.cell? ⟨fG,0,none⟩=some (.int .i64 0):=(au bU.out 0).trans rfl;have aeF:wc.cell? ⟨fG,1,none⟩=some (.string (⟨#[]⟩:ByteArray)):=(au bU.out 1).trans rfl;have aeG:wc.cell? ⟨fG,2,none⟩=some (.int .i64 0):=(au bU.out 2).trans rfl;have aeH:wc.cell? ⟨fG,3,none⟩=some (.int .i64 0):=(au bU.out 3).trans rfl;have aeI:wc.cell? ⟨fG,4,none⟩=some (.int .i64 0):=(au bU.out 4).trans rfl;have aeJ:=aA bU.out 0;have aeK:=aA bU.out 1;have aeL:=aA bU.out 2;have aeM:=aA bU.out 3;have aeN:=aA bU.out 4;go_wp2;refine bodyPost_ret (results_cell_row rfl _ _ fG 82 #[.int .i64 0,.string (⟨#[]⟩:ByteArray),.int .i64 0,.int .i64 30,.int .i64 a2] (0,0) _ rfl (by (with_reducible repeat (first | refine aH ?_ _ | refine aI ?_ | refine aG ?_ _));refine aR (cs:=#[.int .i64 0,.string (⟨#[]⟩:ByteArray),.int .i64 0,.int .i64 30,.int .i64 0]) ?_ 4 _ rfl;(with_reducible repeat (first | refine aH ?_ _ | refine aI ?_ | refine aG ?_ _));refine aR (cs:=#[.int .i64 0,.string (⟨#[]⟩:ByteArray),.int .i64 0,.int .i64 0,.int .i64 0]) ?_ 3 _ rfl;(with_reducible repeat (first | refine aH ?_ _ | refine aI ?_ | refine aG ?_ _));refine aR (cs:=#[.int .i64 0,.string (⟨#[]⟩:ByteArray),.int .i64 0,.int .i64 0,.int .i64 0]) ?_ 2 _ rfl;(with_reducible repeat (first | refine aH ?_ _ | refine aI ?_ | refine aG ?_ _));refine aR (cs:=#[.int .i64 0,.string (⟨#[]⟩:ByteArray),.int .i64 0,.int .i64 0,.int .i64 0]) ?_ 1 _ rfl;(with_reducible repeat (first | refine aH ?_ _ | refine aI ?_ | refine aG ?_ _));refine aR (cs:=#[.int .i64 0,.string (⟨#[]⟩:ByteArray),.int .i64 0,.int .i64 0,.int .i64 0]) ?_ 0 _ rfl;(with_reducible repeat (first | refine aH ?_ _ | refine aI ?_ | refine aG ?_ _));exact bU.out) Tryz.underlying82 rfl (by kernel_rfl)) rfl ?_;exact ⟨by first | rfl | (simp [aV,aW]<;>rfl) | (simp [*,aV,aW]<;>rfl),by repeat (first | (with_reducible first | exact HB.out | apply ay | apply ak | apply aD | refine aQ ?_ lG.out) | exact HB.out)⟩
      rw [if_neg Mt] at H;have Rf:decide (40 < (wrap64 (bX - a1)))=false:=decide_eq_false Mt;clear Mt;by_cases c56:0<=a1
      rotate_left
      ·rw [if_neg c56] at H
       exact absurd H (by simp)
      rw [if_pos c56] at H;have akI:=eq_true c56;have akJ:decide (0<=a1)=true:=decide_eq_true c56;clear c56;by_cases SB:a1<=bX
      rotate_left
      ·rw [if_neg SB] at H
       exact absurd H (by simp)
      rw [if_pos SB] at H;have acn:=eq_true SB;have akK:decide (a1<=bX)=true:=decide_eq_true SB;clear SB;by_cases SC:bX<=(a0.size:Int)
      rotate_left
      ·rw [if_neg SC] at H
       exact absurd H (by simp)
      rw [if_pos SC] at H;have aco:=eq_true SC;have akL:decide (bX<=(a0.size:Int))=true:=decide_eq_true SC;clear SC;replace H:=Option.bind_eq_some_iff.mp H;obtain ⟨t168,acp,H⟩:=H;replace H:(some (1,t168,bX,0,0))=some (r1,r2,r3,r4,r5):=H;have A59:=aj.mk acp;clear acp;simp only [Option.some.injEq,Prod.mk.injEq] at H;obtain ⟨rfl,rfl,rfl,rfl,rfl⟩:=H;go_wp2_with (first | ((with_reducible refine bg (f:=101) rfl ?_);refine cO (some 76) rfl rfl Tryz.func101 (by kernel_rfl) rfl #[.string (a0.extract (a1:Int).toNat (bX:Int).toNat)] rfl (by (try simp only [List.map_toArray,List.map_cons,List.map_nil]);first | done | rfl | (simp only [List.length_drop,List.length_take];rfl)) ?_;(with_reducible refine (dU.calls (a0.extract (a1:Int).toNat (bX:Int).toNat) t168 _ A59.out).mono ?_);rintro e w60 ⟨rfl,hb⟩;refine ⟨_,rfl,?_⟩;have dW:=aj.mk (fU (g:=fG) (o:=.cells #[.int .i64 0,.string (⟨#[]⟩:ByteArray),.int .i64 0,.int .i64 0,.int .i64 0] 82 (0,0)) (by (with_reducible repeat (first | refine aH ?_ _ | refine aI ?_ | refine aG ?_ _));exact bU.out) hb);have fF:=aj.mk (bH (by repeat (first | (with_reducible first | exact HB.out | apply ay | apply ak | apply aD | refine aQ ?_ lG.out) | exact HB.out)) hb);clear bU;clear HB;have bU:=dW;have HB:=fF;clear dW fF;(try clear hb);(try clear hb2);(try clear hk);(try clear hi);have aeO:w60.cell? ⟨fG,0,none⟩=some (.int .i64 0):=(au bU.out 0).trans rfl;have aeP:w60.cell? ⟨fG,1,none⟩=some (.string (⟨#[]⟩:ByteArray)):=(au bU.out 1).trans rfl;have aeQ:w60.cell? ⟨fG,2,none⟩=some (.int .i64 0):=(au bU.out 2).trans rfl;have aeR:w60.cell? ⟨fG,3,none⟩=some (.int .i64 0):=(au bU.out 3).trans rfl;have aeS:w60.cell? ⟨fG,4,none⟩=some (.int .i64 0):=(au bU.out 4).trans rfl;have aeT:=aA bU.out 0;have aeU:=aA bU.out 1;have aeV:=aA bU.out 2;have aeW:=aA bU.out 3;have aeX:=aA bU.out 4))
      refine bodyPost_ret (results_cell_row rfl _ _ fG 82 #[.int .i64 1,.string t168,.int .i64 bX,.int .i64 0,.int .i64 0] (0,0) _ rfl (by (with_reducible repeat (first | refine aH ?_ _ | refine aI ?_ | refine aG ?_ _));refine aR (cs:=#[.int .i64 1,.string t168,.int .i64 bX,.int .i64 0,.int .i64 0]) ?_ 4 _ rfl;(with_reducible repeat (first | refine aH ?_ _ | refine aI ?_ | refine aG ?_ _));refine aR (cs:=#[.int .i64 1,.string t168,.int .i64 bX,.int .i64 0,.int .i64 0]) ?_ 3 _ rfl;(with_reducible repeat (first | refine aH ?_ _ | refine aI ?_ | refine aG ?_ _));refine aR (cs:=#[.int .i64 1,.string t168,.int .i64 0,.int .i64 0,.int .i64 0]) ?_ 2 _ rfl;(with_reducible repeat (first | refine aH ?_ _ | refine aI ?_ | refine aG ?_ _));refine aR (cs:=#[.int .i64 1,.string (⟨#[]⟩:ByteArray),.int .i64 0,.int .i64 0,.int .i64 0]) ?_ 1 _ rfl;(with_reducible repeat (first | refine aH ?_ _ | refine aI ?_ | refine aG ?_ _));refine aR (cs:=#[.int .i64 0,.string (⟨#[]⟩:ByteArray),.int .i64 0,.int .i64 0,.int .i64 0]) ?_ 0 _ rfl;(with_reducible repeat (first | refine aH ?_ _ | refine aI ?_ | refine aG ?_ _));exact bU.out) Tryz.underlying82 rfl (by kernel_rfl)) rfl ?_;exact ⟨by first | rfl | (simp [aV,aW]<;>rfl) | (simp [*,aV,aW]<;>rfl),by repeat (first | (with_reducible first | exact HB.out | apply ay | apply ak | apply aD | refine aQ ?_ lG.out) | exact HB.out)⟩
     subst c32;rw [if_pos rfl] at H;have H':=aj.mk H;clear H;go_wp2;go_loopg [7] acj (fun kq v7 w'=>∃ (bX:Int),v7=.int .i64 bX/\aj (aK.l1 kq a0 a1 a2 bX=some (r1,r2,r3,r4,r5))/\aj (kq<=acj)/\aj (w'.heap[fG]?=some (.cells #[.int .i64 0,.string (⟨#[]⟩:ByteArray),.int .i64 0,.int .i64 0,.int .i64 0] 82 (0,0)))/\aj (Below w.heap.size w w'))
     case atStart=>exact ⟨(wrap64 (bX+1)),(by first | rfl | (simp;done) | (simp [*];done)),H',⟨Nat.le_refl _⟩,⟨by (with_reducible repeat (first | refine aH ?_ _ | refine aI ?_ | refine aG ?_ _));exact bU.out⟩,⟨by repeat (first | (with_reducible first | exact HB.out | apply ay | apply ak | apply aD | refine aQ ?_ lG.out) | exact HB.out)⟩⟩
     case round =>
      clear H';obtain ⟨bX,rfl,HA,HK3,bU,HB⟩:=hrel;cases gk with
      | zero=>exact absurd HA.out (by simp [aK.l1])
      | succ k3 =>
       have H:=HA.out;clear HA;simp only [aK.l1] at H;by_cases Rh:bX < (a0.size:Int)
       rotate_left
       ·rw [if_neg Rh] at H
        have acr:decide (bX < (a0.size:Int))=false:=decide_eq_false Rh;clear Rh;by_cases c46:(wrap64 (bX - a1)) > 40
        ·rw [if_pos c46] at H
         have Ri:decide (40 < (wrap64 (bX - a1)))=true:=decide_eq_true c46;clear c46;simp only [Option.some.injEq,Prod.mk.injEq] at H;obtain ⟨rfl,rfl,rfl,rfl,rfl⟩:=H;have aeY:wr.cell? ⟨fG,0,none⟩=some (.int .i64 0):=(au bU.out 0).trans rfl;have aeZ:wr.cell? ⟨fG,1,none⟩=some (.string (⟨#[]⟩:ByteArray)):=(au bU.out 1).trans rfl;have afa:wr.cell? ⟨fG,2,none⟩=some (.int .i64 0):=(au bU.out 2).trans rfl;have afb:wr.cell? ⟨fG,3,none⟩=some (.int .i64 0):=(au bU.out 3).trans rfl;have afc:wr.cell? ⟨fG,4,none⟩=some (.int .i64 0):=(au bU.out 4).trans rfl;have afd:=aA bU.out 0;have afe:=aA bU.out 1;have aff:=aA bU.out 2;have afg:=aA bU.out 3;have afh:=aA bU.out 4;go_wp2;refine bodyPost_ret (results_cell_row rfl _ _ fG 82 #[.int .i64 0,.string (⟨#[]⟩:ByteArray),.int .i64 0,.int .i64 30,.int .i64 a2] (0,0) _ rfl (by (with_reducible repeat (first | refine aH ?_ _ | refine aI ?_ | refine aG ?_ _));refine aR (cs:=#[.int .i64 0,.string (⟨#[]⟩:ByteArray),.int .i64 0,.int .i64 30,.int .i64 0]) ?_ 4 _ rfl;(with_reducible repeat (first | refine aH ?_ _ | refine aI ?_ | refine aG ?_ _));refine aR (cs:=#[.int .i64 0,.string (⟨#[]⟩:ByteArray),.int .i64 0,.int .i64 0,.int .i64 0]) ?_ 3 _ rfl;(with_reducible repeat (first | refine aH ?_ _ | refine aI ?_ | refine aG ?_ _));refine aR (cs:=#[.int .i64 0,.string (⟨#[]⟩:ByteArray),.int .i64 0,.int .i64 0,.int .i64 0]) ?_ 2 _ rfl;(with_reducible repeat (first | refine aH ?_ _ | refine aI ?_ | refine aG ?_ _));refine aR (cs:=#[.int .i64 0,.string (⟨#[]⟩:ByteArray),.int .i64 0,.int .i64 0,.int .i64 0]) ?_ 1 _ rfl;(with_reducible repeat (first | refine aH ?_ _ | refine aI ?_ | refine aG ?_ _));refine aR (cs:=#[.int .i64 0,.string (⟨#[]⟩:ByteArray),.int .i64 0,.int .i64 0,.int .i64 0]) ?_ 0 _ rfl;(with_reducible repeat (first | refine aH ?_ _ | refine aI ?_ | refine aG ?_ _));exact bU.out) Tryz.underlying82 rfl (by kernel_rfl)) rfl ?_;exact ⟨by first | rfl | (simp [aV,aW]<;>rfl) | (simp [*,aV,aW]<;>rfl),by repeat (first | (with_reducible first | exact HB.out | apply ay | apply ak | apply aD | refine aQ ?_ lG.out) | exact HB.out)⟩
        rw [if_neg c46] at H;have Ri:decide (40 < (wrap64 (bX - a1)))=false:=decide_eq_false c46;clear c46;by_cases c48:0<=a1
        rotate_left
        ·rw [if_neg c48] at H
         exact absurd H (by simp)
        rw [if_pos c48] at H;have akM:=eq_true c48;have akN:decide (0<=a1)=true:=decide_eq_true c48;clear c48;by_cases c49:a1<=bX
        rotate_left
        ·rw [if_neg c49] at H
         exact absurd H (by simp)
        rw [if_pos c49] at H;have acs:=eq_true c49;have akO:decide (a1<=bX)=true:=decide_eq_true c49;clear c49;by_cases SE:bX<=(a0.size:Int)
        rotate_left
        ·rw [if_neg SE] at H
         exact absurd H (by simp)
        rw [if_pos SE] at H;have acu:=eq_true SE;have akP:decide (bX<=(a0.size:Int))=true:=decide_eq_true SE;clear SE;replace H:=Option.bind_eq_some_iff.mp H;obtain ⟨t167,acv,H⟩:=H;replace H:(some (1,t167,bX,0,0))=some (r1,r2,r3,r4,r5):=H;have A51:=aj.mk acv;clear acv;simp only [Option.some.injEq,Prod.mk.injEq] at H;obtain ⟨rfl,rfl,rfl,rfl,rfl⟩:=H;go_wp2_with (first | ((with_reducible refine bg (f:=101) rfl ?_);refine cO (some 76) rfl rfl Tryz.func101 (by kernel_rfl) rfl #[.string (a0.extract (a1:Int).toNat (bX:Int).toNat)] rfl (by (try simp only [List.map_toArray,List.map_cons,List.map_nil]);first | done | rfl | (simp only [List.length_drop,List.length_take];rfl)) ?_;(with_reducible refine (dU.calls (a0.extract (a1:Int).toNat (bX:Int).toNat) t167 _ A51.out).mono ?_);rintro e w52 ⟨rfl,hb⟩;refine ⟨_,rfl,?_⟩;have dW:=aj.mk (fU (g:=fG) (o:=.cells #[.int .i64 0,.string (⟨#[]⟩:ByteArray),.int .i64 0,.int .i64 0,.int .i64 0] 82 (0,0)) (by (with_reducible repeat (first | refine aH ?_ _ | refine aI ?_ | refine aG ?_ _));exact bU.out) hb);have fF:=aj.mk (bH (by repeat (first | (with_reducible first | exact HB.out | apply ay | apply ak | apply aD | refine aQ ?_ lG.out) | exact HB.out)) hb);clear bU;clear HB;have bU:=dW;have HB:=fF;clear dW fF;(try clear hb);(try clear hb2);(try clear hk);(try clear hi);have afi:w52.cell? ⟨fG,0,none⟩=some (.int .i64 0):=(au bU.out 0).trans rfl;have afj:w52.cell? ⟨fG,1,none⟩=some (.string (⟨#[]⟩:ByteArray)):=(au bU.out 1).trans rfl;have afk:w52.cell? ⟨fG,2,none⟩=some (.int .i64 0):=(au bU.out 2).trans rfl;have afl:w52.cell? ⟨fG,3,none⟩=some (.int .i64 0):=(au bU.out 3).trans rfl;have afm:w52.cell? ⟨fG,4,none⟩=some (.int .i64 0):=(au bU.out 4).trans rfl;have afn:=aA bU.out 0;have afo:=aA bU.out 1;have afp:=aA bU.out 2;have afq:=aA bU.out 3;have afr:=aA bU.out 4))
        refine bodyPost_ret (results_cell_row rfl _ _ fG 82 #[.int .i64 1,.string t167,.int .i64 bX,.int .i64 0,.int .i64 0] (0,0) _ rfl (by (with_reducible repeat (first | refine aH ?_ _ | refine aI ?_ | refine aG ?_ _));refine aR (cs:=#[.int .i64 1,.string t167,.int .i64 bX,.int .i64 0,.int .i64 0]) ?_ 4 _ rfl;(with_reducible repeat (first | refine aH ?_ _ | refine aI ?_ | refine aG ?_ _));refine aR (cs:=#[.int .i64 1,.string t167,.int .i64 bX,.int .i64 0,.int .i64 0]) ?_ 3 _ rfl;(with_reducible repeat (first | refine aH ?_ _ | refine aI ?_ | refine aG ?_ _));refine aR (cs:=#[.int .i64 1,.string t167,.int .i64 0,.int .i64 0,.int .i64 0]) ?_ 2 _ rfl;(with_reducible repeat (first | refine aH ?_ _ | refine aI ?_ | refine aG ?_ _));refine aR (cs:=#[.int .i64 1,.string (⟨#[]⟩:ByteArray),.int .i64 0,.int .i64 0,.int .i64 0]) ?_ 1 _ rfl;(with_reducible repeat (first | refine aH ?_ _ | refine aI ?_ | refine aG ?_ _));refine aR (cs:=#[.int .i64 0,.string (⟨#[]⟩:ByteArray),.int .i64 0,.int .i64 0,.int .i64 0]) ?_ 0 _ rfl;(with_reducible repeat (first | refine aH ?_ _ | refine aI ?_ | refine aG ?_ _));exact bU.out) Tryz.underlying82 rfl (by kernel_rfl)) rfl ?_;exact ⟨by first | rfl | (simp [aV,aW]<;>rfl) | (simp [*,aV,aW]<;>rfl),by repeat (first | (with_reducible first | exact HB.out | apply ay | apply ak | apply aD | refine aQ ?_ lG.out) | exact HB.out)⟩
       rw [if_pos Rh] at H;have acr:decide (bX < (a0.size:Int))=true:=decide_eq_true Rh;clear Rh;by_cases c34:0<=bX
       rotate_left
       ·rw [if_neg c34] at H
        exact absurd H (by simp)
       rw [if_pos c34] at H;have akQ:decide (0<=bX)=true:=decide_eq_true c34;clear c34;replace H:=Option.bind_eq_some_iff.mp H;obtain ⟨UE,acw,H⟩:=H;replace H:(if UE=true then (aK.l1 k3 a0 a1 a2 (wrap64 (bX+1))) else (if (wrap64 (bX - a1)) > 40 then (some (0,(⟨#[]⟩:ByteArray),0,30,a2)) else (if 0<=a1 then (if a1<=bX then (if bX<=(a0.size:Int) then ((dU.f (a0.extract (a1:Int).toNat (bX:Int).toNat)).bind fun Dm=>(some (1,Dm,bX,0,0))) else (none)) else (none)) else (none))))=some (r1,r2,r3,r4,r5):=H;have A36:=aj.mk acw;clear acw;by_cases c37:UE=true
       ·subst c37
        rw [if_pos rfl] at H;have H':=aj.mk H;clear H;have p35:0<=(bX:Int):=of_decide_eq_true (by first | (with_reducible assumption) | assumption);have Xt:bX < (a0.size:Int):=of_decide_eq_true (by first | (with_reducible assumption) | assumption);have acy:=bY a0 bX;replace p35:=eq_true p35;replace Xt:=eq_true Xt;go_wp2_with (first | (go_at_call 60;(with_reducible refine (bB.calls (bt a0 bX) true _ A36.out).mono ?_);rintro e w' ⟨rfl,⟨nd,rfl⟩⟩))
        go_roundg k3
        case measure=>have:=Jw.out;have:=aci.out;have:=HK3.out;omega
        case rel=>exact ⟨(wrap64 (bX+1)),(by first | rfl | (simp;done) | (simp [*];done)),H',⟨by have:=Jw.out;have:=aci.out;have:=HK3.out;omega⟩,⟨by (with_reducible repeat (first | refine aH ?_ _ | refine aI ?_ | refine aG ?_ _));exact bU.out⟩,⟨by repeat (first | (with_reducible first | exact HB.out | apply ay | apply ak | apply aD | refine aQ ?_ lG.out) | exact HB.out)⟩⟩
       replace c37:=Bool.eq_false_iff.mpr c37;subst c37;rw [if_neg (show ¬ (false=true) by decide)] at H;by_cases OW:(wrap64 (bX - a1)) > 40
       ·rw [if_pos OW] at H
        have Xu:decide (40 < (wrap64 (bX - a1)))=true:=decide_eq_true OW;clear OW;simp only [Option.some.injEq,Prod.mk.injEq] at H;obtain ⟨rfl,rfl,rfl,rfl,rfl⟩:=H;have p35:0<=(bX:Int):=of_decide_eq_true (by first | (with_reducible assumption) | assumption);have Xt:bX < (a0.size:Int):=of_decide_eq_true (by first | (with_reducible assumption) | assumption);have acy:=bY a0 bX;replace p35:=eq_true p35;replace Xt:=eq_true Xt;go_wp2_with (first | (go_at_call 60;(with_reducible refine (bB.calls (bt a0 bX) false _ A36.out).mono ?_);rintro e w' ⟨rfl,⟨nd,rfl⟩⟩;(try (rw [nH wr];generalize yI:World.drewN wr _=wr;have dW:aj (wr.heap[fG]?=some (.cells #[.int .i64 0,.string (⟨#[]⟩:ByteArray),.int .i64 0,.int .i64 0,.int .i64 0] 82 (0,0))):=⟨by rw [<- yI];exact (by (with_reducible repeat (first | refine aH ?_ _ | refine aI ?_ | refine aG ?_ _));exact bU.out)⟩;have fF:aj (Below w.heap.size w wr):=⟨by rw [<- yI];exact (by repeat (first | (with_reducible first | exact HB.out | apply ay | apply ak | apply aD | refine aQ ?_ lG.out) | exact HB.out))⟩;clear bU HB yI;have bU:=dW;have HB:=fF;clear dW fF));have afs:wr.cell? ⟨fG,0,none⟩=some (.int .i64 0):=(au bU.out 0).trans rfl;have aft:wr.cell? ⟨fG,1,none⟩=some (.string (⟨#[]⟩:ByteArray)):=(au bU.out 1).trans rfl;have afu:wr.cell? ⟨fG,2,none⟩=some (.int .i64 0):=(au bU.out 2).trans rfl;have afv:wr.cell? ⟨fG,3,none⟩=some (.int .i64 0):=(au bU.out 3).trans rfl;have afw:wr.cell? ⟨fG,4,none⟩=some (.int .i64 0):=(au bU.out 4).trans rfl;have afx:=aA bU.out 0;have afy:=aA bU.out 1;have afz:=aA bU.out 2;have afA:=aA bU.out 3;have afB:=aA bU.out 4))
        refine bodyPost_ret (results_cell_row rfl _ _ fG 82 #[.int .i64 0,.string (⟨#[]⟩:ByteArray),.int .i64 0,.int .i64 30,.int .i64 a2] (0,0) _ rfl (by (with_reducible repeat (first | refine aH ?_ _ | refine aI ?_ | refine aG ?_ _));refine aR (cs:=#[.int .i64 0,.string (⟨#[]⟩:ByteArray),.int .i64 0,.int .i64 30,.int .i64 0]) ?_ 4 _ rfl;(with_reducible repeat (first | refine aH ?_ _ | refine aI ?_ | refine aG ?_ _));refine aR (cs:=#[.int .i64 0,.string (⟨#[]⟩:ByteArray),.int .i64 0,.int .i64 0,.int .i64 0]) ?_ 3 _ rfl;(with_reducible repeat (first | refine aH ?_ _ | refine aI ?_ | refine aG ?_ _));refine aR (cs:=#[.int .i64 0,.string (⟨#[]⟩:ByteArray),.int .i64 0,.int .i64 0,.int .i64 0]) ?_ 2 _ rfl;(with_reducible repeat (first | refine aH ?_ _ | refine aI ?_ | refine aG ?_ _));refine aR (cs:=#[.int .i64 0,.string (⟨#[]⟩:ByteArray),.int .i64 0,.int .i64 0,.int .i64 0]) ?_ 1 _ rfl;(with_reducible repeat (first | refine aH ?_ _ | refine aI ?_ | refine aG ?_ _));refine aR (cs:=#[.int .i64 0,.string (⟨#[]⟩:ByteArray),.int .i64 0,.int .i64 0,.int .i64 0]) ?_ 0 _ rfl;(with_reducible repeat (first | refine aH ?_ _ | refine aI ?_ | refine aG ?_ _));exact bU.out) Tryz.underlying82 rfl (by kernel_rfl)) rfl ?_;exact ⟨by first | rfl | (simp [aV,aW]<;>rfl) | (simp [*,aV,aW]<;>rfl),by repeat (first | (with_reducible first | exact HB.out | apply ay | apply ak | apply aD | refine aQ ?_ lG.out) | exact HB.out)⟩
       rw [if_neg OW] at H;have Xu:decide (40 < (wrap64 (bX - a1)))=false:=decide_eq_false OW;clear OW;by_cases c40:0<=a1
       rotate_left
       ·rw [if_neg c40] at H
        exact absurd H (by simp)
       rw [if_pos c40] at H;have akR:=eq_true c40;have akS:decide (0<=a1)=true:=decide_eq_true c40;clear c40;by_cases c41:a1<=bX
       rotate_left
       ·rw [if_neg c41] at H
        exact absurd H (by simp)
       rw [if_pos c41] at H;have akT:=eq_true c41;have akU:decide (a1<=bX)=true:=decide_eq_true c41;clear c41;by_cases c42:bX<=(a0.size:Int)
       rotate_left
       ·rw [if_neg c42] at H
        exact absurd H (by simp)
       rw [if_pos c42] at H;have akV:=eq_true c42;have akW:decide (bX<=(a0.size:Int))=true:=decide_eq_true c42;clear c42;replace H:=Option.bind_eq_some_iff.mp H;obtain ⟨Dm,acz,H⟩:=H;replace H:(some (1,Dm,bX,0,0))=some (r1,r2,r3,r4,r5):=H;have A43:=aj.mk acz;clear acz;simp only [Option.some.injEq,Prod.mk.injEq] at H;obtain ⟨rfl,rfl,rfl,rfl,rfl⟩:=H;have p35:0<=(bX:Int):=of_decide_eq_true (by first | (with_reducible assumption) | assumption);have Xt:bX < (a0.size:Int):=of_decide_eq_true (by first | (with_reducible assumption) | assumption);have acy:=bY a0 bX;replace p35:=eq_true p35;replace Xt:=eq_true Xt;go_wp2_with (first | (go_at_call 60;(with_reducible refine (bB.calls (bt a0 bX) false _ A36.out).mono ?_);rintro e w' ⟨rfl,⟨nd,rfl⟩⟩;(try (rw [nH wr];generalize yI:World.drewN wr _=wr;have dW:aj (wr.heap[fG]?=some (.cells #[.int .i64 0,.string (⟨#[]⟩:ByteArray),.int .i64 0,.int .i64 0,.int .i64 0] 82 (0,0))):=⟨by rw [<- yI];exact (by (with_reducible repeat (first | refine aH ?_ _ | refine aI ?_ | refine aG ?_ _));exact bU.out)⟩;have fF:aj (Below w.heap.size w wr):=⟨by rw [<- yI];exact (by repeat (first | (with_reducible first | exact HB.out | apply ay | apply ak | apply aD | refine aQ ?_ lG.out) | exact HB.out))⟩;clear bU HB yI;have bU:=dW;have HB:=fF;clear dW fF))) | ((with_reducible refine bg (f:=101) rfl ?_);refine cO (some 76) rfl rfl Tryz.func101 (by kernel_rfl) rfl #[.string (a0.extract (a1:Int).toNat (bX:Int).toNat)] rfl (by (try simp only [List.map_toArray,List.map_cons,List.map_nil]);first | done | rfl | (simp only [List.length_drop,List.length_take];rfl)) ?_;(with_reducible refine (dU.calls (a0.extract (a1:Int).toNat (bX:Int).toNat) Dm _ A43.out).mono ?_);rintro e w44 ⟨rfl,hb⟩;refine ⟨_,rfl,?_⟩;have dW:=aj.mk (fU (g:=fG) (o:=.cells #[.int .i64 0,.string (⟨#[]⟩:ByteArray),.int .i64 0,.int .i64 0,.int .i64 0] 82 (0,0)) (by (with_reducible repeat (first | refine aH ?_ _ | refine aI ?_ | refine aG ?_ _));exact bU.out) hb);have fF:=aj.mk (bH (by repeat (first | (with_reducible first | exact HB.out | apply ay | apply ak | apply aD | refine aQ ?_ lG.out) | exact HB.out)) hb);clear bU;clear HB;have bU:=dW;have HB:=fF;clear dW fF;(try clear hb);(try clear hb2);(try clear hk);(try clear hi);have afC:w44.cell? ⟨fG,0,none⟩=some (.int .i64 0):=(au bU.out 0).trans rfl;have afD:w44.cell? ⟨fG,1,none⟩=some (.string (⟨#[]⟩:ByteArray)):=(au bU.out 1).trans rfl;have afE:w44.cell? ⟨fG,2,none⟩=some (.int .i64 0):=(au bU.out 2).trans rfl;have afF:w44.cell? ⟨fG,3,none⟩=some (.int .i64 0):=(au bU.out 3).trans rfl;have afG:w44.cell? ⟨fG,4,none⟩=some (.int .i64 0):=(au bU.out 4).trans rfl;have afH:=aA bU.out 0;have afI:=aA bU.out 1;have afJ:=aA bU.out 2;have afK:=aA bU.out 3;have afL:=aA bU.out 4))
       refine bodyPost_ret (results_cell_row rfl _ _ fG 82 #[.int .i64 1,.string Dm,.int .i64 bX,.int .i64 0,.int .i64 0] (0,0) _ rfl (by (with_reducible repeat (first | refine aH ?_ _ | refine aI ?_ | refine aG ?_ _));refine aR (cs:=#[.int .i64 1,.string Dm,.int .i64 bX,.int .i64 0,.int .i64 0]) ?_ 4 _ rfl;(with_reducible repeat (first | refine aH ?_ _ | refine aI ?_ | refine aG ?_ _));refine aR (cs:=#[.int .i64 1,.string Dm,.int .i64 bX,.int .i64 0,.int .i64 0]) ?_ 3 _ rfl;(with_reducible repeat (first | refine aH ?_ _ | refine aI ?_ | refine aG ?_ _));refine aR (cs:=#[.int .i64 1,.string Dm,.int .i64 0,.int .i64 0,.int .i64 0]) ?_ 2 _ rfl;(with_reducible repeat (first | refine aH ?_ _ | refine aI ?_ | refine aG ?_ _));refine aR (cs:=#[.int .i64 1,.string (⟨#[]⟩:ByteArray),.int .i64 0,.int .i64 0,.int .i64 0]) ?_ 1 _ rfl;(with_reducible repeat (first | refine aH ?_ _ | refine aI ?_ | refine aG ?_ _));refine aR (cs:=#[.int .i64 0,.string (⟨#[]⟩:ByteArray),.int .i64 0,.int .i64 0,.int .i64 0]) ?_ 0 _ rfl;(with_reducible repeat (first | refine aH ?_ _ | refine aI ?_ | refine aG ?_ _));exact bU.out) Tryz.underlying82 rfl (by kernel_rfl)) rfl ?_;exact ⟨by first | rfl | (simp [aV,aW]<;>rfl) | (simp [*,aV,aW]<;>rfl),by repeat (first | (with_reducible first | exact HB.out | apply ay | apply ak | apply aD | refine aQ ?_ lG.out) | exact HB.out)⟩
end Go.Proofs.YtkkpjonfaflkmaaGreatDoor.T
namespace Go.Proofs.YtkkpjonfaflkmaaGreatDoor.T
open Go.RowKit Go.Proofs.ah.aT Go.Proofs.ah.bn Go.Proofs.ah.bA
set_option linter.unusedSimpArgs false
set_option linter.unusedVariables false
theorem oq {i:Nat} (h:i<=1000000000000):wrap64 ((i:Int)+1)=((i+1:Nat):Int):=by unfold wrap64;omega
theorem iL (a0:ByteArray) {i:Nat} (h:i < a0.size):(bytesOf a0).drop i=bt a0 (i:Int)::(bytesOf a0).drop (i+1):=by
 rw [uQ a0 i h];exact drop_at _ _ (by rw [bytesOf_length];exact h)
theorem Ik (L:List Int) (h:∀ x∈L,0<=x/\x < 256):(strOfNums L).size=L.length:=by simp [strOfNums,ByteArray.size]
theorem Od (a0:ByteArray):strOfNums (bytesOf a0)=a0:=by
 apply qx
 rw [fq _ (gK a0)]
end Go.Proofs.YtkkpjonfaflkmaaGreatDoor.T
namespace Go.Proofs.YtkkpjonfaflkmaaGreatDoor.S
set_option linter.unusedSimpArgs false
set_option linter.unusedVariables false
theorem Ap (p:Int->Bool):∀ (A B:List Int),(∀ x∈A,p x=true)->(∀ e s,B=e::s->p e=false)->run p (A++B)=A.length
 | [],B,_,hB=>by
  rcases B with _ | ⟨e,s⟩
  ·rfl
  ·simp [run,hB e s rfl]
 | a::A,B,hA,hB=>by
  rw [List.cons_append,run,if_pos (hA a (by simp)),Ap p A B (fun x hx=>hA x (by simp [hx])) hB];rfl
theorem run_parts (p:Int->Bool):∀ (xs:List Int),(∀ x∈xs.take (run p xs),p x=true)/\(∀ e s,xs.drop (run p xs)=e::s->p e=false)
 | []=>⟨by simp [run],by simp [run]⟩
 | a::xs=>by
  unfold run;by_cases h:p a=true
  ·rw [if_pos h]
   obtain ⟨h1,h2⟩:=run_parts p xs;refine ⟨fun x hx=>?_,fun e s he=>h2 e s (by simpa using he)⟩;simp only [List.take_succ_cons,List.mem_cons] at hx;rcases hx with rfl | hx
   ·exact h
   ·exact h1 x hx
  rw [if_neg h];exact ⟨by simp,fun e s he=>by simp only [List.drop_zero,List.cons.injEq] at he;obtain ⟨rfl,-⟩:=he;simpa using h⟩
theorem Fx (xs:List Int):∃ M R,xs=M++R/\(∀ x∈M,sym x=true)/\(∀ e s,R=e::s->sym e=false) /\
  ((gB xs=M.length/\¬ (sG M=true/\rF R=true))\/(∃ g D S,R=g::(D++S)/\sG M=true/\(g=43\/g=45)/\D≠[]/\(∀ x∈D,lU x=true)/\(∀ e s,S=e::s->lU e=false)/\gB xs=M.length+1+D.length)):=by
 obtain ⟨h1,h2⟩:=run_parts sym xs;have hl:=xE sym xs;refine ⟨xs.take (run sym xs),xs.drop (run sym xs),(List.take_append_drop _ _).symm,h1,h2,?_⟩;have hml:(xs.take (run sym xs)).length=run sym xs:=by rw [List.length_take];omega
 rw [hml];unfold gB;by_cases hm:sG (xs.take (run sym xs))=true/\rF (xs.drop (run sym xs))=true
 rotate_left
 ·rw [if_neg hm]
  exact .inl ⟨rfl,hm⟩
 rw [if_pos hm];refine .inr ?_;rcases hd:xs.drop (run sym xs) with _ | ⟨g,_ | ⟨d,t⟩⟩
 ·rw [hd] at hm;simp [rF] at hm
 ·rw [hd] at hm;simp [rF] at hm
 ·have hd2:xs.drop (run sym xs+1)=d::t:=by
   have:xs.drop (run sym xs+1)=(xs.drop (run sym xs)).drop 1:=by rw [List.drop_drop]
   rw [this,hd];rfl
  rw [hd2];have hx:=hm.2;rw [hd] at hx;simp only [rF,Bool.and_eq_true,Bool.or_eq_true,decide_eq_true_eq] at hx;obtain ⟨g1,g2⟩:=run_parts lU (d::t);have hl2:=xE lU (d::t);refine ⟨g,(d::t).take (run lU (d::t)),(d::t).drop (run lU (d::t)),by rw [List.take_append_drop],hm.1,hx.1,?_,g1,g2,?_⟩
  ·rw [run,if_pos hx.2];simp
  ·rw [List.length_take,Nat.min_eq_left hl2]
theorem Fy {M R:List Int} (hM:∀ x∈M,sym x=true) (hR:∀ e s,R=e::s->sym e=false) (h:¬ (sG M=true/\rF R=true)):gB (M++R)=M.length:=by
 have hr:=Ap sym M R hM hR;unfold gB;rw [hr,List.take_left,List.drop_left,if_neg h]
theorem Il {M D S:List Int} {g:Int} (hM:∀ x∈M,sym x=true) (hm:sG M=true) (hg:g=43\/g=45) (hD:D≠[]) (hd:∀ x∈D,lU x=true) (hS:∀ e s,S=e::s->lU e=false) :
  gB (M++g::(D++S))=M.length+1+D.length:=by
 have hgs:sym g=false:=by rcases hg with rfl | rfl<;>rfl
 have hr:=Ap sym M (g::(D++S)) hM (fun e s h=>by cases h;exact hgs);unfold gB;have hx:rF (g::(D++S))=true:=by
  rcases D with _ | ⟨d,D⟩
  ·exact absurd rfl hD
  ·simp only [List.cons_append,rF,Bool.and_eq_true,Bool.or_eq_true,decide_eq_true_eq]
   exact ⟨hg,hd d (by simp)⟩
 rw [hr,List.take_left,List.drop_left,if_pos ⟨hm,hx⟩];have:(M++g::(D++S)).drop (M.length+1)=D++S:=by
  rw [List.drop_append,List.drop_eq_nil_of_le (by omega)];simp
 rw [this,Ap lU D S hd hS]
theorem Ch:∀ (p a:List Int) (b:List Int),p.isPrefixOf a=true->p.isPrefixOf (a++b)=true
 | [],_,_,_=>by simp
 | _::_,[],_,h=>by cases h
 | x::p,y::a,b,h=>by
  simp only [List.isPrefixOf,Bool.and_eq_true] at h;simp only [List.cons_append,List.isPrefixOf,Bool.and_eq_true];exact ⟨h.1,Ch p a b h.2⟩
theorem zO:∀ (p:List Int),p.isPrefixOf p=true
 | []=>rfl
 | x::p=>by simp [List.isPrefixOf,zO p]
theorem uY:∀ (p a:List Int),p.isPrefixOf a=true->a=p++a.drop p.length
 | [],a,_=>by simp
 | _::_,[],h=>by cases h
 | x::p,y::a,h=>by
  simp only [List.isPrefixOf,Bool.and_eq_true,beq_iff_eq] at h;obtain ⟨rfl,h2⟩:=h;simp only [List.length_cons,List.drop_succ_cons,List.cons_append];exact congrArg _ (uY p a h2)
theorem Oe:∀ p∈signs,p.length<=3:=by decide
end Go.Proofs.YtkkpjonfaflkmaaGreatDoor.S
namespace Go.Proofs.YtkkpjonfaflkmaaGreatDoor.T
open Go.RowKit Go.Proofs.ah.aT Go.Proofs.ah.bn Go.Proofs.ah.bA
set_option linter.unusedSimpArgs false
set_option linter.unusedVariables false
theorem Ci (c:Int):bB.f c=some (S.lU c):=by
 unfold bB.f S.lU;by_cases h:c>=48
 ·rw [if_pos h,decide_eq_true (show (48:Int)<=c from h)];simp
 ·rw [if_neg h,decide_eq_false (show ¬ (48:Int)<=c from h)];simp
theorem UH (c:Int):dP.f c=some ((decide (97<=c)&&decide (c<=122))||(decide (65<=c)&&decide (c<=90))):=by
 unfold dP.f;by_cases h:c>=97
 ·rw [if_pos h,decide_eq_true (show (97:Int)<=c from h)]
  by_cases h2:c<=122
  ·rw [if_pos h2,decide_eq_true h2];simp
  ·rw [if_neg h2,decide_eq_false h2,if_pos (by omega),decide_eq_false (show ¬ c<=90 by omega)];simp
 rw [if_neg h,decide_eq_false (show ¬ (97:Int)<=c from h)];by_cases h2:c>=65
 ·rw [if_pos h2,decide_eq_true (show (65:Int)<=c from h2)];simp
 ·rw [if_neg h2,decide_eq_false (show ¬ (65:Int)<=c from h2)];simp
theorem Rj (c:Int):bF.f c=some (S.sym c):=by
 unfold bF.f;rw [UH,Ci];simp only [Option.bind_some];unfold S.sym S.lU;cases (decide (97<=c)&&decide (c<=122))||(decide (65<=c)&&decide (c<=90)) with
 | true=>simp
 | false =>
  cases decide (48<=c)&&decide (c<=57) with
  | true=>simp
  | false =>
   by_cases h1:c=46
   ·simp [h1]
   by_cases h2:c=95
   ·simp [h2]
   by_cases h3:c=33
   ·simp [h3]
   simp [h1,h2,h3]
   exact Bool.beq_eq_decide_eq c 63
def mz:List Int->Int->Int->Bool
 | [],d,p=>decide (0 < d)&&decide (p < 2)
 | c::t,d,p=>if S.lU c=true then mz t (d+1) p else if c=46 then mz t d (p+1) else false
theorem Rk:∀ (l:List Int) (d p:Int),0<=d->mz l d p=(l.all (fun c=>S.lU c||decide (c=46))&&(decide (0 < d)||l.any S.lU)&&decide (p+l.count 46 < 2))
 | [],d,p,h=>by simp [mz]
 | c::t,d,p,h=>by
  rw [mz];by_cases hd:S.lU c=true
  ·have hc:c≠46:=fun e=>by rw [e] at hd;exact absurd hd (by decide)
   rw [if_pos hd,Rk t _ _ (by omega),List.count_cons_of_ne hc,decide_eq_true (show 0 < d+1 by omega)];simp [hd]
  rw [if_neg hd];by_cases hc:c=46
  ·rw [if_pos hc,Rk t _ _ h,hc,List.count_cons_self]
   have h46:S.lU 46=false:=by decide
   have e:p+1+(t.count 46:Int)=p+((t.count 46+1:Nat):Int):=by omega
   rw [e];simp [h46]
  rw [if_neg hc];simp [hd,hc]
theorem Cj (b:ByteArray) (h1:1<=b.size) (h2:b.size<=100000):∀ (m k i:Nat) (d p:Int),i+m+1=b.size->m < k->0<=d->d<=i->0<=p->p<=i ->
  aY.l0 k b d p (i:Int)=some (mz ((bytesOf b).dropLast.drop i) d p)
 | 0,k,i,d,p,h,hk,hd,hd2,hp,hp2=>by
  obtain ⟨k,rfl⟩:∃ k',k=k'+1:=⟨k - 1,by omega⟩;have hw:wrap64 ((b.size:Int) - 1)=(b.size:Int) - 1:=by unfold wrap64;omega
  have hl:(bytesOf b).dropLast.drop i=[]:=List.drop_of_length_le (by rw [List.length_dropLast,bytesOf_length];omega);rw [aY.l0,hw,if_neg (by omega),hl,mz];by_cases h0:d > 0
  ·rw [if_pos h0,decide_eq_true (show 0 < d from h0)];simp
  ·rw [if_neg h0,decide_eq_false (show ¬ 0 < d from h0)];simp
 | m+1,k,i,d,p,h,hk,hd,hd2,hp,hp2=>by
  obtain ⟨k,rfl⟩:∃ k',k=k'+1:=⟨k - 1,by omega⟩;have hw:wrap64 ((b.size:Int) - 1)=(b.size:Int) - 1:=by unfold wrap64;omega
  have hwd:wrap64 (d+1)=d+1:=by unfold wrap64;omega
  have hwp:wrap64 (p+1)=p+1:=by unfold wrap64;omega
  have hil:i < (bytesOf b).dropLast.length:=by rw [List.length_dropLast,bytesOf_length];omega
  have hl:(bytesOf b).dropLast.drop i=bt b (i:Int)::(bytesOf b).dropLast.drop (i+1):=by
   rw [List.drop_eq_getElem_cons hil,List.getElem_dropLast];have hb:=uQ b i (by omega);rw [List.getD_eq_getElem?_getD,List.getElem?_eq_getElem (by rw [bytesOf_length];omega),Option.getD_some] at hb;rw [hb]
  rw [aY.l0,hw,if_pos (by omega),if_pos (by omega),if_pos (by omega),Ci,Option.bind_some,hl,mz,oq (by omega),hwd,hwp];by_cases h0:S.lU (bt b (i:Int))=true
  ·rw [if_pos h0,if_pos h0]
   exact Cj b h1 h2 m k (i+1) (d+1) p (by omega) (by omega) (by omega) (by omega) hp (by omega)
  rw [if_neg h0,if_neg h0];by_cases h46:bt b (i:Int)=46
  ·rw [if_pos h46,if_pos h46]
   exact Cj b h1 h2 m k (i+1) d (p+1) (by omega) (by omega) hd (by omega) (by omega) (by omega)
  ·rw [if_neg h46,if_neg h46]
theorem acA (b:ByteArray) (h2:b.size<=100000) (k:Nat) (hk:b.size+1 < k):aY.f k b=some (S.sG (bytesOf b)):=by
 obtain ⟨k,rfl⟩:∃ k',k=k'+1:=⟨k - 1,by omega⟩;have hlen:=bytesOf_length b;unfold aY.f;by_cases h:(b.size:Int) < 2
 ·rw [if_pos h,aY.j0,if_pos rfl]
  have hs:(bytesOf b).length < 2:=by omega
  match hb:bytesOf b,hs with
  | [],_=>rfl
  | [c],_=>simp [S.sG]
 have hw:wrap64 ((b.size:Int) - 1)=(b.size:Int) - 1:=by unfold wrap64;omega
 rw [if_neg h,hw,if_pos (by omega),if_pos (by omega)];have hlast:(bytesOf b).getLast?=some (bt b ((b.size:Int) - 1)):=by
  have hb:=uQ b (b.size - 1) (by omega);rw [List.getLast?_eq_getElem?,hlen];rw [List.getD_eq_getElem?_getD] at hb;rw [show (b.size:Int) - 1=((b.size - 1:Nat):Int) by omega,hb,List.getElem?_eq_getElem (by omega)];rfl
 have hm:S.sG (bytesOf b)=((decide (bt b ((b.size:Int) - 1)=69)||decide (bt b ((b.size:Int) - 1)=101))&&mz (bytesOf b).dropLast 0 0):=by
  unfold S.sG;rw [hlast,Rk _ _ _ (Int.le_refl 0)];have e:decide ((0:Int)+(List.count 46 (bytesOf b).dropLast:Int) < 2)=decide (List.count 46 (bytesOf b).dropLast<=1):=decide_eq_decide.2 (by omega);rw [e];simp [Bool.and_assoc]
 have hl0:=Cj b (by omega) h2 (b.size - 1) k 0 0 0 (by omega) (by omega) (Int.le_refl 0) (Int.le_refl 0) (Int.le_refl 0) (Int.le_refl 0);rw [List.drop_zero] at hl0;rw [hm];by_cases h69:bt b ((b.size:Int) - 1)=69
 ·rw [if_pos h69,aY.j0,if_neg Bool.false_ne_true,decide_eq_true h69]
  simpa using hl0
 rw [if_neg h69,aY.j0,decide_eq_false h69];by_cases UJ:bt b ((b.size:Int) - 1)=101
 ·rw [if_neg (by simp [UJ]),decide_eq_true UJ]
  simpa using hl0
 ·rw [if_pos (by simp [UJ]),decide_eq_false UJ];rfl
theorem Im (p:Int->Bool) (xs:List Int):S.run p xs<=xs.length:=by
 induction xs with
 | nil=>exact Nat.le_refl _
 | cons c t ih =>
  rw [S.run];split
  ·exact Nat.succ_le_succ ih
  ·exact Nat.zero_le _
end Go.Proofs.YtkkpjonfaflkmaaGreatDoor.T
namespace Go.Proofs.YtkkpjonfaflkmaaGreatDoor.S
set_option linter.unusedSimpArgs false
set_option linter.unusedVariables false
def Fz (q:Int) (l:List Int):List Int:=l.flatMap fun c=>if c=q then [q,q] else [c]
def zZ (l:List Int):Int:=if l.count 34 < l.count 39 then 34 else 39
def quote (l:List Int):List Int:=zZ l::(Fz (zZ l) l++[zZ l])
theorem FC (l:List Int):zZ l=34\/zZ l=39:=by unfold zZ;split;exact .inl rfl;exact .inr rfl
theorem Ck (q c:Int) (l:List Int):Fz q (c::l)=(if c=q then [q,q] else [c])++Fz q l:=rfl
theorem UK {q:Int} {P:Int->Prop} (hq:P q) {l:List Int} (h:∀ x∈l,P x):∀ x∈Fz q l,P x:=by
 intro x hx
 obtain ⟨c,hc,hx⟩:=List.mem_flatMap.1 hx;by_cases e:c=q
 ·rw [if_pos e] at hx
  simp only [List.mem_cons,List.not_mem_nil,or_false,or_self] at hx;rw [hx];exact hq
 rw [if_neg e] at hx;rw [List.mem_singleton.1 hx];exact h c hc
theorem wH (q:Int):∀ l:List Int,(Fz q l).length=l.length+l.count q
 | []=>rfl
 | c::l=>by
  rw [Ck,List.length_append,wH q l,List.length_cons,List.count_cons];by_cases e:c=q
  ·rw [if_pos e,if_pos (by simpa using e)];simp;omega
  ·rw [if_neg e,if_neg (by simpa using e)];simp;omega
theorem FD (l:List Int):(quote l).length=l.length+l.count (zZ l)+2:=by
 unfold quote;rw [List.length_cons,List.length_append,wH];simp
theorem uy {l:List Int} (h:∀ x∈l,0<=x/\x < 256):∀ x∈quote l,0<=x/\x < 256:=by
 have hq:0<=zZ l/\zZ l < 256:=by rcases FC l with e | e<;>rw [e]<;>omega
 intro x hx
 unfold quote at hx;rcases List.mem_cons.1 hx with e | e
 ·rw [e];exact hq
 ·rcases List.mem_append.1 e with e | e
  ·exact UK hq h x e
  ·rw [List.mem_singleton.1 e];exact hq
theorem qQ (cur:List Tk) (a b c:Nat):(emit cur a b c).flatten.length<=cur.length+1:=by
 unfold emit;split
 ·simp
 ·simp
theorem KQ (cur:List Tk):(cut cur).length<=cur.length:=by
 unfold cut;split
 ·simp
 ·exact Nat.le_refl _
theorem wI (l:List (List Tk)) (o:Out):(o.pre l).cl.flatten.length=l.flatten.length+o.cl.flatten.length:=by
 unfold Out.pre;simp only [List.flatten_append,List.length_append]
theorem mg:∀ (f:Nat) (xs:List Int) (i line:Nat) (cur:List Tk) (gap:Bool),(∀ x∈xs,0<=x/\x < 256)->(go f xs i line cur gap).cl.flatten.length<=cur.length+2*xs.length+1
 | 0,xs,i,line,cur,gap,_=>by simp [go]
 | f+1,xs,i,line,cur,gap,hb=>by
  have hd:∀ n,∀ x∈xs.drop n,0<=x/\x < 256:=fun n x hx=>hb x (List.mem_of_mem_drop hx)
  rw [go];cases hs:step xs with
  | fin =>
   have h1:=qQ (cut cur) i i line;have h2:=KQ cur;simp only;omega
  | line =>
   have hx:1<=xs.length:=yS (by rw [hs];intro e;cases e);simp only;split
   ·have:=mg f (xs.drop 1) (i+1) (line+1) cur.dropLast true (hd 1)
    rw [List.length_drop,List.length_dropLast] at this;omega
   ·have:=mg f (xs.drop 1) (i+1) (line+1) [] false (hd 1)
    have h1:=qQ cur i (i+1) line;rw [List.length_drop,List.length_nil] at this;rw [wI];omega
  | blank =>
   have:=mg f (xs.drop 1) (i+1) line cur true (hd 1);rw [List.length_drop] at this;simp only;omega
  | lV n dl =>
   have:=mg f (xs.drop n) (i+n) (line+dl) cur gap (hd n);rw [List.length_drop] at this;simp only;omega
  | tok k t n =>
   obtain ⟨h1,h2,-⟩:=ug hb hs;simp only;split
   ·have:=mg f (xs.drop n) (i+n) line [] false (hd n)
    have h3:=qQ cur i (i+n) line;rw [List.length_drop,List.length_nil] at this;rw [wI];omega
   ·split
    ·have:=mg f (xs.drop n) (i+n) line [] false (hd n)
     have h3:=qQ (cur++[⟨k,t,gap&&!decide (cur=[]),line,i,i+n⟩]) (i+n) (i+n) line;rw [List.length_append,List.length_singleton] at h3;rw [List.length_drop,List.length_nil] at this;rw [wI];omega
    ·have:=mg f (xs.drop n) (i+n) line (cur++[⟨k,t,gap&&!decide (cur=[]),line,i,i+n⟩]) false (hd n)
     rw [List.length_drop,List.length_append,List.length_singleton] at this;omega
  | err c dl =>
   simp only;split
   ·simp
   ·simp only [List.flatten_cons,List.flatten_nil,List.append_nil];omega
theorem rA {xs:List Int} (hb:∀ x∈xs,0<=x/\x < 256):(tokens xs).length<=2*xs.length+1:=by
 have:=mg (xs.length+1) xs 0 1 [] false hb;unfold tokens scan;simpa using this

end Go.Proofs.YtkkpjonfaflkmaaGreatDoor.S
