/- A part of the proof of ScanWrites. -/
import Derived.Test.YtkkpjonfaflkmaaGreatDoorCScanWrites8
set_option linter.all false
namespace Go.Proofs.YtkkpjonfaflkmaaGreatDoor.T
open Go.RowKit Go.Proofs.aj.aI Go.Proofs.aj.aY Go.Proofs.aj.bq
attribute [local go_sem] eY eZ gH gI dV dW fq fu
def jq.f (l0:List (dh)):Option (Bool):=if (l0.length:Int) > 0 then (if 0<=(wrap64 ((l0.length:Int) - 1)) then (if (wrap64 ((l0.length:Int) - 1)) < (l0.length:Int) then (if ((aC l0 (wrap64 ((l0.length:Int) - 1))).f0)=3 then (some (((aC l0 (wrap64 ((l0.length:Int) - 1))).f1).toList==([44]:List UInt8))) else (some false)) else (none)) else (none)) else (some false)
set_option maxHeartbeats 8000000 in
set_option maxRecDepth 100000 in
theorem jq.calls (A0:Option Addr) (c0:Nat) (l0:List (dh)) (r:Bool) (w:World) (hr0:Kd.C jP w A0 l0.length l0) (hc0:l0.length<=c0) (h:jq.f l0=some r) :
  Calls Tryz.prog 92 #[.slice A0 l0.length c0] w fun e w'=>e=.returned (.bool r)/\aG w w':=by
 have iG:=ah.mk hr0;have CV:=ah.mk hc0;clear hr0 hc0;have H:(if (l0.length:Int) > 0 then (if 0<=(wrap64 ((l0.length:Int) - 1)) then (if (wrap64 ((l0.length:Int) - 1)) < (l0.length:Int) then (if ((aC l0 (wrap64 ((l0.length:Int) - 1))).f0)=3 then (some (((aC l0 (wrap64 ((l0.length:Int) - 1))).f1).toList==([44]:List UInt8))) else (some false)) else (none)) else (none)) else (some false))=some r:=h;clear h;by_cases c2:(l0.length:Int) > 0
 rotate_left
 ·rw [if_neg c2] at H
  have kX:decide (0 < (l0.length:Int))=false:=decide_eq_false c2;have Fv:decide (0 < l0.length)=false:=decide_eq_false (by omega);clear c2;obtain rfl:=Option.some.inj H;go_enter Tryz.func92,Tryz.ntmps92
  go_wp2;go_ret;exact ⟨by first | rfl | (simp;done) | (simp [*];done),by repeat (first | exact aG.refl _ | apply aG.step)⟩
 rw [if_pos c2] at H;have kX:decide (0 < (l0.length:Int))=true:=decide_eq_true c2;have Fv:decide (0 < l0.length)=true:=decide_eq_true (by omega);clear c2;obtain ⟨iD,wV⟩:∃ j_:Int,(wrap64 ((l0.length:Int) - 1))=j_:=⟨_,rfl⟩;replace H:(if 0<=(iD) then (if (iD) < (l0.length:Int) then (if ((aC l0 (iD)).f0)=3 then (some (((aC l0 (iD)).f1).toList==([44]:List UInt8))) else (some false)) else (none)) else (none))=some r:=by first | (rw [wV] at H;exact H) | (simp only [wV] at H |-;exact H)
 have aec:(IntKind.i64.wrap ((l0.length:Int) - 1))=iD:=(dK _).trans wV;by_cases c4:0<=(iD)
 rotate_left
 ·rw [if_neg c4] at H
  exact absurd H (by simp)
 rw [if_pos c4] at H;have kP:decide (0<=(iD))=true:=decide_eq_true c4;clear c4;by_cases c5:(iD) < (l0.length:Int)
 rotate_left
 ·rw [if_neg c5] at H
  exact absurd H (by simp)
 rw [if_pos c5] at H;have kN:decide ((iD) < (l0.length:Int))=true:=decide_eq_true c5;clear c5;by_cases c6:((aC l0 (iD)).f0)=3
 ·rw [if_pos c6] at H
  have lJ:(((aC l0 (iD)).f0)==3)=true:=beq_iff_eq.mpr c6;have BA:(((aC l0 (iD)).f0) != 3)=false:=bne_eq_false_iff_eq.mpr c6;clear c6;obtain rfl:=Option.some.inj H;have LC:0<=((iD):Int):=of_decide_eq_true (by with_reducible assumption);have LD:(iD) < (l0.length:Int):=of_decide_eq_true (by with_reducible assumption);obtain ⟨aad,abw,Xn,Xo,Xp,Xq,Xr,Xt⟩:=bQ iG.out (iD) LC LD;cases abw
  replace LC:=eq_true LC;replace LD:=eq_true LD;have abx:0<=((iD):Int):=of_decide_eq_true (by with_reducible assumption);have aby:(iD) < (l0.length:Int):=of_decide_eq_true (by with_reducible assumption);obtain ⟨aed,aiO,agH,agI,agJ,agK,agL,agM⟩:=bQ iG.out (iD) abx aby;obtain rfl:aad=aed:=(by injection aiO);replace abx:=eq_true abx;replace aby:=eq_true aby;go_enter Tryz.func92,Tryz.ntmps92
  go_wp2;go_ret;exact ⟨by first | rfl | (simp;done) | (simp only [<- wV]<;>(first | rfl | simp)) | (simp [*];done),by repeat (first | exact aG.refl _ | apply aG.step)⟩
 rw [if_neg c6] at H;have lJ:(((aC l0 (iD)).f0)==3)=false:=beq_eq_false_iff_ne.mpr c6;have BA:(((aC l0 (iD)).f0) != 3)=true:=bne_iff_ne.mpr c6;obtain rfl:=Option.some.inj H;have LC:0<=((iD):Int):=of_decide_eq_true (by with_reducible assumption);have LD:(iD) < (l0.length:Int):=of_decide_eq_true (by with_reducible assumption);obtain ⟨aad,abw,Xn,Xo,Xp,Xq,Xr,Xt⟩:=bQ iG.out (iD) LC LD;cases abw
 replace LC:=eq_true LC;replace LD:=eq_true LD;go_enter Tryz.func92,Tryz.ntmps92
 go_wp2;go_ret;exact ⟨by first | rfl | (simp;done) | (simp only [<- wV]<;>(first | rfl | simp)) | (simp [*];done),by repeat (first | exact aG.refl _ | apply aG.step)⟩
def jU.f (l0:List (dh)):Option (Bool):=if (l0.length:Int)=2 then (if 0 < (l0.length:Int) then (if ((aC l0 0).f0)=1 then (if 1 < (l0.length:Int) then (if ((aC l0 1).f0)=3 then (some (((aC l0 1).f1).toList==([58]:List UInt8))) else (some false)) else (none)) else (some false)) else (none)) else (some false)
set_option maxHeartbeats 8000000 in
set_option maxRecDepth 100000 in
theorem jU.calls (A0:Option Addr) (c0:Nat) (l0:List (dh)) (r:Bool) (w:World) (hr0:Kd.C jP w A0 l0.length l0) (hc0:l0.length<=c0) (h:jU.f l0=some r) :
  Calls Tryz.prog 54 #[.slice A0 l0.length c0] w fun e w'=>e=.returned (.bool r)/\aG w w':=by
 have iG:=ah.mk hr0;have CV:=ah.mk hc0;clear hr0 hc0;have H:(if (l0.length:Int)=2 then (if 0 < (l0.length:Int) then (if ((aC l0 0).f0)=1 then (if 1 < (l0.length:Int) then (if ((aC l0 1).f0)=3 then (some (((aC l0 1).f1).toList==([58]:List UInt8))) else (some false)) else (none)) else (some false)) else (none)) else (some false))=some r:=h;clear h;by_cases c2:(l0.length:Int)=2
 rotate_left
 ·rw [if_neg c2] at H
  have kX:((l0.length:Int)==2)=false:=beq_eq_false_iff_ne.mpr c2;have Fv:((l0.length:Int) != 2)=true:=bne_iff_ne.mpr c2;obtain rfl:=Option.some.inj H;go_enter Tryz.func54,Tryz.ntmps54
  go_wp2;go_ret;exact ⟨by first | rfl | (simp;done) | (simp [*];done),by repeat (first | exact aG.refl _ | apply aG.step)⟩
 rw [if_pos c2] at H;have kX:((l0.length:Int)==2)=true:=beq_iff_eq.mpr c2;have Fv:((l0.length:Int) != 2)=false:=bne_eq_false_iff_eq.mpr c2;clear c2;by_cases c3:0 < (l0.length:Int)
 rotate_left
 ·rw [if_neg c3] at H
  exact absurd H (by simp)
 rw [if_pos c3] at H;have nH:decide (0 < (l0.length:Int))=true:=decide_eq_true c3;have zN:decide (0 < l0.length)=true:=decide_eq_true (by omega);clear c3;by_cases c4:((aC l0 0).f0)=1
 rotate_left
 ·rw [if_neg c4] at H
  have kP:(((aC l0 0).f0)==1)=false:=beq_eq_false_iff_ne.mpr c4;have CW:(((aC l0 0).f0) != 1)=true:=bne_iff_ne.mpr c4;obtain rfl:=Option.some.inj H;have BD:0<=(0:Int):=(by omega);have BF:0 < (l0.length:Int):=of_decide_eq_true (by with_reducible assumption);obtain ⟨Jf,Tc,lN,lQ,lS,lT,lU,lV⟩:=bQ iG.out 0 BD BF;cases Tc
  have aae:(0 < l0.length)=True:=eq_true (by omega)
  (try rw [show ((0:Int)).toNat=0 from rfl] at lN)
  (try rw [show 0*6=0 from rfl] at lN)
  (try rw [Addr.add_zero'] at lN)
  (try rw [show ((0:Int)).toNat=0 from rfl] at lQ)
  (try rw [show 0*6=0 from rfl] at lQ)
  (try rw [Addr.add_zero'] at lQ)
  (try rw [show ((0:Int)).toNat=0 from rfl] at lS)
  (try rw [show 0*6=0 from rfl] at lS)
  (try rw [Addr.add_zero'] at lS)
  (try rw [show ((0:Int)).toNat=0 from rfl] at lT)
  (try rw [show 0*6=0 from rfl] at lT)
  (try rw [Addr.add_zero'] at lT)
  (try rw [show ((0:Int)).toNat=0 from rfl] at lU)
  (try rw [show 0*6=0 from rfl] at lU)
  (try rw [Addr.add_zero'] at lU)
  (try rw [show ((0:Int)).toNat=0 from rfl] at lV)
  (try rw [show 0*6=0 from rfl] at lV)
  (try rw [Addr.add_zero'] at lV)
  replace BD:=eq_true BD;replace BF:=eq_true BF;go_enter Tryz.func54,Tryz.ntmps54
  go_wp2;go_ret;exact ⟨by first | rfl | (simp;done) | (simp [*];done),by repeat (first | exact aG.refl _ | apply aG.step)⟩
 rw [if_pos c4] at H;have kP:(((aC l0 0).f0)==1)=true:=beq_iff_eq.mpr c4;have CW:(((aC l0 0).f0) != 1)=false:=bne_eq_false_iff_eq.mpr c4;clear c4;by_cases c5:1 < (l0.length:Int)
 rotate_left
 ·rw [if_neg c5] at H
  exact absurd H (by simp)
 rw [if_pos c5] at H;have kN:decide (1 < (l0.length:Int))=true:=decide_eq_true c5;have EF:decide (1 < l0.length)=true:=decide_eq_true (by omega);clear c5;by_cases c6:((aC l0 1).f0)=3
 rotate_left
 ·rw [if_neg c6] at H
  have lJ:(((aC l0 1).f0)==3)=false:=beq_eq_false_iff_ne.mpr c6;have BA:(((aC l0 1).f0) != 3)=true:=bne_iff_ne.mpr c6;obtain rfl:=Option.some.inj H;have BD:0<=(0:Int):=(by omega);have BF:0 < (l0.length:Int):=of_decide_eq_true (by with_reducible assumption);obtain ⟨Jf,Tc,lN,lQ,lS,lT,lU,lV⟩:=bQ iG.out 0 BD BF;cases Tc
  have aae:(0 < l0.length)=True:=eq_true (by omega)
  (try rw [show ((0:Int)).toNat=0 from rfl] at lN)
  (try rw [show 0*6=0 from rfl] at lN)
  (try rw [Addr.add_zero'] at lN)
  (try rw [show ((0:Int)).toNat=0 from rfl] at lQ)
  (try rw [show 0*6=0 from rfl] at lQ)
  (try rw [Addr.add_zero'] at lQ)
  (try rw [show ((0:Int)).toNat=0 from rfl] at lS)
  (try rw [show 0*6=0 from rfl] at lS)
  (try rw [Addr.add_zero'] at lS)
  (try rw [show ((0:Int)).toNat=0 from rfl] at lT)
  (try rw [show 0*6=0 from rfl] at lT)
  (try rw [Addr.add_zero'] at lT)
  (try rw [show ((0:Int)).toNat=0 from rfl] at lU)
  (try rw [show 0*6=0 from rfl] at lU)
  (try rw [Addr.add_zero'] at lU)
  (try rw [show ((0:Int)).toNat=0 from rfl] at lV)
  (try rw [show 0*6=0 from rfl] at lV)
  (try rw [Addr.add_zero'] at lV)
  replace BD:=eq_true BD;replace BF:=eq_true BF;have LG:0<=(1:Int):=(by omega);have LH:1 < (l0.length:Int):=of_decide_eq_true (by with_reducible assumption);obtain ⟨Td,abz,qK,qL,qM,qN,qO,qP⟩:=bQ iG.out 1 LG LH;obtain rfl:Jf=Td:=(by injection abz)
  (try simp only [show (1:Int).toNat=1 from rfl,Nat.reduceMul,Nat.reduceEqDiff,Go.Addr.add,↓reduceIte] at qK)
  (try simp only [show (1:Int).toNat=1 from rfl,Nat.reduceMul,Nat.reduceEqDiff,Go.Addr.add,↓reduceIte] at qL)
  (try simp only [show (1:Int).toNat=1 from rfl,Nat.reduceMul,Nat.reduceEqDiff,Go.Addr.add,↓reduceIte] at qM)
  (try simp only [show (1:Int).toNat=1 from rfl,Nat.reduceMul,Nat.reduceEqDiff,Go.Addr.add,↓reduceIte] at qN)
  (try simp only [show (1:Int).toNat=1 from rfl,Nat.reduceMul,Nat.reduceEqDiff,Go.Addr.add,↓reduceIte] at qO)
  (try simp only [show (1:Int).toNat=1 from rfl,Nat.reduceMul,Nat.reduceEqDiff,Go.Addr.add,↓reduceIte] at qP)
  have aee:(1 < l0.length)=True:=eq_true (by omega)
  (try rw [show ((1:Int)).toNat=1 from rfl] at qK)
  (try rw [show 1*6=6 from rfl] at qK)
  (try rw [show ((1:Int)).toNat=1 from rfl] at qL)
  (try rw [show 1*6=6 from rfl] at qL)
  (try rw [show ((1:Int)).toNat=1 from rfl] at qM)
  (try rw [show 1*6=6 from rfl] at qM)
  (try rw [show ((1:Int)).toNat=1 from rfl] at qN)
  (try rw [show 1*6=6 from rfl] at qN)
  (try rw [show ((1:Int)).toNat=1 from rfl] at qO)
  (try rw [show 1*6=6 from rfl] at qO)
  (try rw [show ((1:Int)).toNat=1 from rfl] at qP)
  (try rw [show 1*6=6 from rfl] at qP)
  replace LG:=eq_true LG;replace LH:=eq_true LH;go_enter Tryz.func54,Tryz.ntmps54
  go_wp2;go_ret;exact ⟨by first | rfl | (simp;done) | (simp [*];done),by repeat (first | exact aG.refl _ | apply aG.step)⟩
 rw [if_pos c6] at H;have lJ:(((aC l0 1).f0)==3)=true:=beq_iff_eq.mpr c6;have BA:(((aC l0 1).f0) != 3)=false:=bne_eq_false_iff_eq.mpr c6;clear c6;obtain rfl:=Option.some.inj H;have BD:0<=(0:Int):=(by omega);have BF:0 < (l0.length:Int):=of_decide_eq_true (by with_reducible assumption);obtain ⟨Jf,Tc,lN,lQ,lS,lT,lU,lV⟩:=bQ iG.out 0 BD BF;cases Tc
 have aae:(0 < l0.length)=True:=eq_true (by omega)
 (try rw [show ((0:Int)).toNat=0 from rfl] at lN)
 (try rw [show 0*6=0 from rfl] at lN)
 (try rw [Addr.add_zero'] at lN)
 (try rw [show ((0:Int)).toNat=0 from rfl] at lQ)
 (try rw [show 0*6=0 from rfl] at lQ)
 (try rw [Addr.add_zero'] at lQ)
 (try rw [show ((0:Int)).toNat=0 from rfl] at lS)
 (try rw [show 0*6=0 from rfl] at lS)
 (try rw [Addr.add_zero'] at lS)
 (try rw [show ((0:Int)).toNat=0 from rfl] at lT)
 (try rw [show 0*6=0 from rfl] at lT)
 (try rw [Addr.add_zero'] at lT)
 (try rw [show ((0:Int)).toNat=0 from rfl] at lU)
 (try rw [show 0*6=0 from rfl] at lU)
 (try rw [Addr.add_zero'] at lU)
 (try rw [show ((0:Int)).toNat=0 from rfl] at lV)
 (try rw [show 0*6=0 from rfl] at lV)
 (try rw [Addr.add_zero'] at lV)
 replace BD:=eq_true BD;replace BF:=eq_true BF;have LG:0<=(1:Int):=(by omega);have LH:1 < (l0.length:Int):=of_decide_eq_true (by with_reducible assumption);obtain ⟨Td,abz,qK,qL,qM,qN,qO,qP⟩:=bQ iG.out 1 LG LH;obtain rfl:Jf=Td:=(by injection abz)
 (try simp only [show (1:Int).toNat=1 from rfl,Nat.reduceMul,Nat.reduceEqDiff,Go.Addr.add,↓reduceIte] at qK)
 (try simp only [show (1:Int).toNat=1 from rfl,Nat.reduceMul,Nat.reduceEqDiff,Go.Addr.add,↓reduceIte] at qL)
 (try simp only [show (1:Int).toNat=1 from rfl,Nat.reduceMul,Nat.reduceEqDiff,Go.Addr.add,↓reduceIte] at qM)
 (try simp only [show (1:Int).toNat=1 from rfl,Nat.reduceMul,Nat.reduceEqDiff,Go.Addr.add,↓reduceIte] at qN)
 (try simp only [show (1:Int).toNat=1 from rfl,Nat.reduceMul,Nat.reduceEqDiff,Go.Addr.add,↓reduceIte] at qO)
 (try simp only [show (1:Int).toNat=1 from rfl,Nat.reduceMul,Nat.reduceEqDiff,Go.Addr.add,↓reduceIte] at qP)
 have aee:(1 < l0.length)=True:=eq_true (by omega)
 (try rw [show ((1:Int)).toNat=1 from rfl] at qK)
 (try rw [show 1*6=6 from rfl] at qK)
 (try rw [show ((1:Int)).toNat=1 from rfl] at qL)
 (try rw [show 1*6=6 from rfl] at qL)
 (try rw [show ((1:Int)).toNat=1 from rfl] at qM)
 (try rw [show 1*6=6 from rfl] at qM)
 (try rw [show ((1:Int)).toNat=1 from rfl] at qN)
 (try rw [show 1*6=6 from rfl] at qN)
 (try rw [show ((1:Int)).toNat=1 from rfl] at qO)
 (try rw [show 1*6=6 from rfl] at qO)
 (try rw [show ((1:Int)).toNat=1 from rfl] at qP)
 (try rw [show 1*6=6 from rfl] at qP)
 replace LG:=eq_true LG;replace LH:=eq_true LH;have abA:0<=(1:Int):=(by omega);have abB:1 < (l0.length:Int):=of_decide_eq_true (by with_reducible assumption);obtain ⟨aef,aiP,Fw,Fx,Fy,Fz,FC,FD⟩:=bQ iG.out 1 abA abB;obtain rfl:Jf=aef:=(by injection aiP)
 (try simp only [show (1:Int).toNat=1 from rfl,Nat.reduceMul,Nat.reduceEqDiff,Go.Addr.add,↓reduceIte] at Fw)
 (try simp only [show (1:Int).toNat=1 from rfl,Nat.reduceMul,Nat.reduceEqDiff,Go.Addr.add,↓reduceIte] at Fx)
 (try simp only [show (1:Int).toNat=1 from rfl,Nat.reduceMul,Nat.reduceEqDiff,Go.Addr.add,↓reduceIte] at Fy)
 (try simp only [show (1:Int).toNat=1 from rfl,Nat.reduceMul,Nat.reduceEqDiff,Go.Addr.add,↓reduceIte] at Fz)
 (try simp only [show (1:Int).toNat=1 from rfl,Nat.reduceMul,Nat.reduceEqDiff,Go.Addr.add,↓reduceIte] at FC)
 (try simp only [show (1:Int).toNat=1 from rfl,Nat.reduceMul,Nat.reduceEqDiff,Go.Addr.add,↓reduceIte] at FD)
 have ajZ:(1 < l0.length)=True:=eq_true (by omega)
 (try rw [show ((1:Int)).toNat=1 from rfl] at Fw)
 (try rw [show 1*6=6 from rfl] at Fw)
 (try rw [show ((1:Int)).toNat=1 from rfl] at Fx)
 (try rw [show 1*6=6 from rfl] at Fx)
 (try rw [show ((1:Int)).toNat=1 from rfl] at Fy)
 (try rw [show 1*6=6 from rfl] at Fy)
 (try rw [show ((1:Int)).toNat=1 from rfl] at Fz)
 (try rw [show 1*6=6 from rfl] at Fz)
 (try rw [show ((1:Int)).toNat=1 from rfl] at FC)
 (try rw [show 1*6=6 from rfl] at FC)
 (try rw [show ((1:Int)).toNat=1 from rfl] at FD)
 (try rw [show 1*6=6 from rfl] at FD)
 replace abA:=eq_true abA;replace abB:=eq_true abB;go_enter Tryz.func54,Tryz.ntmps54
 go_wp2;go_ret;exact ⟨by first | rfl | (simp;done) | (simp [*];done),by repeat (first | exact aG.refl _ | apply aG.step)⟩
end Go.Proofs.YtkkpjonfaflkmaaGreatDoor.T
namespace Go.Proofs.YtkkpjonfaflkmaaGreatDoor.T
open Go.RowKit Go.Proofs.aj.aI Go.Proofs.aj.aY Go.Proofs.aj.bq
def toS (t:S.Tk):dh:=⟨t.kind,strOfNums t.text,t.gap,t.line,t.at_,t.to⟩
theorem FE:∀ (l:List S.Tk) (j:Nat) (t:S.Tk),l[j]?=some t->((dG l).drop (j*6)).take 6=Db t
 | [],j,t,h=>by simp at h
 | a::l,0,t,h=>by
  simp only [List.getElem?_cons_zero,Option.some.injEq] at h;subst h;simp only [dG,List.map_cons,List.flatten_cons,Nat.zero_mul,List.drop_zero];rw [List.take_append,List.take_of_length_le (by show 6<=6;omega)];have:6 - (Db a).length=0:=rfl;rw [this,List.take_zero,List.append_nil]
 | a::l,j+1,t,h=>by
  simp only [List.getElem?_cons_succ] at h;have:=FE l j t h;rw [<- this];congr 1
  simp only [dG,List.map_cons,List.flatten_cons];rw [List.drop_append];rw [List.drop_eq_nil_of_le (by show 6<=_;omega),List.nil_append];congr 1
  show (j+1)*6 - 6=j*6
  omega
theorem Te {W:World} {base:Nat} {ok:Nat->Prop} (cur:List S.Tk):dz (jP.M W base ok) 6 (cur.map toS) (dG cur):=by
 refine ⟨by rw [nL,List.length_map],fun j p hj=>?_⟩;rw [List.getElem?_map] at hj;cases hc:cur[j]? with
 | none=>rw [hc] at hj;cases hj
 | some t =>
  rw [hc] at hj;simp only [Option.map_some,Option.some.injEq] at hj;subst hj;rw [FE cur j t hc];exact Ni W base ok (toS t)
theorem aaf {W:World} {base:Nat} {v:Value} {cur:List S.Tk} (h:W.ownsRow base 53 6 v cur.length (dG cur)):Kd.R jP 53 W base (fun _=>True) v (cur.map toS) :=
 ⟨fun _ _=>trivial,dG cur,by rw [List.length_map];exact h,Te cur⟩
theorem uU {W:World} {base:Nat} {A:Option Addr} {n c:Nat} {cur:List S.Tk} (h:W.ownsRow base 53 6 (.slice A n c) cur.length (dG cur)):n=cur.length/\n<=c/\Kd.C jP W A (cur.map toS).length (cur.map toS):=by
 obtain ⟨A',c',e,hc,hC⟩:=Kd.qE (aaf h);simp only [Value.slice.injEq,List.length_map] at e hc;obtain ⟨rfl,rfl,rfl⟩:=e;exact ⟨rfl,hc,hC⟩
def Bytes (t:S.Tk):Prop:=∀ x∈t.text,0<=x/\x < 256
theorem Ah {t:S.Tk} (h:Bytes t) (c:UInt8):((strOfNums t.text).toList==[c])=decide (t.text=[(c.toNat:Int)]):=by
 rw [str_eq,bW _ h];rfl
theorem Xu (cur:List S.Tk) (hb:∀ t∈cur,Bytes t) (hl:cur.length<=1000000):jq.f (cur.map toS)=some (S.comma cur):=by
 unfold jq.f S.comma;rcases List.eq_nil_or_concat cur with rfl | ⟨l,t,rfl⟩
 ·rfl
 ·have hlen:((List.concat l t).map toS).length=l.length+1:=by simp
  have hw:wrap64 ((((List.concat l t).map toS).length:Int) - 1)=(l.length:Int):=by
   rw [hlen];have:l.length<=1000000:=by simp at hl;omega
   unfold wrap64;omega
  rw [if_pos (by rw [hlen];omega),hw,if_pos (by omega),if_pos (by rw [hlen];omega)];have hrd:aC ((List.concat l t).map toS) (l.length:Int)=toS t:=by
   unfold aC;simp
  rw [hrd];have hlast:(List.concat l t).getLast?=some t:=by simp
  rw [hlast];have ht:Bytes t:=hb t (by simp);show (if ((t.kind:Nat):Int)=3 then some ((strOfNums t.text).toList==[44]) else some false)=some (decide (t.kind=3)&&decide (t.text=[44]))
  rw [Ah ht];by_cases hk:t.kind=3
  ·rw [if_pos (by omega)];simp [hk]
  ·rw [if_neg (by omega)];simp [hk]
theorem Xv (cur:List S.Tk) (hb:∀ t∈cur,Bytes t):jU.f (cur.map toS)=some (S.label cur):=by
 unfold jU.f;rcases cur with _ | ⟨a,_ | ⟨b,_ | ⟨c,r⟩⟩⟩
 ·rfl
 ·rw [if_neg (by simp)];rfl
 ·have hlen:(([a,b]:List S.Tk).map toS).length=2:=rfl
  rw [hlen,if_pos (by omega),if_pos (by omega)];have ha:aC (([a,b]:List S.Tk).map toS) 0=toS a:=rfl;have hb':aC (([a,b]:List S.Tk).map toS) 1=toS b:=rfl;rw [ha,hb',if_pos (by omega:(1:Int) < (2:Nat))];show (if ((a.kind:Nat):Int)=1 then (if ((b.kind:Nat):Int)=3 then some ((strOfNums b.text).toList==[58]) else some false) else some false)=some (decide (a.kind=1)&&decide (b.kind=3)&&decide (b.text=[58]))
  rw [Ah (hb b (by simp))];by_cases h1:a.kind=1
  ·rw [if_pos (by omega)]
   by_cases h2:b.kind=3
   ·rw [if_pos (by omega)];simp [h1,h2]
   ·rw [if_neg (by omega)];simp [h1,h2]
  ·rw [if_neg (by omega)];simp [h1]
 ·rw [if_neg (by simp only [List.map_cons,List.length_cons];omega)];rfl
end Go.Proofs.YtkkpjonfaflkmaaGreatDoor.T
namespace Go.Proofs.YtkkpjonfaflkmaaGreatDoor.T
open Go.RowKit Go.Maps Go.Proofs.aj.aI Go.Proofs.aj.aY Go.Proofs.aj.bq
attribute [local go_sem] Oper.semAt_some
structure It (l H s fp FB:Nat) (src:ByteArray) (hd:Int->Value) (D:DataW Unit) (J:List (List S.Tk)->(Nat->Prop)->World->Prop) (i line:Nat) (v:Value) (cur:List S.Tk) (gap:Bool) (pre:List (List S.Tk)) (F:Nat->Prop) (W:World):Prop where
 sm:ScM s src i line (H+1) (H+1+2) hd D W
 cu:QH (s+1) (s+1+1) H l (s+3) v cur gap W
 jj:J pre F W
 ff:∀ k,F k->(k < H\/s+3<=k)/\v.ownBlock≠some k/\k≠fp/\k≠FB
 hfp:W.heap[fp]?=some (.cells #[.int .i64 0,.int .i64 0] 76 (0,0))
 yD:W.heap[FB]?=some (.cells #[.pointer (some ⟨fp,0,none⟩)] 88 (0,0))
 DN:∀ t∈cur,Bytes t
 len:pre.flatten.length+2*cur.length<=2*i
 l1:H+1 < s
 l2:fp < H
 l3:FB < H
 rows:∀ c g,(hd c).ownBlock=some g->H+1 < g/\g < s
section
variable {l n H s fp FB:Nat} {src:ByteArray} {hd:Int->Value} {D:DataW Unit} {J:List (List S.Tk)->(Nat->Prop)->World->Prop} {i line:Nat} {v:Value} {cur:List S.Tk} {gap:Bool} {pre:List (List S.Tk)} {F:Nat->Prop} {W W':World}
theorem It.sS (h:It l H s fp FB src hd D J i line v cur gap pre F W):∀ k,v.ownBlock=some k->s+3<=k:=fun k e=>(h.cu.own.lt k e).1
theorem It.step (C:Client l n J) (h:It l H s fp FB src hd D J i line v cur gap pre F W) {i' line':Nat} (hb:But (·=s) W W') (hs:Sc s src i' line' (.map (some (H+1))) W') (hi:i<=i'):It l H s fp FB src hd D J i' line' v cur gap pre F W':=by
 have h1:=h.l1;have h2:=h.l2;have h3:=h.l3;have hsm:=h.sm;refine ⟨⟨hs,hsm.sg.but hsm.nm hsm.nr hb,hsm.nm,hsm.nr⟩,h.cu.but hb (fun k e=>⟨by omega,by omega,by omega,fun e2=>by have:=h.sS k e2;omega⟩),C.stable h.jj (hb.mono (fun k _ e hf=>by have:=(h.ff k hf).1;omega)),h.ff,(hb.block fp (Array.getElem?_eq_some_iff.1 h.hfp).1 (by show ¬ fp=s;omega)).trans h.hfp,(hb.block FB (Array.getElem?_eq_some_iff.1 h.yD).1 (by show ¬ FB=s;omega)).trans h.yD,h.DN,by have:=h.len;omega,h1,h2,h3,h.rows⟩
theorem It.new (C:Client l n J) (h:It l H s fp FB src hd D J i line v cur gap pre F W) (hb:But (fun _=>False) W W'):It l H s fp FB src hd D J i line v cur gap pre F W':=by
 have hb2:But (·=s) W W':=hb.mono (fun _ _ e=>e.elim);refine h.step C hb2 ?_ (Nat.le_refl _);exact (hb.block s h.sm.sc.lt (fun e=>e)).trans h.sm.sc
theorem It.put (C:Client l n J) (h:It l H s fp FB src hd D J i line v cur gap pre F W) {v':Value} {cur':List S.Tk} {Qa:Bool} (hb:But (fun k=>k=s+1\/k=s+1+1\/v.ownBlock=some k) W W') (hc:QH (s+1) (s+1+1) H l (s+3) v' cur' Qa W')
  (hv:∀ k,v'.ownBlock=some k->v.ownBlock=some k\/W.heap.size<=k) (hby:∀ t∈cur',Bytes t) (hl:pre.flatten.length+2*cur'.length<=2*i):It l H s fp FB src hd D J i line v' cur' Qa pre F W':=by
 have h1:=h.l1;have h2:=h.l2;have h3:=h.l3;have hsm:=h.sm;have ho:=h.sS;have hne:∀ k,k < s+1->¬ (k=s+1\/k=s+1+1\/v.ownBlock=some k):=fun k hk e=>by
  rcases e with e | e | e
  ·omega
  ·omega
  ·have:=ho k e;omega
 have hblk:∀ k,k < s+1->k < W.heap.size->W'.heap[k]?=W.heap[k]?:=fun k hk hl=>hb.block k hl (hne k hk)
 refine ⟨⟨(hblk s (by omega) hsm.sc.lt).trans hsm.sc,hsm.sg.blk (hblk _ (by omega) hsm.sg.map.lt) (fun c g hg=>hblk g (by have:=h.rows c g hg;omega) ((hsm.sg.row c).lt g hg).2),hsm.nm,hsm.nr⟩,hc,C.stable h.jj (hb.mono (fun k _ e hf=>?_)),fun k hf=>?_,
  (hblk fp (by omega) (Array.getElem?_eq_some_iff.1 h.hfp).1).trans h.hfp,(hblk FB (by omega) (Array.getElem?_eq_some_iff.1 h.yD).1).trans h.yD,hby,hl,h1,h2,h3,h.rows⟩
 ·obtain ⟨q1,q2,_⟩:=h.ff k hf
  rcases e with e | e | e
  ·omega
  ·omega
  ·exact q2 e
 ·obtain ⟨q1,q2,q3,q4⟩:=h.ff k hf
  refine ⟨q1,fun e=>?_,q3,q4⟩;rcases hv k e with e2 | e2
  ·exact q2 e2
  ·have:=C.lt h.jj k hf;omega
theorem It.ended (C:Client l n J) (h:It l H s fp FB src hd D J i line v cur gap pre F W) {pre':List (List S.Tk)} {F':Nat->Prop} (hj:J pre' F' W') (hc:QH (s+1) (s+1+1) H l (s+3) (.slice none 0 0) [] false W')
  (hb:But (fun k=>F k\/k=s+1\/k=s+1+1\/v.ownBlock=some k) W W') (hF:∀ k,F' k->F k\/W.heap.size<=k\/v.ownBlock=some k) (hl:pre'.flatten.length<=2*i):It l H s fp FB src hd D J i line (.slice none 0 0) [] false pre' F' W':=by
 have h1:=h.l1;have h2:=h.l2;have h3:=h.l3;have hsm:=h.sm;have ho:=h.sS;have hne:∀ k,H<=k->k < s+1->¬ (F k\/k=s+1\/k=s+1+1\/v.ownBlock=some k):=fun k hk hk2 e=>by
  rcases e with e | e | e | e
  ·have:=(h.ff k e).1;omega
  ·omega
  ·omega
  ·have:=ho k e;omega
 have hblk:∀ k,H<=k->k < s+1->k < W.heap.size->W'.heap[k]?=W.heap[k]?:=fun k hk hk2 hl=>hb.block k hl (hne k hk hk2)
 have yD:∀ k,(k=fp\/k=FB)->k < W.heap.size->W'.heap[k]?=W.heap[k]?:=fun k hk hl=>hb.block k hl (fun e=>by
  rcases e with e | e | e | e
  ·have:=(h.ff k e).2.2;omega
  ·omega
  ·omega
  ·have:=ho k e;omega)
 have hsz:s+3<=W.heap.size:=h.cu.lw;refine ⟨⟨(hblk s (by omega) (by omega) hsm.sc.lt).trans hsm.sc,hsm.sg.blk (hblk _ (by omega) (by omega) hsm.sg.map.lt) (fun c g hg=>hblk g (by have:=h.rows c g hg;omega) (by have:=h.rows c g hg;omega) ((hsm.sg.row c).lt g hg).2),hsm.nm,hsm.nr⟩,hc,hj,fun k hf=>?_,
  (yD fp (.inl rfl) (Array.getElem?_eq_some_iff.1 h.hfp).1).trans h.hfp,(yD FB (.inr rfl) (Array.getElem?_eq_some_iff.1 h.yD).1).trans h.yD,by simp,by simpa using hl,h1,h2,h3,h.rows⟩
 refine ⟨?_,by simp [Value.ownBlock],?_,?_⟩
 ·rcases hF k hf with e | e | e
  ·exact (h.ff k e).1
  ·omega
  ·have:=ho k e;omega
 ·rcases hF k hf with e | e | e
  ·exact (h.ff k e).2.2.1
  ·omega
  ·have:=ho k e;omega
 ·rcases hF k hf with e | e | e
  ·exact (h.ff k e).2.2.2
  ·omega
  ·have:=ho k e;omega
theorem It.drewN (C:Client l n J) (h:It l H s fp FB src hd D J i line v cur gap pre F W) (q:Nat):It l H s fp FB src hd D J i line v cur gap pre F (W.drewN q):=h.new C ((But.refl _ W).drewN q)
theorem It.Tf (C:Client l n J) (h:It l H s fp FB src hd D J i line v cur gap pre F W) (g:Bool):It l H s fp FB src hd D J i line v cur g pre F (W.setCell ⟨s+1+1,0,none⟩ (.bool g)):=by
 have hb:But (fun k=>k=s+1+1) W (W.setCell ⟨s+1+1,0,none⟩ (.bool g)):=(But.refl (fun k=>k=s+1+1) W).set ⟨s+1+1,0,none⟩ _ rfl;have h1:=h.l1;have hc:=h.cu;refine h.put C (hb.mono (fun k _ e=>.inr (.inl e))) ⟨(hb.block (s+1) (by have:=hc.lw;omega) (by omega)).trans hc.cb,aW (cs:=#[_]) hc.gb 0 _ rfl,(hb.block H (by have:=hc.lw;omega) (by omega)).trans hc.yb,bV hc.own hb (fun k e e2=>by have:=h.sS k e2;omega),hc.l1,hc.l2,hc.l3,hc.n1,hc.n2,hc.n3,Nat.le_trans hc.lw hb.size⟩ (fun k e=>.inl e) h.DN h.len
theorem It.setCur (C:Client l n J) (h:It l H s fp FB src hd D J i line v cur gap pre F W) {v':Value} {cur':List S.Tk} (ho:W.ownsRow (s+3) 53 6 v' cur'.length (dG cur')) (hv:∀ k,v'.ownBlock=some k->v.ownBlock=some k) (hby:∀ t∈cur',Bytes t) (hl:pre.flatten.length+2*cur'.length<=2*i) :
  It l H s fp FB src hd D J i line v' cur' gap pre F (W.setCell ⟨s+1,0,none⟩ v'):=by
 have hb:But (fun k=>k=s+1) W (W.setCell ⟨s+1,0,none⟩ v'):=(But.refl (fun k=>k=s+1) W).set ⟨s+1,0,none⟩ _ rfl;have h1:=h.l1;have hc:=h.cu;refine h.put C (hb.mono (fun k _ e=>.inl e)) ⟨aW (cs:=#[_]) hc.cb 0 _ rfl,(hb.block (s+1+1) (by have:=hc.lw;omega) (by omega)).trans hc.gb,(hb.block H (by have:=hc.lw;omega) (by omega)).trans hc.yb,bV ho hb (fun k e e2=>by have:=(ho.lt k e2).1;omega),hc.l1,hc.l2,hc.l3,hc.n1,hc.n2,hc.n3,Nat.le_trans hc.lw hb.size⟩ (fun k e=>.inl (hv k e)) hby hl
theorem Xw {A:Option Addr} {cn cap base:Nat} (h:W.ownsRow base 53 6 (.slice A cn cap) cur.length (dG cur)) (hne:cur≠[]):W.ownsRow base 53 6 (.slice A (cn - 1) cap) cur.dropLast.length (dG cur.dropLast):=by
 refine ⟨nL _,.inr ?_⟩;rcases h.2 with ⟨e,e2⟩ | ⟨g,cap',cs,e,hg,hb,h1,h2,h3,h4⟩
 ·exact absurd (List.length_eq_zero_iff.1 e2) hne
 ·simp only [Value.slice.injEq] at e
  obtain ⟨rfl,rfl,rfl⟩:=e;refine ⟨g,cap,cs,by rw [List.length_dropLast],hg,hb,by rw [List.length_dropLast];omega,h2,h3,?_⟩;have e1:cur.dropLast=cur.take (cur.length - 1):=List.dropLast_eq_take;rw [List.length_dropLast,e1,<- DL,<- h4,List.take_take];congr 1
  omega
theorem It.aeg (C:Client l n J) {A:Option Addr} {cn cap:Nat} (h:It l H s fp FB src hd D J i line (.slice A cn cap) cur gap pre F W) (hne:cur≠[]):It l H s fp FB src hd D J i line (.slice A (cn - 1) cap) cur.dropLast gap pre F (W.setCell ⟨s+1,0,none⟩ (.slice A (cn - 1) cap)) :=
 h.setCur C (Xw h.cu.own hne) (fun k e=>by cases A with | none=>simp [Value.ownBlock] at e | some a=>exact e) (fun t ht=>h.DN t ((List.dropLast_sublist _).subset ht)) (by have:=h.len;rw [List.length_dropLast];omega)
theorem It.more (C:Client l n J) {X w1:World} (h:It l H s fp FB src hd D J i line v cur gap pre F W) (hX:But (fun _=>False) W X) {v':Value} {t:S.Tk} (ho:w1.ownsRow (s+3) 53 6 v' (cur.length+1) (dG cur++Db t)) (hg:X.grownBy w1 v.ownBlock)
  (hv:v'.ownBlock=v.ownBlock\/v'.ownBlock=some X.heap.size) (hby:Bytes t) (hl:pre.flatten.length+2*(cur.length+1)<=2*i) :
  It l H s fp FB src hd D J i line v' (cur++[t]) false pre F ((w1.setCell ⟨s+1,0,none⟩ v').setCell ⟨s+1+1,0,none⟩ (.bool false)):=by
 have hb1:But (fun k=>v.ownBlock=some k) X w1:=⟨hg.os,hg.tape,hg.output,hg.size,fun k hk hn=>hg.block k hk (fun e=>hn e.symm)⟩;have hb2:But (fun k=>k=s+1\/k=s+1+1) w1 ((w1.setCell ⟨s+1,0,none⟩ v').setCell ⟨s+1+1,0,none⟩ (.bool false)):=((But.refl (fun k=>k=s+1\/k=s+1+1) w1).set ⟨s+1,0,none⟩ _ (.inl rfl)).set ⟨s+1+1,0,none⟩ _ (.inr rfl);have h01:But (fun k=>v.ownBlock=some k) W w1:=hX.trans hb1 (fun _ _ e=>e.elim) (fun _ _ e=>e);have h02:But (fun k=>k=s+1\/k=s+1+1\/v.ownBlock=some k) W ((w1.setCell ⟨s+1,0,none⟩ v').setCell ⟨s+1+1,0,none⟩ (.bool false)) :=
  h01.trans hb2 (fun _ _ e=>.inr (.inr e)) (fun _ _ e=>e.elim .inl (fun e=>.inr (.inl e)))
 have h1:=h.l1;have hc:=h.cu;have VE:=hc.lw;have hge:=h.sS;have hs1:=h01.size;refine h.put C h02 ⟨?_,?_,?_,?_,hc.l1,hc.l2,hc.l3,hc.n1,hc.n2,hc.n3,Nat.le_trans VE h02.size⟩ (fun k e=>?_) (fun t' ht'=>?_) (by rw [List.length_append];exact hl)
 ·exact (Below.heap_setCell _ ⟨s+1+1,0,none⟩ _ (s+1) (by show s+1≠s+1+1;omega)).trans (aW (cs:=#[_]) ((h01.block (s+1) (by omega) (fun e=>by have:=hge _ e;omega)).trans hc.cb) 0 _ rfl)
 ·exact aW (cs:=#[_]) ((Below.heap_setCell _ ⟨s+1,0,none⟩ _ (s+1+1) (by show s+1+1≠s+1;omega)).trans ((h01.block (s+1+1) (by omega) (fun e=>by have:=hge _ e;omega)).trans hc.gb)) 0 _ rfl
 ·exact (h02.block H (by omega) (fun e=>by rcases e with e | e | e;omega;omega;have:=hge _ e;omega)).trans hc.yb
 ·rw [List.length_append,sQ]
  have e:dG [t]=Db t:=by simp [dG]
  rw [e];refine bV ho hb2 (fun k e e2=>?_);have:=(ho.lt k e2).1;omega
 ·rcases hv with hv | hv
  ·exact .inl (by rw [<- hv,e])
  ·refine .inr ?_
   rw [hv] at e;have:=hX.size;cases e
   exact this
 ·rcases List.mem_append.1 ht' with ht' | ht'
  ·exact h.DN t' ht'
  ·rw [List.mem_singleton.1 ht'];exact hby
theorem zB {A:Option Addr} {cn cap base:Nat} (h:W.ownsRow base 53 6 (.slice A cn cap) cur.length (dG cur)) (hb:∀ t∈cur,Bytes t) (hl:cur.length<=1000000) :
  Calls Tryz.prog 92 #[.slice A cn cap] W fun e w'=>e=.returned (.bool (S.comma cur))/\aG W w':=by
 obtain ⟨rfl,hc,hC⟩:=uU h;have:=jq.calls A cap (cur.map toS) (S.comma cur) W hC (by rw [List.length_map];exact hc) (Xu cur hb hl);rwa [List.length_map] at this
theorem zC {A:Option Addr} {cn cap base:Nat} (h:W.ownsRow base 53 6 (.slice A cn cap) cur.length (dG cur)) (hb:∀ t∈cur,Bytes t) :
  Calls Tryz.prog 54 #[.slice A cn cap] W fun e w'=>e=.returned (.bool (S.label cur))/\aG W w':=by
 obtain ⟨rfl,hc,hC⟩:=uU h;have:=jU.calls A cap (cur.map toS) (S.label cur) W hC (by rw [List.length_map];exact hc) (Xv cur hb);rwa [List.length_map] at this
theorem It.other (C:Client l n J) (h:It l H s fp FB src hd D J i line v cur gap pre F W) {A:Nat->Prop} (hb:But A W W') (hA:∀ k,A k->s+3<=k/\¬ F k/\v.ownBlock≠some k):It l H s fp FB src hd D J i line v cur gap pre F W':=by
 have h1:=h.l1;have h2:=h.l2;have h3:=h.l3;have hsm:=h.sm;have hblk:∀ k,k < s+3->k < W.heap.size->W'.heap[k]?=W.heap[k]?:=fun k hk hl=>hb.block k hl (fun e=>by have:=(hA k e).1;omega)
 exact ⟨⟨(hblk s (by omega) hsm.sc.lt).trans hsm.sc,hsm.sg.blk (hblk _ (by omega) hsm.sg.map.lt) (fun c g hg=>hblk g (by have:=h.rows c g hg;omega) ((hsm.sg.row c).lt g hg).2),hsm.nm,hsm.nr⟩,h.cu.but hb (fun k e=>by have:=hA k e;exact ⟨by omega,by omega,by omega,this.2.2⟩),C.stable h.jj (hb.mono (fun k _ e hf=>(hA k e).2.1 hf)),h.ff,
  (hblk fp (by omega) (Array.getElem?_eq_some_iff.1 h.hfp).1).trans h.hfp,(hblk FB (by omega) (Array.getElem?_eq_some_iff.1 h.yD).1).trans h.yD,h.DN,h.len,h1,h2,h3,h.rows⟩
theorem Tg (pre:List (List S.Tk)) (cur:List S.Tk) (a b c:Nat):(pre++S.emit cur a b c).flatten.length<=pre.flatten.length+2*cur.length:=by
 unfold S.emit;by_cases h:cur=[]
 ·rw [if_pos h];simp
 rw [if_neg h];have:0 < cur.length:=List.length_pos_iff.2 h;simp only [List.flatten_append,List.flatten_cons,List.flatten_nil,List.append_nil,List.length_append,List.length_cons,List.length_nil];omega
theorem pR (a b:List (List S.Tk)) (o:S.Out):(S.Out.pre b o).pre a=o.pre (a++b):=by simp [S.Out.pre]
theorem It.Qb (C:Client l n J) {cn cap:Nat} {A:Option Addr} (h:It l H s fp FB src hd D J i line (.slice A cn cap) cur gap pre F W) (hi:i<=100000) (a b c:Nat) :
  CallsIn Fence.wide (n+1) Tryz.prog 90 #[.int .i64 a,.int .i64 b,.int .i64 c,.pointer (some ⟨s+1,0,none⟩),.pointer (some ⟨s+1+1,0,none⟩),.pointer (some ⟨H,0,none⟩)] W fun e W' =>
   e=.returned (.bool true)/\∃ F',It l H s fp FB src hd D J i line (.slice none 0 0) [] false (pre++S.emit cur a b c) F' W':=by
 have h1:=h.l1;refine (abv (n+1) (by omega) (C:Client l (n+1 - 1) J) a b c W h.cu h.jj (fun k hk=>?_) (by have:=h.len;omega)).mono ?_
 ·obtain ⟨q1,q2,_⟩:=h.ff k hk
  exact ⟨by omega,by omega,by omega,q2⟩
 ·rintro e W' ⟨rfl,F',hj,hc,hb,hf⟩
  exact ⟨rfl,F',h.ended C hj hc hb hf (by have:=Tg pre cur a b c;have:=h.len;omega)⟩
theorem It.fail (C:Client l n J) (h:It l H s fp FB src hd D J i line v cur gap pre F W) (hb:But (·=s) W W'):QH (s+1) (s+1+1) H l (s+3) v cur gap W'/\J pre F W'/\(∀ k,F k->k≠s+1/\k≠s+1+1/\k≠H/\v.ownBlock≠some k)/\(∀ k,F k->k≠fp) /\
  W'.heap[fp]?=some (.cells #[.int .i64 0,.int .i64 0] 76 (0,0))/\W'.heap[FB]?=some (.cells #[.pointer (some ⟨fp,0,none⟩)] 88 (0,0)):=by
 have h1:=h.l1;have h2:=h.l2;have h3:=h.l3;refine ⟨h.cu.but hb (fun k e=>⟨by omega,by omega,by omega,fun e2=>by have:=h.sS k e2;omega⟩),C.stable h.jj (hb.mono (fun k _ e hf=>by have:=(h.ff k hf).1;omega)),fun k hk=>?_,fun k hk=>(h.ff k hk).2.2.1,(hb.block fp (Array.getElem?_eq_some_iff.1 h.hfp).1 (by show ¬ fp=s;omega)).trans h.hfp,(hb.block FB (Array.getElem?_eq_some_iff.1 h.yD).1 (by show ¬ FB=s;omega)).trans h.yD⟩;obtain ⟨q1,q2,_⟩:=h.ff k hk;exact ⟨by omega,by omega,by omega,q2⟩
end
end Go.Proofs.YtkkpjonfaflkmaaGreatDoor.T
