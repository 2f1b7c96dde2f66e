/- For ScanTokens: its callees return what is said of them. -/
import Derived.Test.YtkkpjonfaflkmaaGreatDoorCScanTokens15
namespace Go.Proofs.YtkkpjonfaflkmaaGreatDoor.T
open Go.RowKit Go.Proofs.ah.aT Go.Proofs.ah.bn Go.Proofs.ah.bA
set_option linter.unusedSimpArgs false
set_option linter.unusedVariables false
attribute [local go_sem] fB fC gI gJ eD eF fD fE   -- for this text's walks alone
mutual
def aY.j0:Nat->ByteArray->Bool->Option (Bool)
 | 0,_,_=>none
 | k+1,x0,x24=>if x24=true then (some false) else (aY.l0 k x0 0 0 0)
def aY.l0:Nat->ByteArray->Int->Int->Int->Option (Bool)
 | 0,_,_,_,_=>none
 | k+1,x0,x3,x4,x5=>if x5 < (wrap64 ((x0.size:Int) - 1)) then (if 0<=x5 then (if x5 < (x0.size:Int) then ((bB.f (bt x0 x5)).bind fun t159=>(if t159=true then (aY.l0 k x0 (wrap64 (x3+1)) x4 (wrap64 (x5+1))) else (if (bt x0 x5)=46 then (aY.l0 k x0 x3 (wrap64 (x4+1)) (wrap64 (x5+1))) else (some false)))) else (none)) else (none)) else (if x3 > 0 then (some (decide (x4 < 2))) else (some false))
end
def aY.f (k:Nat) (a0:ByteArray):Option (Bool):=if (a0.size:Int) < 2 then (aY.j0 k a0 true) else (if 0<=(wrap64 ((a0.size:Int) - 1)) then (if (wrap64 ((a0.size:Int) - 1)) < (a0.size:Int) then (if (bt a0 (wrap64 ((a0.size:Int) - 1)))=69 then (aY.j0 k a0 false) else (aY.j0 k a0 ((bt a0 (wrap64 ((a0.size:Int) - 1))) != 101))) else (none)) else (none))
set_option maxHeartbeats 8000000 in
set_option maxRecDepth 100000 in
theorem aY.calls (k:Nat) (a0:ByteArray) (r:Bool) (w:World) (h:aY.f k a0=some r) :
  Calls Tryz.prog 100 #[.string a0] w fun e w'=>e=.returned (.bool r)/\aM w w':=by
 have H:(if (a0.size:Int) < 2 then (aY.j0 k a0 true) else (if 0<=(wrap64 ((a0.size:Int) - 1)) then (if (wrap64 ((a0.size:Int) - 1)) < (a0.size:Int) then (if (bt a0 (wrap64 ((a0.size:Int) - 1)))=69 then (aY.j0 k a0 false) else (aY.j0 k a0 ((bt a0 (wrap64 ((a0.size:Int) - 1))) != 101))) else (none)) else (none)))=some r:=h;clear h;have tL:=aj.mk H;clear H;go_enter Tryz.func100,Tryz.ntmps100
 go_upto_region 1 with (fail)
 go_cut [24] (fun v24 wc=>∃ (kq:Nat) (Ms:Bool),v24=.bool Ms/\aj (aY.j0 kq a0 Ms=some r)/\aj (kq<=k)/\aM w wc)
 case first =>
  have H:=tL.out;clear tL;by_cases c3:(a0.size:Int) < 2
  ·rw [if_pos c3] at H
   have nU:decide ((a0.size:Int) < 2)=true:=decide_eq_true c3;have xq:decide (a0.size < 2)=true:=decide_eq_true (by omega);clear c3
   (first | rw [nU] | (simp only [dx,dK];rw [nU]) | skip)
   have H':=aj.mk H;clear H;go_wp2;go_meet
   case rel=>exact ⟨_,(true),(by first | rfl | (simp;done) | (simp [*];done)),H',⟨by first | omega | exact Nat.le_refl _⟩,by repeat (first | exact aM.refl _ | apply aM.step)⟩
  rw [if_neg c3] at H;have nU:decide ((a0.size:Int) < 2)=false:=decide_eq_false c3;have xq:decide (a0.size < 2)=false:=decide_eq_false (by omega);clear c3
  (first | rw [nU] | (simp only [dx,dK];rw [nU]) | skip)
  obtain ⟨Ao,UD⟩:∃ j_:Int,(wrap64 ((a0.size:Int) - 1))=j_:=⟨_,rfl⟩;replace H:(if 0<=(Ao) then (if (Ao) < (a0.size:Int) then (if (bt a0 (Ao))=69 then (aY.j0 k a0 false) else (aY.j0 k a0 ((bt a0 (Ao)) != 101))) else (none)) else (none))=some r:=by first | (rw [UD] at H;exact H) | (simp only [UD] at H |-;exact H)
  have akF:(IntKind.i64.wrap ((a0.size:Int) - 1))=Ao:=(dx _).trans UD;by_cases c5:0<=(Ao)
  rotate_left
  ·rw [if_neg c5] at H
   exact absurd H (by simp)
  rw [if_pos c5] at H;have nV:decide (0<=(Ao))=true:=decide_eq_true c5;clear c5;by_cases c6:(Ao) < (a0.size:Int)
  rotate_left
  ·rw [if_neg c6] at H
   exact absurd H (by simp)
  rw [if_pos c6] at H;have kP:decide ((Ao) < (a0.size:Int))=true:=decide_eq_true c6;clear c6;by_cases c8:(bt a0 (Ao))=69
  ·rw [if_pos c8] at H
   have yO:((bt a0 (Ao))==69)=true:=beq_iff_eq.mpr c8;have GQ:((bt a0 (Ao)) != 69)=false:=bne_eq_false_iff_eq.mpr c8;clear c8;have H':=aj.mk H;clear H;have p7:0<=((Ao):Int):=of_decide_eq_true (by first | (with_reducible assumption) | assumption);have q7:(Ao) < (a0.size:Int):=of_decide_eq_true (by first | (with_reducible assumption) | assumption);have hx7:=bY a0 (Ao);replace p7:=eq_true p7;replace q7:=eq_true q7;go_wp2;go_meet
   case rel=>exact ⟨_,(false),(by first | rfl | (simp;done) | (simp [*];done)),H',⟨by first | omega | exact Nat.le_refl _⟩,by repeat (first | exact aM.refl _ | apply aM.step)⟩
  rw [if_neg c8] at H;have yO:((bt a0 (Ao))==69)=false:=beq_eq_false_iff_ne.mpr c8;have GQ:((bt a0 (Ao)) != 69)=true:=bne_iff_ne.mpr c8;have H':=aj.mk H;clear H;have p7:0<=((Ao):Int):=of_decide_eq_true (by first | (with_reducible assumption) | assumption);have q7:(Ao) < (a0.size:Int):=of_decide_eq_true (by first | (with_reducible assumption) | assumption);have hx7:=bY a0 (Ao);replace p7:=eq_true p7;replace q7:=eq_true q7;have p9:0<=((Ao):Int):=of_decide_eq_true (by first | (with_reducible assumption) | assumption);have q9:(Ao) < (a0.size:Int):=of_decide_eq_true (by first | (with_reducible assumption) | assumption);have hx9:=bY a0 (Ao);replace p9:=eq_true p9;replace q9:=eq_true q9;go_wp2;go_meet
  case rel=>exact ⟨_,(((bt a0 (Ao)) != 101)),(by first | rfl | (simp;done) | (simp only [<- UD]<;>(first | rfl | simp)) | (simp [*];done)),H',⟨by first | omega | exact Nat.le_refl _⟩,by repeat (first | exact aM.refl _ | apply aM.step)⟩
 case rest =>
  clear tL;obtain ⟨kq,Ms,rfl,HA,HJ1,⟨mc1,rfl⟩⟩:=hcut;cases kq with
  | zero=>exact absurd HA.out (by simp [aY.j0])
  | succ kj1 =>
   have H:=HA.out;clear HA;simp only [aY.j0] at H;by_cases c10:Ms=true
   ·subst c10
    rw [if_pos rfl] at H;obtain rfl:=Option.some.inj H;go_wp2;go_ret;exact ⟨by first | rfl | (simp;done) | (simp [*];done),by repeat (first | exact aM.refl _ | apply aM.step)⟩
   replace c10:=Bool.eq_false_iff.mpr c10;subst c10;rw [if_neg (show ¬ (false=true) by decide)] at H;have H':=aj.mk H;clear H;go_wp2;go_loopg [3,4,5] kj1 (fun kq v3 v4 v5 w'=>∃ (Dl:Int) (KP:Int) (jK:Int),v3=.int .i64 Dl/\v4=.int .i64 KP/\v5=.int .i64 jK/\aj (aY.l0 kq a0 Dl KP jK=some r)/\aj (kq<=kj1)/\aM w w')
   case atStart=>exact ⟨(0),(0),(0),(by first | rfl | (simp;done) | (simp [*];done)),(by first | rfl | (simp;done) | (simp [*];done)),(by first | rfl | (simp;done) | (simp [*];done)),H',⟨Nat.le_refl _⟩,by repeat (first | exact aM.refl _ | apply aM.step)⟩
   case round =>
    clear H';obtain ⟨Dl,KP,jK,rfl,rfl,rfl,HA,CY,⟨m2,rfl⟩⟩:=hrel;cases gk with
    | zero=>exact absurd HA.out (by simp [aY.l0])
    | succ k2 =>
     have H:=HA.out;clear HA;simp only [aY.l0] at H;by_cases c11:jK < (wrap64 ((a0.size:Int) - 1))
     rotate_left
     ·rw [if_neg c11] at H
      have Bt:decide (jK < (wrap64 ((a0.size:Int) - 1)))=false:=decide_eq_false c11;clear c11;by_cases c19:Dl > 0
      ·rw [if_pos c19] at H
       have DU:decide (0 < Dl)=true:=decide_eq_true c19;clear c19;obtain rfl:=Option.some.inj H;go_wp2;go_ret;exact ⟨by first | rfl | (simp;done) | (simp [*];done),by repeat (first | exact aM.refl _ | apply aM.step)⟩
      rw [if_neg c19] at H;have DU:decide (0 < Dl)=false:=decide_eq_false c19;clear c19;obtain rfl:=Option.some.inj H;go_wp2;go_ret;exact ⟨by first | rfl | (simp;done) | (simp [*];done),by repeat (first | exact aM.refl _ | apply aM.step)⟩
     rw [if_pos c11] at H;have Bt:decide (jK < (wrap64 ((a0.size:Int) - 1)))=true:=decide_eq_true c11;clear c11;by_cases c12:0<=jK
     rotate_left
     ·rw [if_neg c12] at H
      exact absurd H (by simp)
     rw [if_pos c12] at H;have Xm:decide (0<=jK)=true:=decide_eq_true c12;clear c12;by_cases c13:jK < (a0.size:Int)
     rotate_left
     ·rw [if_neg c13] at H
      exact absurd H (by simp)
     rw [if_pos c13] at H;have DV:decide (jK < (a0.size:Int))=true:=decide_eq_true c13;clear c13;replace H:=Option.bind_eq_some_iff.mp H;obtain ⟨t159,QU,H⟩:=H;replace H:(if t159=true then (aY.l0 k2 a0 (wrap64 (Dl+1)) KP (wrap64 (jK+1))) else (if (bt a0 jK)=46 then (aY.l0 k2 a0 Dl (wrap64 (KP+1)) (wrap64 (jK+1))) else (some false)))=some r:=H;have QV:=aj.mk QU;clear QU;by_cases c16:t159=true
     ·subst c16
      rw [if_pos rfl] at H;have H':=aj.mk H;clear H;have Xn:0<=(jK:Int):=of_decide_eq_true (by first | (with_reducible assumption) | assumption);have Xo:jK < (a0.size:Int):=of_decide_eq_true (by first | (with_reducible assumption) | assumption);have abY:=bY a0 jK;replace Xn:=eq_true Xn;replace Xo:=eq_true Xo;go_wp2_with (first | ((with_reducible refine bg (f:=60) rfl ?_);refine cO (some 35) rfl rfl Tryz.func60 (by kernel_rfl) rfl #[.int .u8 (bt a0 jK)] rfl (by (try simp only [List.map_toArray,List.map_cons,List.map_nil]);first | done | rfl | (simp only [List.length_drop,List.length_take];rfl)) ?_;(with_reducible refine (bB.calls (bt a0 jK) true _ QV.out).mono ?_);rintro e w' ⟨rfl,⟨nd,rfl⟩⟩;refine ⟨_,rfl,?_⟩))
      go_roundg k2
      case measure=>have:=HJ1.out;have:=CY.out;omega
      case rel=>exact ⟨(wrap64 (Dl+1)),(KP),(wrap64 (jK+1)),(by first | rfl | (simp;done) | (simp [*];done)),(by first | rfl | (simp;done) | (simp [*];done)),(by first | rfl | (simp;done) | (simp [*];done)),H',⟨by have:=HJ1.out;have:=CY.out;omega⟩,by repeat (first | exact aM.refl _ | apply aM.step)⟩
     replace c16:=Bool.eq_false_iff.mpr c16;subst c16;rw [if_neg (show ¬ (false=true) by decide)] at H;by_cases c18:(bt a0 jK)=46
     ·rw [if_pos c18] at H
      have yg:((bt a0 jK)==46)=true:=beq_iff_eq.mpr c18;have QW:((bt a0 jK) != 46)=false:=bne_eq_false_iff_eq.mpr c18;clear c18;have H':=aj.mk H;clear H;have Xn:0<=(jK:Int):=of_decide_eq_true (by first | (with_reducible assumption) | assumption);have Xo:jK < (a0.size:Int):=of_decide_eq_true (by first | (with_reducible assumption) | assumption);have abY:=bY a0 jK;replace Xn:=eq_true Xn;replace Xo:=eq_true Xo;go_wp2_with (first | ((with_reducible refine bg (f:=60) rfl ?_);refine cO (some 35) rfl rfl Tryz.func60 (by kernel_rfl) rfl #[.int .u8 (bt a0 jK)] rfl (by (try simp only [List.map_toArray,List.map_cons,List.map_nil]);first | done | rfl | (simp only [List.length_drop,List.length_take];rfl)) ?_;(with_reducible refine (bB.calls (bt a0 jK) false _ QV.out).mono ?_);rintro e w' ⟨rfl,⟨nd,rfl⟩⟩;refine ⟨_,rfl,?_⟩;have QX:0<=(jK:Int):=of_decide_eq_true (by first | (with_reducible assumption) | assumption);have QY:jK < (a0.size:Int):=of_decide_eq_true (by first | (with_reducible assumption) | assumption);have Zk:=bY a0 jK;replace QX:=eq_true QX;replace QY:=eq_true QY))
      go_roundg k2
      case measure=>have:=HJ1.out;have:=CY.out;omega
      case rel=>exact ⟨(Dl),(wrap64 (KP+1)),(wrap64 (jK+1)),(by first | rfl | (simp;done) | (simp [*];done)),(by first | rfl | (simp;done) | (simp [*];done)),(by first | rfl | (simp;done) | (simp [*];done)),H',⟨by have:=HJ1.out;have:=CY.out;omega⟩,by repeat (first | exact aM.refl _ | apply aM.step)⟩
     rw [if_neg c18] at H;have yg:((bt a0 jK)==46)=false:=beq_eq_false_iff_ne.mpr c18;have QW:((bt a0 jK) != 46)=true:=bne_iff_ne.mpr c18;obtain rfl:=Option.some.inj H;have Xn:0<=(jK:Int):=of_decide_eq_true (by first | (with_reducible assumption) | assumption);have Xo:jK < (a0.size:Int):=of_decide_eq_true (by first | (with_reducible assumption) | assumption);have abY:=bY a0 jK;replace Xn:=eq_true Xn;replace Xo:=eq_true Xo;go_wp2_with (first | ((with_reducible refine bg (f:=60) rfl ?_);refine cO (some 35) rfl rfl Tryz.func60 (by kernel_rfl) rfl #[.int .u8 (bt a0 jK)] rfl (by (try simp only [List.map_toArray,List.map_cons,List.map_nil]);first | done | rfl | (simp only [List.length_drop,List.length_take];rfl)) ?_;(with_reducible refine (bB.calls (bt a0 jK) false _ QV.out).mono ?_);rintro e w' ⟨rfl,⟨nd,rfl⟩⟩;refine ⟨_,rfl,?_⟩;have QX:0<=(jK:Int):=of_decide_eq_true (by first | (with_reducible assumption) | assumption);have QY:jK < (a0.size:Int):=of_decide_eq_true (by first | (with_reducible assumption) | assumption);have Zk:=bY a0 jK;replace QX:=eq_true QX;replace QY:=eq_true QY))
     go_ret;exact ⟨by first | rfl | (simp;done) | (simp [*];done),by repeat (first | exact aM.refl _ | apply aM.step)⟩
def dP.f (a0:Int):Option (Bool):=if a0>=97 then (if a0<=122 then (some true) else (if a0>=65 then (some (decide (a0<=90))) else (some false))) else (if a0>=65 then (some (decide (a0<=90))) else (some false))
set_option maxHeartbeats 8000000 in
set_option maxRecDepth 100000 in
theorem dP.calls (a0:Int) (r:Bool) (w:World) (h:dP.f a0=some r) :
  Calls Tryz.prog 99 #[.int .u8 a0] w fun e w'=>e=.returned (.bool r)/\aM w w':=by
 have H:(if a0>=97 then (if a0<=122 then (some true) else (if a0>=65 then (some (decide (a0<=90))) else (some false))) else (if a0>=65 then (some (decide (a0<=90))) else (some false)))=some r:=h;clear h;by_cases c2:a0>=97
 rotate_left
 ·rw [if_neg c2] at H
  have oG:decide (97<=a0)=false:=decide_eq_false c2;clear c2;by_cases c5:a0>=65
  ·rw [if_pos c5] at H
   have nV:decide (65<=a0)=true:=decide_eq_true c5;clear c5;obtain rfl:=Option.some.inj H;go_enter Tryz.func99,Tryz.ntmps99
   go_wp2;go_ret;exact ⟨by first | rfl | (simp;done) | (simp [*];done),by repeat (first | exact aM.refl _ | apply aM.step)⟩
  rw [if_neg c5] at H;have nV:decide (65<=a0)=false:=decide_eq_false c5;clear c5;obtain rfl:=Option.some.inj H;go_enter Tryz.func99,Tryz.ntmps99
  go_wp2;go_ret;exact ⟨by first | rfl | (simp;done) | (simp [*];done),by repeat (first | exact aM.refl _ | apply aM.step)⟩
 rw [if_pos c2] at H;have oG:decide (97<=a0)=true:=decide_eq_true c2;clear c2;by_cases c3:a0<=122
 ·rw [if_pos c3] at H
  have nU:decide (a0<=122)=true:=decide_eq_true c3;clear c3;obtain rfl:=Option.some.inj H;go_enter Tryz.func99,Tryz.ntmps99
  go_wp2;go_ret;exact ⟨by first | rfl | (simp;done) | (simp [*];done),by repeat (first | exact aM.refl _ | apply aM.step)⟩
 rw [if_neg c3] at H;have nU:decide (a0<=122)=false:=decide_eq_false c3;clear c3;by_cases c4:a0>=65
 ·rw [if_pos c4] at H
  have pF:decide (65<=a0)=true:=decide_eq_true c4;clear c4;obtain rfl:=Option.some.inj H;go_enter Tryz.func99,Tryz.ntmps99
  go_wp2;go_ret;exact ⟨by first | rfl | (simp;done) | (simp [*];done),by repeat (first | exact aM.refl _ | apply aM.step)⟩
 rw [if_neg c4] at H;have pF:decide (65<=a0)=false:=decide_eq_false c4;clear c4;obtain rfl:=Option.some.inj H;go_enter Tryz.func99,Tryz.ntmps99
 go_wp2;go_ret;exact ⟨by first | rfl | (simp;done) | (simp [*];done),by repeat (first | exact aM.refl _ | apply aM.step)⟩
def bF.f (a0:Int):Option (Bool):=(dP.f a0).bind fun t157=>(if t157=true then (some true) else ((bB.f a0).bind fun Ie=>(if Ie=true then (some true) else (if a0=46 then (some true) else (if a0=95 then (some true) else (if a0=33 then (some true) else (some (a0==63))))))))
set_option maxHeartbeats 8000000 in
set_option maxRecDepth 100000 in
theorem bF.calls (a0:Int) (r:Bool) (w:World) (h:bF.f a0=some r) :
  Calls Tryz.prog 58 #[.int .u8 a0] w fun e w'=>e=.returned (.bool r)/\aM w w':=by
 have H:((dP.f a0).bind fun t157=>(if t157=true then (some true) else ((bB.f a0).bind fun Ie=>(if Ie=true then (some true) else (if a0=46 then (some true) else (if a0=95 then (some true) else (if a0=33 then (some true) else (some (a0==63)))))))))=some r:=h;clear h;replace H:=Option.bind_eq_some_iff.mp H;obtain ⟨t157,CX,H⟩:=H;replace H:(if t157=true then (some true) else ((bB.f a0).bind fun Ie=>(if Ie=true then (some true) else (if a0=46 then (some true) else (if a0=95 then (some true) else (if a0=33 then (some true) else (some (a0==63))))))))=some r:=H;have A2:=aj.mk CX;clear CX;by_cases c3:t157=true
 ·subst c3
  rw [if_pos rfl] at H;obtain rfl:=Option.some.inj H;go_enter Tryz.func58,Tryz.ntmps58
  go_wp2_with (first | ((with_reducible refine bg (f:=99) rfl ?_);refine cO (some 4) rfl rfl Tryz.func99 (by kernel_rfl) rfl #[.int .u8 a0] rfl (by (try simp only [List.map_toArray,List.map_cons,List.map_nil]);first | done | rfl | (simp only [List.length_drop,List.length_take];rfl)) ?_;(with_reducible refine (dP.calls a0 true _ A2.out).mono ?_);rintro e w' ⟨rfl,⟨nd,rfl⟩⟩;refine ⟨_,rfl,?_⟩))
  go_ret;exact ⟨by first | rfl | (simp;done) | (simp [*];done),by repeat (first | exact aM.refl _ | apply aM.step)⟩
 replace c3:=Bool.eq_false_iff.mpr c3;subst c3;rw [if_neg (show ¬ (false=true) by decide)] at H;replace H:=Option.bind_eq_some_iff.mp H;obtain ⟨Ie,WR,H⟩:=H;replace H:(if Ie=true then (some true) else (if a0=46 then (some true) else (if a0=95 then (some true) else (if a0=33 then (some true) else (some (a0==63))))))=some r:=H;have A4:=aj.mk WR;clear WR;by_cases c5:Ie=true
 ·subst c5
  rw [if_pos rfl] at H;obtain rfl:=Option.some.inj H;go_enter Tryz.func58,Tryz.ntmps58
  go_wp2_with (first | ((with_reducible refine bg (f:=99) rfl ?_);refine cO (some 4) rfl rfl Tryz.func99 (by kernel_rfl) rfl #[.int .u8 a0] rfl (by (try simp only [List.map_toArray,List.map_cons,List.map_nil]);first | done | rfl | (simp only [List.length_drop,List.length_take];rfl)) ?_;(with_reducible refine (dP.calls a0 false _ A2.out).mono ?_);rintro e w' ⟨rfl,⟨nd,rfl⟩⟩;refine ⟨_,rfl,?_⟩) | (go_at_call 60;(with_reducible refine (bB.calls a0 true _ A4.out).mono ?_);rintro e w' ⟨rfl,⟨nd,rfl⟩⟩))
  go_ret;exact ⟨by first | rfl | (simp;done) | (simp [*];done),by repeat (first | exact aM.refl _ | apply aM.step)⟩
 replace c5:=Bool.eq_false_iff.mpr c5;subst c5;rw [if_neg (show ¬ (false=true) by decide)] at H;by_cases c6:a0=46
 ·rw [if_pos c6] at H
  have kP:(a0==46)=true:=beq_iff_eq.mpr c6;have Bj:(a0 != 46)=false:=bne_eq_false_iff_eq.mpr c6;clear c6;obtain rfl:=Option.some.inj H;go_enter Tryz.func58,Tryz.ntmps58
  go_wp2_with (first | ((with_reducible refine bg (f:=99) rfl ?_);refine cO (some 4) rfl rfl Tryz.func99 (by kernel_rfl) rfl #[.int .u8 a0] rfl (by (try simp only [List.map_toArray,List.map_cons,List.map_nil]);first | done | rfl | (simp only [List.length_drop,List.length_take];rfl)) ?_;(with_reducible refine (dP.calls a0 false _ A2.out).mono ?_);rintro e w' ⟨rfl,⟨nd,rfl⟩⟩;refine ⟨_,rfl,?_⟩) | (go_at_call 60;(with_reducible refine (bB.calls a0 false _ A4.out).mono ?_);rintro e w' ⟨rfl,⟨nd,rfl⟩⟩))
  go_ret;exact ⟨by first | rfl | (simp;done) | (simp [*];done),by repeat (first | exact aM.refl _ | apply aM.step)⟩
 rw [if_neg c6] at H;have kP:(a0==46)=false:=beq_eq_false_iff_ne.mpr c6;have Bj:(a0 != 46)=true:=bne_iff_ne.mpr c6;by_cases c7:a0=95
 ·rw [if_pos c7] at H
  have sI:(a0==95)=true:=beq_iff_eq.mpr c7;have Ut:(a0 != 95)=false:=bne_eq_false_iff_eq.mpr c7;clear c7;obtain rfl:=Option.some.inj H;go_enter Tryz.func58,Tryz.ntmps58
  go_wp2_with (first | ((with_reducible refine bg (f:=99) rfl ?_);refine cO (some 4) rfl rfl Tryz.func99 (by kernel_rfl) rfl #[.int .u8 a0] rfl (by (try simp only [List.map_toArray,List.map_cons,List.map_nil]);first | done | rfl | (simp only [List.length_drop,List.length_take];rfl)) ?_;(with_reducible refine (dP.calls a0 false _ A2.out).mono ?_);rintro e w' ⟨rfl,⟨nd,rfl⟩⟩;refine ⟨_,rfl,?_⟩) | (go_at_call 60;(with_reducible refine (bB.calls a0 false _ A4.out).mono ?_);rintro e w' ⟨rfl,⟨nd,rfl⟩⟩))
  go_ret;exact ⟨by first | rfl | (simp;done) | (simp [*];done),by repeat (first | exact aM.refl _ | apply aM.step)⟩
 rw [if_neg c7] at H;have sI:(a0==95)=false:=beq_eq_false_iff_ne.mpr c7;have Ut:(a0 != 95)=true:=bne_iff_ne.mpr c7;by_cases c8:a0=33
 ·rw [if_pos c8] at H
  have yO:(a0==33)=true:=beq_iff_eq.mpr c8;have GQ:(a0 != 33)=false:=bne_eq_false_iff_eq.mpr c8;clear c8;obtain rfl:=Option.some.inj H;go_enter Tryz.func58,Tryz.ntmps58
  go_wp2_with (first | ((with_reducible refine bg (f:=99) rfl ?_);refine cO (some 4) rfl rfl Tryz.func99 (by kernel_rfl) rfl #[.int .u8 a0] rfl (by (try simp only [List.map_toArray,List.map_cons,List.map_nil]);first | done | rfl | (simp only [List.length_drop,List.length_take];rfl)) ?_;(with_reducible refine (dP.calls a0 false _ A2.out).mono ?_);rintro e w' ⟨rfl,⟨nd,rfl⟩⟩;refine ⟨_,rfl,?_⟩) | (go_at_call 60;(with_reducible refine (bB.calls a0 false _ A4.out).mono ?_);rintro e w' ⟨rfl,⟨nd,rfl⟩⟩))
  go_ret;exact ⟨by first | rfl | (simp;done) | (simp [*];done),by repeat (first | exact aM.refl _ | apply aM.step)⟩
 rw [if_neg c8] at H;have yO:(a0==33)=false:=beq_eq_false_iff_ne.mpr c8;have GQ:(a0 != 33)=true:=bne_iff_ne.mpr c8;obtain rfl:=Option.some.inj H;go_enter Tryz.func58,Tryz.ntmps58
 go_wp2_with (first | ((with_reducible refine bg (f:=99) rfl ?_);refine cO (some 4) rfl rfl Tryz.func99 (by kernel_rfl) rfl #[.int .u8 a0] rfl (by (try simp only [List.map_toArray,List.map_cons,List.map_nil]);first | done | rfl | (simp only [List.length_drop,List.length_take];rfl)) ?_;(with_reducible refine (dP.calls a0 false _ A2.out).mono ?_);rintro e w' ⟨rfl,⟨nd,rfl⟩⟩;refine ⟨_,rfl,?_⟩) | (go_at_call 60;(with_reducible refine (bB.calls a0 false _ A4.out).mono ?_);rintro e w' ⟨rfl,⟨nd,rfl⟩⟩))
 go_ret;exact ⟨by first | rfl | (simp;done) | (simp [*];done),by repeat (first | exact aM.refl _ | apply aM.step)⟩
end Go.Proofs.YtkkpjonfaflkmaaGreatDoor.T
