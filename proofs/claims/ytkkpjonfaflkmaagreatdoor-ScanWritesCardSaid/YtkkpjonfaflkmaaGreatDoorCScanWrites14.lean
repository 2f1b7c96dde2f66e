/- A part of the proof of ScanWrites. -/
import Derived.Test.YtkkpjonfaflkmaaGreatDoorCScanWrites13
set_option linter.all false
namespace Go.Proofs.YtkkpjonfaflkmaaGreatDoor.T
open Go.RowKit Go.Proofs.aj.aI Go.Proofs.aj.aY Go.Proofs.aj.bq
attribute [local go_sem] eY eZ gH gI dV dW fq fu
mutual
def aR.j0:Nat->ByteArray->Bool->Option (Bool)
 | 0,_,_=>none
 | k+1,x0,x24=>if x24=true then (some false) else (aR.l0 k x0 0 0 0)
def aR.l0:Nat->ByteArray->Int->Int->Int->Option (Bool)
 | 0,_,_,_,_=>none
 | k+1,x0,x3,x4,x5=>if x5 < (wrap64 ((x0.size:Int) - 1)) then (if 0<=x5 then (if x5 < (x0.size:Int) then ((bD.f (bt x0 x5)).bind fun t159=>(if t159=true then (aR.l0 k x0 (wrap64 (x3+1)) x4 (wrap64 (x5+1))) else (if (bt x0 x5)=46 then (aR.l0 k x0 x3 (wrap64 (x4+1)) (wrap64 (x5+1))) else (some false)))) else (none)) else (none)) else (if x3 > 0 then (some (decide (x4 < 2))) else (some false))
end
def aR.f (k:Nat) (a0:ByteArray):Option (Bool):=if (a0.size:Int) < 2 then (aR.j0 k a0 true) else (if 0<=(wrap64 ((a0.size:Int) - 1)) then (if (wrap64 ((a0.size:Int) - 1)) < (a0.size:Int) then (if (bt a0 (wrap64 ((a0.size:Int) - 1)))=69 then (aR.j0 k a0 false) else (aR.j0 k a0 ((bt a0 (wrap64 ((a0.size:Int) - 1))) != 101))) else (none)) else (none))
set_option maxHeartbeats 8000000 in
set_option maxRecDepth 100000 in
theorem aR.calls (k:Nat) (a0:ByteArray) (r:Bool) (w:World) (h:aR.f k a0=some r) :
  Calls Tryz.prog 100 #[.string a0] w fun e w'=>e=.returned (.bool r)/\aG w w':=by
 have H:(if (a0.size:Int) < 2 then (aR.j0 k a0 true) else (if 0<=(wrap64 ((a0.size:Int) - 1)) then (if (wrap64 ((a0.size:Int) - 1)) < (a0.size:Int) then (if (bt a0 (wrap64 ((a0.size:Int) - 1)))=69 then (aR.j0 k a0 false) else (aR.j0 k a0 ((bt a0 (wrap64 ((a0.size:Int) - 1))) != 101))) else (none)) else (none)))=some r:=h;clear h;have qo:=ah.mk H;clear H;go_enter Tryz.func100,Tryz.ntmps100
 go_upto_region 1 with (fail)
 go_cut [24] (fun v24 wc=>∃ (kq:Nat) (NY:Bool),v24=.bool NY/\ah (aR.j0 kq a0 NY=some r)/\ah (kq<=k)/\aG w wc)
 case first =>
  have H:=qo.out;clear qo;by_cases c3:(a0.size:Int) < 2
  ·rw [if_pos c3] at H
   have nH:decide ((a0.size:Int) < 2)=true:=decide_eq_true c3;have zN:decide (a0.size < 2)=true:=decide_eq_true (by omega);clear c3
   (first | rw [nH] | (simp only [dK,fM];rw [nH]) | skip)
   have H':=ah.mk H;clear H;go_wp2;go_meet
   case rel=>exact ⟨_,(true),(by first | rfl | (simp;done) | (simp [*];done)),H',⟨by first | omega | exact Nat.le_refl _⟩,by repeat (first | exact aG.refl _ | apply aG.step)⟩
  rw [if_neg c3] at H;have nH:decide ((a0.size:Int) < 2)=false:=decide_eq_false c3;have zN:decide (a0.size < 2)=false:=decide_eq_false (by omega);clear c3
  (first | rw [nH] | (simp only [dK,fM];rw [nH]) | skip)
  obtain ⟨Ai,XD⟩:∃ j_:Int,(wrap64 ((a0.size:Int) - 1))=j_:=⟨_,rfl⟩;replace H:(if 0<=(Ai) then (if (Ai) < (a0.size:Int) then (if (bt a0 (Ai))=69 then (aR.j0 k a0 false) else (aR.j0 k a0 ((bt a0 (Ai)) != 101))) else (none)) else (none))=some r:=by first | (rw [XD] at H;exact H) | (simp only [XD] at H |-;exact H)
  have akf:(IntKind.i64.wrap ((a0.size:Int) - 1))=Ai:=(dK _).trans XD;by_cases c5:0<=(Ai)
  rotate_left
  ·rw [if_neg c5] at H
   exact absurd H (by simp)
  rw [if_pos c5] at H;have kN:decide (0<=(Ai))=true:=decide_eq_true c5;clear c5;by_cases c6:(Ai) < (a0.size:Int)
  rotate_left
  ·rw [if_neg c6] at H
   exact absurd H (by simp)
  rw [if_pos c6] at H;have lJ:decide ((Ai) < (a0.size:Int))=true:=decide_eq_true c6;clear c6;by_cases c8:(bt a0 (Ai))=69
  ·rw [if_pos c8] at H
   have zO:((bt a0 (Ai))==69)=true:=beq_iff_eq.mpr c8;have Iu:((bt a0 (Ai)) != 69)=false:=bne_eq_false_iff_eq.mpr c8;clear c8;have H':=ah.mk H;clear H;have p7:0<=((Ai):Int):=of_decide_eq_true (by with_reducible assumption);have q7:(Ai) < (a0.size:Int):=of_decide_eq_true (by with_reducible assumption);have hx7:=dJ a0 (Ai);replace p7:=eq_true p7;replace q7:=eq_true q7;go_wp2;go_meet
   case rel=>exact ⟨_,(false),(by first | rfl | (simp;done) | (simp [*];done)),H',⟨by first | omega | exact Nat.le_refl _⟩,by repeat (first | exact aG.refl _ | apply aG.step)⟩
  rw [if_neg c8] at H;have zO:((bt a0 (Ai))==69)=false:=beq_eq_false_iff_ne.mpr c8;have Iu:((bt a0 (Ai)) != 69)=true:=bne_iff_ne.mpr c8;have H':=ah.mk H;clear H;have p7:0<=((Ai):Int):=of_decide_eq_true (by with_reducible assumption);have q7:(Ai) < (a0.size:Int):=of_decide_eq_true (by with_reducible assumption);have hx7:=dJ a0 (Ai);replace p7:=eq_true p7;replace q7:=eq_true q7;have p9:0<=((Ai):Int):=of_decide_eq_true (by with_reducible assumption);have q9:(Ai) < (a0.size:Int):=of_decide_eq_true (by with_reducible assumption);have hx9:=dJ a0 (Ai);replace p9:=eq_true p9;replace q9:=eq_true q9;go_wp2;go_meet
  case rel=>exact ⟨_,(((bt a0 (Ai)) != 101)),(by first | rfl | (simp;done) | (simp only [<- XD]<;>(first | rfl | simp)) | (simp [*];done)),H',⟨by first | omega | exact Nat.le_refl _⟩,by repeat (first | exact aG.refl _ | apply aG.step)⟩
 case rest =>
  clear qo;obtain ⟨kq,NY,rfl,HA,HJ1,⟨mc1,rfl⟩⟩:=hcut;cases kq with
  | zero=>exact absurd HA.out (by simp [aR.j0])
  | succ NV =>
   have H:=HA.out;clear HA;simp only [aR.j0] at H;by_cases c10:NY=true
   ·subst c10
    rw [if_pos rfl] at H;obtain rfl:=Option.some.inj H;go_wp2;go_ret;exact ⟨by first | rfl | (simp;done) | (simp [*];done),by repeat (first | exact aG.refl _ | apply aG.step)⟩
   replace c10:=Bool.eq_false_iff.mpr c10;subst c10;rw [if_neg (show ¬ (false=true) by decide)] at H;have H':=ah.mk H;clear H;go_wp2;go_loopg [3,4,5] NV (fun kq v3 v4 v5 w'=>∃ (Dg:Int) (LX:Int) (jf:Int),v3=.int .i64 Dg/\v4=.int .i64 LX/\v5=.int .i64 jf/\ah (aR.l0 kq a0 Dg LX jf=some r)/\ah (kq<=NV)/\aG w w')
   case atStart=>exact ⟨(0),(0),(0),(by first | rfl | (simp;done) | (simp [*];done)),(by first | rfl | (simp;done) | (simp [*];done)),(by first | rfl | (simp;done) | (simp [*];done)),H',⟨Nat.le_refl _⟩,by repeat (first | exact aG.refl _ | apply aG.step)⟩
   case round =>
    clear H';obtain ⟨Dg,LX,jf,rfl,rfl,rfl,HA,CG,⟨m2,rfl⟩⟩:=hrel;cases gk with
    | zero=>exact absurd HA.out (by simp [aR.l0])
    | succ k2 =>
     have H:=HA.out;clear HA;simp only [aR.l0] at H;by_cases c11:jf < (wrap64 ((a0.size:Int) - 1))
     rotate_left
     ·rw [if_neg c11] at H
      have Bg:decide (jf < (wrap64 ((a0.size:Int) - 1)))=false:=decide_eq_false c11;clear c11;by_cases c19:Dg > 0
      ·rw [if_pos c19] at H
       have NZ:decide (0 < Dg)=true:=decide_eq_true c19;clear c19;obtain rfl:=Option.some.inj H;go_wp2;go_ret;exact ⟨by first | rfl | (simp;done) | (simp [*];done),by repeat (first | exact aG.refl _ | apply aG.step)⟩
      rw [if_neg c19] at H;have NZ:decide (0 < Dg)=false:=decide_eq_false c19;clear c19;obtain rfl:=Option.some.inj H;go_wp2;go_ret;exact ⟨by first | rfl | (simp;done) | (simp [*];done),by repeat (first | exact aG.refl _ | apply aG.step)⟩
     rw [if_pos c11] at H;have Bg:decide (jf < (wrap64 ((a0.size:Int) - 1)))=true:=decide_eq_true c11;clear c11;by_cases c12:0<=jf
     rotate_left
     ·rw [if_neg c12] at H
      exact absurd H (by simp)
     rw [if_pos c12] at H;have aaj:decide (0<=jf)=true:=decide_eq_true c12;clear c12;by_cases c13:jf < (a0.size:Int)
     rotate_left
     ·rw [if_neg c13] at H
      exact absurd H (by simp)
     rw [if_pos c13] at H;have wR:decide (jf < (a0.size:Int))=true:=decide_eq_true c13;clear c13;replace H:=Option.bind_eq_some_iff.mp H;obtain ⟨t159,aeE,H⟩:=H;replace H:(if t159=true then (aR.l0 k2 a0 (wrap64 (Dg+1)) LX (wrap64 (jf+1))) else (if (bt a0 jf)=46 then (aR.l0 k2 a0 Dg (wrap64 (LX+1)) (wrap64 (jf+1))) else (some false)))=some r:=H;have A15:=ah.mk aeE;clear aeE;by_cases c16:t159=true
     ·subst c16
      rw [if_pos rfl] at H;have H':=ah.mk H;clear H;have p14:0<=(jf:Int):=of_decide_eq_true (by with_reducible assumption);have q14:jf < (a0.size:Int):=of_decide_eq_true (by with_reducible assumption);have aeF:=dJ a0 jf;replace p14:=eq_true p14;replace q14:=eq_true q14;go_wp2_with (first | ((with_reducible refine aQ (f:=60) rfl ?_);refine bL (some 35) rfl rfl Tryz.func60 (by kernel_rfl) rfl #[.int .u8 (bt a0 jf)] rfl (by (try simp only [List.map_toArray,List.map_cons,List.map_nil]);first | done | rfl) ?_;(with_reducible refine (bD.calls (bt a0 jf) true _ A15.out).mono ?_);rintro e w' ⟨rfl,⟨nd,rfl⟩⟩;refine ⟨_,rfl,?_⟩))
      go_roundg k2
      case measure=>have:=HJ1.out;have:=CG.out;omega
      case rel=>exact ⟨(wrap64 (Dg+1)),(LX),(wrap64 (jf+1)),(by first | rfl | (simp;done) | (simp [*];done)),(by first | rfl | (simp;done) | (simp [*];done)),(by first | rfl | (simp;done) | (simp [*];done)),H',⟨by have:=HJ1.out;have:=CG.out;omega⟩,by repeat (first | exact aG.refl _ | apply aG.step)⟩
     replace c16:=Bool.eq_false_iff.mpr c16;subst c16;rw [if_neg (show ¬ (false=true) by decide)] at H;by_cases c18:(bt a0 jf)=46
     ·rw [if_pos c18] at H
      have Oa:((bt a0 jf)==46)=true:=beq_iff_eq.mpr c18;have TB:((bt a0 jf) != 46)=false:=bne_eq_false_iff_eq.mpr c18;clear c18;have H':=ah.mk H;clear H;have p14:0<=(jf:Int):=of_decide_eq_true (by with_reducible assumption);have q14:jf < (a0.size:Int):=of_decide_eq_true (by with_reducible assumption);have aeF:=dJ a0 jf;replace p14:=eq_true p14;replace q14:=eq_true q14;go_wp2_with (first | ((with_reducible refine aQ (f:=60) rfl ?_);refine bL (some 35) rfl rfl Tryz.func60 (by kernel_rfl) rfl #[.int .u8 (bt a0 jf)] rfl (by (try simp only [List.map_toArray,List.map_cons,List.map_nil]);first | done | rfl) ?_;(with_reducible refine (bD.calls (bt a0 jf) false _ A15.out).mono ?_);rintro e w' ⟨rfl,⟨nd,rfl⟩⟩;refine ⟨_,rfl,?_⟩;have TD:0<=(jf:Int):=of_decide_eq_true (by with_reducible assumption);have TF:jf < (a0.size:Int):=of_decide_eq_true (by with_reducible assumption);have abF:=dJ a0 jf;replace TD:=eq_true TD;replace TF:=eq_true TF))
      go_roundg k2
      case measure=>have:=HJ1.out;have:=CG.out;omega
      case rel=>exact ⟨(Dg),(wrap64 (LX+1)),(wrap64 (jf+1)),(by first | rfl | (simp;done) | (simp [*];done)),(by first | rfl | (simp;done) | (simp [*];done)),(by first | rfl | (simp;done) | (simp [*];done)),H',⟨by have:=HJ1.out;have:=CG.out;omega⟩,by repeat (first | exact aG.refl _ | apply aG.step)⟩
     rw [if_neg c18] at H;have Oa:((bt a0 jf)==46)=false:=beq_eq_false_iff_ne.mpr c18;have TB:((bt a0 jf) != 46)=true:=bne_iff_ne.mpr c18;obtain rfl:=Option.some.inj H;have p14:0<=(jf:Int):=of_decide_eq_true (by with_reducible assumption);have q14:jf < (a0.size:Int):=of_decide_eq_true (by with_reducible assumption);have aeF:=dJ a0 jf;replace p14:=eq_true p14;replace q14:=eq_true q14;go_wp2_with (first | ((with_reducible refine aQ (f:=60) rfl ?_);refine bL (some 35) rfl rfl Tryz.func60 (by kernel_rfl) rfl #[.int .u8 (bt a0 jf)] rfl (by (try simp only [List.map_toArray,List.map_cons,List.map_nil]);first | done | rfl) ?_;(with_reducible refine (bD.calls (bt a0 jf) false _ A15.out).mono ?_);rintro e w' ⟨rfl,⟨nd,rfl⟩⟩;refine ⟨_,rfl,?_⟩;have TD:0<=(jf:Int):=of_decide_eq_true (by with_reducible assumption);have TF:jf < (a0.size:Int):=of_decide_eq_true (by with_reducible assumption);have abF:=dJ a0 jf;replace TD:=eq_true TD;replace TF:=eq_true TF))
     go_ret;exact ⟨by first | rfl | (simp;done) | (simp [*];done),by repeat (first | exact aG.refl _ | apply aG.step)⟩
def dB.f (a0:Int):Option (Bool):=if a0>=97 then (if a0<=122 then (some true) else (if a0>=65 then (some (decide (a0<=90))) else (some false))) else (if a0>=65 then (some (decide (a0<=90))) else (some false))
set_option maxHeartbeats 8000000 in
set_option maxRecDepth 100000 in
theorem dB.calls (a0:Int) (r:Bool) (w:World) (h:dB.f a0=some r) :
  Calls Tryz.prog 99 #[.int .u8 a0] w fun e w'=>e=.returned (.bool r)/\aG w w':=by
 have H:(if a0>=97 then (if a0<=122 then (some true) else (if a0>=65 then (some (decide (a0<=90))) else (some false))) else (if a0>=65 then (some (decide (a0<=90))) else (some false)))=some r:=h;clear h;by_cases c2:a0>=97
 rotate_left
 ·rw [if_neg c2] at H
  have kX:decide (97<=a0)=false:=decide_eq_false c2;clear c2;by_cases c5:a0>=65
  ·rw [if_pos c5] at H
   have kN:decide (65<=a0)=true:=decide_eq_true c5;clear c5;obtain rfl:=Option.some.inj H;go_enter Tryz.func99,Tryz.ntmps99
   go_wp2;go_ret;exact ⟨by first | rfl | (simp;done) | (simp [*];done),by repeat (first | exact aG.refl _ | apply aG.step)⟩
  rw [if_neg c5] at H;have kN:decide (65<=a0)=false:=decide_eq_false c5;clear c5;obtain rfl:=Option.some.inj H;go_enter Tryz.func99,Tryz.ntmps99
  go_wp2;go_ret;exact ⟨by first | rfl | (simp;done) | (simp [*];done),by repeat (first | exact aG.refl _ | apply aG.step)⟩
 rw [if_pos c2] at H;have kX:decide (97<=a0)=true:=decide_eq_true c2;clear c2;by_cases c3:a0<=122
 ·rw [if_pos c3] at H
  have nH:decide (a0<=122)=true:=decide_eq_true c3;clear c3;obtain rfl:=Option.some.inj H;go_enter Tryz.func99,Tryz.ntmps99
  go_wp2;go_ret;exact ⟨by first | rfl | (simp;done) | (simp [*];done),by repeat (first | exact aG.refl _ | apply aG.step)⟩
 rw [if_neg c3] at H;have nH:decide (a0<=122)=false:=decide_eq_false c3;clear c3;by_cases c4:a0>=65
 ·rw [if_pos c4] at H
  have kP:decide (65<=a0)=true:=decide_eq_true c4;clear c4;obtain rfl:=Option.some.inj H;go_enter Tryz.func99,Tryz.ntmps99
  go_wp2;go_ret;exact ⟨by first | rfl | (simp;done) | (simp [*];done),by repeat (first | exact aG.refl _ | apply aG.step)⟩
 rw [if_neg c4] at H;have kP:decide (65<=a0)=false:=decide_eq_false c4;clear c4;obtain rfl:=Option.some.inj H;go_enter Tryz.func99,Tryz.ntmps99
 go_wp2;go_ret;exact ⟨by first | rfl | (simp;done) | (simp [*];done),by repeat (first | exact aG.refl _ | apply aG.step)⟩
def dw.f (a0:Int):Option (Bool):=(dB.f a0).bind fun t157=>(if t157=true then (some true) else ((bD.f a0).bind fun Js=>(if Js=true then (some true) else (if a0=46 then (some true) else (if a0=95 then (some true) else (if a0=33 then (some true) else (some (a0==63))))))))
set_option maxHeartbeats 8000000 in
set_option maxRecDepth 100000 in
theorem dw.calls (a0:Int) (r:Bool) (w:World) (h:dw.f a0=some r) :
  Calls Tryz.prog 58 #[.int .u8 a0] w fun e w'=>e=.returned (.bool r)/\aG w w':=by
 have H:((dB.f a0).bind fun t157=>(if t157=true then (some true) else ((bD.f a0).bind fun Js=>(if Js=true then (some true) else (if a0=46 then (some true) else (if a0=95 then (some true) else (if a0=33 then (some true) else (some (a0==63)))))))))=some r:=h;clear h;replace H:=Option.bind_eq_some_iff.mp H;obtain ⟨t157,EY,H⟩:=H;replace H:(if t157=true then (some true) else ((bD.f a0).bind fun Js=>(if Js=true then (some true) else (if a0=46 then (some true) else (if a0=95 then (some true) else (if a0=33 then (some true) else (some (a0==63))))))))=some r:=H;have A2:=ah.mk EY;clear EY;by_cases c3:t157=true
 ·subst c3
  rw [if_pos rfl] at H;obtain rfl:=Option.some.inj H;go_enter Tryz.func58,Tryz.ntmps58
  go_wp2_with (first | ((with_reducible refine aQ (f:=99) rfl ?_);refine bL (some 4) rfl rfl Tryz.func99 (by kernel_rfl) rfl #[.int .u8 a0] rfl (by (try simp only [List.map_toArray,List.map_cons,List.map_nil]);first | done | rfl) ?_;(with_reducible refine (dB.calls a0 true _ A2.out).mono ?_);rintro e w' ⟨rfl,⟨nd,rfl⟩⟩;refine ⟨_,rfl,?_⟩))
  go_ret;exact ⟨by first | rfl | (simp;done) | (simp [*];done),by repeat (first | exact aG.refl _ | apply aG.step)⟩
 replace c3:=Bool.eq_false_iff.mpr c3;subst c3;rw [if_neg (show ¬ (false=true) by decide)] at H;replace H:=Option.bind_eq_some_iff.mp H;obtain ⟨Js,RH,H⟩:=H;replace H:(if Js=true then (some true) else (if a0=46 then (some true) else (if a0=95 then (some true) else (if a0=33 then (some true) else (some (a0==63))))))=some r:=H;have A4:=ah.mk RH;clear RH;by_cases c5:Js=true
 ·subst c5
  rw [if_pos rfl] at H;obtain rfl:=Option.some.inj H;go_enter Tryz.func58,Tryz.ntmps58
  go_wp2_with (first | ((with_reducible refine aQ (f:=99) rfl ?_);refine bL (some 4) rfl rfl Tryz.func99 (by kernel_rfl) rfl #[.int .u8 a0] rfl (by (try simp only [List.map_toArray,List.map_cons,List.map_nil]);first | done | rfl) ?_;(with_reducible refine (dB.calls a0 false _ A2.out).mono ?_);rintro e w' ⟨rfl,⟨nd,rfl⟩⟩;refine ⟨_,rfl,?_⟩) | (go_at_call 60;(with_reducible refine (bD.calls a0 true _ A4.out).mono ?_);rintro e w' ⟨rfl,⟨nd,rfl⟩⟩))
  go_ret;exact ⟨by first | rfl | (simp;done) | (simp [*];done),by repeat (first | exact aG.refl _ | apply aG.step)⟩
 replace c5:=Bool.eq_false_iff.mpr c5;subst c5;rw [if_neg (show ¬ (false=true) by decide)] at H;by_cases c6:a0=46
 ·rw [if_pos c6] at H
  have lJ:(a0==46)=true:=beq_iff_eq.mpr c6;have BA:(a0 != 46)=false:=bne_eq_false_iff_eq.mpr c6;clear c6;obtain rfl:=Option.some.inj H;go_enter Tryz.func58,Tryz.ntmps58
  go_wp2_with (first | ((with_reducible refine aQ (f:=99) rfl ?_);refine bL (some 4) rfl rfl Tryz.func99 (by kernel_rfl) rfl #[.int .u8 a0] rfl (by (try simp only [List.map_toArray,List.map_cons,List.map_nil]);first | done | rfl) ?_;(with_reducible refine (dB.calls a0 false _ A2.out).mono ?_);rintro e w' ⟨rfl,⟨nd,rfl⟩⟩;refine ⟨_,rfl,?_⟩) | (go_at_call 60;(with_reducible refine (bD.calls a0 false _ A4.out).mono ?_);rintro e w' ⟨rfl,⟨nd,rfl⟩⟩))
  go_ret;exact ⟨by first | rfl | (simp;done) | (simp [*];done),by repeat (first | exact aG.refl _ | apply aG.step)⟩
 rw [if_neg c6] at H;have lJ:(a0==46)=false:=beq_eq_false_iff_ne.mpr c6;have BA:(a0 != 46)=true:=bne_iff_ne.mpr c6;by_cases c7:a0=95
 ·rw [if_pos c7] at H
  have sJ:(a0==95)=true:=beq_iff_eq.mpr c7;have KS:(a0 != 95)=false:=bne_eq_false_iff_eq.mpr c7;clear c7;obtain rfl:=Option.some.inj H;go_enter Tryz.func58,Tryz.ntmps58
  go_wp2_with (first | ((with_reducible refine aQ (f:=99) rfl ?_);refine bL (some 4) rfl rfl Tryz.func99 (by kernel_rfl) rfl #[.int .u8 a0] rfl (by (try simp only [List.map_toArray,List.map_cons,List.map_nil]);first | done | rfl) ?_;(with_reducible refine (dB.calls a0 false _ A2.out).mono ?_);rintro e w' ⟨rfl,⟨nd,rfl⟩⟩;refine ⟨_,rfl,?_⟩) | (go_at_call 60;(with_reducible refine (bD.calls a0 false _ A4.out).mono ?_);rintro e w' ⟨rfl,⟨nd,rfl⟩⟩))
  go_ret;exact ⟨by first | rfl | (simp;done) | (simp [*];done),by repeat (first | exact aG.refl _ | apply aG.step)⟩
 rw [if_neg c7] at H;have sJ:(a0==95)=false:=beq_eq_false_iff_ne.mpr c7;have KS:(a0 != 95)=true:=bne_iff_ne.mpr c7;by_cases c8:a0=33
 ·rw [if_pos c8] at H
  have zO:(a0==33)=true:=beq_iff_eq.mpr c8;have Iu:(a0 != 33)=false:=bne_eq_false_iff_eq.mpr c8;clear c8;obtain rfl:=Option.some.inj H;go_enter Tryz.func58,Tryz.ntmps58
  go_wp2_with (first | ((with_reducible refine aQ (f:=99) rfl ?_);refine bL (some 4) rfl rfl Tryz.func99 (by kernel_rfl) rfl #[.int .u8 a0] rfl (by (try simp only [List.map_toArray,List.map_cons,List.map_nil]);first | done | rfl) ?_;(with_reducible refine (dB.calls a0 false _ A2.out).mono ?_);rintro e w' ⟨rfl,⟨nd,rfl⟩⟩;refine ⟨_,rfl,?_⟩) | (go_at_call 60;(with_reducible refine (bD.calls a0 false _ A4.out).mono ?_);rintro e w' ⟨rfl,⟨nd,rfl⟩⟩))
  go_ret;exact ⟨by first | rfl | (simp;done) | (simp [*];done),by repeat (first | exact aG.refl _ | apply aG.step)⟩
 rw [if_neg c8] at H;have zO:(a0==33)=false:=beq_eq_false_iff_ne.mpr c8;have Iu:(a0 != 33)=true:=bne_iff_ne.mpr c8;obtain rfl:=Option.some.inj H;go_enter Tryz.func58,Tryz.ntmps58
 go_wp2_with (first | ((with_reducible refine aQ (f:=99) rfl ?_);refine bL (some 4) rfl rfl Tryz.func99 (by kernel_rfl) rfl #[.int .u8 a0] rfl (by (try simp only [List.map_toArray,List.map_cons,List.map_nil]);first | done | rfl) ?_;(with_reducible refine (dB.calls a0 false _ A2.out).mono ?_);rintro e w' ⟨rfl,⟨nd,rfl⟩⟩;refine ⟨_,rfl,?_⟩) | (go_at_call 60;(with_reducible refine (bD.calls a0 false _ A4.out).mono ?_);rintro e w' ⟨rfl,⟨nd,rfl⟩⟩))
 go_ret;exact ⟨by first | rfl | (simp;done) | (simp [*];done),by repeat (first | exact aG.refl _ | apply aG.step)⟩
end Go.Proofs.YtkkpjonfaflkmaaGreatDoor.T
namespace Go.Proofs.YtkkpjonfaflkmaaGreatDoor.S
theorem tu {k c dl:Nat} {r:TR} (h:gK k r=.err c dl):r=.err c:=by
 cases r with
 | err c'=>cases h;rfl
 | ok t n=>cases h
theorem BL {v:List Int} {n c:Nat} (h:jR v n=.err c):c=30:=by
 unfold jR at h;by_cases hv:1000 < v.length
 ·rw [if_pos hv] at h;cases h;rfl
 ·rw [if_neg hv] at h;cases h
theorem LY {xs:List Int} {c:Nat} (h:dZ xs=.err c):c≠0:=by
 rcases xs with _ | ⟨q,r⟩
 ·cases h;decide
 simp only [dZ] at h;cases hl:lit q r 1 [] with
 | none=>rw [hl] at h;cases h;decide
 | some p =>
  obtain ⟨v,i⟩:=p;rw [hl] at h;simp only at h;by_cases hp:v.all iT=true
  ·rw [if_pos hp] at h
   by_cases hs:sfx ((q::r).drop (i+1))=0
   ·rw [if_pos hs] at h
    rw [BL h];decide
   rw [if_neg hs] at h;cases hd:eU v (sfx ((q::r).drop (i+1))) with
   | none=>rw [hd] at h;cases h;decide
   | some u=>rw [hd] at h;rw [BL h];decide
  ·rw [if_neg hp] at h;cases h;decide
theorem LZ {xs:List Int} {c:Nat} (h:iH xs=.err c):c≠0:=by
 unfold iH at h;by_cases h4:40 < dH xs
 ·rw [if_pos h4] at h;cases h;decide
 ·rw [if_neg h4] at h;cases h
theorem Jt {xs:List Int} {c:Nat} (h:gJ xs=.err c):c≠0:=by
 unfold gJ at h;cases hf:signs.find? (fun x=>x.isPrefixOf xs) with
 | none=>rw [hf] at h;cases h;decide
 | some l=>rw [hf] at h;cases h
theorem tC {xs:List Int} {c dl:Nat} (h:step xs=.err c dl):c≠0:=by
 rcases xs with _ | ⟨x,r⟩
 ·cases h
 simp only [step] at h;by_cases h1:x=10
 ·rw [if_pos h1] at h;cases h
 rw [if_neg h1] at h;by_cases h2:x=32
 ·rw [if_pos h2] at h;cases h
 rw [if_neg h2] at h;by_cases h3:dQ (x::r)=true
 ·rw [if_pos h3] at h
  cases hR:jD (x::r) 0 0 1 0 with
  | eof=>rw [hR] at h;cases h;decide
  | done i l b =>
   rw [hR] at h;simp only [gX] at h;by_cases hb:b=0
   ·rw [if_pos hb] at h;cases h
   ·rw [if_neg hb] at h;cases h;decide
 rw [if_neg h3] at h;by_cases h4:x=39\/x=34
 ·rw [if_pos h4] at h;exact LY (tu h)
 rw [if_neg h4] at h;by_cases h5:sym x=true
 ·rw [if_pos h5] at h;exact LZ (tu h)
 rw [if_neg h5] at h;exact Jt (tu h)
theorem tF:∀ (f:Nat) (xs:List Int) (i line:Nat) (cur:List Tk) (gap:Bool) (c ln:Nat),(go f xs i line cur gap).err=some (c,ln)->c≠0
 | 0,_,_,_,_,_,_,_,h=>by cases h
 | f+1,xs,i,line,cur,gap,c,ln,h=>by
  simp only [go] at h;cases hS:step xs with
  | fin=>rw [hS] at h;cases h
  | line =>
   rw [hS] at h;simp only at h;by_cases hc:comma cur=true
   ·rw [if_pos hc] at h;exact tF f _ _ _ _ _ c ln h
   ·rw [if_neg hc] at h;exact tF f _ _ _ _ _ c ln h
  | blank=>rw [hS] at h;exact tF f _ _ _ _ _ c ln h
  | jD n dl=>rw [hS] at h;exact tF f _ _ _ _ _ c ln h
  | tok k t n =>
   rw [hS] at h;simp only at h;by_cases h1:k=3/\t=[59]
   ·rw [if_pos h1] at h;exact tF f _ _ _ _ _ c ln h
   rw [if_neg h1] at h;split at h
   ·exact tF f _ _ _ _ _ c ln h
   ·exact tF f _ _ _ _ _ c ln h
  | err c' dl =>
   rw [hS] at h;simp only [Option.some.injEq,Prod.mk.injEq] at h;rw [<- h.1];exact tC hS
theorem wW {xs:List Int} {c ln:Nat} (h:(scan xs).err=some (c,ln)):c≠0:=tF _ _ _ _ _ _ c ln h
theorem FT (q:Int):∀ (xs:List Int) (i:Nat) (acc v:List Int) (j:Nat),lit q xs i acc=some (v,j) ->
  ∃ U R,xs=U++q::R/\U.length+i=j/\R.head?≠some q/\∀ R',R'.head?≠some q->lit q (U++q::R') i acc=some (v,j)
 | [],_,_,_,_=>fun h=>by cases h
 | [c],i,acc,v,j=>fun h=>by
  rw [lit] at h;by_cases h1:c=10
  ·rw [if_pos h1] at h;cases h
  rw [if_neg h1] at h;by_cases h2:c=q
  ·rw [if_pos h2] at h;cases h
   subst h2;refine ⟨[],[],rfl,by simp,by simp,fun R' hR=>?_⟩;rcases R' with _ | ⟨d,t⟩
   ·simp [lit,h1]
   ·simp only [List.head?_cons,ne_eq,Option.some.injEq] at hR
    simp [lit,h1,hR]
  ·rw [if_neg h2] at h;cases h
 | c::d::t,i,acc,v,j=>fun h=>by
  rw [lit] at h;by_cases h1:c=10
  ·rw [if_pos h1] at h;cases h
  rw [if_neg h1] at h;by_cases h2:c=q
  ·rw [if_pos h2] at h
   by_cases h3:d=q
   ·rw [if_pos h3] at h
    obtain ⟨U,R,e1,e2,e3,e4⟩:=FT q t (i+2) (acc++[q]) v j h;subst h2 h3;refine ⟨d::d::U,R,by rw [e1];rfl,by simp only [List.length_cons];omega,e3,fun R' hR=>?_⟩;have:=e4 R' hR;show lit d (d::d::(U++d::R')) i acc=_
    rw [lit,if_neg h1,if_pos rfl,if_pos rfl];exact this
   rw [if_neg h3] at h;cases h;subst h2;refine ⟨[],d::t,rfl,by simp,by simpa using h3,fun R' hR=>?_⟩;rcases R' with _ | ⟨d,t⟩
   ·simp [lit,h1]
   ·simp only [List.head?_cons,ne_eq,Option.some.injEq] at hR
    simp [lit,h1,hR]
  rw [if_neg h2] at h;obtain ⟨U,R,e1,e2,e3,e4⟩:=FT q (d::t) (i+1) (acc++[c]) v j h;refine ⟨c::U,R,by rw [e1];rfl,by simp only [List.length_cons];omega,e3,fun R' hR=>?_⟩;have:=e4 R' hR;show lit q (c::(U++q::R')) i acc=_
  rcases hu:U++q::R' with _ | ⟨e,s⟩
  ·simp at hu
  ·rw [hu] at this
   rw [lit,if_neg h1,if_neg h2];exact this
theorem DU {d:Int} (h:sym d=false):kF d=0:=by
 unfold kF;by_cases h1:d=88\/d=120
 ·rcases h1 with rfl | rfl<;>cases h
 rw [if_neg h1];by_cases h2:d=66\/d=98
 ·rcases h2 with rfl | rfl<;>cases h
 ·rw [if_neg h2]
theorem TG {d:Int} {t:List Int} (h:sym d=false):sfx (d::t)=0:=by
 rcases t with _ | ⟨e,s⟩
 ·exact DU h
 ·simp only [sfx]
  split
  ·rfl
  ·exact DU h
theorem wX {q:Int} {t:List Int} {x:List Int} {n:Nat} (h:dZ (q::t)=.ok x n) :
  ∃ v U R,t=U++q::R/\R.head?≠some q/\(∀ R',R'.head?≠some q->lit q (U++q::R') 1 []=some (v,U.length+1))/\((sfx R=0/\n=U.length+2)\/(sfx R≠0/\n=U.length+3)):=by
 simp only [dZ] at h;cases hl:lit q t 1 [] with
 | none=>rw [hl] at h;cases h
 | some p =>
  obtain ⟨v,i⟩:=p;rw [hl] at h;simp only at h;obtain ⟨U,R,e1,e2,e3,e4⟩:=FT q t 1 [] v i hl;subst e1;obtain rfl:i=U.length+1:=by omega
  have d:(q::(U++q::R)).drop (U.length+1+1)=R:=by
   rw [List.drop_succ_cons,List.drop_append,List.drop_eq_nil_of_le (by omega)];simp
  rw [d] at h;refine ⟨v,U,R,rfl,e3,e4,?_⟩;by_cases hp:v.all iT=true
  ·rw [if_pos hp] at h
   by_cases hs:sfx R=0
   ·rw [if_pos hs] at h
    exact .inl ⟨hs,(oF h).2⟩
   rw [if_neg hs] at h;cases hd:eU v (sfx R) with
   | none=>rw [hd] at h;cases h
   | some u=>rw [hd] at h;exact .inr ⟨hs,(oF h).2⟩
  ·rw [if_neg hp] at h;cases h
theorem Aj (p:Int->Bool):∀ (A B:List Int),(∀ x∈A,p x=true)->(∀ e s,B=e::s->p e=false)->run p (A++B)=A.length
 | [],B,_,hB=>by
  rcases B with _ | ⟨e,s⟩
  ·rfl
  ·simp [run,hB e s rfl]
 | a::A,B,hA,hB=>by
  rw [List.cons_append,run,if_pos (hA a (by simp)),Aj p A B (fun x hx=>hA x (by simp [hx])) hB];rfl
theorem run_parts (p:Int->Bool):∀ (xs:List Int),(∀ x∈xs.take (run p xs),p x=true)/\(∀ e s,xs.drop (run p xs)=e::s->p e=false)
 | []=>⟨by simp [run],by simp [run]⟩
 | a::xs=>by
  unfold run;by_cases h:p a=true
  ·rw [if_pos h]
   obtain ⟨h1,h2⟩:=run_parts p xs;refine ⟨fun x hx=>?_,fun e s he=>h2 e s (by simpa using he)⟩;simp only [List.take_succ_cons,List.mem_cons] at hx;rcases hx with rfl | hx
   ·exact h
   ·exact h1 x hx
  rw [if_neg h];exact ⟨by simp,fun e s he=>by simp only [List.drop_zero,List.cons.injEq] at he;obtain ⟨rfl,-⟩:=he;simpa using h⟩
theorem qR (xs:List Int):∃ M R,xs=M++R/\(∀ x∈M,sym x=true)/\(∀ e s,R=e::s->sym e=false) /\
  ((dH xs=M.length/\¬ (ni M=true/\nI R=true))\/(∃ g D S,R=g::(D++S)/\ni M=true/\(g=43\/g=45)/\D≠[]/\(∀ x∈D,kH x=true)/\(∀ e s,S=e::s->kH e=false)/\dH xs=M.length+1+D.length)):=by
 obtain ⟨h1,h2⟩:=run_parts sym xs;have hl:=wO sym xs;refine ⟨xs.take (run sym xs),xs.drop (run sym xs),(List.take_append_drop _ _).symm,h1,h2,?_⟩;have hml:(xs.take (run sym xs)).length=run sym xs:=by rw [List.length_take];omega
 rw [hml];unfold dH;by_cases hm:ni (xs.take (run sym xs))=true/\nI (xs.drop (run sym xs))=true
 rotate_left
 ·rw [if_neg hm]
  exact .inl ⟨rfl,hm⟩
 rw [if_pos hm];refine .inr ?_;rcases hd:xs.drop (run sym xs) with _ | ⟨g,_ | ⟨d,t⟩⟩
 ·rw [hd] at hm;simp [nI] at hm
 ·rw [hd] at hm;simp [nI] at hm
 ·have hd2:xs.drop (run sym xs+1)=d::t:=by
   have:xs.drop (run sym xs+1)=(xs.drop (run sym xs)).drop 1:=by rw [List.drop_drop]
   rw [this,hd];rfl
  rw [hd2];have hx:=hm.2;rw [hd] at hx;simp only [nI,Bool.and_eq_true,Bool.or_eq_true,decide_eq_true_eq] at hx;obtain ⟨g1,g2⟩:=run_parts kH (d::t);have hl2:=wO kH (d::t);refine ⟨g,(d::t).take (run kH (d::t)),(d::t).drop (run kH (d::t)),by rw [List.take_append_drop],hm.1,hx.1,?_,g1,g2,?_⟩
  ·rw [run,if_pos hx.2];simp
  ·rw [List.length_take,Nat.min_eq_left hl2]
theorem FU {M R:List Int} (hM:∀ x∈M,sym x=true) (hR:∀ e s,R=e::s->sym e=false) (h:¬ (ni M=true/\nI R=true)):dH (M++R)=M.length:=by
 have hr:=Aj sym M R hM hR;unfold dH;rw [hr,List.take_left,List.drop_left,if_neg h]
theorem Ju {M D S:List Int} {g:Int} (hM:∀ x∈M,sym x=true) (hm:ni M=true) (hg:g=43\/g=45) (hD:D≠[]) (hd:∀ x∈D,kH x=true) (hS:∀ e s,S=e::s->kH e=false) :
  dH (M++g::(D++S))=M.length+1+D.length:=by
 have hgs:sym g=false:=by rcases hg with rfl | rfl<;>rfl
 have hr:=Aj sym M (g::(D++S)) hM (fun e s h=>by cases h;exact hgs);unfold dH;have hx:nI (g::(D++S))=true:=by
  rcases D with _ | ⟨d,D⟩
  ·exact absurd rfl hD
  ·simp only [List.cons_append,nI,Bool.and_eq_true,Bool.or_eq_true,decide_eq_true_eq]
   exact ⟨hg,hd d (by simp)⟩
 rw [hr,List.take_left,List.drop_left,if_pos ⟨hm,hx⟩];have:(M++g::(D++S)).drop (M.length+1)=D++S:=by
  rw [List.drop_append,List.drop_eq_nil_of_le (by omega)];simp
 rw [this,Aj kH D S hd hS]
theorem BM:∀ (p a:List Int) (b:List Int),p.isPrefixOf a=true->p.isPrefixOf (a++b)=true
 | [],_,_,_=>by simp
 | _::_,[],_,h=>by cases h
 | x::p,y::a,b,h=>by
  simp only [List.isPrefixOf,Bool.and_eq_true] at h;simp only [List.cons_append,List.isPrefixOf,Bool.and_eq_true];exact ⟨h.1,BM p a b h.2⟩
theorem zF:∀ (p:List Int),p.isPrefixOf p=true
 | []=>rfl
 | x::p=>by simp [List.isPrefixOf,zF p]
theorem oG:∀ (p a:List Int),p.isPrefixOf a=true->a=p++a.drop p.length
 | [],a,_=>by simp
 | _::_,[],h=>by cases h
 | x::p,y::a,h=>by
  simp only [List.isPrefixOf,Bool.and_eq_true,beq_iff_eq] at h;obtain ⟨rfl,h2⟩:=h;simp only [List.length_cons,List.drop_succ_cons,List.cons_append];exact congrArg _ (oG p a h2)
theorem Qi:∀ p∈signs,p.length<=3:=by decide
end Go.Proofs.YtkkpjonfaflkmaaGreatDoor.S
namespace Go.Proofs.YtkkpjonfaflkmaaGreatDoor.T
open Go.RowKit Go.Proofs.aj.aI Go.Proofs.aj.aY Go.Proofs.aj.bq
theorem vR (c:Int):bD.f c=some (S.kH c):=by
 unfold bD.f S.kH;by_cases h:c>=48
 ·rw [if_pos h,decide_eq_true (show (48:Int)<=c from h)];simp
 ·rw [if_neg h,decide_eq_false (show ¬ (48:Int)<=c from h)];simp
theorem XE (c:Int):dB.f c=some ((decide (97<=c)&&decide (c<=122))||(decide (65<=c)&&decide (c<=90))):=by
 unfold dB.f;by_cases h:c>=97
 ·rw [if_pos h,decide_eq_true (show (97:Int)<=c from h)]
  by_cases h2:c<=122
  ·rw [if_pos h2,decide_eq_true h2];simp
  ·rw [if_neg h2,decide_eq_false h2,if_pos (by omega),decide_eq_false (show ¬ c<=90 by omega)];simp
 rw [if_neg h,decide_eq_false (show ¬ (97:Int)<=c from h)];by_cases h2:c>=65
 ·rw [if_pos h2,decide_eq_true (show (65:Int)<=c from h2)];simp
 ·rw [if_neg h2,decide_eq_false (show ¬ (65:Int)<=c from h2)];simp
theorem Jv (c:Int):dw.f c=some (S.sym c):=by
 unfold dw.f;rw [XE,vR];simp only [Option.bind_some];unfold S.sym S.kH;cases (decide (97<=c)&&decide (c<=122))||(decide (65<=c)&&decide (c<=90)) with
 | true=>simp
 | false =>
  cases decide (48<=c)&&decide (c<=57) with
  | true=>simp
  | false =>
   by_cases h1:c=46
   ·simp [h1]
   by_cases h2:c=95
   ·simp [h2]
   by_cases h3:c=33
   ·simp [h3]
   simp [h1,h2,h3]
   exact Bool.beq_eq_decide_eq c 63
def mz:List Int->Int->Int->Bool
 | [],d,p=>decide (0 < d)&&decide (p < 2)
 | c::t,d,p=>if S.kH c=true then mz t (d+1) p else if c=46 then mz t d (p+1) else false
theorem TH:∀ (l:List Int) (d p:Int),0<=d->mz l d p=(l.all (fun c=>S.kH c||decide (c=46))&&(decide (0 < d)||l.any S.kH)&&decide (p+l.count 46 < 2))
 | [],d,p,h=>by simp [mz]
 | c::t,d,p,h=>by
  rw [mz];by_cases hd:S.kH c=true
  ·have hc:c≠46:=fun e=>by rw [e] at hd;exact absurd hd (by decide)
   rw [if_pos hd,TH t _ _ (by omega),List.count_cons_of_ne hc,decide_eq_true (show 0 < d+1 by omega)];simp [hd]
  rw [if_neg hd];by_cases hc:c=46
  ·rw [if_pos hc,TH t _ _ h,hc,List.count_cons_self]
   have h46:S.kH 46=false:=by decide
   have e:p+1+(t.count 46:Int)=p+((t.count 46+1:Nat):Int):=by omega
   rw [e];simp [h46]
  rw [if_neg hc];simp [hd,hc]
theorem BN (b:ByteArray) (h1:1<=b.size) (h2:b.size<=100000):∀ (m k i:Nat) (d p:Int),i+m+1=b.size->m < k->0<=d->d<=i->0<=p->p<=i ->
  aR.l0 k b d p (i:Int)=some (mz ((bytesOf b).dropLast.drop i) d p)
 | 0,k,i,d,p,h,hk,hd,hd2,hp,hp2=>by
  obtain ⟨k,rfl⟩:∃ k',k=k'+1:=⟨k - 1,by omega⟩;have hw:wrap64 ((b.size:Int) - 1)=(b.size:Int) - 1:=by unfold wrap64;omega
  have hl:(bytesOf b).dropLast.drop i=[]:=List.drop_of_length_le (by rw [List.length_dropLast,bytesOf_length];omega);rw [aR.l0,hw,if_neg (by omega),hl,mz];by_cases h0:d > 0
  ·rw [if_pos h0,decide_eq_true (show 0 < d from h0)];simp
  ·rw [if_neg h0,decide_eq_false (show ¬ 0 < d from h0)];simp
 | m+1,k,i,d,p,h,hk,hd,hd2,hp,hp2=>by
  obtain ⟨k,rfl⟩:∃ k',k=k'+1:=⟨k - 1,by omega⟩;have hw:wrap64 ((b.size:Int) - 1)=(b.size:Int) - 1:=by unfold wrap64;omega
  have hwd:wrap64 (d+1)=d+1:=by unfold wrap64;omega
  have hwp:wrap64 (p+1)=p+1:=by unfold wrap64;omega
  have hil:i < (bytesOf b).dropLast.length:=by rw [List.length_dropLast,bytesOf_length];omega
  have hl:(bytesOf b).dropLast.drop i=bt b (i:Int)::(bytesOf b).dropLast.drop (i+1):=by
   rw [List.drop_eq_getElem_cons hil,List.getElem_dropLast];have hb:=um b i (by omega);rw [List.getD_eq_getElem?_getD,List.getElem?_eq_getElem (by rw [bytesOf_length];omega),Option.getD_some] at hb;rw [hb]
  rw [aR.l0,hw,if_pos (by omega),if_pos (by omega),if_pos (by omega),vR,Option.bind_some,hl,mz,yI (by omega),hwd,hwp];by_cases h0:S.kH (bt b (i:Int))=true
  ·rw [if_pos h0,if_pos h0]
   exact BN b h1 h2 m k (i+1) (d+1) p (by omega) (by omega) (by omega) (by omega) hp (by omega)
  rw [if_neg h0,if_neg h0];by_cases h46:bt b (i:Int)=46
  ·rw [if_pos h46,if_pos h46]
   exact BN b h1 h2 m k (i+1) d (p+1) (by omega) (by omega) hd (by omega) (by omega) (by omega)
  ·rw [if_neg h46,if_neg h46]
theorem aeG (b:ByteArray) (h2:b.size<=100000) (k:Nat) (hk:b.size+1 < k):aR.f k b=some (S.ni (bytesOf b)):=by
 obtain ⟨k,rfl⟩:∃ k',k=k'+1:=⟨k - 1,by omega⟩;have hlen:=bytesOf_length b;unfold aR.f;by_cases h:(b.size:Int) < 2
 ·rw [if_pos h,aR.j0,if_pos rfl]
  have hs:(bytesOf b).length < 2:=by omega
  match hb:bytesOf b,hs with
  | [],_=>rfl
  | [c],_=>simp [S.ni]
 have hw:wrap64 ((b.size:Int) - 1)=(b.size:Int) - 1:=by unfold wrap64;omega
 rw [if_neg h,hw,if_pos (by omega),if_pos (by omega)];have hlast:(bytesOf b).getLast?=some (bt b ((b.size:Int) - 1)):=by
  have hb:=um b (b.size - 1) (by omega);rw [List.getLast?_eq_getElem?,hlen];rw [List.getD_eq_getElem?_getD] at hb;rw [show (b.size:Int) - 1=((b.size - 1:Nat):Int) by omega,hb,List.getElem?_eq_getElem (by omega)];rfl
 have hm:S.ni (bytesOf b)=((decide (bt b ((b.size:Int) - 1)=69)||decide (bt b ((b.size:Int) - 1)=101))&&mz (bytesOf b).dropLast 0 0):=by
  unfold S.ni;rw [hlast,TH _ _ _ (Int.le_refl 0)];have e:decide ((0:Int)+(List.count 46 (bytesOf b).dropLast:Int) < 2)=decide (List.count 46 (bytesOf b).dropLast<=1):=decide_eq_decide.2 (by omega);rw [e];simp [Bool.and_assoc]
 have hl0:=BN b (by omega) h2 (b.size - 1) k 0 0 0 (by omega) (by omega) (Int.le_refl 0) (Int.le_refl 0) (Int.le_refl 0) (Int.le_refl 0);rw [List.drop_zero] at hl0;rw [hm];by_cases h69:bt b ((b.size:Int) - 1)=69
 ·rw [if_pos h69,aR.j0,if_neg Bool.false_ne_true,decide_eq_true h69]
  simpa using hl0
 rw [if_neg h69,aR.j0,decide_eq_false h69];by_cases XF:bt b ((b.size:Int) - 1)=101
 ·rw [if_neg (by simp [XF]),decide_eq_true XF]
  simpa using hl0
 ·rw [if_pos (by simp [XF]),decide_eq_false XF];rfl
theorem aiX (c:Int) (h0:0<=c) (h1:c<=255) (k:Nat) (hk:0 < k):bT.f k c=some (S.pY c):=by
 obtain ⟨k,rfl⟩:∃ k',k=k'+1:=⟨k - 1,by omega⟩;unfold bT.f;rw [vR,Option.bind_some];unfold S.pY;have hd:S.kH c=true <-> (48<=c/\c<=57):=by unfold S.kH;simp
 by_cases h:48<=c/\c<=57
 ·rw [if_pos (hd.2 h),if_pos h]
  congr 1;omega
 rw [if_neg (fun e=>h (hd.1 e)),if_neg h];by_cases h97:c>=97
 ·rw [if_pos h97,bT.j0]
  by_cases h2:c<=102
  ·rw [if_pos (decide_eq_true h2),if_pos ⟨h97,h2⟩]
   congr 1;omega
  ·rw [if_neg (by rw [decide_eq_false h2];exact Bool.false_ne_true),if_neg (show ¬ (97<=c/\c<=102) from fun e=>h2 e.2),if_pos (show c>=65 by omega),if_neg (show ¬ c<=70 by omega),if_neg (show ¬ (65<=c/\c<=70) by omega)]
 rw [if_neg h97,bT.j0,if_neg Bool.false_ne_true,if_neg (show ¬ (97<=c/\c<=102) from fun e=>h97 e.1)];by_cases h2:c>=65
 ·rw [if_pos h2]
  by_cases h3:c<=70
  ·rw [if_pos h3,if_pos ⟨h2,h3⟩]
   congr 1;omega
  ·rw [if_neg h3,if_neg (show ¬ (65<=c/\c<=70) from fun e=>h3 e.2)]
 ·rw [if_neg h2,if_neg (show ¬ (65<=c/\c<=70) from fun e=>h2 e.1)]
theorem TI (n P:Nat) (base v:Int) (hb:base=16\/base=2) (h1:¬ v < 0) (h2:¬ v>=base) (hn:n+1<=P) (hp:P<=268435456) :
  ∃ n2:Nat,(n:Int)*base+v=(n2:Int)/\n2+1<=P*16/\wrap64 (wrap64 ((n:Int)*base)+v)=(n2:Int):=by
 rcases hb with rfl | rfl
 ·have e:wrap64 ((n:Int)*16)=(n:Int)*16:=by unfold wrap64;omega
  have e2:wrap64 ((n:Int)*16+v)=(n:Int)*16+v:=by unfold wrap64;omega
  rw [e,e2];clear e e2;obtain ⟨y,rfl⟩:=Int.eq_ofNat_of_zero_le (show 0<=v by omega);exact ⟨n*16+y,by omega,by omega,by omega⟩
 ·have e:wrap64 ((n:Int)*2)=(n:Int)*2:=by unfold wrap64;omega
  have e2:wrap64 ((n:Int)*2+v)=(n:Int)*2+v:=by unfold wrap64;omega
  rw [e,e2];clear e e2;obtain ⟨y,rfl⟩:=Int.eq_ofNat_of_zero_le (show 0<=v by omega);exact ⟨n*2+y,by omega,by omega,by omega⟩
theorem DV (x:ByteArray) (hs:x.size<=100000) (base:Int) (w:Nat) (hb:base=16\/base=2) (hw:w=2\/w=8) (acc:List Int) (ha:acc.length<=100000) (i:Nat) (hi:i+w<=x.size) :
  ∀ (r k j:Nat) (n:Nat),j+r=w->r+1 < k->n+1<=16 ^ j->∃ k',k<=k'+r+1/\bg.l1 k x base (w:Int) acc (i:Int) (n:Int) (j:Int) =
   (match S.su base (((bytesOf x).drop (i+j)).take r) (n:Int) with
    | none=>some ((⟨#[]⟩:ByteArray),false)
    | some v=>if S.iT v=true then bg.l0 k' x base (w:Int) (acc++[v]) ((i+w:Nat):Int) else some ((⟨#[]⟩:ByteArray),false))
 | 0,k,j,n,h,hk,hn=>by
  obtain ⟨k,rfl⟩:∃ k',k=k'+1:=⟨k - 1,by omega⟩;refine ⟨k,by omega,?_⟩;rw [List.take_zero,S.su,bg.l1,if_neg (by omega)];unfold S.iT;have hwi:wrap64 ((i:Int)+(w:Int))=((i+w:Nat):Int):=by unfold wrap64;omega
  by_cases h1:(n:Int) < 32
  ·rw [if_pos h1]
   simp only [];rw [decide_eq_false (show ¬ 32<=(n:Int) by omega),if_neg (by simp)]
  rw [if_neg h1];simp only [];rw [decide_eq_true (show 32<=(n:Int) by omega)];by_cases h2:(n:Int) > 126
  ·rw [if_pos h2,decide_eq_false (show ¬ (n:Int)<=126 by omega),if_neg (by simp)]
  ·rw [if_neg h2,decide_eq_true (show (n:Int)<=126 by omega),if_pos (show (true&&true)=true from rfl),if_pos (by omega),hwi,show ((n:Int)) % 256=(n:Int) by omega]
 | r+1,k,j,n,h,hk,hn=>by
  obtain ⟨k,rfl⟩:∃ k',k=k'+1:=⟨k - 1,by omega⟩;have hwi:wrap64 ((i:Int)+(j:Int))=((i+j:Nat):Int):=by unfold wrap64;omega
  have hr:=Az x ((i+j:Nat):Int);have hp:(16:Nat) ^ j<=268435456:=Nat.le_trans (Nat.pow_le_pow_right (by decide) (show j<=7 by omega)) (by decide:(16:Nat) ^ 7<=268435456);have hps:(16:Nat) ^ (j+1)=16 ^ j*16:=Nat.pow_succ _ _;obtain ⟨P,hP⟩:∃ P,(16:Nat) ^ j=P:=⟨_,rfl⟩;rw [hP] at hn hp hps;have HPS:=ah.mk hps;clear hps hP;rw [bg.l1,if_pos (by omega),hwi,if_pos (by omega),if_pos (by omega),aiX _ hr.1 hr.2 k (by omega),Option.bind_some,fB x (by omega),List.take_succ_cons,S.su];generalize S.pY (bt x ((i+j:Nat):Int))=v;by_cases h1:v < 0
  ·rw [if_pos h1,if_pos (.inl h1)]
   exact ⟨k,by omega,rfl⟩
  rw [if_neg h1];by_cases h2:v>=base
  ·rw [if_pos h2,if_pos (.inr h2)]
   exact ⟨k,by omega,rfl⟩
  rw [if_neg h2,if_neg (show ¬ (v < 0\/base<=v) from fun e=>e.elim h1 h2),yI (by omega)];obtain ⟨n2,hn2,hb2,e1⟩:=TI n P base v hb h1 h2 hn hp;rw [e1,hn2];obtain ⟨k',hk',e⟩:=DV x hs base w hb hw acc ha i hi r k (j+1) n2 (by omega) (by omega) (by rw [HPS.out];exact hb2);exact ⟨k',by omega,e⟩
theorem DW (x:ByteArray) (hs:x.size<=100000) (base:Int) (w:Nat) (hb:base=16\/base=2) (hw:w=2\/w=8) :
  ∀ (g k i:Nat) (acc:List Int),i+g*w=x.size->4*(g*w)+1 < k->acc.length<=i->bg.l0 k x base (w:Int) acc (i:Int) =
   (match S.lK base w g ((bytesOf x).drop i) with
    | none=>some ((⟨#[]⟩:ByteArray),false)
    | some u=>some (strOfNums (acc++u),true))
 | 0,k,i,acc,h,hk,ha=>by
  obtain ⟨k,rfl⟩:∃ k',k=k'+1:=⟨k - 1,by omega⟩;rw [bg.l0,if_neg (by omega),S.lK];show _=some (strOfNums (acc++[]),true)
  rw [List.append_nil]
 | g+1,k,i,acc,h,hk,ha=>by
  have hgw:(g+1)*w=g*w+w:=Nat.succ_mul g w;rw [hgw] at h hk;clear hgw;obtain ⟨k,rfl⟩:∃ k',k=k'+1:=⟨k - 1,by omega⟩;obtain ⟨k',hk',e⟩:=DV x hs base w hb hw acc (by omega) i (by omega) w k 0 0 (by omega) (by omega) (Nat.le_refl _);have e':bg.l1 k x base (w:Int) acc (i:Int) 0 0=_:=e;rw [bg.l0,if_pos (by omega),e',S.lK,Nat.add_zero];show (match S.su base (((bytesOf x).drop i).take w) 0 with
    | none=>some ((⟨#[]⟩:ByteArray),false)
    | some v=>if S.iT v=true then bg.l0 k' x base (w:Int) (acc++[v]) ((i+w:Nat):Int) else some ((⟨#[]⟩:ByteArray),false))=_
  cases S.su base (((bytesOf x).drop i).take w) 0 with
  | none=>rfl
  | some v =>
   simp only [];by_cases hv:S.iT v=true
   ·rw [if_pos hv,if_pos hv,DW x hs base w hb hw g k' (i+w) (acc++[v]) (by omega) (by omega) (by rw [List.length_append,List.length_singleton];omega),List.drop_drop]
    cases S.lK base w g ((bytesOf x).drop (i+w)) with
    | none=>rfl
    | some u=>simp
   ·rw [if_neg hv,if_neg hv]
theorem abG (x:ByteArray) (hs:x.size<=100000) (base:Int) (w:Nat) (hb:base=16\/base=2) (hw:w=2\/w=8) (k:Nat) (hk:4*x.size+1 < k):bg.f k x base (w:Int) =
   (match S.decode base w (bytesOf x) with
    | none=>some ((⟨#[]⟩:ByteArray),false)
    | some u=>some (strOfNums u,true)):=by
 unfold bg.f S.decode;rw [if_neg (by omega),bytesOf_length];have hm:(x.size:Int) % (w:Int)=((x.size % w:Nat):Int):=(Int.natCast_emod _ _).symm;rw [hm];by_cases h:x.size % w=0
 ·rw [if_pos (by omega),if_neg (show ¬ x.size % w≠0 from fun e=>e h)]
  have hg:x.size / w*w=x.size:=Nat.div_mul_cancel (Nat.dvd_of_mod_eq_zero h);have:=DW x hs base w hb hw (x.size / w) k 0 [] (by omega) (by omega) (Nat.le_refl _);rw [List.drop_zero] at this;exact this
 ·rw [if_neg (by omega),if_pos h]
end Go.Proofs.YtkkpjonfaflkmaaGreatDoor.T
namespace Go.Proofs.YtkkpjonfaflkmaaGreatDoor.S
theorem FV (q:Int):∀ (xs:List Int) (i:Nat) (acc v:List Int) (e:Nat),lit q xs i acc=some (v,e) ->
  ∃ u r,i+r.length=e/\r=xs.take (e - i)/\v=acc++u/\r.all iT=u.all iT/\(q∈r <-> q∈u)/\(q ∉ r->r=u)/\e < i+xs.length
 | [],i,acc,v,e,h=>by simp [lit] at h
 | [c],i,acc,v,e,h=>by
  rw [lit] at h;split at h
  ·cases h
  ·split at h
   ·obtain ⟨rfl,rfl⟩:=Prod.mk.inj (Option.some.inj h)
    exact ⟨[],[],rfl,by simp,by simp,rfl,Iff.rfl,fun _=>rfl,by simp⟩
   ·cases h
 | c::d::t,i,acc,v,e,h=>by
  rw [lit] at h;split at h
  ·cases h
  ·split at h
   ·next hc =>
    split at h
    ·next hd =>
     obtain ⟨u,r,h1,h2,h3,h4,h5,h6,h7⟩:=FV q t (i+2) (acc++[q]) v e h;refine ⟨q::u,q::q::r,by simp only [List.length_cons];omega,?_,by rw [h3];simp,by simp [h4],by simp,fun hn=>absurd (List.mem_cons_self) hn,by simp only [List.length_cons];omega⟩;rw [show e - i=e - (i+2)+2 by omega,List.take_succ_cons,List.take_succ_cons,<- h2,hc,hd]
    ·obtain ⟨rfl,rfl⟩:=Prod.mk.inj (Option.some.inj h)
     exact ⟨[],[],rfl,by simp,by simp,rfl,Iff.rfl,fun _=>rfl,by simp⟩
   ·next hc =>
    obtain ⟨u,r,h1,h2,h3,h4,h5,h6,h7⟩:=FV q (d::t) (i+1) (acc++[c]) v e h;refine ⟨c::u,c::r,by simp only [List.length_cons];omega,?_,by rw [h3];simp,by simp [h4],?_,?_,by simp only [List.length_cons] at h7 |-;omega⟩
    ·rw [show e - i=e - (i+1)+1 by omega,List.take_succ_cons,<- h2]
    ·simp [h5]
    ·intro hn
     rw [h6 (fun e=>hn (List.mem_cons_of_mem _ e))]
theorem Jw (base:Int) {q:Int} (hq:pY q < 0):∀ (xs:List Int) (n:Int),q∈xs->su base xs n=none
 | [],_,h=>by cases h
 | c::t,n,h=>by
  rw [su];split
  ·rfl
  ·next hc =>
   rcases List.mem_cons.1 h with rfl | h
   ·exact absurd (.inl hq) hc
   ·exact Jw base hq t _ h
theorem Jy (base:Int) (w:Nat) {q:Int} (hq:pY q < 0):∀ (g:Nat) (xs:List Int),xs.length=g*w->q∈xs->lK base w g xs=none
 | 0,xs,h,hx=>by
  rw [Nat.zero_mul] at h;rw [List.length_eq_zero_iff.1 h] at hx;cases hx
 | g+1,xs,h,hx=>by
  have hgw:(g+1)*w=g*w+w:=Nat.succ_mul g w;rw [hgw] at h;rw [lK];rw [<- List.take_append_drop w xs] at hx;rcases List.mem_append.1 hx with e | e
  ·rw [Jw base hq _ _ e]
  ·rw [Jy base w hq g (xs.drop w) (by rw [List.length_drop];omega) e]
   cases su base (xs.take w) 0 with
   | none=>rfl
   | some n=>simp
theorem BO (base:Int) (w:Nat) {q:Int} (hq:pY q < 0) (xs:List Int) (hx:q∈xs):decode base w xs=none:=by
 unfold decode;split
 ·rfl
 ·next h =>
  refine Jy base w hq _ xs ?_ hx;rw [Nat.div_mul_cancel (Nat.dvd_of_mod_eq_zero (by omega))]
theorem DX (base:Int) (w:Nat):∀ (g:Nat) (xs u:List Int),lK base w g xs=some u->∀ x∈u,iT x=true
 | 0,xs,u,h=>by
  rw [lK] at h;rw [<- Option.some.inj h];intro x hx;cases hx
 | g+1,xs,u,h=>by
  rw [lK] at h;split at h
  ·cases h
  ·next n _ =>
   split at h
   ·next hn =>
    obtain ⟨u',h1,rfl⟩:=Option.map_eq_some_iff.1 h;intro x hx
    rcases List.mem_cons.1 hx with rfl | hx
    ·exact hn
    ·exact DX base w g _ _ h1 x hx
   ·cases h
theorem zG {base:Int} {w:Nat} {xs u:List Int} (h:decode base w xs=some u):∀ x∈u,iT x=true:=by
 unfold decode at h;split at h
 ·cases h
 ·exact DX base w _ _ _ h
theorem yM {x:Int} (h:iT x=true):0<=x/\x < 256:=by
 unfold iT at h;simp at h
 omega
end Go.Proofs.YtkkpjonfaflkmaaGreatDoor.S
