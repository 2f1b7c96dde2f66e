/- For ScanTokens: its callees return what is said of them. -/
import Derived.Test.YtkkpjonfaflkmaaGreatDoorCScanTokens21
namespace Go.Proofs.YtkkpjonfaflkmaaGreatDoor.T
open Go.RowKit Go.Proofs.ah.aT Go.Proofs.ah.bn Go.Proofs.ah.bA
set_option linter.unusedSimpArgs false
set_option linter.unusedVariables false
attribute [local go_sem] fB fC gI gJ eD eF fD fE   -- for this text's walks alone
def gP.j0:Nat->ByteArray->Int->Bool->Option (Int)
 | 0,_,_,_=>none
 | k+1,x0,x3,x6=>if x6=true then (some 1) else (if x3=0 then (some 2) else (if x3=1 then (if 0<=(wrap64 ((x0.size:Int) - 1)) then (if (wrap64 ((x0.size:Int) - 1)) < (x0.size:Int) then (if (bt x0 (wrap64 ((x0.size:Int) - 1)))=46 then (some 3) else (some 4)) else (none)) else (none)) else (some 4)))
def gP.f (k:Nat) (a0:ByteArray):Option (Int):=(strings_Count.f a0 (⟨#[46]⟩:ByteArray)).bind fun pX=>(if 0 < (a0.size:Int) then ((iU.f (bt a0 0)).bind fun IJ=>(if IJ=true then (gP.j0 k a0 pX true) else (gP.j0 k a0 pX ((bt a0 0)==46)))) else (none))
set_option maxHeartbeats 8000000 in
set_option maxRecDepth 100000 in
theorem gP.calls (k:Nat) (a0:ByteArray) (r:Int) (w:World) (h:gP.f k a0=some r) :
  Calls Tryz.prog 57 #[.string a0] w fun e w'=>e=.returned (.int .i64 r)/\aM w w':=by
 have H:((strings_Count.f a0 (⟨#[46]⟩:ByteArray)).bind fun pX=>(if 0 < (a0.size:Int) then ((iU.f (bt a0 0)).bind fun IJ=>(if IJ=true then (gP.j0 k a0 pX true) else (gP.j0 k a0 pX ((bt a0 0)==46)))) else (none)))=some r:=h;clear h;replace H:=Option.bind_eq_some_iff.mp H;obtain ⟨pX,CX,H⟩:=H;replace H:(if 0 < (a0.size:Int) then ((iU.f (bt a0 0)).bind fun IJ=>(if IJ=true then (gP.j0 k a0 pX true) else (gP.j0 k a0 pX ((bt a0 0)==46)))) else (none))=some r:=H;have A2:=aj.mk CX;clear CX;have HC3:=aj.mk H;clear H;go_enter Tryz.func57,Tryz.ntmps57
 go_upto_region 2 with (first | ((with_reducible refine bg (f:=77) rfl ?_);refine cO (some 5) rfl rfl Tryz.func77 (by kernel_rfl) rfl #[.string a0,.string (⟨#[46]⟩:ByteArray)] rfl (by (try simp only [List.map_toArray,List.map_cons,List.map_nil]);first | done | rfl | (simp only [List.length_drop,List.length_take];rfl)) ?_;(with_reducible refine (strings_Count.calls a0 (⟨#[46]⟩:ByteArray) pX _ A2.out).mono ?_);rintro e w' ⟨rfl,⟨nd,rfl⟩⟩;refine ⟨_,rfl,?_⟩))
 (try simp only [Act.put,List.setIfInBounds_toArray,List.set_cons_zero,List.set_cons_succ])
 go_cut [6] (fun v6 wc=>∃ (kq:Nat) (VB:Bool),v6=.bool VB/\aj (gP.j0 kq a0 pX VB=some r)/\aj (kq<=k)/\aM w wc)
 case first =>
  have H:=HC3.out;clear HC3;by_cases c4:0 < (a0.size:Int)
  rotate_left
  ·rw [if_neg c4] at H
   exact absurd H (by simp)
  rw [if_pos c4] at H;have pF:decide (0 < (a0.size:Int))=true:=decide_eq_true c4;have Et:decide (0 < a0.size)=true:=decide_eq_true (by omega);clear c4
  (first | rw [pF] | (simp only [dx,dK];rw [pF]) | skip)
  replace H:=Option.bind_eq_some_iff.mp H;obtain ⟨IJ,Zt,H⟩:=H;replace H:(if IJ=true then (gP.j0 k a0 pX true) else (gP.j0 k a0 pX ((bt a0 0)==46)))=some r:=H;have A6:=aj.mk Zt;clear Zt;by_cases c7:IJ=true
  ·subst c7
   rw [if_pos rfl] at H;have H':=aj.mk H;clear H;have p5:0<=(0:Int):=(by omega);have q5:0 < a0.size:=(by have:(0:Int) < (a0.size:Int):=of_decide_eq_true (by first | (with_reducible assumption) | assumption);omega);have hx5:∀ h:0 < a0.size,((a0[0]'h).toNat:Int)=bt a0 0:=bY a0 0;clear p5;have qi5:(0 < (a0.size:Int))=True:=eq_true (of_decide_eq_true (by first | (with_reducible assumption) | assumption));replace q5:=eq_true q5;go_wp2_with (first | ((with_reducible refine bg (f:=96) rfl ?_);refine cO (some 9) rfl rfl Tryz.func96 (by kernel_rfl) rfl #[.int .u8 (bt a0 0)] rfl (by (try simp only [List.map_toArray,List.map_cons,List.map_nil]);first | done | rfl | (simp only [List.length_drop,List.length_take];rfl)) ?_;(with_reducible refine (iU.calls (bt a0 0) true _ A6.out).mono ?_);rintro e w' ⟨rfl,⟨nd,rfl⟩⟩;refine ⟨_,rfl,?_⟩))
   go_meet
   case rel=>exact ⟨_,(true),(by first | rfl | (simp;done) | (simp [*];done)),H',⟨by first | omega | exact Nat.le_refl _⟩,by repeat (first | exact aM.refl _ | apply aM.step)⟩
  replace c7:=Bool.eq_false_iff.mpr c7;subst c7;rw [if_neg (show ¬ (false=true) by decide)] at H;have H':=aj.mk H;clear H;have p5:0<=(0:Int):=(by omega);have q5:0 < a0.size:=(by have:(0:Int) < (a0.size:Int):=of_decide_eq_true (by first | (with_reducible assumption) | assumption);omega);have hx5:∀ h:0 < a0.size,((a0[0]'h).toNat:Int)=bt a0 0:=bY a0 0;clear p5;have qi5:(0 < (a0.size:Int))=True:=eq_true (of_decide_eq_true (by first | (with_reducible assumption) | assumption));replace q5:=eq_true q5;go_wp2_with (first | ((with_reducible refine bg (f:=96) rfl ?_);refine cO (some 9) rfl rfl Tryz.func96 (by kernel_rfl) rfl #[.int .u8 (bt a0 0)] rfl (by (try simp only [List.map_toArray,List.map_cons,List.map_nil]);first | done | rfl | (simp only [List.length_drop,List.length_take];rfl)) ?_;(with_reducible refine (iU.calls (bt a0 0) false _ A6.out).mono ?_);rintro e w' ⟨rfl,⟨nd,rfl⟩⟩;refine ⟨_,rfl,?_⟩;have p8:0<=(0:Int):=(by omega);have q8:0 < a0.size:=(by have:(0:Int) < (a0.size:Int):=of_decide_eq_true (by first | (with_reducible assumption) | assumption);omega);have hx8:∀ h:0 < a0.size,((a0[0]'h).toNat:Int)=bt a0 0:=bY a0 0;clear p8;have qi8:(0 < (a0.size:Int))=True:=eq_true (of_decide_eq_true (by first | (with_reducible assumption) | assumption));replace q8:=eq_true q8))
  go_meet
  case rel=>exact ⟨_,(((bt a0 0)==46)),(by first | rfl | (simp;done) | (simp [*];done)),H',⟨by first | omega | exact Nat.le_refl _⟩,by repeat (first | exact aM.refl _ | apply aM.step)⟩
 case rest =>
  clear HC3;obtain ⟨kq,VB,rfl,HA,HJ2,⟨mc2,rfl⟩⟩:=hcut;cases kq with
  | zero=>exact absurd HA.out (by simp [gP.j0])
  | succ kj2 =>
   have H:=HA.out;clear HA;simp only [gP.j0] at H;by_cases c9:VB=true
   ·subst c9
    rw [if_pos rfl] at H;obtain rfl:=Option.some.inj H;go_wp2;go_ret;exact ⟨by first | rfl | (simp;done) | (simp [*];done),by repeat (first | exact aM.refl _ | apply aM.step)⟩
   replace c9:=Bool.eq_false_iff.mpr c9;subst c9;rw [if_neg (show ¬ (false=true) by decide)] at H;by_cases c10:pX=0
   ·rw [if_pos c10] at H
    have tH:(pX==0)=true:=beq_iff_eq.mpr c10;have Rt:(pX != 0)=false:=bne_eq_false_iff_eq.mpr c10;clear c10;obtain rfl:=Option.some.inj H;go_wp2;go_ret;exact ⟨by first | rfl | (simp;done) | (simp [*];done),by repeat (first | exact aM.refl _ | apply aM.step)⟩
   rw [if_neg c10] at H;have tH:(pX==0)=false:=beq_eq_false_iff_ne.mpr c10;have Rt:(pX != 0)=true:=bne_iff_ne.mpr c10;by_cases c11:pX=1
   rotate_left
   ·rw [if_neg c11] at H
    have Bt:(pX==1)=false:=beq_eq_false_iff_ne.mpr c11;have Xd:(pX != 1)=true:=bne_iff_ne.mpr c11;obtain rfl:=Option.some.inj H;go_wp2;go_ret;exact ⟨by first | rfl | (simp;done) | (simp [*];done),by repeat (first | exact aM.refl _ | apply aM.step)⟩
   rw [if_pos c11] at H;have Bt:(pX==1)=true:=beq_iff_eq.mpr c11;have Xd:(pX != 1)=false:=bne_eq_false_iff_eq.mpr c11;clear c11;obtain ⟨sZ,IK⟩:∃ j_:Int,(wrap64 ((a0.size:Int) - 1))=j_:=⟨_,rfl⟩;replace H:(if 0<=(sZ) then (if (sZ) < (a0.size:Int) then (if (bt a0 (sZ))=46 then (some 3) else (some 4)) else (none)) else (none))=some r:=by first | (rw [IK] at H;exact H) | (simp only [IK] at H |-;exact H)
   have ajF:(IntKind.i64.wrap ((a0.size:Int) - 1))=sZ:=(dx _).trans IK;by_cases c13:0<=(sZ)
   rotate_left
   ·rw [if_neg c13] at H
    exact absurd H (by simp)
   rw [if_pos c13] at H;have DV:decide (0<=(sZ))=true:=decide_eq_true c13;clear c13;by_cases c14:(sZ) < (a0.size:Int)
   rotate_left
   ·rw [if_neg c14] at H
    exact absurd H (by simp)
   rw [if_pos c14] at H;have Bq:decide ((sZ) < (a0.size:Int))=true:=decide_eq_true c14;clear c14;by_cases c16:(bt a0 (sZ))=46
   ·rw [if_pos c16] at H
    have Br:((bt a0 (sZ))==46)=true:=beq_iff_eq.mpr c16;have adG:((bt a0 (sZ)) != 46)=false:=bne_eq_false_iff_eq.mpr c16;clear c16;obtain rfl:=Option.some.inj H;have p15:0<=((sZ):Int):=of_decide_eq_true (by first | (with_reducible assumption) | assumption);have q15:(sZ) < (a0.size:Int):=of_decide_eq_true (by first | (with_reducible assumption) | assumption);have ajG:=bY a0 (sZ);replace p15:=eq_true p15;replace q15:=eq_true q15;go_wp2;go_ret;exact ⟨by first | rfl | (simp;done) | (simp only [<- IK]<;>(first | rfl | simp)) | (simp [*];done),by repeat (first | exact aM.refl _ | apply aM.step)⟩
   rw [if_neg c16] at H;have Br:((bt a0 (sZ))==46)=false:=beq_eq_false_iff_ne.mpr c16;have adG:((bt a0 (sZ)) != 46)=true:=bne_iff_ne.mpr c16;obtain rfl:=Option.some.inj H;have p15:0<=((sZ):Int):=of_decide_eq_true (by first | (with_reducible assumption) | assumption);have q15:(sZ) < (a0.size:Int):=of_decide_eq_true (by first | (with_reducible assumption) | assumption);have ajG:=bY a0 (sZ);replace p15:=eq_true p15;replace q15:=eq_true q15;go_wp2;go_ret;exact ⟨by first | rfl | (simp;done) | (simp only [<- IK]<;>(first | rfl | simp)) | (simp [*];done),by repeat (first | exact aM.refl _ | apply aM.step)⟩
end Go.Proofs.YtkkpjonfaflkmaaGreatDoor.T
namespace Go.Proofs.YtkkpjonfaflkmaaGreatDoor.T
open Go.RowKit Go.Proofs.ah.aT Go.Proofs.ah.bn Go.Proofs.ah.bA
set_option linter.unusedSimpArgs false
set_option linter.unusedVariables false
def Ld (a0:ByteArray):S.TR->Option (ByteArray × Int × Int)
 | .err _=>none
 | .ok t n=>if n < a0.size then some (⟨#[]⟩,0,4) else (gP.f 2 (strOfNums t)).map fun k=>(strOfNums t,k,0)
def jr.f (a0:ByteArray):Option (ByteArray × Int × Int) :=
 if a0.size=0\/40 < a0.size\/S.sym (bt a0 0)=false then some (⟨#[]⟩,0,4) else Ld a0 (S.jw (bytesOf a0))
set_option maxRecDepth 100000 in
set_option maxHeartbeats 4000000 in
theorem jr.calls (a0:ByteArray) (r1:ByteArray) (r2 r3:Int) (w:World) (h:jr.f a0=some (r1,r2,r3)) :
  Calls Tryz.prog 25 #[.string a0] w fun e w'=>e=.returned (.tuple #[.string r1,.int .i64 r2,.int .i64 r3])/\Below w.heap.size w w':=by
 unfold jr.f at h;have OZ:=aj.mk (uR a0);obtain ⟨n,hn⟩:∃ n,a0.size=n:=⟨_,rfl⟩;have hlb:(bytesOf a0).length=n:=by rw [bytesOf_length];exact hn
 by_cases h0:n=0
 ·rw [if_pos (.inl (hn.trans h0))] at h
  simp only [Option.some.injEq,Prod.mk.injEq] at h;obtain ⟨rfl,rfl,rfl⟩:=h;have he:(a0.toList==([]:List UInt8))=true:=by rw [OZ.out];exact decide_eq_true (List.length_eq_zero_iff.1 (hlb.trans h0))
  clear OZ hlb hn;go_enter Tryz.func25,Tryz.ntmps25
  go_wp2_with fail
  refine bodyPost_ret (results_tmp3 rfl _ _ _) rfl ?_;exact ⟨rfl,Below.refl _ _⟩
 have he:(a0.toList==([]:List UInt8))=false:=by rw [OZ.out];exact decide_eq_false (fun e=>h0 (by rw [<- hlb,e];rfl))
 by_cases h1:40 < n
 ·rw [if_pos (.inr (.inl (by omega)))] at h
  simp only [Option.some.injEq,Prod.mk.injEq] at h;obtain ⟨rfl,rfl,rfl⟩:=h;have g1:decide ((40:Int) < (n:Int))=true:=decide_eq_true (by omega);have g2:decide (40 < n)=true:=decide_eq_true h1;clear OZ hlb h0 h1;go_enter Tryz.func25,Tryz.ntmps25
  go_wp2_with fail
  refine bodyPost_ret (results_tmp3 rfl _ _ _) rfl ?_;exact ⟨rfl,Below.refl _ _⟩
 have g1:decide ((40:Int) < (n:Int))=false:=decide_eq_false (by omega);have g2:decide (40 < n)=false:=decide_eq_false h1;have hl:0 < a0.size:=by omega
 have hx:((a0[0]'hl).toNat:Int)=bt a0 0:=by simp [bt,hl]
 have hr:=AJ a0 0;have Hl:=Lib.hid (fun W=>jf.calls (bt a0 0) (S.sym (bt a0 0)) W (LQ _ hr.1 (by omega)));cases hs:S.sym (bt a0 0) with
 | false =>
  rw [if_pos (.inr (.inr hs))] at h;rw [hs] at Hl;simp only [Option.some.injEq,Prod.mk.injEq] at h;obtain ⟨rfl,rfl,rfl⟩:=h;generalize bt a0 0=y at hx Hl;clear OZ hlb h1 hs hr;go_enter Tryz.func25,Tryz.ntmps25
  go_wp2_with (go_at_call 55;refine (Hl.out _).mono ?_;rintro e w' ⟨rfl,⟨⟨q,rfl⟩⟩⟩)
  refine bodyPost_ret (results_tmp3 rfl _ _ _) rfl ?_;exact ⟨rfl,ak (Below.refl _ _) _⟩
 | true =>
  rw [if_neg (by rw [hs];rintro (e | e | e);omega;omega;cases e)] at h;rw [hs] at Hl;have HSM:=Lib.hid (fun W m hW=>zH.calls w.heap.size a0 m 0 1 W (by omega) (by omega) (by omega) hW);rw [List.drop_zero] at HSM;generalize bt a0 0=y at hx Hl;cases hst:S.jw (bytesOf a0) with
  | err c=>rw [hst] at h;cases h
  | ok t m =>
   rw [hst] at h HSM;have H:=aj.mk h;clear OZ hlb h1 hs hr hst h;go_enter Tryz.func25,Tryz.ntmps25
   have VD:aj (∀ q,Sc w.heap.size a0 ((0:Nat):Int) ((1:Nat):Int) (.map none) ((w.drewN q).alloc (.cells #[.string a0,.int .i64 0,.int .i64 1,.map none] 93))):=⟨fun q=>heap_alloc_new (w.drewN q) _⟩;have LY:aj (∀ q,Below w.heap.size w ((w.drewN q).alloc (.cells #[.string a0,.int .i64 0,.int .i64 1,.map none] 93))):=⟨fun q=>ay (ak (Below.refl _ _) q) _⟩;by_cases hm:m < n
   ·have g3:decide ((m:Int) < (n:Int))=true:=decide_eq_true (by omega)
    have g4:decide (m < n)=true:=decide_eq_true hm;have H:=H.out;simp only [Ld] at H;rw [if_pos (by omega)] at H;simp only [Option.some.injEq,Prod.mk.injEq] at H;obtain ⟨rfl,rfl,rfl⟩:=H;go_upto_region 5 with (first | (go_at_call 55;refine (Hl.out _).mono ?_;rintro e w' ⟨rfl,⟨⟨q,rfl⟩⟩⟩) | (go_at_call 56;refine (HSM.out _ _ (VD.out q)).mono ?_;rintro e w3 ⟨hb3,hp3⟩;obtain ⟨rfl,hs3⟩:=(show _/\_ from hp3)))
    rw [Nat.zero_add] at hs3;have hs1:=hs3.c1;clear hp3;have ZQ:Below w.heap.size w w3:=(LY.out q).trans (hb3.ku (by have:=(LY.out q).size;exact this) (fun k hk e=>by have:=show k=w.heap.size from e;omega));replace ZQ:=aj.mk ZQ;clear hb3 VD LY hs3 HSM Hl h0 he g1 g2 hl hx;go_wp2;refine bodyPost_ret (results_tmp3 rfl _ _ _) rfl ?_;exact ⟨rfl,ZQ.out⟩
   have g3:decide ((m:Int) < (n:Int))=false:=decide_eq_false (by omega);have g4:decide (m < n)=false:=decide_eq_false hm;have H:=H.out;simp only [Ld] at H;rw [if_neg (by omega)] at H;obtain ⟨kd,hk,H⟩:=Option.map_eq_some_iff.1 H;simp only [Prod.mk.injEq] at H;obtain ⟨rfl,rfl,rfl⟩:=H;have HK:=Lib.hid (fun W=>gP.calls 2 (strOfNums t) kd W hk);clear hk;go_upto_region 5 with (first | (go_at_call 55;refine (Hl.out _).mono ?_;rintro e w' ⟨rfl,⟨⟨q,rfl⟩⟩⟩) | (go_at_call 56;refine (HSM.out _ _ (VD.out q)).mono ?_;rintro e w3 ⟨hb3,hp3⟩;obtain ⟨rfl,hs3⟩:=(show _/\_ from hp3)))
   rw [Nat.zero_add] at hs3;have hs1:=hs3.c1;clear hp3;have ZQ:Below w.heap.size w w3:=(LY.out q).trans (hb3.ku (by have:=(LY.out q).size;exact this) (fun k hk e=>by have:=show k=w.heap.size from e;omega));replace ZQ:=aj.mk ZQ;clear hb3 VD LY hs3 HSM Hl h0 he g1 g2 hl hx;generalize adH:strOfNums t=st at *;have jO:=aj.mk adH;clear adH;go_wp2_with (go_at_call 57;refine (HK.out _).mono ?_;rintro e w' ⟨rfl,⟨⟨q2,rfl⟩⟩⟩)
   refine bodyPost_ret (results_tmp3 rfl _ _ _) rfl ?_;rw [jO.out];exact ⟨rfl,ZQ.out.trans (ak (Below.refl _ _) _)⟩
def ny.f (a0:ByteArray):Option (ByteArray × Int) :=
 if 1000 < a0.size\/(bytesOf a0).all S.jP=false then some (⟨#[]⟩,1) else some (strOfNums (S.quote (bytesOf a0)),0)
set_option maxRecDepth 100000 in
set_option maxHeartbeats 4000000 in
theorem ny.calls (a0:ByteArray) (r1:ByteArray) (r2:Int) (w:World) (hT:eU w) (h:ny.f a0=some (r1,r2)) :
  Calls Tryz.prog 30 #[.string a0] w fun e w'=>e=.returned (.tuple #[.string r1,.int .i64 r2])/\Below w.heap.size w w':=by
 unfold ny.f at h;obtain ⟨n,hn⟩:∃ n,a0.size=n:=⟨_,rfl⟩;by_cases h1:1000 < n
 ·rw [if_pos (.inl (by omega))] at h
  simp only [Option.some.injEq,Prod.mk.injEq] at h;obtain ⟨rfl,rfl⟩:=h;have g1:decide ((1000:Int) < (n:Int))=true:=decide_eq_true (by omega);have g2:decide (1000 < n)=true:=decide_eq_true h1;clear hT;go_enter Tryz.func30,Tryz.ntmps30
  go_wp2_with fail
  refine bodyPost_ret (results_tmp2 rfl _ _ _) rfl ?_;exact ⟨rfl,Below.refl _ _⟩
 have g1:decide ((1000:Int) < (n:Int))=false:=decide_eq_false (by omega);have g2:decide (1000 < n)=false:=decide_eq_false h1;have Qo:=fun W=>He a0 W (by omega) 64 EC aaU.pays
 have kb:=fun W=>nR (P:=Tryz.prog) 9 100 5 Tryz.underlying9 Tryz.underlying100 Tryz.underlying5 a0 W
 rw [hn] at Qo kb;cases hp:(bytesOf a0).all S.jP with
 | false =>
  rw [if_pos (.inr hp)] at h;simp only [Option.some.injEq,Prod.mk.injEq] at h;obtain ⟨rfl,rfl⟩:=h;rw [hp] at Qo;have HC:=Lib.hid Qo;clear Qo hp hT;go_enter Tryz.func30,Tryz.ntmps30
  go_wp2_with (go_at_call 63;refine (HC.out _).mono ?_;rintro e w' ⟨rfl,hb⟩)
  refine bodyPost_ret (results_tmp2 rfl _ _ _) rfl ?_;exact ⟨rfl,hb⟩
 | true =>
  rw [if_neg (by rw [hp];rintro (e | e);omega;cases e)] at h;simp only [Option.some.injEq,Prod.mk.injEq] at h;obtain ⟨rfl,rfl⟩:=h;rw [hp] at Qo;have HC:=Lib.hid Qo;have SF:=Lib.hid (fun W hW=>jd.calls a0 (strOfNums (S.quote (bytesOf a0))) W hW (by unfold jd.f;rw [if_pos (by omega)]));have HT:=aj.mk hT;clear Qo hp hT;generalize strOfNums (S.quote (bytesOf a0))=res at *;go_enter Tryz.func30,Tryz.ntmps30
  go_wp2_with (first | (go_at_call 63;refine (HC.out _).mono ?_;rintro e w3 ⟨rfl,hb3⟩) | (go_at_call 66;refine (SF.out _ (HT.out.of_below hb3)).mono ?_;rintro e w4 ⟨rfl,hb4⟩))
  refine bodyPost_ret (results_tmp2 rfl _ _ _) rfl ?_;exact ⟨rfl,hb3.trans (hb4.mono hb3.size)⟩
end Go.Proofs.YtkkpjonfaflkmaaGreatDoor.T
namespace Go.Proofs.YtkkpjonfaflkmaaGreatDoor.T
open Go.RowKit Go.Proofs.ah.aT Go.Proofs.ah.bn Go.Proofs.ah.bA
set_option linter.unusedSimpArgs false
set_option linter.unusedVariables false
attribute [local go_sem] fB fC gI gJ eD eF fD fE   -- for this text's walks alone



end Go.Proofs.YtkkpjonfaflkmaaGreatDoor.T
namespace Go.Proofs.YtkkpjonfaflkmaaGreatDoor.T
open Go.RowKit Go.Proofs.ah.aT Go.Proofs.ah.bn Go.Proofs.ah.bA
set_option linter.unusedSimpArgs false
set_option linter.unusedVariables false
theorem DZ (a0:ByteArray) (hs:a0.size<=100000):∀ (m k i:Nat),i+m=a0.size->m < k ->
  cZ.l0 k a0 (i:Int)=some (((bytesOf a0).drop i).all S.jP)
 | 0,k,i,h,hk=>by
  obtain ⟨k,rfl⟩:∃ k',k=k'+1:=⟨k - 1,by omega⟩;rw [cZ.l0,if_neg (by omega),List.drop_of_length_le (by rw [bytesOf_length];omega)];rfl
 | m+1,k,i,h,hk=>by
  obtain ⟨k,rfl⟩:∃ k',k=k'+1:=⟨k - 1,by omega⟩;rw [cZ.l0,if_pos (by omega),if_pos (by omega),iL a0 (by omega),List.all_cons,oq (by omega)];have ih:=DZ a0 hs m k (i+1) (by omega) (by omega);unfold S.jP;by_cases h1:bt a0 (i:Int) < 32
  ·rw [if_pos h1,decide_eq_false (show ¬ 32<=bt a0 (i:Int) by omega)];rfl
  rw [if_neg h1,decide_eq_true (show 32<=bt a0 (i:Int) by omega)];by_cases h2:bt a0 (i:Int) > 126
  ·rw [if_pos h2,decide_eq_false (show ¬ bt a0 (i:Int)<=126 by omega)];rfl
  ·rw [if_neg h2,decide_eq_true (show bt a0 (i:Int)<=126 by omega),ih];rfl
theorem ZR (a0:ByteArray) (hs:a0.size<=100000) (k:Nat) (hk:a0.size < k):cZ.f k a0=some ((bytesOf a0).all S.jP):=DZ a0 hs a0.size k 0 (by omega) hk
theorem ajH (c:Int) (h0:0<=c) (h1:c<=255) (k:Nat) (hk:0 < k):cK.f k c=some (S.qZ c):=by
 obtain ⟨k,rfl⟩:∃ k',k=k'+1:=⟨k - 1,by omega⟩;unfold cK.f;rw [Ci,Option.bind_some];unfold S.qZ;have hd:S.lU c=true <-> (48<=c/\c<=57):=by unfold S.lU;simp
 by_cases h:48<=c/\c<=57
 ·rw [if_pos (hd.2 h),if_pos h]
  congr 1;omega
 rw [if_neg (fun e=>h (hd.1 e)),if_neg h];by_cases h97:c>=97
 ·rw [if_pos h97,cK.j0]
  by_cases h2:c<=102
  ·rw [if_pos (decide_eq_true h2),if_pos ⟨h97,h2⟩]
   congr 1;omega
  ·rw [if_neg (by rw [decide_eq_false h2];exact Bool.false_ne_true),if_neg (show ¬ (97<=c/\c<=102) from fun e=>h2 e.2),if_pos (show c>=65 by omega),if_neg (show ¬ c<=70 by omega),if_neg (show ¬ (65<=c/\c<=70) by omega)]
 rw [if_neg h97,cK.j0,if_neg Bool.false_ne_true,if_neg (show ¬ (97<=c/\c<=102) from fun e=>h97 e.1)];by_cases h2:c>=65
 ·rw [if_pos h2]
  by_cases h3:c<=70
  ·rw [if_pos h3,if_pos ⟨h2,h3⟩]
   congr 1;omega
  ·rw [if_neg h3,if_neg (show ¬ (65<=c/\c<=70) from fun e=>h3 e.2)]
 ·rw [if_neg h2,if_neg (show ¬ (65<=c/\c<=70) from fun e=>h2 e.1)]
theorem RD (n P:Nat) (base v:Int) (hb:base=16\/base=2) (h1:¬ v < 0) (h2:¬ v>=base) (hn:n+1<=P) (hp:P<=268435456) :
  ∃ n2:Nat,(n:Int)*base+v=(n2:Int)/\n2+1<=P*16/\wrap64 (wrap64 ((n:Int)*base)+v)=(n2:Int):=by
 rcases hb with rfl | rfl
 ·have e:wrap64 ((n:Int)*16)=(n:Int)*16:=by unfold wrap64;omega
  have e2:wrap64 ((n:Int)*16+v)=(n:Int)*16+v:=by unfold wrap64;omega
  rw [e,e2];clear e e2;obtain ⟨y,rfl⟩:=Int.eq_ofNat_of_zero_le (show 0<=v by omega);exact ⟨n*16+y,by omega,by omega,by omega⟩
 ·have e:wrap64 ((n:Int)*2)=(n:Int)*2:=by unfold wrap64;omega
  have e2:wrap64 ((n:Int)*2+v)=(n:Int)*2+v:=by unfold wrap64;omega
  rw [e,e2];clear e e2;obtain ⟨y,rfl⟩:=Int.eq_ofNat_of_zero_le (show 0<=v by omega);exact ⟨n*2+y,by omega,by omega,by omega⟩
theorem Ea (x:ByteArray) (hs:x.size<=100000) (base:Int) (w:Nat) (hb:base=16\/base=2) (hw:w=2\/w=8) (acc:List Int) (ha:acc.length<=100000) (i:Nat) (hi:i+w<=x.size) :
  ∀ (r k j:Nat) (n:Nat),j+r=w->r+1 < k->n+1<=16 ^ j->∃ k',k<=k'+r+1/\bq.l1 k x base (w:Int) acc (i:Int) (n:Int) (j:Int) =
   (match S.tX base (((bytesOf x).drop (i+j)).take r) (n:Int) with
    | none=>some ((⟨#[]⟩:ByteArray),false)
    | some v=>if S.jP v=true then bq.l0 k' x base (w:Int) (acc++[v]) ((i+w:Nat):Int) else some ((⟨#[]⟩:ByteArray),false))
 | 0,k,j,n,h,hk,hn=>by
  obtain ⟨k,rfl⟩:∃ k',k=k'+1:=⟨k - 1,by omega⟩;refine ⟨k,by omega,?_⟩;rw [List.take_zero,S.tX,bq.l1,if_neg (by omega)];unfold S.jP;have hwi:wrap64 ((i:Int)+(w:Int))=((i+w:Nat):Int):=by unfold wrap64;omega
  by_cases h1:(n:Int) < 32
  ·rw [if_pos h1]
   simp only [];rw [decide_eq_false (show ¬ 32<=(n:Int) by omega),if_neg (by simp)]
  rw [if_neg h1];simp only [];rw [decide_eq_true (show 32<=(n:Int) by omega)];by_cases h2:(n:Int) > 126
  ·rw [if_pos h2,decide_eq_false (show ¬ (n:Int)<=126 by omega),if_neg (by simp)]
  ·rw [if_neg h2,decide_eq_true (show (n:Int)<=126 by omega),if_pos (show (true&&true)=true from rfl),if_pos (by omega),hwi,show ((n:Int)) % 256=(n:Int) by omega]
 | r+1,k,j,n,h,hk,hn=>by
  obtain ⟨k,rfl⟩:∃ k',k=k'+1:=⟨k - 1,by omega⟩;have hwi:wrap64 ((i:Int)+(j:Int))=((i+j:Nat):Int):=by unfold wrap64;omega
  have hr:=AJ x ((i+j:Nat):Int);have hp:(16:Nat) ^ j<=268435456:=Nat.le_trans (Nat.pow_le_pow_right (by decide) (show j<=7 by omega)) (by decide:(16:Nat) ^ 7<=268435456);have hps:(16:Nat) ^ (j+1)=16 ^ j*16:=Nat.pow_succ _ _;obtain ⟨P,hP⟩:∃ P,(16:Nat) ^ j=P:=⟨_,rfl⟩;rw [hP] at hn hp hps;have HPS:=aj.mk hps;clear hps hP;rw [bq.l1,if_pos (by omega),hwi,if_pos (by omega),if_pos (by omega),ajH _ hr.1 hr.2 k (by omega),Option.bind_some,iL x (by omega),List.take_succ_cons,S.tX];generalize S.qZ (bt x ((i+j:Nat):Int))=v;by_cases h1:v < 0
  ·rw [if_pos h1,if_pos (.inl h1)]
   exact ⟨k,by omega,rfl⟩
  rw [if_neg h1];by_cases h2:v>=base
  ·rw [if_pos h2,if_pos (.inr h2)]
   exact ⟨k,by omega,rfl⟩
  rw [if_neg h2,if_neg (show ¬ (v < 0\/base<=v) from fun e=>e.elim h1 h2),oq (by omega)];obtain ⟨n2,hn2,hb2,e1⟩:=RD n P base v hb h1 h2 hn hp;rw [e1,hn2];obtain ⟨k',hk',e⟩:=Ea x hs base w hb hw acc ha i hi r k (j+1) n2 (by omega) (by omega) (by rw [HPS.out];exact hb2);exact ⟨k',by omega,e⟩
theorem Eb (x:ByteArray) (hs:x.size<=100000) (base:Int) (w:Nat) (hb:base=16\/base=2) (hw:w=2\/w=8) :
  ∀ (g k i:Nat) (acc:List Int),i+g*w=x.size->4*(g*w)+1 < k->acc.length<=i->bq.l0 k x base (w:Int) acc (i:Int) =
   (match S.nW base w g ((bytesOf x).drop i) with
    | none=>some ((⟨#[]⟩:ByteArray),false)
    | some u=>some (strOfNums (acc++u),true))
 | 0,k,i,acc,h,hk,ha=>by
  obtain ⟨k,rfl⟩:∃ k',k=k'+1:=⟨k - 1,by omega⟩;rw [bq.l0,if_neg (by omega),S.nW];show _=some (strOfNums (acc++[]),true)
  rw [List.append_nil]
 | g+1,k,i,acc,h,hk,ha=>by
  have hgw:(g+1)*w=g*w+w:=Nat.succ_mul g w;rw [hgw] at h hk;clear hgw;obtain ⟨k,rfl⟩:∃ k',k=k'+1:=⟨k - 1,by omega⟩;obtain ⟨k',hk',e⟩:=Ea x hs base w hb hw acc (by omega) i (by omega) w k 0 0 (by omega) (by omega) (Nat.le_refl _);have e':bq.l1 k x base (w:Int) acc (i:Int) 0 0=_:=e;rw [bq.l0,if_pos (by omega),e',S.nW,Nat.add_zero];show (match S.tX base (((bytesOf x).drop i).take w) 0 with
    | none=>some ((⟨#[]⟩:ByteArray),false)
    | some v=>if S.jP v=true then bq.l0 k' x base (w:Int) (acc++[v]) ((i+w:Nat):Int) else some ((⟨#[]⟩:ByteArray),false))=_
  cases S.tX base (((bytesOf x).drop i).take w) 0 with
  | none=>rfl
  | some v =>
   simp only [];by_cases hv:S.jP v=true
   ·rw [if_pos hv,if_pos hv,Eb x hs base w hb hw g k' (i+w) (acc++[v]) (by omega) (by omega) (by rw [List.length_append,List.length_singleton];omega),List.drop_drop]
    cases S.nW base w g ((bytesOf x).drop (i+w)) with
    | none=>rfl
    | some u=>simp
   ·rw [if_neg hv,if_neg hv]
theorem ZT (x:ByteArray) (hs:x.size<=100000) (base:Int) (w:Nat) (hb:base=16\/base=2) (hw:w=2\/w=8) (k:Nat) (hk:4*x.size+1 < k):bq.f k x base (w:Int) =
   (match S.decode base w (bytesOf x) with
    | none=>some ((⟨#[]⟩:ByteArray),false)
    | some u=>some (strOfNums u,true)):=by
 unfold bq.f S.decode;rw [if_neg (by omega),bytesOf_length];have hm:(x.size:Int) % (w:Int)=((x.size % w:Nat):Int):=(Int.natCast_emod _ _).symm;rw [hm];by_cases h:x.size % w=0
 ·rw [if_pos (by omega),if_neg (show ¬ x.size % w≠0 from fun e=>e h)]
  have hg:x.size / w*w=x.size:=Nat.div_mul_cancel (Nat.dvd_of_mod_eq_zero h);have:=Eb x hs base w hb hw (x.size / w) k 0 [] (by omega) (by omega) (Nat.le_refl _);rw [List.drop_zero] at this;exact this
 ·rw [if_neg (by omega),if_pos h]
end Go.Proofs.YtkkpjonfaflkmaaGreatDoor.T
namespace Go.Proofs.YtkkpjonfaflkmaaGreatDoor.S
set_option linter.unusedSimpArgs false
set_option linter.unusedVariables false
theorem FQ (q:Int):∀ (xs:List Int) (i:Nat) (acc v:List Int) (e:Nat),lit q xs i acc=some (v,e) ->
  ∃ u r,i+r.length=e/\r=xs.take (e - i)/\v=acc++u/\r.all jP=u.all jP/\(q∈r <-> q∈u)/\(q ∉ r->r=u)/\e < i+xs.length
 | [],i,acc,v,e,h=>by simp [lit] at h
 | [c],i,acc,v,e,h=>by
  rw [lit] at h;split at h
  ·cases h
  ·split at h
   ·obtain ⟨rfl,rfl⟩:=Prod.mk.inj (Option.some.inj h)
    exact ⟨[],[],rfl,by simp,by simp,rfl,Iff.rfl,fun _=>rfl,by simp⟩
   ·cases h
 | c::d::t,i,acc,v,e,h=>by
  rw [lit] at h;split at h
  ·cases h
  ·split at h
   ·next hc =>
    split at h
    ·next hd =>
     obtain ⟨u,r,h1,h2,h3,h4,h5,h6,h7⟩:=FQ q t (i+2) (acc++[q]) v e h;refine ⟨q::u,q::q::r,by simp only [List.length_cons];omega,?_,by rw [h3];simp,by simp [h4],by simp,fun hn=>absurd (List.mem_cons_self) hn,by simp only [List.length_cons];omega⟩;rw [show e - i=e - (i+2)+2 by omega,List.take_succ_cons,List.take_succ_cons,<- h2,hc,hd]
    ·obtain ⟨rfl,rfl⟩:=Prod.mk.inj (Option.some.inj h)
     exact ⟨[],[],rfl,by simp,by simp,rfl,Iff.rfl,fun _=>rfl,by simp⟩
   ·next hc =>
    obtain ⟨u,r,h1,h2,h3,h4,h5,h6,h7⟩:=FQ q (d::t) (i+1) (acc++[c]) v e h;refine ⟨c::u,c::r,by simp only [List.length_cons];omega,?_,by rw [h3];simp,by simp [h4],?_,?_,by simp only [List.length_cons] at h7 |-;omega⟩
    ·rw [show e - i=e - (i+1)+1 by omega,List.take_succ_cons,<- h2]
    ·simp [h5]
    ·intro hn
     rw [h6 (fun e=>hn (List.mem_cons_of_mem _ e))]
theorem IL (base:Int) {q:Int} (hq:qZ q < 0):∀ (xs:List Int) (n:Int),q∈xs->tX base xs n=none
 | [],_,h=>by cases h
 | c::t,n,h=>by
  rw [tX];split
  ·rfl
  ·next hc =>
   rcases List.mem_cons.1 h with rfl | h
   ·exact absurd (.inl hq) hc
   ·exact IL base hq t _ h
theorem IQ (base:Int) (w:Nat) {q:Int} (hq:qZ q < 0):∀ (g:Nat) (xs:List Int),xs.length=g*w->q∈xs->nW base w g xs=none
 | 0,xs,h,hx=>by
  rw [Nat.zero_mul] at h;rw [List.length_eq_zero_iff.1 h] at hx;cases hx
 | g+1,xs,h,hx=>by
  have hgw:(g+1)*w=g*w+w:=Nat.succ_mul g w;rw [hgw] at h;rw [nW];rw [<- List.take_append_drop w xs] at hx;rcases List.mem_append.1 hx with e | e
  ·rw [IL base hq _ _ e]
  ·rw [IQ base w hq g (xs.drop w) (by rw [List.length_drop];omega) e]
   cases tX base (xs.take w) 0 with
   | none=>rfl
   | some n=>simp
theorem Cx (base:Int) (w:Nat) {q:Int} (hq:qZ q < 0) (xs:List Int) (hx:q∈xs):decode base w xs=none:=by
 unfold decode;split
 ·rfl
 ·next h =>
  refine IQ base w hq _ xs ?_ hx;rw [Nat.div_mul_cancel (Nat.dvd_of_mod_eq_zero (by omega))]
theorem Ec (base:Int) (w:Nat):∀ (g:Nat) (xs u:List Int),nW base w g xs=some u->∀ x∈u,jP x=true
 | 0,xs,u,h=>by
  rw [nW] at h;rw [<- Option.some.inj h];intro x hx;cases hx
 | g+1,xs,u,h=>by
  rw [nW] at h;split at h
  ·cases h
  ·next n _ =>
   split at h
   ·next hn =>
    obtain ⟨u',h1,rfl⟩:=Option.map_eq_some_iff.1 h;intro x hx
    rcases List.mem_cons.1 hx with rfl | hx
    ·exact hn
    ·exact Ec base w g _ _ h1 x hx
   ·cases h
theorem IU {base:Int} {w:Nat} {xs u:List Int} (h:decode base w xs=some u):∀ x∈u,jP x=true:=by
 unfold decode at h;split at h
 ·cases h
 ·exact Ec base w _ _ _ h
theorem Oz {x:Int} (h:jP x=true):0<=x/\x < 256:=by
 unfold jP at h;simp at h
 omega
end Go.Proofs.YtkkpjonfaflkmaaGreatDoor.S
namespace Go.Proofs.YtkkpjonfaflkmaaGreatDoor.T
set_option linter.unusedSimpArgs false
set_option linter.unusedVariables false
open Go.RowKit Go.Proofs.ah.aT Go.Proofs.ah.bn Go.Proofs.ah.bA
end Go.Proofs.YtkkpjonfaflkmaaGreatDoor.T
namespace Go.Proofs.YtkkpjonfaflkmaaGreatDoor.T
open Go.RowKit Go.Proofs.ah.aT Go.Proofs.ah.bn Go.Proofs.ah.bA
set_option linter.unusedSimpArgs false
set_option linter.unusedVariables false
def ZU (ln:Int):S.TR->Int × ByteArray × Int × Int × Int
 | .err c=>(0,⟨#[]⟩,0,(c:Int),ln)
 | .ok t n=>(2,strOfNums t,(n:Int),0,0)
theorem zn (a0:ByteArray) (hs:a0.size<=100000) (q:Int) (hq:q≠10) (ln Cy:Int):∀ (m k i:Nat) (acc:List Int),i+m=a0.size->3*m+3 < k->acc.length<=i ->
  match S.lit q ((bytesOf a0).drop i) i acc with
  | none=>aC.l0 k a0 ln q acc Cy (-1) (i:Int)=some (0,⟨#[]⟩,0,6,ln)
  | some (v,e)=>∃ k',k<=k'+3*m+3/\aC.l0 k a0 ln q acc Cy (-1) (i:Int)=aC.l0 k' a0 ln q v Cy ((e+1:Nat):Int) (e:Int)
 | 0,k,i,acc,h,hk,ha=>by
  obtain ⟨k,rfl⟩:∃ k',k=k'+2:=⟨k - 2,by omega⟩;rw [List.drop_of_length_le (by rw [bytesOf_length];omega),S.lit];show aC.l0 (k+1+1) a0 ln q acc Cy (-1) (i:Int)=some (0,⟨#[]⟩,0,6,ln)
  rw [aC.l0,if_pos (by decide),if_pos (by omega),aC.j1,if_pos rfl]
 | m+1,k,i,acc,h,hk,ha=>by
  obtain ⟨k,rfl⟩:∃ k',k=k'+3:=⟨k - 3,by omega⟩;have e0:aC.l0 (k+3) a0 ln q acc Cy (-1) (i:Int)=aC.j1 (k+2) a0 ln q acc Cy (-1) (i:Int) (bt a0 (i:Int)==10):=by
   rw [aC.l0,if_pos (by decide),if_neg (by omega),if_pos (by omega),if_pos (by omega)]
  rw [e0,iL a0 (by omega)];by_cases h10:bt a0 (i:Int)=10
  ·have hl:S.lit q (bt a0 (i:Int)::(bytesOf a0).drop (i+1)) i acc=none:=by
    cases (bytesOf a0).drop (i+1) with
    | nil=>rw [S.lit,if_pos h10]
    | cons d t=>rw [S.lit,if_pos h10]
   rw [hl];show aC.j1 (k+2) a0 ln q acc Cy (-1) (i:Int) (bt a0 (i:Int)==10)=_
   rw [aC.j1,if_pos (beq_iff_eq.2 h10)]
  have hne:¬ (bt a0 (i:Int)==10)=true:=fun e=>h10 (beq_iff_eq.1 e)
  have hw2:wrap64 ((i:Int)+2)=((i+2:Nat):Int):=by unfold wrap64;omega
  have hw1:wrap64 ((i:Int)+1)=((i+1:Nat):Int):=oq (by omega);have e1:aC.j1 (k+2) a0 ln q acc Cy (-1) (i:Int) (bt a0 (i:Int)==10)=if bt a0 (i:Int)=q then (if i+1 < a0.size then aC.j2 (k+1) a0 ln q acc Cy (-1) (i:Int) (bt a0 ((i+1:Nat):Int)==q) else aC.j2 (k+1) a0 ln q acc Cy (-1) (i:Int) false) else aC.j2 (k+1) a0 ln q acc Cy (-1) (i:Int) false:=by
   rw [aC.j1,if_neg hne,if_pos (by omega),if_pos (by omega),hw1];by_cases hc:bt a0 (i:Int)=q
   ·rw [if_pos hc,if_pos hc]
    by_cases hl:i+1 < a0.size
    ·rw [if_pos hl,if_pos (show ((i+1:Nat):Int) < (a0.size:Int) by omega),if_pos (show (0:Int)<=((i+1:Nat):Int) by omega)]
    ·rw [if_neg hl,if_neg (show ¬ ((i+1:Nat):Int) < (a0.size:Int) by omega)]
   ·rw [if_neg hc,if_neg hc]
  have j2t:aC.j2 (k+1) a0 ln q acc Cy (-1) (i:Int) true=aC.l0 k a0 ln q (acc++[q]) Cy (-1) ((i+2:Nat):Int):=by
   rw [aC.j2,if_pos rfl,if_pos (by omega),hw2]
  have j2q:bt a0 (i:Int)=q->aC.j2 (k+1) a0 ln q acc Cy (-1) (i:Int) false=aC.l0 k a0 ln q acc Cy ((i+1:Nat):Int) (i:Int):=fun hc=>by
   rw [aC.j2,if_neg Bool.false_ne_true,if_pos (by omega),if_pos (by omega),if_pos hc,hw1]
  have j2n:bt a0 (i:Int)≠q->aC.j2 (k+1) a0 ln q acc Cy (-1) (i:Int) false=aC.l0 k a0 ln q (acc++[bt a0 (i:Int)]) Cy (-1) ((i+1:Nat):Int):=fun hc=>by
   rw [aC.j2,if_neg Bool.false_ne_true,if_pos (by omega),if_pos (by omega),if_neg hc,if_pos (by omega),hw1]
  rw [e1];by_cases hlast:i+1=a0.size
  ·have hd:(bytesOf a0).drop (i+1)=[]:=List.drop_of_length_le (by rw [bytesOf_length];omega)
   rw [hd,S.lit,if_neg h10];by_cases hc:bt a0 (i:Int)=q
   ·rw [if_pos hc,if_pos hc,if_neg (show ¬ i+1 < a0.size by omega),j2q hc]
    exact ⟨k,by omega,rfl⟩
   rw [if_neg hc,if_neg hc,j2n hc];show aC.l0 k a0 ln q (acc++[bt a0 (i:Int)]) Cy (-1) ((i+1:Nat):Int)=some (0,⟨#[]⟩,0,6,ln)
   obtain ⟨k2,rfl⟩:∃ k',k=k'+2:=⟨k - 2,by omega⟩;rw [aC.l0,if_pos (by decide),if_pos (by omega),aC.j1,if_pos rfl]
  have hd2:=iL a0 (i:=i+1) (by omega);rw [hd2,S.lit,if_neg h10];by_cases hc:bt a0 (i:Int)=q
  ·rw [if_pos hc,if_pos hc,if_pos (show i+1 < a0.size by omega)]
   by_cases hd:bt a0 ((i+1:Nat):Int)=q
   rotate_left
   ·rw [if_neg hd,show (bt a0 ((i+1:Nat):Int)==q)=false from beq_eq_false_iff_ne.2 hd,j2q hc]
    exact ⟨k,by omega,rfl⟩
   rw [if_pos hd,show (bt a0 ((i+1:Nat):Int)==q)=true from beq_iff_eq.2 hd,j2t];obtain ⟨m,rfl⟩:∃ m',m=m'+1:=⟨m - 1,by omega⟩;have ih:=zn a0 hs q hq ln Cy m k (i+2) (acc++[q]) (by omega) (by omega) (by rw [List.length_append,List.length_singleton];omega);show match S.lit q ((bytesOf a0).drop (i+2)) (i+2) (acc++[q]) with
    | none=>aC.l0 k a0 ln q (acc++[q]) Cy (-1) ((i+2:Nat):Int)=some (0,⟨#[]⟩,0,6,ln)
    | some (v,e)=>∃ k',k+3<=k'+3*(m+1+1)+3/\aC.l0 k a0 ln q (acc++[q]) Cy (-1) ((i+2:Nat):Int)=aC.l0 k' a0 ln q v Cy ((e+1:Nat):Int) (e:Int)
   cases hl:S.lit q ((bytesOf a0).drop (i+2)) (i+2) (acc++[q]) with
   | none=>rw [hl] at ih;exact ih
   | some p =>
    rw [hl] at ih;obtain ⟨k',hk',e⟩:=ih;exact ⟨k',by omega,e⟩
  rw [if_neg hc,if_neg hc,j2n hc];have ih:=zn a0 hs q hq ln Cy m k (i+1) (acc++[bt a0 (i:Int)]) (by omega) (by omega) (by rw [List.length_append,List.length_singleton];omega);rw [hd2] at ih;cases hl:S.lit q (bt a0 ((i+1:Nat):Int)::(bytesOf a0).drop (i+1+1)) (i+1) (acc++[bt a0 (i:Int)]) with
  | none=>rw [hl] at ih;exact ih
  | some p =>
   rw [hl] at ih;obtain ⟨k',hk',e⟩:=ih;exact ⟨k',by omega,e⟩
theorem OA {u:List Int} (h:∀ x∈u,S.jP x=true):(strOfNums u).size=u.length:=Ik u (fun x hx=>S.Oz (h x hx))
def uZ (xs v:List Int) (e:Nat):S.TR:=if S.sfx (xs.drop (e+1))=0 then S.iR v (e+1) else match S.gT v (S.sfx (xs.drop (e+1))) with
 | none=>.err 15
 | some u=>S.iR u (e+2)
theorem IV (ln:Int) (v:List Int) (h:∀ x∈v,S.jP x=true) (n:Nat):(if ((strOfNums v).size:Int) > 1000 then (some ((0:Int),(⟨#[]⟩:ByteArray),(0:Int),(30:Int),ln)) else (some ((2:Int),strOfNums v,(n:Int),(0:Int),(0:Int))))=some (ZU ln (S.iR v n)):=by
 rw [OA h];unfold S.iR;by_cases h1:1000 < v.length
 ·rw [if_pos h1,if_pos (by omega)];rfl
 ·rw [if_neg h1,if_neg (by omega)];rfl
theorem MQ (ln:Int) (x:ByteArray) (hs:x.size<=100000) (e:Nat) (he:e<=100000) (base:Int) (w:Nat) (hb:base=16\/base=2) (hw:w=2\/w=8) (v:List Int) (hd:S.decode base w (bytesOf x)=S.decode base w v) (k:Nat) (hk:4*x.size+2 < k) :
  aC.j5 (k+1) ln ((e+1:Nat):Int) x base (w:Int)=some (ZU ln (match S.decode base w v with
   | none=>.err 15
   | some u=>S.iR u (e+2))):=by
 rw [aC.j5,ZT x (by omega) base w hb hw k (by omega),hd];cases hdc:S.decode base w v with
 | none=>simp only [Option.bind_some];rw [if_neg Bool.false_ne_true];rfl
 | some u =>
  simp only [Option.bind_some];rw [if_pos trivial,oq (by omega)];exact IV ln u (S.IU hdc) (e+2)
set_option maxHeartbeats 2000000 in
theorem OC (a0:ByteArray) (hs:a0.size<=100000) (ln:Int) (p:Nat) (q:Int) (hq:q=39\/q=34) (v:List Int) (e:Nat) (h1:p+1<=e) (he:e < a0.size) (hp:(((bytesOf a0).drop (p+1)).take (e - (p+1))).all S.jP=v.all S.jP)
  (hm:q∈(((bytesOf a0).drop (p+1)).take (e - (p+1))) <-> q∈v) (hn:q ∉ (((bytesOf a0).drop (p+1)).take (e - (p+1)))->(((bytesOf a0).drop (p+1)).take (e - (p+1)))=v) (k:Nat) (hk:4*a0.size+1000 < k) :
  aC.l0 k a0 ln q v ((p+1:Nat):Int) ((e+1:Nat):Int) (e:Int)=some (ZU ln (if v.all S.jP=true then uZ (bytesOf a0) v e else .err 13)):=by
 obtain ⟨k,rfl⟩:∃ k',k=k'+4:=⟨k - 4,by omega⟩;have hw:wrap64 (((e+1:Nat):Int) - 1)=(e:Int):=by unfold wrap64;omega
 have hw2:wrap64 (((e+1:Nat):Int)+1)=((e+2:Nat):Int):=oq (by omega);have hby:bytesOf (a0.extract (p+1) e)=((bytesOf a0).drop (p+1)).take (e - (p+1)):=iT a0 (p+1) e;have hsz:(a0.extract (p+1) e).size<=a0.size:=by rw [ByteArray.size_extract];omega
 have hpl:=ZR (a0.extract (p+1) e) (by omega) (k+3) (by omega);rw [hby,hp] at hpl;rw [aC.l0,if_neg (by omega),if_pos (by omega),hw,if_pos (by omega),if_pos (by omega)];rw [show ((p+1:Nat):Int).toNat=p+1 from rfl,show (e:Int).toNat=e from rfl,hpl,Option.bind_some];by_cases hv:v.all S.jP=true
 rotate_left
 ·rw [if_neg hv,if_neg hv];rfl
 rw [if_pos hv,if_pos hv];have hv':∀ x∈v,S.jP x=true:=List.all_eq_true.1 hv;have hdec:∀ (base:Int) (w:Nat),S.decode base w (bytesOf (a0.extract (p+1) e))=S.decode base w v:=fun base w=>by
  rw [hby];have hh:S.qZ q < 0:=by rcases hq with rfl | rfl<;>decide
  by_cases hin:q∈(((bytesOf a0).drop (p+1)).take (e - (p+1)))
  ·rw [S.Cx base w hh _ hin,S.Cx base w hh _ (hm.1 hin)]
  ·rw [hn hin]
 have j3f:aC.j3 (k+3) a0 ln ((e+1:Nat):Int) (strOfNums v) (a0.extract (p+1) e) false=some (ZU ln (S.iR v (e+1))):=by
  rw [aC.j3,if_neg Bool.false_ne_true];exact IV ln v hv' (e+1)
 by_cases hin:e+1 < a0.size
 rotate_left
 ·rw [if_neg (show ¬ ((e+1:Nat):Int) < (a0.size:Int) by omega),j3f]
  have hnil:(bytesOf a0).drop (e+1)=[]:=List.drop_of_length_le (by rw [bytesOf_length];omega);unfold uZ;rw [hnil,S.sfx,if_pos rfl]
 have hd:=iL a0 (i:=e+1) hin;obtain ⟨b,hb⟩:∃ b,bt a0 ((e+1:Nat):Int)=b:=⟨_,rfl⟩;have j3t:(b=66\/b=98\/b=88\/b=120)->aC.j3 (k+3) a0 ln ((e+1:Nat):Int) (strOfNums v) (a0.extract (p+1) e) true=some (ZU ln (match S.gT v (S.lF b) with
   | none=>.err 15
   | some u=>S.iR u (e+2))):=fun hbs=>by
  have hB:=MQ ln (a0.extract (p+1) e) (by omega) e (by omega) 2 8 (.inr rfl) (.inr rfl) v (hdec 2 8) k (by omega);have hX:=MQ ln (a0.extract (p+1) e) (by omega) e (by omega) 16 2 (.inl rfl) (.inl rfl) v (hdec 16 2) k (by omega);rw [aC.j3,if_pos rfl,if_pos (by omega),if_pos (by omega),hb];by_cases ZV:b=66
  ·rw [if_pos ZV,aC.j4,if_pos rfl,ZV];exact hB
  rw [if_neg ZV];by_cases h98:b=98
  ·rw [h98,aC.j4,if_pos (show ((98:Int)==98)=true from rfl)];exact hB
  rw [aC.j4,if_neg (show ¬ (b==98)=true from fun e=>h98 (beq_iff_eq.1 e))];have hs4:S.lF b=4:=by unfold S.lF;rw [if_pos (by omega)]
  rw [hs4];exact hX
 have cont:∀ f:Nat,S.lF b=f->(b=66\/b=98\/b=88\/b=120)->f≠0->(if (wrap64 (((e+1:Nat):Int)+1))>=(a0.size:Int) then (aC.j3 (k+3) a0 ln ((e+1:Nat):Int) (strOfNums v) (a0.extract (p+1) e) true) else (if 0<=(wrap64 (((e+1:Nat):Int)+1)) then (if (wrap64 (((e+1:Nat):Int)+1)) < (a0.size:Int) then ((bF.f (bt a0 (wrap64 (((e+1:Nat):Int)+1)))).bind fun t182=>(aC.j3 (k+3) a0 ln ((e+1:Nat):Int) (strOfNums v) (a0.extract (p+1) e) (!t182))) else (none)) else (none)))=some (ZU ln (uZ (bytesOf a0) v e)):=fun f hf hbs hf0=>by
  rw [hw2];unfold uZ;rw [hd,hb];by_cases hl:e+2 < a0.size
  ·have hd2:=iL a0 (i:=e+1+1) hl
   rw [if_neg (by omega),if_pos (by omega),if_pos (by omega),Rj,Option.bind_some,hd2];show aC.j3 (k+3) a0 ln ((e+1:Nat):Int) (strOfNums v) (a0.extract (p+1) e) (!(S.sym (bt a0 ((e+1+1:Nat):Int))))=_
   rw [S.sfx];cases hsy:S.sym (bt a0 ((e+1+1:Nat):Int)) with
   | true=>rw [if_pos rfl,if_pos rfl];exact j3f
   | false=>rw [if_neg Bool.false_ne_true,if_neg (by rw [hf];exact hf0)];exact j3t hbs
  have hnil:(bytesOf a0).drop (e+1+1)=[]:=List.drop_of_length_le (by rw [bytesOf_length];omega);rw [if_pos (by omega),hnil,S.sfx,if_neg (by rw [hf];exact hf0)];exact j3t hbs
 rw [if_pos (show ((e+1:Nat):Int) < (a0.size:Int) by omega),if_pos (show (0:Int)<=((e+1:Nat):Int) by omega),hb];by_cases h88:b=88
 ·rw [if_pos h88];exact cont 4 (by rw [h88];rfl) (by omega) (by decide)
 rw [if_neg h88];by_cases ZW:b=120
 ·rw [if_pos ZW];exact cont 4 (by rw [ZW];rfl) (by omega) (by decide)
 rw [if_neg ZW];by_cases ZV:b=66
 ·rw [if_pos ZV];exact cont 1 (by rw [ZV];rfl) (by omega) (by decide)
 rw [if_neg ZV];by_cases h98:b=98
 ·rw [if_pos h98];exact cont 1 (by rw [h98];rfl) (by omega) (by decide)
 rw [if_neg h98,j3f];have h0:S.lF b=0:=by unfold S.lF;rw [if_neg (by omega),if_neg (by omega)]
 have hs0:S.sfx ((bytesOf a0).drop (e+1))=0:=by
  rw [hd,hb];cases (bytesOf a0).drop (e+1+1) with
  | nil=>rw [S.sfx,h0]
  | cons d t=>rw [S.sfx,h0];split<;>rfl
 unfold uZ;rw [hs0,if_pos rfl]
theorem wK (q:Int) (p:Nat):∀ (xs:List Int) (i:Nat) (acc:List Int),S.lit q xs (p+i) acc=(S.lit q xs i acc).map fun r=>(r.1,p+r.2)
 | [],_,_=>rfl
 | [c],i,acc=>by
  rw [S.lit,S.lit];by_cases h1:c=10
  ·rw [if_pos h1,if_pos h1];rfl
  rw [if_neg h1,if_neg h1];by_cases h2:c=q
  ·rw [if_pos h2,if_pos h2];rfl
  ·rw [if_neg h2,if_neg h2];rfl
 | c::d::t,i,acc=>by
  rw [S.lit,S.lit];by_cases h1:c=10
  ·rw [if_pos h1,if_pos h1];rfl
  rw [if_neg h1,if_neg h1];by_cases h2:c=q
  ·rw [if_pos h2,if_pos h2]
   by_cases h3:d=q
   ·rw [if_pos h3,if_pos h3];exact wK q p t (i+2) _
   ·rw [if_neg h3,if_neg h3];rfl
  ·rw [if_neg h2,if_neg h2];exact wK q p (d::t) (i+1) _
theorem IW (p ln:Nat) (v:List Int) (n:Nat):ZU ln (S.iR v (p+n))=Ou 2 p ln (S.iR v n):=by
 unfold S.iR;split<;>rfl
theorem RF (a0:ByteArray) (hs:a0.size<=100000) (p ln:Nat) (hp:p < a0.size) (hq:bt a0 (p:Int)=39\/bt a0 (p:Int)=34) (k:Nat) (hk:8*a0.size+2000 < k):aC.f k a0 (p:Int) (ln:Int)=some (Ou 2 p ln (S.fZ ((bytesOf a0).drop p))):=by
 unfold aC.f;have hw:wrap64 ((p:Int)+1)=((p+1:Nat):Int):=oq (by omega);rw [if_pos (by omega),if_pos (by omega),hw];have hd:=iL a0 (i:=p) hp;obtain ⟨q,hqq⟩:∃ q,bt a0 (p:Int)=q:=⟨_,rfl⟩;rw [hqq] at hq hd |-
 have hlp:=zn a0 (by omega) q (by omega) (ln:Int) ((p+1:Nat):Int) (a0.size - (p+1)) k (p+1) [] (by omega) (by omega) (Nat.zero_le _);have hsh:=wK q p ((bytesOf a0).drop (p+1)) 1 [];rw [hsh] at hlp;rw [hd];simp only [S.fZ];cases hl:S.lit q ((bytesOf a0).drop (p+1)) 1 [] with
 | none=>rw [hl] at hlp;exact hlp
 | some r =>
  obtain ⟨v,i⟩:=r;rw [hl] at hlp hsh;simp only [Option.map_some] at hlp hsh;obtain ⟨k',hk',hh⟩:=hlp;obtain ⟨u,r,g1,g2,g3,g4,g5,g6,g7⟩:=S.FQ q _ _ _ _ _ hsh;rw [List.nil_append] at g3;rw [List.length_drop,bytesOf_length] at g7;have hz:=OC a0 hs (ln:Int) p q hq v (p+i) (by omega) (by omega) (by rw [<- g2,g3];exact g4) (by rw [<- g2,g3];exact g5) (by rw [<- g2,g3];exact g6) k' (by omega);refine (hh.trans hz).trans ?_;congr 1
  have hdr:(q::(bytesOf a0).drop (p+1)).drop (i+1)=(bytesOf a0).drop (p+i+1):=by
   rw [<- hd,List.drop_drop,show p+(i+1)=p+i+1 by omega]
  unfold uZ;simp only [hdr];by_cases hv:v.all S.jP=true
  ·simp only [if_pos hv]
   by_cases hs0:S.sfx ((bytesOf a0).drop (p+i+1))=0
   ·simp only [if_pos hs0]
    exact IW p ln v (i+1)
   simp only [if_neg hs0];cases S.gT v (S.sfx ((bytesOf a0).drop (p+i+1))) with
   | none=>rfl
   | some w=>exact IW p ln w (i+2)
  ·simp only [if_neg hv];rfl
theorem ZX (a0:ByteArray) (hs:a0.size<=100000) (p ln:Nat) (hp:p < a0.size) (h10:bt a0 (p:Int)≠10) (h32:bt a0 (p:Int)≠32) (hst:S.gV ((bytesOf a0).drop p)=false) (k:Nat) (hk:8*a0.size+3000 < k) :
  match S.step ((bytesOf a0).drop p) with
  | .tok kd t n=>aZ.f k a0 (p:Int) (ln:Int)=some (((kd:Nat):Int),strOfNums t,((p+n:Nat):Int),0,0)
  | .err c dl=>aZ.f k a0 (p:Int) (ln:Int)=some (0,⟨#[]⟩,0,(c:Int),(ln:Int))/\dl=0
  | _=>False:=by
 have hd:=iL a0 (i:=p) hp;have key:∀ kd r,aZ.f k a0 (p:Int) (ln:Int)=some (Ou kd p ln r)->match S.jF kd r with
  | .tok kd t n=>aZ.f k a0 (p:Int) (ln:Int)=some (((kd:Nat):Int),strOfNums t,((p+n:Nat):Int),0,0)
  | .err c dl=>aZ.f k a0 (p:Int) (ln:Int)=some (0,⟨#[]⟩,0,(c:Int),(ln:Int))/\dl=0
  | _=>False:=fun kd r h=>by
  cases r with
  | err c=>exact ⟨h,rfl⟩
  | ok t n=>exact h
 have hstep:S.step ((bytesOf a0).drop p)=if bt a0 (p:Int)=39\/bt a0 (p:Int)=34 then S.jF 2 (S.fZ ((bytesOf a0).drop p)) else if S.sym (bt a0 (p:Int))=true then S.jF 1 (S.jw ((bytesOf a0).drop p)) else S.jF 3 (S.iY ((bytesOf a0).drop p)):=by
  rw [hd] at hst |-
  simp only [S.step];rw [if_neg h10,if_neg h32,if_neg (by rw [hst];decide)]
 rw [hstep];obtain ⟨k,rfl⟩:∃ k',k=k'+1:=⟨k - 1,by omega⟩;have hf:∀ b:Bool,b=(decide (bt a0 (p:Int)=39)||decide (bt a0 (p:Int)=34))->aZ.f (k+1) a0 (p:Int) (ln:Int)=aZ.j0 (k+1) a0 (p:Int) (ln:Int) b:=fun b hb=>by
  unfold aZ.f;rw [if_pos (by omega),if_pos (by omega)];by_cases c1:bt a0 (p:Int)=39
  ·rw [if_pos c1,hb,decide_eq_true c1];rfl
  ·rw [if_neg c1,hb,decide_eq_false c1];rfl
 by_cases hq:bt a0 (p:Int)=39\/bt a0 (p:Int)=34
 ·rw [if_pos hq]
  apply key
  rw [hf true (by rw [<- Bool.decide_or];exact (decide_eq_true hq).symm),aZ.j0,if_pos rfl,RF a0 hs p ln hp hq k (by omega),Option.bind_some]
 rw [if_neg hq];have hf2:=hf false (by rw [<- Bool.decide_or];exact (decide_eq_false hq).symm);rw [aZ.j0,if_neg Bool.false_ne_true,if_pos (by omega),if_pos (by omega),Rj,Option.bind_some] at hf2;by_cases hc:S.sym (bt a0 (p:Int))=true
 ·rw [if_pos hc]
  apply key
  rw [hf2,if_pos hc,Rs a0 hs p ln (by omega) k (by omega),Option.bind_some]
 rw [if_neg hc];apply key
 rw [hf2,if_neg hc];have hsg:=Ov;cases hS:ig.f with
 | none=>rw [hS] at hsg;cases hsg
 | some L =>
  rw [hS] at hsg;simp only [Option.map_some,Option.some.injEq] at hsg;rw [Option.bind_some];have hll:L.length=35:=by
   have:=congrArg List.length hsg;rw [List.length_map] at this;exact this
  exact IG a0 hs p ln (by omega) L hsg 35 k 0 (by omega) (by omega)
end Go.Proofs.YtkkpjonfaflkmaaGreatDoor.T
namespace Go.Proofs.YtkkpjonfaflkmaaGreatDoor.S
set_option linter.unusedSimpArgs false
set_option linter.unusedVariables false
def kt (t:Tk):KT:=(t.kind,t.text)
def ajI (l:List KT):List KT:=if l.getLast?=some (3,[44]) then l.dropLast else l
def RG (P:List KT):List KT:=P.filter fun x=>!decide (x=(3,[59]))
def own (cur P:List KT):List KT:=if P=[] then ajI cur else cur++(if P.getLast?=some (3,[44]) then (RG P).dropLast else RG P)
theorem FR {xs:List Int} {n dl:Nat} (h:step xs=.lV n dl):∃ l b,lV xs 0 0 1 0=.done n l b:=by
 rcases xs with _ | ⟨c,r⟩
 ·cases h
 simp only [step] at h;have key:∀ k R,jF k R≠.lV n dl:=fun k R e=>by cases R<;>cases e
 by_cases h1:c=10
 ·rw [if_pos h1] at h;cases h
 rw [if_neg h1] at h;by_cases h2:c=32
 ·rw [if_pos h2] at h;cases h
 rw [if_neg h2] at h;by_cases h3:gV (c::r)=true
 ·rw [if_pos h3] at h
  cases hR:lV (c::r) 0 0 1 0 with
  | eof=>rw [hR] at h;cases h
  | done i l b =>
   rw [hR] at h;simp only [kT] at h;by_cases hb:b=0
   ·rw [if_pos hb] at h
    cases h
    exact ⟨_,_,rfl⟩
   ·rw [if_neg hb] at h;cases h
 rw [if_neg h3] at h;by_cases h4:c=39\/c=34
 ·rw [if_pos h4] at h;exact (key _ _ h).elim
 rw [if_neg h4] at h;by_cases h5:sym c=true
 ·rw [if_pos h5] at h;exact (key _ _ h).elim
 rw [if_neg h5] at h;exact (key _ _ h).elim
def adI (p x:Tk):Prop:=kt p=(3,[47])->x.gap=false->∀ c r,Mv (kt x)=c::r->c≠47/\c≠42
def Ed:List Tk->Prop
 | p::x::l=>adI p x/\Ed (x::l)
 | _=>True
theorem Cz:∀ (l:List Tk) (x:Tk),Ed l->(∀ p,l.getLast?=some p->adI p x)->Ed (l++[x])
 | [],_,_,_=>trivial
 | [p],x,_,h=>⟨h p rfl,trivial⟩
 | p::q::l,x,h,hx=>⟨h.1,Cz (q::l) x h.2 (fun r hr=>hx r (by rw [List.getLast?_cons_cons];exact hr))⟩
theorem Ee:∀ (l m:List Tk),Ed (l++m)->Ed l
 | [],_,_=>trivial
 | [p],_,_=>trivial
 | p::q::l,m,h=>⟨h.1,Ee (q::l) m h.2⟩
structure vU (b:List Tk):Prop where
 good:∀ t∈b,Good (kt t)
 lab:∀ j,j < b.length->label (b.take j)=false
 hd:∀ t,b.head?=some t->t.gap=false
 sl:Ed b
structure uF (cur:List Tk) (gap:Bool) (xs:List Int):Prop where
 cls:vU cur
 lab:label cur=false
 lnk:∀ p,cur.getLast?=some p->kt p=(3,[47])->gap=true\/∀ c r,xs=c::r->c≠47/\c≠42
theorem vU.pre {a b:List Tk} (h:vU (a++b)):vU a:=by
 refine ⟨fun t ht=>h.good t (List.mem_append_left _ ht),fun j hj=>?_,fun t ht=>h.hd t ?_,Ee a b h.sl⟩
 ·have:=h.lab j (by rw [List.length_append];omega)
  rwa [List.take_append_of_le_length (by omega)] at this
 ·rw [List.head?_append,ht];rfl
theorem vU.dropLast {a:List Tk} (h:vU a):vU a.dropLast:=by
 rcases List.eq_nil_or_concat a with rfl | ⟨l,x,rfl⟩
 ·exact h
 ·rw [List.concat_eq_append] at h |-
  rw [List.dropLast_concat];exact h.pre
theorem uF.nil (gap:Bool) (xs:List Int):uF [] gap xs:=⟨⟨by simp,by simp,by simp,trivial⟩,rfl,by simp⟩
theorem uF.all {cur:List Tk} {gap:Bool} {xs:List Int} (h:uF cur gap xs):∀ j,label (cur.take j)=false:=fun j=>by
 by_cases e:j < cur.length
 ·exact h.cls.lab j e
 ·rw [List.take_of_length_le (by omega)];exact h.lab
theorem Le {r:List Int} {t:List Int} {n:Nat} (h:iY (47::47::r)=.ok t n):t=[47,47]:=by
 have:iY (47::47::r)=.ok [47,47] 2:=by simp [iY,signs,List.find?,List.isPrefixOf]
 rw [this] at h;cases h;rfl
theorem uF.put {cur:List Tk} {gap:Bool} {xs t:List Int} {k n line i:Nat} (hb:∀ x∈xs,0<=x/\x < 256) (h:uF cur gap xs) (hs:step xs=.tok k t n) (hne:¬ (k=3/\t=[59])) :
  vU (cur++[⟨k,t,gap&&!decide (cur=[]),line,i,i+n⟩])/\∀ p,(cur++[(⟨k,t,gap&&!decide (cur=[]),line,i,i+n⟩:Tk)]).getLast?=some p->kt p=(3,[47])->∀ c r,xs.drop n=c::r->c≠47/\c≠42:=by
 have hg:=FH hb hs hne;obtain ⟨c,r,rfl,c1,c2,c3,hk⟩:=Cm hs;refine ⟨⟨fun u hu=>?_,fun j hj=>?_,fun u hu=>?_,Cz _ _ h.cls.sl fun p hp he Ic=>?_⟩,fun p hp he=>?_⟩
 ·rcases List.mem_append.1 hu with e | e
  ·exact h.cls.good u e
  ·rw [List.mem_singleton.1 e];exact hg
 ·have:=h.all j
  rw [List.length_append,List.length_singleton] at hj;rw [List.take_append_of_le_length (by omega)];exact this
 ·cases cur with
  | nil=>simp only [List.nil_append,List.head?_cons,Option.some.injEq] at hu;subst hu;simp
  | cons a l=>exact h.cls.hd u hu
 ·have hcur:cur≠[]:=fun e=>by subst e;cases hp
  have Ic:gap=false:=by
   have Ic:(gap&&!decide (cur=[]))=false:=Ic;rw [decide_eq_false hcur] at Ic;simpa using Ic
  have hx:c≠47/\c≠42:=by
   rcases h.lnk p hp he with e | e
   ·rw [Ic] at e;cases e
   ·exact e c r rfl
  intro d s hd
  have hd:Mv (k,t)=d::s:=hd;rcases hk with ⟨rfl,hq,hl⟩ | ⟨rfl,-,hc,hs⟩ | ⟨rfl,hq,hc,hs⟩
  ·rw [Aq] at hd
   unfold quote at hd;injection hd with e1 e2
   rcases FC t with e | e<;>rw [e] at e1<;>omega
  ·rw [yZ (by decide)] at hd
   obtain ⟨g1,g2,g3⟩:=Co hs;rw [g2] at hd;cases n with
   | zero=>simp at hd
   | succ n =>
    simp only [List.take_succ_cons,List.map_cons,List.cons.injEq] at hd;rw [<- hd.1];have:=DW (c:=up c) (by rw [KR];exact hc);exact ⟨this.2.2.1,this.2.2.2.1⟩
  ·rw [yZ (by decide)] at hd
   obtain ⟨g1,g2,g3⟩:=uz hs;have:=uY _ _ g3;rw [hd] at this;simp only [List.cons_append,List.cons.injEq] at this;rw [<- this.1];exact hx
 ·rw [List.getLast?_concat] at hp
  simp only [Option.some.injEq] at hp;subst hp;simp only [kt,Prod.mk.injEq] at he;obtain ⟨rfl,rfl⟩:=he;rcases hk with ⟨h2,-⟩ | ⟨h2,-⟩ | ⟨-,hq,hc,hs⟩
  ·cases h2
  ·cases h2
  obtain ⟨g1,g2,g3⟩:=uz hs;have he:=uY _ _ g3;simp only [List.length_cons,List.length_nil,List.cons_append,List.nil_append,List.cons.injEq] at he g2;obtain ⟨rfl,-⟩:=he;subst g2;intro d s hd
  simp only [Nat.zero_add,List.drop_succ_cons,List.drop_zero] at hd;subst hd;refine ⟨?_,?_⟩
  ·rintro rfl
   have:=Le hs;cases this
  ·rintro rfl
   cases c3
def VE (cl:List Tk):Prop:=∃ b e,cl=b++[e]/\b≠[]/\vU b/\e.kind=4/\e.text=[]/\e.gap=false
theorem Av {b:List Tk} (h:vU b) (i j l:Nat):∀ cl∈emit b i j l,VE cl:=by
 intro cl hc
 unfold emit at hc;by_cases e:b=[]
 ·rw [if_pos e] at hc;cases hc
 rw [if_neg e,List.mem_singleton] at hc;exact ⟨b,_,hc,e,h,rfl,rfl,rfl⟩
theorem RH:∀ (f:Nat) (xs:List Int) (i line:Nat) (cur:List Tk) (gap:Bool),(∀ x∈xs,0<=x/\x < 256)->uF cur gap xs->(go f xs i line cur gap).err=none->∀ cl∈(go f xs i line cur gap).cl,VE cl
 | 0,xs,i,line,cur,gap,_,_,_=>by simp [go]
 | f+1,xs,i,line,cur,gap,hb,h,he=>by
  have hbd:∀ n,∀ x∈xs.drop n,0<=x/\x < 256:=fun n x hx=>hb x (List.mem_of_mem_drop hx)
  have ih:=fun n i line cur gap hc he=>RH f (xs.drop n) i line cur gap (hbd n) hc he
  rw [go] at he |-
  cases hs:step xs with
  | fin =>
   refine Av ?_ _ _ _;unfold cut;split
   ·exact h.cls.dropLast
   ·exact h.cls
  | err c dl=>rw [hs] at he;cases he
  | line =>
   rw [hs] at he;simp only at he |-
   by_cases hc:comma cur=true
   ·rw [if_pos hc] at he |-
    refine ih 1 _ _ _ _ ⟨h.cls.dropLast,?_,fun _ _ _=>.inl rfl⟩ he;rw [List.dropLast_eq_take];exact h.all _
   rw [if_neg hc] at he |-
   intro cl hcl
   rcases List.mem_append.1 hcl with e | e
   ·exact Av h.cls _ _ _ cl e
   ·exact ih 1 _ _ _ _ (uF.nil _ _) he cl e
  | blank =>
   rw [hs] at he;exact ih 1 _ _ _ _ ⟨h.cls,h.lab,fun _ _ _=>.inl rfl⟩ he
  | lV n dl =>
   rw [hs] at he;refine ih n _ _ _ _ ⟨h.cls,h.lab,fun p hp hk=>?_⟩ he;rcases h.lnk p hp hk with e | e
   ·exact .inl e
   ·exfalso
    obtain ⟨l,b,hc⟩:=FR hs;rcases xs with _ | ⟨c,r⟩
    ·cases hs
    have hx:=e c r rfl;simp only [step] at hs;have key:∀ k R,jF k R≠.lV n dl:=fun k R e=>by cases R<;>cases e
    by_cases h1:c=10
    ·rw [if_pos h1] at hs;cases hs
    rw [if_neg h1] at hs;by_cases h2:c=32
    ·rw [if_pos h2] at hs;cases hs
    rw [if_neg h2,if_neg (by rw [Cn hx.1];decide)] at hs;by_cases h4:c=39\/c=34
    ·rw [if_pos h4] at hs;exact (key _ _ hs).elim
    rw [if_neg h4] at hs;by_cases h5:sym c=true
    ·rw [if_pos h5] at hs;exact (key _ _ hs).elim
    rw [if_neg h5] at hs;exact (key _ _ hs).elim
  | tok k t n =>
   rw [hs] at he;simp only at he |-
   by_cases hsc:k=3/\t=[59]
   ·rw [if_pos hsc] at he |-
    intro cl hcl
    rcases List.mem_append.1 hcl with e | e
    ·exact Av h.cls _ _ _ cl e
    ·exact ih n _ _ _ _ (uF.nil _ _) he cl e
   rw [if_neg hsc] at he |-
   obtain ⟨p1,p2⟩:=h.put (line:=line) (i:=i) hb hs hsc;by_cases hl:label (cur++[⟨k,t,gap&&!decide (cur=[]),line,i,i+n⟩])=true
   ·rw [if_pos hl] at he |-
    intro cl hcl
    rcases List.mem_append.1 hcl with e | e
    ·exact Av p1 _ _ _ cl e
    ·exact ih n _ _ _ _ (uF.nil _ _) he cl e
   rw [if_neg hl] at he |-
   exact ih n _ _ _ _ ⟨p1,by simpa using hl,fun p hp hk=>.inr (p2 p hp hk)⟩ he
theorem IX {xs:List Int} (hb:∀ x∈xs,0<=x/\x < 256) (he:(scan xs).err=none):∀ cl∈(scan xs).cl,VE cl :=
 RH _ _ _ _ _ _ hb (uF.nil _ _) he
theorem Lf {x:KT} (h:Good x):∀ y∈x.2,0<=y/\y < 256:=by
 intro y hy
 obtain ⟨k,t⟩:=x;have hb:=h.2.2;by_cases e:k=2
 ·subst e
  rw [Aq] at hb;refine hb y ?_;unfold quote Fz;refine List.mem_cons_of_mem _ (List.mem_append_left _ (List.mem_flatMap.2 ⟨y,hy,?_⟩));by_cases e:y=zZ t
  ·rw [if_pos e,e];simp
  ·rw [if_neg e];simp
 ·rw [yZ e] at hb;exact hb y hy
theorem Good.step {x:KT} (h:Good x):step (Mv x)=.tok x.1 x.2 (Mv x).length:=h.1
theorem Good.ne {x:KT} (h:Good x):Mv x≠[]:=fun e=>by
 have:=h.1;rw [e] at this;cases this
theorem qy (o:Out) (a b:List (List Tk)):(o.pre a).pre b=o.pre (b++a):=by simp [Out.pre]
end Go.Proofs.YtkkpjonfaflkmaaGreatDoor.S
