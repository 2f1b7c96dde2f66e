/- For ScanTokens: its callees return what is said of them. -/
import Derived.Test.YtkkpjonfaflkmaaGreatDoorCScanTokens3
namespace Go.Proofs.YtkkpjonfaflkmaaGreatDoor.T
open Go.RowKit Go.Proofs.ah.aT Go.Proofs.ah.bn Go.Proofs.ah.bA
set_option linter.unusedSimpArgs false
set_option linter.unusedVariables false
attribute [local go_sem] fB fC gI gJ eD eF fD fE   -- for this text's walks alone
def jf.f (a0:Int):Option (Bool):=if a0>=97 then (if a0<=122 then (some true) else (if a0>=65 then (if a0<=90 then (some true) else (if a0>=48 then (if a0<=57 then (some true) else ((strings_IndexByte.f (⟨#[46,95,33,63]⟩:ByteArray) a0).bind fun Nt=>(some (decide (Nt>=0))))) else ((strings_IndexByte.f (⟨#[46,95,33,63]⟩:ByteArray) a0).bind fun t119=>(some (decide (t119>=0)))))) else (if a0>=48 then (if a0<=57 then (some true) else ((strings_IndexByte.f (⟨#[46,95,33,63]⟩:ByteArray) a0).bind fun Nu=>(some (decide (Nu>=0))))) else ((strings_IndexByte.f (⟨#[46,95,33,63]⟩:ByteArray) a0).bind fun Nv=>(some (decide (Nv>=0))))))) else (if a0>=65 then (if a0<=90 then (some true) else (if a0>=48 then (if a0<=57 then (some true) else ((strings_IndexByte.f (⟨#[46,95,33,63]⟩:ByteArray) a0).bind fun Nw=>(some (decide (Nw>=0))))) else ((strings_IndexByte.f (⟨#[46,95,33,63]⟩:ByteArray) a0).bind fun Ny=>(some (decide (Ny>=0)))))) else (if a0>=48 then (if a0<=57 then (some true) else ((strings_IndexByte.f (⟨#[46,95,33,63]⟩:ByteArray) a0).bind fun t124=>(some (decide (t124>=0))))) else ((strings_IndexByte.f (⟨#[46,95,33,63]⟩:ByteArray) a0).bind fun Nz=>(some (decide (Nz>=0))))))
set_option maxHeartbeats 8000000 in
set_option maxRecDepth 100000 in
theorem jf.calls (a0:Int) (r:Bool) (w:World) (h:jf.f a0=some r) :
  Calls Tryz.prog 55 #[.int .u8 a0] w fun e w'=>e=.returned (.bool r)/\aM w w':=by
 have H:(if a0>=97 then (if a0<=122 then (some true) else (if a0>=65 then (if a0<=90 then (some true) else (if a0>=48 then (if a0<=57 then (some true) else ((strings_IndexByte.f (⟨#[46,95,33,63]⟩:ByteArray) a0).bind fun Nt=>(some (decide (Nt>=0))))) else ((strings_IndexByte.f (⟨#[46,95,33,63]⟩:ByteArray) a0).bind fun t119=>(some (decide (t119>=0)))))) else (if a0>=48 then (if a0<=57 then (some true) else ((strings_IndexByte.f (⟨#[46,95,33,63]⟩:ByteArray) a0).bind fun Nu=>(some (decide (Nu>=0))))) else ((strings_IndexByte.f (⟨#[46,95,33,63]⟩:ByteArray) a0).bind fun Nv=>(some (decide (Nv>=0))))))) else (if a0>=65 then (if a0<=90 then (some true) else (if a0>=48 then (if a0<=57 then (some true) else ((strings_IndexByte.f (⟨#[46,95,33,63]⟩:ByteArray) a0).bind fun Nw=>(some (decide (Nw>=0))))) else ((strings_IndexByte.f (⟨#[46,95,33,63]⟩:ByteArray) a0).bind fun Ny=>(some (decide (Ny>=0)))))) else (if a0>=48 then (if a0<=57 then (some true) else ((strings_IndexByte.f (⟨#[46,95,33,63]⟩:ByteArray) a0).bind fun t124=>(some (decide (t124>=0))))) else ((strings_IndexByte.f (⟨#[46,95,33,63]⟩:ByteArray) a0).bind fun Nz=>(some (decide (Nz>=0)))))))=some r:=h;clear h;by_cases c2:a0>=97
 rotate_left
 ·rw [if_neg c2] at H
  have oG:decide (97<=a0)=false:=decide_eq_false c2;clear c2;by_cases c14:a0>=65
  rotate_left
  ·rw [if_neg c14] at H
   have Bq:decide (65<=a0)=false:=decide_eq_false c14;clear c14;by_cases c20:a0>=48
   rotate_left
   ·rw [if_neg c20] at H
    have GL:decide (48<=a0)=false:=decide_eq_false c20;clear c20;replace H:=Option.bind_eq_some_iff.mp H;obtain ⟨Nz,PZ,H⟩:=H;replace H:(some (decide (Nz>=0)))=some r:=H;have A23:=aj.mk PZ;clear PZ;obtain rfl:=Option.some.inj H;go_enter Tryz.func55,Tryz.ntmps55
    go_wp2_with (first | (go_at_call 93;(with_reducible refine (strings_IndexByte.calls (⟨#[46,95,33,63]⟩:ByteArray) a0 Nz _ A23.out).mono ?_);rintro e w' ⟨rfl,⟨nd,rfl⟩⟩))
    go_ret;exact ⟨by first | rfl | (simp;done) | (simp [*];done),by repeat (first | exact aM.refl _ | apply aM.step)⟩
   rw [if_pos c20] at H;have GL:decide (48<=a0)=true:=decide_eq_true c20;clear c20;by_cases c21:a0<=57
   ·rw [if_pos c21] at H
    have vP:decide (a0<=57)=true:=decide_eq_true c21;clear c21;obtain rfl:=Option.some.inj H;go_enter Tryz.func55,Tryz.ntmps55
    go_wp2;go_ret;exact ⟨by first | rfl | (simp;done) | (simp [*];done),by repeat (first | exact aM.refl _ | apply aM.step)⟩
   rw [if_neg c21] at H;have vP:decide (a0<=57)=false:=decide_eq_false c21;clear c21;replace H:=Option.bind_eq_some_iff.mp H;obtain ⟨t124,aaV,H⟩:=H;replace H:(some (decide (t124>=0)))=some r:=H;have A22:=aj.mk aaV;clear aaV;obtain rfl:=Option.some.inj H;go_enter Tryz.func55,Tryz.ntmps55
   go_wp2_with (first | (go_at_call 93;(with_reducible refine (strings_IndexByte.calls (⟨#[46,95,33,63]⟩:ByteArray) a0 t124 _ A22.out).mono ?_);rintro e w' ⟨rfl,⟨nd,rfl⟩⟩))
   go_ret;exact ⟨by first | rfl | (simp;done) | (simp [*];done),by repeat (first | exact aM.refl _ | apply aM.step)⟩
  rw [if_pos c14] at H;have Bq:decide (65<=a0)=true:=decide_eq_true c14;clear c14;by_cases c15:a0<=90
  ·rw [if_pos c15] at H
   have Dz:decide (a0<=90)=true:=decide_eq_true c15;clear c15;obtain rfl:=Option.some.inj H;go_enter Tryz.func55,Tryz.ntmps55
   go_wp2;go_ret;exact ⟨by first | rfl | (simp;done) | (simp [*];done),by repeat (first | exact aM.refl _ | apply aM.step)⟩
  rw [if_neg c15] at H;have Dz:decide (a0<=90)=false:=decide_eq_false c15;clear c15;by_cases c16:a0>=48
  rotate_left
  ·rw [if_neg c16] at H
   have Br:decide (48<=a0)=false:=decide_eq_false c16;clear c16;replace H:=Option.bind_eq_some_iff.mp H;obtain ⟨Ny,aaW,H⟩:=H;replace H:(some (decide (Ny>=0)))=some r:=H;have A19:=aj.mk aaW;clear aaW;obtain rfl:=Option.some.inj H;go_enter Tryz.func55,Tryz.ntmps55
   go_wp2_with (first | (go_at_call 93;(with_reducible refine (strings_IndexByte.calls (⟨#[46,95,33,63]⟩:ByteArray) a0 Ny _ A19.out).mono ?_);rintro e w' ⟨rfl,⟨nd,rfl⟩⟩))
   go_ret;exact ⟨by first | rfl | (simp;done) | (simp [*];done),by repeat (first | exact aM.refl _ | apply aM.step)⟩
  rw [if_pos c16] at H;have Br:decide (48<=a0)=true:=decide_eq_true c16;clear c16;by_cases c17:a0<=57
  ·rw [if_pos c17] at H
   have rG:decide (a0<=57)=true:=decide_eq_true c17;clear c17;obtain rfl:=Option.some.inj H;go_enter Tryz.func55,Tryz.ntmps55
   go_wp2;go_ret;exact ⟨by first | rfl | (simp;done) | (simp [*];done),by repeat (first | exact aM.refl _ | apply aM.step)⟩
  rw [if_neg c17] at H;have rG:decide (a0<=57)=false:=decide_eq_false c17;clear c17;replace H:=Option.bind_eq_some_iff.mp H;obtain ⟨Nw,Qa,H⟩:=H;replace H:(some (decide (Nw>=0)))=some r:=H;have A18:=aj.mk Qa;clear Qa;obtain rfl:=Option.some.inj H;go_enter Tryz.func55,Tryz.ntmps55
  go_wp2_with (first | (go_at_call 93;(with_reducible refine (strings_IndexByte.calls (⟨#[46,95,33,63]⟩:ByteArray) a0 Nw _ A18.out).mono ?_);rintro e w' ⟨rfl,⟨nd,rfl⟩⟩))
  go_ret;exact ⟨by first | rfl | (simp;done) | (simp [*];done),by repeat (first | exact aM.refl _ | apply aM.step)⟩
 rw [if_pos c2] at H;have oG:decide (97<=a0)=true:=decide_eq_true c2;clear c2;by_cases c3:a0<=122
 ·rw [if_pos c3] at H
  have nU:decide (a0<=122)=true:=decide_eq_true c3;clear c3;obtain rfl:=Option.some.inj H;go_enter Tryz.func55,Tryz.ntmps55
  go_wp2;go_ret;exact ⟨by first | rfl | (simp;done) | (simp [*];done),by repeat (first | exact aM.refl _ | apply aM.step)⟩
 rw [if_neg c3] at H;have nU:decide (a0<=122)=false:=decide_eq_false c3;clear c3;by_cases c4:a0>=65
 rotate_left
 ·rw [if_neg c4] at H
  have pF:decide (65<=a0)=false:=decide_eq_false c4;clear c4;by_cases c10:a0>=48
  rotate_left
  ·rw [if_neg c10] at H
   have tH:decide (48<=a0)=false:=decide_eq_false c10;clear c10;replace H:=Option.bind_eq_some_iff.mp H;obtain ⟨Nv,aaX,H⟩:=H;replace H:(some (decide (Nv>=0)))=some r:=H;have A13:=aj.mk aaX;clear aaX;obtain rfl:=Option.some.inj H;go_enter Tryz.func55,Tryz.ntmps55
   go_wp2_with (first | (go_at_call 93;(with_reducible refine (strings_IndexByte.calls (⟨#[46,95,33,63]⟩:ByteArray) a0 Nv _ A13.out).mono ?_);rintro e w' ⟨rfl,⟨nd,rfl⟩⟩))
   go_ret;exact ⟨by first | rfl | (simp;done) | (simp [*];done),by repeat (first | exact aM.refl _ | apply aM.step)⟩
  rw [if_pos c10] at H;have tH:decide (48<=a0)=true:=decide_eq_true c10;clear c10;by_cases c11:a0<=57
  ·rw [if_pos c11] at H
   have Bt:decide (a0<=57)=true:=decide_eq_true c11;clear c11;obtain rfl:=Option.some.inj H;go_enter Tryz.func55,Tryz.ntmps55
   go_wp2;go_ret;exact ⟨by first | rfl | (simp;done) | (simp [*];done),by repeat (first | exact aM.refl _ | apply aM.step)⟩
  rw [if_neg c11] at H;have Bt:decide (a0<=57)=false:=decide_eq_false c11;clear c11;replace H:=Option.bind_eq_some_iff.mp H;obtain ⟨Nu,GN,H⟩:=H;replace H:(some (decide (Nu>=0)))=some r:=H;have Yg:=aj.mk GN;clear GN;obtain rfl:=Option.some.inj H;go_enter Tryz.func55,Tryz.ntmps55
  go_wp2_with (first | (go_at_call 93;(with_reducible refine (strings_IndexByte.calls (⟨#[46,95,33,63]⟩:ByteArray) a0 Nu _ Yg.out).mono ?_);rintro e w' ⟨rfl,⟨nd,rfl⟩⟩))
  go_ret;exact ⟨by first | rfl | (simp;done) | (simp [*];done),by repeat (first | exact aM.refl _ | apply aM.step)⟩
 rw [if_pos c4] at H;have pF:decide (65<=a0)=true:=decide_eq_true c4;clear c4;by_cases c5:a0<=90
 ·rw [if_pos c5] at H
  have nV:decide (a0<=90)=true:=decide_eq_true c5;clear c5;obtain rfl:=Option.some.inj H;go_enter Tryz.func55,Tryz.ntmps55
  go_wp2;go_ret;exact ⟨by first | rfl | (simp;done) | (simp [*];done),by repeat (first | exact aM.refl _ | apply aM.step)⟩
 rw [if_neg c5] at H;have nV:decide (a0<=90)=false:=decide_eq_false c5;clear c5;by_cases c6:a0>=48
 rotate_left
 ·rw [if_neg c6] at H
  have kP:decide (48<=a0)=false:=decide_eq_false c6;clear c6;replace H:=Option.bind_eq_some_iff.mp H;obtain ⟨t119,Qb,H⟩:=H;replace H:(some (decide (t119>=0)))=some r:=H;have A9:=aj.mk Qb;clear Qb;obtain rfl:=Option.some.inj H;go_enter Tryz.func55,Tryz.ntmps55
  go_wp2_with (first | (go_at_call 93;(with_reducible refine (strings_IndexByte.calls (⟨#[46,95,33,63]⟩:ByteArray) a0 t119 _ A9.out).mono ?_);rintro e w' ⟨rfl,⟨nd,rfl⟩⟩))
  go_ret;exact ⟨by first | rfl | (simp;done) | (simp [*];done),by repeat (first | exact aM.refl _ | apply aM.step)⟩
 rw [if_pos c6] at H;have kP:decide (48<=a0)=true:=decide_eq_true c6;clear c6;by_cases c7:a0<=57
 ·rw [if_pos c7] at H
  have sI:decide (a0<=57)=true:=decide_eq_true c7;clear c7;obtain rfl:=Option.some.inj H;go_enter Tryz.func55,Tryz.ntmps55
  go_wp2;go_ret;exact ⟨by first | rfl | (simp;done) | (simp [*];done),by repeat (first | exact aM.refl _ | apply aM.step)⟩
 rw [if_neg c7] at H;have sI:decide (a0<=57)=false:=decide_eq_false c7;clear c7;replace H:=Option.bind_eq_some_iff.mp H;obtain ⟨Nt,A80,H⟩:=H;replace H:(some (decide (Nt>=0)))=some r:=H;have A8:=aj.mk A80;clear A80;obtain rfl:=Option.some.inj H;go_enter Tryz.func55,Tryz.ntmps55
 go_wp2_with (first | (go_at_call 93;(with_reducible refine (strings_IndexByte.calls (⟨#[46,95,33,63]⟩:ByteArray) a0 Nt _ A8.out).mono ?_);rintro e w' ⟨rfl,⟨nd,rfl⟩⟩))
 go_ret;exact ⟨by first | rfl | (simp;done) | (simp [*];done),by repeat (first | exact aM.refl _ | apply aM.step)⟩
def iU.f (a0:Int):Option (Bool):=if a0>=48 then (some (decide (a0<=57))) else (some false)
set_option maxHeartbeats 8000000 in
set_option maxRecDepth 100000 in
theorem iU.calls (a0:Int) (r:Bool) (w:World) (h:iU.f a0=some r) :
  Calls Tryz.prog 96 #[.int .u8 a0] w fun e w'=>e=.returned (.bool r)/\aM w w':=by
 have H:(if a0>=48 then (some (decide (a0<=57))) else (some false))=some r:=h;clear h;by_cases c2:a0>=48
 ·rw [if_pos c2] at H
  have oG:decide (48<=a0)=true:=decide_eq_true c2;clear c2;obtain rfl:=Option.some.inj H;go_enter Tryz.func96,Tryz.ntmps96
  go_wp2;go_ret;exact ⟨by first | rfl | (simp;done) | (simp [*];done),by repeat (first | exact aM.refl _ | apply aM.step)⟩
 rw [if_neg c2] at H;have oG:decide (48<=a0)=false:=decide_eq_false c2;clear c2;obtain rfl:=Option.some.inj H;go_enter Tryz.func96,Tryz.ntmps96
 go_wp2;go_ret;exact ⟨by first | rfl | (simp;done) | (simp [*];done),by repeat (first | exact aM.refl _ | apply aM.step)⟩
def rH.f (a0:ByteArray):Option (Bool):=(eH.f a0 (⟨#[69,101]⟩:ByteArray)).bind fun t130=>(if (t130.size:Int)=(wrap64 ((a0.size:Int) - 1)) then ((strings_Count.f t130 (⟨#[46]⟩:ByteArray)).bind fun t131=>(if t131 > 1 then (some false) else ((eB.f t130 (⟨#[46]⟩:ByteArray)).bind fun vD=>(if vD.toList=([]:List UInt8) then (some false) else ((eB.f t130 (⟨#[48,49,50,51,52,53,54,55,56,57,46]⟩:ByteArray)).bind fun zU=>(some (zU.toList==([]:List UInt8)))))))) else (some false))
set_option maxHeartbeats 8000000 in
set_option maxRecDepth 100000 in
theorem rH.calls (a0:ByteArray) (r:Bool) (w:World) (h:rH.f a0=some r) :
  Calls Tryz.prog 95 #[.string a0] w fun e w'=>e=.returned (.bool r)/\Below w.heap.size w w':=by
 have HB:=aj.mk (Below.refl w.heap.size w);have H:((eH.f a0 (⟨#[69,101]⟩:ByteArray)).bind fun t130=>(if (t130.size:Int)=(wrap64 ((a0.size:Int) - 1)) then ((strings_Count.f t130 (⟨#[46]⟩:ByteArray)).bind fun t131=>(if t131 > 1 then (some false) else ((eB.f t130 (⟨#[46]⟩:ByteArray)).bind fun vD=>(if vD.toList=([]:List UInt8) then (some false) else ((eB.f t130 (⟨#[48,49,50,51,52,53,54,55,56,57,46]⟩:ByteArray)).bind fun zU=>(some (zU.toList==([]:List UInt8)))))))) else (some false)))=some r:=h;clear h;replace H:=Option.bind_eq_some_iff.mp H;obtain ⟨t130,CX,H⟩:=H;replace H:(if (t130.size:Int)=(wrap64 ((a0.size:Int) - 1)) then ((strings_Count.f t130 (⟨#[46]⟩:ByteArray)).bind fun t131=>(if t131 > 1 then (some false) else ((eB.f t130 (⟨#[46]⟩:ByteArray)).bind fun vD=>(if vD.toList=([]:List UInt8) then (some false) else ((eB.f t130 (⟨#[48,49,50,51,52,53,54,55,56,57,46]⟩:ByteArray)).bind fun zU=>(some (zU.toList==([]:List UInt8)))))))) else (some false))=some r:=H;have A2:=aj.mk CX;clear CX;by_cases c3:(t130.size:Int)=(wrap64 ((a0.size:Int) - 1))
 rotate_left
 ·rw [if_neg c3] at H
  have nU:((t130.size:Int)==(wrap64 ((a0.size:Int) - 1)))=false:=beq_eq_false_iff_ne.mpr c3;have xq:((t130.size:Int) != (wrap64 ((a0.size:Int) - 1)))=true:=bne_iff_ne.mpr c3;obtain rfl:=Option.some.inj H;go_enter Tryz.func95,Tryz.ntmps95
  go_wp2_with (first | ((with_reducible refine bg (f:=127) rfl ?_);refine cO (some 5) rfl rfl Tryz.func127 (by kernel_rfl) rfl #[.string a0,.string (⟨#[69,101]⟩:ByteArray)] rfl (by (try simp only [List.map_toArray,List.map_cons,List.map_nil]);first | done | rfl | (simp only [List.length_drop,List.length_take];rfl)) ?_;(with_reducible refine (eH.calls a0 (⟨#[69,101]⟩:ByteArray) t130 _ A2.out).mono ?_);rintro e w15 ⟨rfl,hb⟩;refine ⟨_,rfl,?_⟩;have dW:=aj.mk (bH (by repeat (first | (with_reducible first | exact HB.out | apply ay | apply ak | apply aD) | exact HB.out)) hb);clear HB;have HB:=dW;clear dW;(try clear hb);(try clear hb2);(try clear hk);(try clear hi)))
  go_ret;exact ⟨by first | rfl | (simp [aV,aW]<;>rfl) | (simp [*,aV,aW]<;>rfl),by repeat (first | (with_reducible first | exact HB.out | apply ay | apply ak | apply aD) | exact HB.out)⟩
 rw [if_pos c3] at H;have nU:((t130.size:Int)==(wrap64 ((a0.size:Int) - 1)))=true:=beq_iff_eq.mpr c3;have xq:((t130.size:Int) != (wrap64 ((a0.size:Int) - 1)))=false:=bne_eq_false_iff_eq.mpr c3;clear c3;replace H:=Option.bind_eq_some_iff.mp H;obtain ⟨t131,WR,H⟩:=H;replace H:(if t131 > 1 then (some false) else ((eB.f t130 (⟨#[46]⟩:ByteArray)).bind fun vD=>(if vD.toList=([]:List UInt8) then (some false) else ((eB.f t130 (⟨#[48,49,50,51,52,53,54,55,56,57,46]⟩:ByteArray)).bind fun zU=>(some (zU.toList==([]:List UInt8)))))))=some r:=H;have A4:=aj.mk WR;clear WR;by_cases c5:t131 > 1
 ·rw [if_pos c5] at H
  have nV:decide (1 < t131)=true:=decide_eq_true c5;clear c5;obtain rfl:=Option.some.inj H;go_enter Tryz.func95,Tryz.ntmps95
  go_wp2_with (first | ((with_reducible refine bg (f:=127) rfl ?_);refine cO (some 5) rfl rfl Tryz.func127 (by kernel_rfl) rfl #[.string a0,.string (⟨#[69,101]⟩:ByteArray)] rfl (by (try simp only [List.map_toArray,List.map_cons,List.map_nil]);first | done | rfl | (simp only [List.length_drop,List.length_take];rfl)) ?_;(with_reducible refine (eH.calls a0 (⟨#[69,101]⟩:ByteArray) t130 _ A2.out).mono ?_);rintro e w6 ⟨rfl,hb⟩;refine ⟨_,rfl,?_⟩;have dW:=aj.mk (bH (by repeat (first | (with_reducible first | exact HB.out | apply ay | apply ak | apply aD) | exact HB.out)) hb);clear HB;have HB:=dW;clear dW;(try clear hb);(try clear hb2);(try clear hk);(try clear hi)) | (go_at_call 77;(with_reducible refine (strings_Count.calls t130 (⟨#[46]⟩:ByteArray) t131 _ A4.out).mono ?_);rintro e w' ⟨rfl,⟨nd,rfl⟩⟩))
  go_ret;exact ⟨by first | rfl | (simp [aV,aW]<;>rfl) | (simp [*,aV,aW]<;>rfl),by repeat (first | (with_reducible first | exact HB.out | apply ay | apply ak | apply aD) | exact HB.out)⟩
 rw [if_neg c5] at H;have nV:decide (1 < t131)=false:=decide_eq_false c5;clear c5;replace H:=Option.bind_eq_some_iff.mp H;obtain ⟨vD,WS,H⟩:=H;replace H:(if vD.toList=([]:List UInt8) then (some false) else ((eB.f t130 (⟨#[48,49,50,51,52,53,54,55,56,57,46]⟩:ByteArray)).bind fun zU=>(some (zU.toList==([]:List UInt8)))))=some r:=H;have A7:=aj.mk WS;clear WS;by_cases c8:vD.toList=([]:List UInt8)
 ·rw [if_pos c8] at H
  have yO:(vD.toList==([]:List UInt8))=true:=beq_iff_eq.mpr c8;have GQ:(vD.toList != ([]:List UInt8))=false:=bne_eq_false_iff_eq.mpr c8;clear c8;obtain rfl:=Option.some.inj H;go_enter Tryz.func95,Tryz.ntmps95
  go_wp2_with (first | ((with_reducible refine bg (f:=127) rfl ?_);refine cO (some 5) rfl rfl Tryz.func127 (by kernel_rfl) rfl #[.string a0,.string (⟨#[69,101]⟩:ByteArray)] rfl (by (try simp only [List.map_toArray,List.map_cons,List.map_nil]);first | done | rfl | (simp only [List.length_drop,List.length_take];rfl)) ?_;(with_reducible refine (eH.calls a0 (⟨#[69,101]⟩:ByteArray) t130 _ A2.out).mono ?_);rintro e w9 ⟨rfl,hb⟩;refine ⟨_,rfl,?_⟩;have dW:=aj.mk (bH (by repeat (first | (with_reducible first | exact HB.out | apply ay | apply ak | apply aD) | exact HB.out)) hb);clear HB;have HB:=dW;clear dW;(try clear hb);(try clear hb2);(try clear hk);(try clear hi)) | (go_at_call 77;(with_reducible refine (strings_Count.calls t130 (⟨#[46]⟩:ByteArray) t131 _ A4.out).mono ?_);rintro e w' ⟨rfl,⟨nd,rfl⟩⟩) | (go_at_call 128;(with_reducible refine (eB.calls t130 (⟨#[46]⟩:ByteArray) vD _ A7.out).mono ?_);rintro e DC ⟨rfl,hb⟩;have dW:=aj.mk (bH (by repeat (first | (with_reducible first | exact HB.out | apply ay | apply ak | apply aD) | exact HB.out)) hb);clear HB;have HB:=dW;clear dW;(try clear hb);(try clear hb2);(try clear hk);(try clear hi)))
  go_ret;exact ⟨by first | rfl | (simp [aV,aW]<;>rfl) | (simp [*,aV,aW]<;>rfl),by repeat (first | (with_reducible first | exact HB.out | apply ay | apply ak | apply aD) | exact HB.out)⟩
 rw [if_neg c8] at H;have yO:(vD.toList==([]:List UInt8))=false:=beq_eq_false_iff_ne.mpr c8;have GQ:(vD.toList != ([]:List UInt8))=true:=bne_iff_ne.mpr c8;replace H:=Option.bind_eq_some_iff.mp H;obtain ⟨zU,Qc,H⟩:=H;replace H:(some (zU.toList==([]:List UInt8)))=some r:=H;have A11:=aj.mk Qc;clear Qc;obtain rfl:=Option.some.inj H;go_enter Tryz.func95,Tryz.ntmps95
 go_wp2_with (first | ((with_reducible refine bg (f:=127) rfl ?_);refine cO (some 5) rfl rfl Tryz.func127 (by kernel_rfl) rfl #[.string a0,.string (⟨#[69,101]⟩:ByteArray)] rfl (by (try simp only [List.map_toArray,List.map_cons,List.map_nil]);first | done | rfl | (simp only [List.length_drop,List.length_take];rfl)) ?_;(with_reducible refine (eH.calls a0 (⟨#[69,101]⟩:ByteArray) t130 _ A2.out).mono ?_);rintro e w12 ⟨rfl,hb⟩;refine ⟨_,rfl,?_⟩;have dW:=aj.mk (bH (by repeat (first | (with_reducible first | exact HB.out | apply ay | apply ak | apply aD) | exact HB.out)) hb);clear HB;have HB:=dW;clear dW;(try clear hb);(try clear hb2);(try clear hk);(try clear hi)) | (go_at_call 77;(with_reducible refine (strings_Count.calls t130 (⟨#[46]⟩:ByteArray) t131 _ A4.out).mono ?_);rintro e w' ⟨rfl,⟨nd,rfl⟩⟩) | (go_at_call 128;(with_reducible refine (eB.calls t130 (⟨#[46]⟩:ByteArray) vD _ A7.out).mono ?_);rintro e WT ⟨rfl,hb⟩;have dW:=aj.mk (bH (by repeat (first | (with_reducible first | exact HB.out | apply ay | apply ak | apply aD) | exact HB.out)) hb);clear HB;have HB:=dW;clear dW;(try clear hb);(try clear hb2);(try clear hk);(try clear hi)) | ((with_reducible refine bg (f:=128) rfl ?_);refine cO (some 23) rfl rfl Tryz.func128 (by kernel_rfl) rfl #[.string t130,.string (⟨#[48,49,50,51,52,53,54,55,56,57,46]⟩:ByteArray)] rfl (by (try simp only [List.map_toArray,List.map_cons,List.map_nil]);first | done | rfl | (simp only [List.length_drop,List.length_take];rfl)) ?_;(with_reducible refine (eB.calls t130 (⟨#[48,49,50,51,52,53,54,55,56,57,46]⟩:ByteArray) zU _ A11.out).mono ?_);rintro e w14 ⟨rfl,hb⟩;refine ⟨_,rfl,?_⟩;have dW:=aj.mk (bH (by repeat (first | (with_reducible first | exact HB.out | apply ay | apply ak | apply aD) | exact HB.out)) hb);clear HB;have HB:=dW;clear dW;(try clear hb);(try clear hb2);(try clear hk);(try clear hi)))
 go_ret;exact ⟨by first | rfl | (simp [aV,aW]<;>rfl) | (simp [*,aV,aW]<;>rfl),by repeat (first | (with_reducible first | exact HB.out | apply ay | apply ak | apply aD) | exact HB.out)⟩
end Go.Proofs.YtkkpjonfaflkmaaGreatDoor.T
namespace Go.Proofs.YtkkpjonfaflkmaaGreatDoor.T
open Go.RowKit Go.Proofs.ah.aT Go.Proofs.ah.bn Go.Proofs.ah.bA
set_option linter.unusedSimpArgs false
set_option linter.unusedVariables false
def Yh (s:ByteArray):ByteArray:=strOfNums ((bytesOf s).map S.up)
def nI.f (a0:ByteArray):Option ByteArray:=if a0.size<=1000000 then some (Yh a0) else none
def dU.f (a0:ByteArray):Option ByteArray:=if a0.size<=1000000 then some (Yh a0) else none
theorem EF (x:Int) (h0:0<=x) (h1:x < 256):IntKind.u8.wrap x=x:=by
 have:IntKind.u8.wrap x=x % 256:=rfl;rw [this];omega
theorem xB (xs:List Int) (k:Nat) (h:k < xs.length):xs.set k (xs.getD k 0)=xs:=by
 have h1:xs.getD k 0=xs[k]:=by simp [List.getD_eq_getElem?_getD,List.getElem?_eq_getElem h]
 rw [h1,List.set_getElem_self]
set_option maxHeartbeats 2000000 in
theorem nI.calls (a0:ByteArray) (r:ByteArray) (w:World) (h:nI.f a0=some r) :
  Calls Tryz.prog 98 #[.string a0] w fun e w'=>e=.returned (.string r)/\Below w.heap.size w w':=by
 unfold nI.f at h;by_cases ha:a0.size<=1000000
 rotate_left
 ·rw [if_neg ha] at h
  cases h
 rw [if_pos ha] at h;obtain rfl:=Option.some.inj h;unfold Yh;clear h;obtain ⟨n,hn⟩:∃ n,a0.size=n:=⟨_,rfl⟩;have HB0:=aj.mk (Buf.new w a0);have wN:=aj.mk (qj (Below.refl w.heap.size w) (Nat.le_refl _) 5 a0);have HN:aj ((bytesOf a0).length=n):=⟨by rw [bytesOf_length];exact hn⟩;have kb:=fun W=>nR (P:=Tryz.prog) 9 100 5 Tryz.underlying9 Tryz.underlying100 Tryz.underlying5 a0 W
 rw [hn] at kb ha;have kc:=fun W c=>tC (P:=Tryz.prog) (w:=W) (src:=100) (dst:=9) (e:=5) (A:=some ⟨w.heap.size,0,none⟩) (n:=n) (c:=c) (xs:=(bytesOf a0).map S.up) Tryz.underlying100 Tryz.underlying5 Tryz.underlying9
 go_enter Tryz.func98,Tryz.ntmps98
 go_wp2;go_loopg [4,5,10] n (fun gg _ _ s10 wr=>∃ kk:Nat,kk<=n/\n - kk<=gg/\s10=.int .i64 kk/\aj (Below w.heap.size w wr)/\aj (Buf w.heap.size (iA S.up kk (bytesOf a0)) wr))
 case atStart=>exact ⟨0,Nat.zero_le _,by omega,rfl,wN,⟨by rw [vO];exact HB0.out⟩⟩
 case round =>
  obtain ⟨kk,hkk,hg,rfl,HB,HF⟩:=hrel;by_cases hlt:kk < n
  rotate_left
  ·obtain rfl:kk=n:=by omega
   have HR:aj (Buf w.heap.size ((bytesOf a0).map S.up) wr):=⟨by have:=HF.out;rw [<- HN.out,xu] at this;exact this⟩;have aaY:=fun c=>kc wr c (by have:=HR.out.reads (by simp;have:=HN.out;omega);rw [List.length_map,HN.out] at this;exact this)
   go_wp2;go_ret;exact ⟨rfl,HB.out⟩
  have hltz:(kk:Int) < (n:Int):=by omega
  have hl:kk < (bytesOf a0).length:=by have:=HN.out;omega
  have hcell0:=HF.out.cell kk (by rw [fH];exact hl);rw [qw S.up kk _ hl] at hcell0;obtain ⟨hx0,hx1⟩:=gK a0 _ (lK _ kk hl);have HS:aj (Buf w.heap.size ((iA S.up kk (bytesOf a0)).set kk (S.up ((bytesOf a0).getD kk 0))) (wr.setCell ⟨w.heap.size,kk,none⟩ (.int .u8 (S.up ((bytesOf a0).getD kk 0))))):=⟨HF.out.set kk _ (by rw [fH];exact hl)⟩;have HQ:=aj.mk (xw S.up kk _ hl);have HG:aj ((iA S.up kk (bytesOf a0)).getD kk 0=(bytesOf a0).getD kk 0):=⟨qw S.up kk _ hl⟩;generalize (bytesOf a0).getD kk 0=y at hcell0 hx0 hx1 HS HQ HG;have hfree:wr.frozen? ⟨w.heap.size,kk,none⟩=false:=HF.out.free kk (by rw [fH];exact hl);by_cases c1:97<=y
  rotate_left
  ·have d1:decide (97<=y)=false:=decide_eq_false c1
   have HU:aj (S.up y=y):=⟨by unfold S.up;rw [if_neg (fun q=>c1 q.1)]⟩;clear c1 hx0 hx1;go_wp2;go_roundg (n - (kk+1))
   case measure=>omega
   case rel =>
    refine ⟨kk+1,by omega,by omega,by go_num,HB,⟨?_⟩⟩;rw [<- HQ.out,HU.out,<- HG.out,xB _ kk (by rw [fH];exact hl)];exact HF.out
  by_cases c2:y<=122
  ·have d1:decide (97<=y)=true:=decide_eq_true c1
   have d2:decide (y<=122)=true:=decide_eq_true c2;have hu:S.up y=y - 32:=by unfold S.up;rw [if_pos ⟨c1,c2⟩]
   rw [hu] at HS HQ;have hw:IntKind.u8.wrap (y - 32)=y - 32:=EF _ (by omega) (by omega);clear c1 c2 hx0 hx1 hl hu;go_wp2;go_roundg (n - (kk+1))
   case measure=>omega
   case rel =>
    refine ⟨kk+1,by omega,by omega,by go_num,⟨aQ HB.out (Nat.le_refl _)⟩,⟨?_⟩⟩;rw [<- HQ.out];exact HS.out
  have d1:decide (97<=y)=true:=decide_eq_true c1;have d2:decide (y<=122)=false:=decide_eq_false c2;have HU:aj (S.up y=y):=⟨by unfold S.up;rw [if_neg (fun q=>c2 q.2)]⟩;clear c1 c2 hx0 hx1;go_wp2;go_roundg (n - (kk+1))
  case measure=>omega
  case rel =>
   refine ⟨kk+1,by omega,by omega,by go_num,HB,⟨?_⟩⟩;rw [<- HQ.out,HU.out,<- HG.out,xB _ kk (by rw [fH];exact hl)];exact HF.out
set_option maxHeartbeats 2000000 in
theorem dU.calls (a0:ByteArray) (r:ByteArray) (w:World) (h:dU.f a0=some r) :
  Calls Tryz.prog 101 #[.string a0] w fun e w'=>e=.returned (.string r)/\Below w.heap.size w w':=by
 unfold dU.f at h;by_cases ha:a0.size<=1000000
 rotate_left
 ·rw [if_neg ha] at h
  cases h
 rw [if_pos ha] at h;obtain rfl:=Option.some.inj h;unfold Yh;clear h;obtain ⟨n,hn⟩:∃ n,a0.size=n:=⟨_,rfl⟩;have HB0:=aj.mk (Buf.new w a0);have wN:=aj.mk (qj (Below.refl w.heap.size w) (Nat.le_refl _) 5 a0);have HN:aj ((bytesOf a0).length=n):=⟨by rw [bytesOf_length];exact hn⟩;have kb:=fun W=>nR (P:=Tryz.prog) 9 100 5 Tryz.underlying9 Tryz.underlying100 Tryz.underlying5 a0 W
 rw [hn] at kb ha;have kc:=fun W c=>tC (P:=Tryz.prog) (w:=W) (src:=100) (dst:=9) (e:=5) (A:=some ⟨w.heap.size,0,none⟩) (n:=n) (c:=c) (xs:=(bytesOf a0).map S.up) Tryz.underlying100 Tryz.underlying5 Tryz.underlying9
 go_enter Tryz.func101,Tryz.ntmps101
 go_wp2;go_loopg [4] n (fun gg s10 wr=>∃ kk:Nat,kk<=n/\n - kk<=gg/\s10=.int .i64 kk/\aj (Below w.heap.size w wr)/\aj (Buf w.heap.size (iA S.up kk (bytesOf a0)) wr))
 case atStart=>exact ⟨0,Nat.zero_le _,by omega,rfl,wN,⟨by rw [vO];exact HB0.out⟩⟩
 case round =>
  obtain ⟨kk,hkk,hg,rfl,HB,HF⟩:=hrel;by_cases hlt:kk < n
  rotate_left
  ·obtain rfl:kk=n:=by omega
   have HR:aj (Buf w.heap.size ((bytesOf a0).map S.up) wr):=⟨by have:=HF.out;rw [<- HN.out,xu] at this;exact this⟩;have aaY:=fun c=>kc wr c (by have:=HR.out.reads (by simp;have:=HN.out;omega);rw [List.length_map,HN.out] at this;exact this)
   go_wp2;go_ret;exact ⟨rfl,HB.out⟩
  have hltz:(kk:Int) < (n:Int):=by omega
  have hl:kk < (bytesOf a0).length:=by have:=HN.out;omega
  have hcell0:=HF.out.cell kk (by rw [fH];exact hl);rw [qw S.up kk _ hl] at hcell0;obtain ⟨hx0,hx1⟩:=gK a0 _ (lK _ kk hl);have HS:aj (Buf w.heap.size ((iA S.up kk (bytesOf a0)).set kk (S.up ((bytesOf a0).getD kk 0))) (wr.setCell ⟨w.heap.size,kk,none⟩ (.int .u8 (S.up ((bytesOf a0).getD kk 0))))):=⟨HF.out.set kk _ (by rw [fH];exact hl)⟩;have HQ:=aj.mk (xw S.up kk _ hl);have HG:aj ((iA S.up kk (bytesOf a0)).getD kk 0=(bytesOf a0).getD kk 0):=⟨qw S.up kk _ hl⟩;generalize (bytesOf a0).getD kk 0=y at hcell0 hx0 hx1 HS HQ HG;have hfree:wr.frozen? ⟨w.heap.size,kk,none⟩=false:=HF.out.free kk (by rw [fH];exact hl);by_cases c1:97<=y
  rotate_left
  ·have d1:decide (97<=y)=false:=decide_eq_false c1
   have HU:aj (S.up y=y):=⟨by unfold S.up;rw [if_neg (fun q=>c1 q.1)]⟩;clear c1 hx0 hx1;go_wp2;go_roundg (n - (kk+1))
   case measure=>omega
   case rel =>
    refine ⟨kk+1,by omega,by omega,by go_num,HB,⟨?_⟩⟩;rw [<- HQ.out,HU.out,<- HG.out,xB _ kk (by rw [fH];exact hl)];exact HF.out
  by_cases c2:y<=122
  ·have d1:decide (97<=y)=true:=decide_eq_true c1
   have d2:decide (y<=122)=true:=decide_eq_true c2;have hu:S.up y=y - 32:=by unfold S.up;rw [if_pos ⟨c1,c2⟩]
   rw [hu] at HS HQ;have hw:IntKind.u8.wrap (y - 97)=y - 97:=EF _ (by omega) (by omega);have hw2:IntKind.u8.wrap (y - 97+65)=y - 32:=by rw [EF _ (by omega) (by omega)];omega
   clear c1 c2 hx0 hx1 hl hu;go_wp2;go_roundg (n - (kk+1))
   case measure=>omega
   case rel =>
    refine ⟨kk+1,by omega,by omega,by go_num,⟨aQ HB.out (Nat.le_refl _)⟩,⟨?_⟩⟩;rw [<- HQ.out];exact HS.out
  have d1:decide (97<=y)=true:=decide_eq_true c1;have d2:decide (y<=122)=false:=decide_eq_false c2;have HU:aj (S.up y=y):=⟨by unfold S.up;rw [if_neg (fun q=>c2 q.2)]⟩;clear c1 c2 hx0 hx1;go_wp2;go_roundg (n - (kk+1))
  case measure=>omega
  case rel =>
   refine ⟨kk+1,by omega,by omega,by go_num,HB,⟨?_⟩⟩;rw [<- HQ.out,HU.out,<- HG.out,xB _ kk (by rw [fH];exact hl)];exact HF.out
theorem Bu (P:Int->Prop) (h:∀ n:Fin 256,P (n.val:Int)) (x:Int) (h0:0<=x) (h1:x < 256):P x:=by
 have:=h ⟨x.toNat,by omega⟩;simp only at this;rwa [Int.toNat_of_nonneg h0] at this
theorem LQ (x:Int) (h0:0<=x) (h1:x < 256):jf.f x=some (S.sym x) :=
 Bu (fun x=>jf.f x=some (S.sym x)) (by decide +kernel) x h0 h1
theorem Qd (x:Int):iU.f x=some (S.lU x):=by
 unfold iU.f S.lU;by_cases h1:48<=x<;>by_cases h2:x<=57<;>simp [h1,h2]
theorem NA:PV 55 S.sym:=fun W x h0 h1=>jf.calls x (S.sym x) W (LQ x h0 h1)
theorem NC:PV 96 S.lU:=fun W x h0 h1=>iU.calls x (S.lU x) W (Qd x)
theorem JO:∀ args w,(callFunc 55 args).run Tryz.prog w=.ok (.enter 55 args) w:=enters_of Tryz.func55 (by kernel_rfl) rfl
theorem JQ:∀ args w,(callFunc 96 args).run Tryz.prog w=.ok (.enter 96 args) w:=enters_of Tryz.func96 (by kernel_rfl) rfl
theorem Qe (l:List UInt8) (p:Int->Bool):(nums l).all p=l.all (fun b=>p (b.toNat:Int)):=by simp [nums,Function.comp_def]
theorem GR (l:List UInt8) (p:Int->Bool):(nums l).any p=l.any (fun b=>p (b.toNat:Int)):=by simp [nums,Function.comp_def]
theorem vY (l:List UInt8) (c:UInt8):(nums l).count (c.toNat:Int)=l.count c:=by
 induction l with
 | nil=>rfl
 | cons x t ih =>
  simp only [nums,List.map_cons,List.count_cons];rw [show List.map (fun b:UInt8=>(b.toNat:Int)) t=nums t from rfl,ih];by_cases h:x=c
  ·subst h;simp
  have:¬ (x.toNat:Int)=(c.toNat:Int):=fun e=>h (ED e)
  simp [h,this]
theorem drop_nil {α:Type} (p:α->Bool):∀ l:List α,l.dropWhile p=[] <-> ∀ x∈l,p x=true
 | []=>by simp
 | x::t=>by
  by_cases h:p x=true
  ·rw [List.dropWhile_cons_of_pos h,drop_nil p t];simp [h]
  ·rw [List.dropWhile_cons_of_neg h];simp [h]
theorem GU {α:Type} (p:α->Bool):∀ (l:List α) (x:α),x∈l.takeWhile p->p x=true
 | [],_,h=>by cases h
 | y::t,x,h=>by
  by_cases hy:p y=true
  ·rw [List.takeWhile_cons_of_pos hy] at h
   rcases List.mem_cons.1 h with rfl | h
   ·exact hy
   ·exact GU p t x h
  ·rw [List.takeWhile_cons_of_neg hy] at h;cases h
theorem nX (l cs:List UInt8):(Lib.trimS l cs=[]) <-> ∀ b∈l,cs.contains b=true:=by
 unfold Lib.trimS Lib.trimLeftS Lib.trimRightS;constructor
 ·intro h b hb
  have h1:∀ b∈(l.reverse.dropWhile (cs.contains ·)).reverse,cs.contains b=true:=by
   have:=(drop_nil _ _).1 h;exact this
  by_cases hm:b∈l.reverse.dropWhile (cs.contains ·)
  ·exact h1 b (by simpa using hm)
  have hb':b∈l.reverse:=by simpa using hb
  rw [<- List.takeWhile_append_dropWhile (p:=(cs.contains ·)) (l:=l.reverse)] at hb';rcases List.mem_append.1 hb' with h2 | h2
  ·exact GU _ _ _ h2
  ·exact absurd h2 hm
 ·intro h
  have:l.reverse.dropWhile (cs.contains ·)=[]:=by
   rw [drop_nil];intro b hb
   exact h b (by simpa using hb)
  rw [this];rfl
theorem JR (P:UInt8->Prop) (h:∀ n:Fin 256,P (UInt8.ofNat n.val)) (b:UInt8):P b:=by
 have:=h ⟨b.toNat,b.toNat_lt⟩;simpa using this
theorem isE (b:UInt8):([69,101]:List UInt8).contains b=(decide ((b.toNat:Int)=69)||decide ((b.toNat:Int)=101)):=JR (fun b=>([69,101]:List UInt8).contains b=(decide ((b.toNat:Int)=69)||decide ((b.toNat:Int)=101))) (by decide +kernel) b
theorem WU (b:UInt8):([46]:List UInt8).contains b=decide ((b.toNat:Int)=46):=JR (fun b=>([46]:List UInt8).contains b=decide ((b.toNat:Int)=46)) (by decide +kernel) b
theorem Yi (b:UInt8):([48,49,50,51,52,53,54,55,56,57,46]:List UInt8).contains b=(S.lU b.toNat||decide ((b.toNat:Int)=46)):=JR (fun b=>([48,49,50,51,52,53,54,55,56,57,46]:List UInt8).contains b=(S.lU b.toNat||decide ((b.toNat:Int)=46))) (by decide +kernel) b
theorem yP (l:List UInt8) (e:UInt8) (cs:List UInt8):Lib.trimRightS (l++[e]) cs=if cs.contains e=true then Lib.trimRightS l cs else l++[e]:=by
 unfold Lib.trimRightS;rw [List.reverse_append];by_cases h:cs.contains e=true
 ·rw [if_pos h]
  simp only [List.reverse_cons,List.reverse_nil,List.nil_append,List.singleton_append];rw [List.dropWhile_cons_of_pos h]
 rw [if_neg h];simp only [List.reverse_cons,List.reverse_nil,List.nil_append,List.singleton_append];rw [List.dropWhile_cons_of_neg h];simp
theorem Qf (l cs:List UInt8):(Lib.trimRightS l cs).length<=l.length:=by
 unfold Lib.trimRightS;rw [List.length_reverse];have:=(List.dropWhile_sublist (cs.contains ·) (l:=l.reverse)).length_le;simpa using this
theorem cb (l:List UInt8):(Lib.countByte l 46:Int)=(l.count 46:Int):=rfl
theorem Yj (l:List UInt8):(⟨l.toArray⟩:ByteArray).toList=l:=by rw [Lib.toList_data]
theorem LU (l:List UInt8):(⟨l.toArray⟩:ByteArray).size=l.length:=by simp [ByteArray.size]
theorem Yk (x:ByteArray) (hx:x.size<=100000):rH.f x=some (S.sG (bytesOf x)):=by
 have hsz:x.size=x.data.toList.length:=(kM x).symm;rw [jm];unfold rH.f eH.f;rw [if_pos ⟨hx,by decide,by decide⟩];simp only [Option.bind_some,LU];rw [hsz];rw [hsz] at hx;generalize x.data.toList=l at hx;have hw:wrap64 ((l.length:Int) - 1)=(l.length:Int) - 1:=by unfold wrap64;omega
 rw [hw];show (if ((Lib.trimRightS l [69,101]).length:Int)=(l.length:Int) - 1 then _ else some false)=_
 rcases List.eq_nil_or_concat l with rfl | ⟨l',e,rfl⟩
 ·rw [if_neg (by simp [Lib.trimRightS])]
  rfl
 rw [List.concat_eq_append] at hx |-
 have hm:S.sG (nums (l'++[e]))=(([69,101]:List UInt8).contains e&&(nums l').all (fun c=>S.lU c||decide (c=46))&&(nums l').any S.lU&&decide ((nums l').count 46<=1)):=by
  unfold S.sG;have h1:nums (l'++[e])=nums l'++[(e.toNat:Int)]:=by simp [nums]
  rw [h1,List.getLast?_concat,isE];simp only [List.dropLast_concat]
 rw [hm,yP];by_cases he:([69,101]:List UInt8).contains e=true
 rotate_left
 ·rw [if_neg he,if_neg (by simp;omega)]
  simp only [Bool.not_eq_true] at he;rw [he];rfl
 rw [if_pos he,he,Bool.true_and];have hl:((l'++[e]).length:Int) - 1=(l'.length:Int):=by simp
 rw [hl];by_cases hs:((Lib.trimRightS l' [69,101]).length:Int)=(l'.length:Int)
 rotate_left
 ·rw [if_neg hs]
  have:(nums l').all (fun c=>S.lU c||decide (c=46))=false:=by
   rcases List.eq_nil_or_concat l' with rfl | ⟨l2,e2,rfl⟩
   ·exact absurd rfl hs
   ·rw [List.concat_eq_append] at hs |-
    rw [yP] at hs;by_cases h2:([69,101]:List UInt8).contains e2=true
    ·rw [isE] at h2
     have h3:nums (l2++[e2])=nums l2++[(e2.toNat:Int)]:=by simp [nums]
     rw [h3,List.all_append];simp only [Bool.or_eq_true,decide_eq_true_eq] at h2;have:(S.lU (e2.toNat:Int)||decide ((e2.toNat:Int)=46))=false:=by
      rcases h2 with h2 | h2<;>rw [h2]<;>rfl
     simp [this]
    rw [if_neg h2] at hs;exact absurd rfl hs
  rw [this];rfl
 rw [if_pos hs];have ht:Lib.trimRightS l' [69,101]=l':=by
  rcases List.eq_nil_or_concat l' with rfl | ⟨l2,e2,rfl⟩
  ·rfl
  ·rw [List.concat_eq_append] at hs |-
   rw [yP] at hs |-
   by_cases h2:([69,101]:List UInt8).contains e2=true
   ·rw [if_pos h2] at hs
    have:=Qf l2 [69,101];simp at hs
    omega
   ·rw [if_neg h2]
 rw [ht];unfold strings_Count.f;simp only [Option.bind_some];have hc:Lib.countByte l' 46=((nums l').count 46:Int):=by
  have:=vY l' 46;rw [show (((46:UInt8).toNat:Nat):Int)=46 from rfl] at this;rw [this];exact cb l'
 rw [hc];by_cases h1:((nums l').count 46:Int) > 1
 ·rw [if_pos h1]
  have:decide ((nums l').count 46<=1)=false:=decide_eq_false (by omega);rw [this,Bool.and_false]
 rw [if_neg h1];have:decide ((nums l').count 46<=1)=true:=decide_eq_true (by omega);rw [this,Bool.and_true];have hx2:l'.length<=100000:=by simp at hx;omega
 unfold eB.f;rw [LU,if_pos ⟨hx2,by decide,by decide⟩,if_pos ⟨hx2,by decide,by decide⟩];simp only [Option.bind_some,Yj];show (if Lib.trimS l' [46]=[] then some false else some (Lib.trimS l' [48,49,50,51,52,53,54,55,56,57,46]==[]))=_
 have hall:(nums l').all (fun c=>S.lU c||decide (c=46))=decide (Lib.trimS l' [48,49,50,51,52,53,54,55,56,57,46]=[]):=by
  rw [Qe];by_cases h:Lib.trimS l' [48,49,50,51,52,53,54,55,56,57,46]=[]
  ·rw [decide_eq_true h,List.all_eq_true]
   intro b hb
   rw [<- Yi];exact (nX _ _).1 h b hb
  rw [decide_eq_false h,<- Bool.not_eq_true,List.all_eq_true];intro q
  refine h ((nX _ _).2 fun b hb=>?_);rw [Yi];exact q b hb
 by_cases h2:Lib.trimS l' [46]=[]
 ·rw [if_pos h2]
  have:(nums l').any S.lU=false:=by
   rw [GR,<- Bool.not_eq_true,List.any_eq_true];rintro ⟨b,hb,hd⟩
   have h3:=(nX _ _).1 h2 b hb;rw [WU,decide_eq_true_eq] at h3;rw [h3] at hd;cases hd
  rw [this,Bool.and_false]
 rw [if_neg h2,hall];by_cases h3:Lib.trimS l' [48,49,50,51,52,53,54,55,56,57,46]=[]
 rotate_left
 ·rw [decide_eq_false h3,Bool.false_and]
  simp [h3]
 have h4:(nums l').any S.lU=true:=by
  rw [GR];rcases Bool.eq_false_or_eq_true (l'.any fun b=>S.lU b.toNat) with h | h
  ·exact h
  ·exfalso
   refine h2 ((nX _ _).2 fun b hb=>?_);have h5:=(nX _ _).1 h3 b hb;rw [Yi] at h5;have h6:S.lU b.toNat=false:=by
    rw [List.any_eq_false] at h;simpa using h b hb
   rw [h6,Bool.false_or] at h5;rw [WU];exact h5
 rw [h3,h4];rfl
theorem JU (p:Int->Bool):∀ l:List Int,S.run p l<=l.length
 | []=>Nat.le_refl _
 | c::t=>by
  unfold S.run;split
  ·have:=JU p t;simp;omega
  ·omega
def sJ (s:Nat) (src:ByteArray) (m:Value) (i line:Nat) (e:Ending) (w':World):S.TR->Prop
 | .err c=>e=Fails c line/\∃ i':Nat,Sc s src i' line m w'
 | .ok t n=>e=.returned (.string (strOfNums t))/\Sc s src ((i+n:Nat):Int) line m w'
set_option maxRecDepth 100000 in
set_option maxHeartbeats 4000000 in
theorem zH.calls (s:Nat) (src:ByteArray) (m:Value) (i line:Nat) (w:World) (hsz:src.size<=100000) (hl:line<=1000000000) (hi:i<=src.size) (h:Sc s src i line m w) :
  Calls Tryz.prog 56 #[.pointer (some ⟨s,0,none⟩)] w fun e w'=>But (·=s) w w'/\sJ s src m i line e w' (S.jw ((bytesOf src).drop i)):=by
 have HS:=aj.mk h;obtain ⟨n,hn⟩:∃ n,src.size=n:=⟨_,rfl⟩;obtain ⟨L,hL⟩:∃ L,bytesOf src=L:=⟨_,rfl⟩;have HN:aj (L.length=n):=⟨by rw [<- hL,bytesOf_length];exact hn⟩;have Qg:=Lib.hid (fun W hW=>GI.calls s src i line m i 55 S.sym W (by omega) hi JO NA hW);rw [hL] at Qg |-
 obtain ⟨r,hr⟩:∃ r,S.run S.sym (L.drop i)=r:=⟨_,rfl⟩;rw [hr] at Qg;have hrn:i+r<=n:=by
  have:=JU S.sym (L.drop i);rw [hr,List.length_drop,HN.out] at this;omega
 have HL:=aj.mk hL;have HR:=aj.mk hr;have c0:=h.c0;have c1:=h.c1;have f1:=h.fr 1;clear hL h hr;rw [hn] at hsz hi;obtain ⟨x,hx⟩:∃ x,i+r=x:=⟨_,rfl⟩;rw [hx] at hrn Qg;have hxr:x - i=r:=by omega
 have HX:aj (bytesOf (src.extract i x)=(L.drop i).take r):=⟨by rw [iT,HL.out,hxr]⟩;have hxs:(src.extract i x).size<=100000:=by rw [ByteArray.size_extract];omega
 have HO:=Yk _ hxs;rw [HX.out] at HO;obtain ⟨op,hop⟩:∃ op,S.sG ((L.drop i).take r)=op:=⟨_,rfl⟩;rw [hop] at HO;have hz0:(0:Int)<=(i:Int):=by omega
 have hz1:(i:Int)<=(x:Int):=by omega
 have hz2:(x:Int)<=(n:Int):=by omega
 have HOP:=Lib.hid (fun W=>rH.calls (src.extract i x) op W HO);have HI:=aj.mk (And.intro hx hxr);clear hx hxr HO hxs;have hw1:IntKind.i64.wrap ((x:Int)+1)=((x+1:Nat):Int):=by rw [vC _ (by omega) (by omega)];omega
 obtain ⟨E,hE⟩:∃ E,(op&&S.rF (L.drop x))=E:=⟨_,rfl⟩;have HEE:=aj.mk hE;go_enter Tryz.func56,Tryz.ntmps56
 go_wp2_with (go_at_call 94;refine (Qg.out _ HS.out).mono ?_;rintro e w' ⟨rfl,⟨⟨q,rfl⟩⟩⟩)
 have GV:aj (Sc s src x line m ((w.drewN q).setCell ⟨s,1,none⟩ (.int .i64 x))):=⟨Sc.set1 (w:=w.drewN q) HS.out _⟩;have HB1:aj (But (·=s) w ((w.drewN q).setCell ⟨s,1,none⟩ (.int .i64 x))):=⟨((But.refl _ w).drewN q).set _ _ rfl⟩;clear hE;generalize (w.drewN q).setCell ⟨s,1,none⟩ (.int .i64 x)=w1 at *;go_cut [74] from 4 (fun s74 wc=>s74=.bool E/\aj (Sc s src x line m wc)/\aj (But (·=s) w wc))
 case first =>
  have cc0:∀ y:nD s src x line m w,y.world.cell? ⟨s,0,none⟩=some (.string src):=nD.c0;have OQ:∀ y:nD s src x line m w,y.world.cell? ⟨s,1,none⟩=some (.int .i64 x):=nD.c1;have hne:Nonempty (nD s src x line m w):=⟨⟨w1.drew,GV.out,HB1.out.drew⟩⟩;cases op with
  | false =>
   obtain rfl:false=E:=HEE.out;refine dM (fun W=>∃ y:nD s src x line m w,W=y.world) (by kernel_rfl) (by kernel_rfl) ⟨⟨w1.drew,GV.out,HB1.out.drew⟩,rfl⟩ ?_;repeat (go_big_quiet_step ((rename_i y;(go_at_call 95;refine (HOP.out _).mono ?_;rintro e w' ⟨rfl,hb⟩;exact ⟨rfl,y.ret hb⟩))))
   refine wpQuiet_nil ?_;rintro W ⟨y,rfl⟩
   go_wp2_with fail
   go_meet
   exact ⟨rfl,⟨y.sc⟩,⟨y.but⟩⟩
  | true =>
   by_cases c1:x+1 < n
   rotate_left
   ·have g1:decide (((x:Int)+1) < (n:Int))=false:=decide_eq_false (by omega)
    have g1':decide (x+1 < n)=false:=decide_eq_false c1;obtain rfl:E=false:=by
     have:=HEE.out;rw [<- this];have hlen:(L.drop x).length<=1:=by rw [List.length_drop,HN.out];omega
     rcases h0:L.drop x with _ | ⟨a,_ | ⟨b,t⟩⟩
     ·rfl
     ·rfl
     ·rw [h0] at hlen;simp at hlen
    refine dM (fun W=>∃ y:nD s src x line m w,W=y.world) (by kernel_rfl) (by kernel_rfl) ⟨⟨w1.drew,GV.out,HB1.out.drew⟩,rfl⟩ ?_;repeat (go_big_quiet_step ((rename_i y;(go_at_call 95;refine (HOP.out _).mono ?_;rintro e w' ⟨rfl,hb⟩;exact ⟨rfl,y.ret hb⟩))))
    refine wpQuiet_nil ?_;rintro W ⟨y,rfl⟩
    go_wp2_with fail
    go_meet
    exact ⟨rfl,⟨y.sc⟩,⟨y.but⟩⟩
   have g1:decide (((x:Int)+1) < (n:Int))=true:=decide_eq_true (by omega);have g1':decide (x+1 < n)=true:=decide_eq_true c1;have hxn:x < src.size:=by omega
   have aiI:x+1 < src.size:=by omega
   have hb1:=kQ src x hxn;have hb2:=kQ src (x+1) aiI;rw [HL.out] at hb1 hb2;have HE2:aj (E=((decide (L.getD x 0=43)||decide (L.getD x 0=45))&&S.lU (L.getD (x+1) 0))):=⟨by
    have:=HEE.out;rw [drop_at L x (by rw [HN.out];omega),drop_at L (x+1) (by rw [HN.out];omega)] at this;rw [<- this];rfl⟩
   have hr1:0<=L.getD (x+1) 0/\L.getD (x+1) 0 < 256:=by
    have:=gK src (L.getD (x+1) 0) (by rw [HL.out];exact lK L (x+1) (by rw [HN.out];omega));exact this
   generalize L.getD x 0=y1 at *;generalize L.getD (x+1) 0=y2 at *;have hdd:=fun W=>iU.calls y2 (S.lU y2) W (Qd y2)
   obtain ⟨D,hD⟩:∃ D,S.lU y2=D:=⟨_,rfl⟩;rw [hD] at HE2 hdd;have Qh:=Lib.hid hdd;clear hdd hD hr1 c1;have hi1:(x:Int) < (n:Int):=by omega
   have hi2:((x:Int)+1) < (n:Int):=by omega
   have hi0:(0:Int)<=(x:Int):=by omega
   by_cases c2:y1=43
   ·have g2:(y1==43)=true:=beq_iff_eq.2 c2
    obtain rfl:E=D:=by rw [HE2.out,c2];simp
    refine dM (fun W=>∃ y:nD s src x line m w,W=y.world) (by kernel_rfl) (by kernel_rfl) ⟨⟨w1.drew,GV.out,HB1.out.drew⟩,rfl⟩ ?_;repeat (go_big_quiet_step ((rename_i y;first | (go_at_call 95;refine (HOP.out _).mono ?_;rintro e w' ⟨rfl,hb⟩;exact ⟨rfl,y.ret hb⟩) | (go_at_call 96;refine (Qh.out _).mono ?_;rintro e w' ⟨rfl,hb⟩;exact ⟨rfl,y.ret hb.below⟩))))
    refine wpQuiet_nil ?_;rintro W ⟨y,rfl⟩
    go_wp2_with fail
    go_meet
    exact ⟨rfl,⟨y.sc⟩,⟨y.but⟩⟩
   have g2:(y1==43)=false:=beq_eq_false_iff_ne.2 c2;by_cases c3:y1=45
   ·have g3:(y1==45)=true:=beq_iff_eq.2 c3
    obtain rfl:E=D:=by rw [HE2.out,c3];simp
    refine dM (fun W=>∃ y:nD s src x line m w,W=y.world) (by kernel_rfl) (by kernel_rfl) ⟨⟨w1.drew,GV.out,HB1.out.drew⟩,rfl⟩ ?_;repeat (go_big_quiet_step ((rename_i y;first | (go_at_call 95;refine (HOP.out _).mono ?_;rintro e w' ⟨rfl,hb⟩;exact ⟨rfl,y.ret hb⟩) | (go_at_call 96;refine (Qh.out _).mono ?_;rintro e w' ⟨rfl,hb⟩;exact ⟨rfl,y.ret hb.below⟩))))
    refine wpQuiet_nil ?_;rintro W ⟨y,rfl⟩
    go_wp2_with fail
    go_meet
    exact ⟨rfl,⟨y.sc⟩,⟨y.but⟩⟩
   have g3:(y1==45)=false:=beq_eq_false_iff_ne.2 c3;obtain rfl:E=false:=by rw [HE2.out];simp [c2,c3]
   refine dM (fun W=>∃ y:nD s src x line m w,W=y.world) (by kernel_rfl) (by kernel_rfl) ⟨⟨w1.drew,GV.out,HB1.out.drew⟩,rfl⟩ ?_;repeat (go_big_quiet_step ((rename_i y;first | (go_at_call 95;refine (HOP.out _).mono ?_;rintro e w' ⟨rfl,hb⟩;exact ⟨rfl,y.ret hb⟩) | (go_at_call 96;refine (Qh.out _).mono ?_;rintro e w' ⟨rfl,hb⟩;exact ⟨rfl,y.ret hb.below⟩))))
   refine wpQuiet_nil ?_;rintro W ⟨y,rfl⟩
   go_wp2_with fail
   go_meet
   exact ⟨rfl,⟨y.sc⟩,⟨y.but⟩⟩
 case rest =>
  obtain ⟨rfl,HS2,HB2⟩:=hcut;clear GV HB1 HOP;obtain ⟨x2,hx2⟩:∃ x2:Nat,i+S.gB (L.drop i)=x2:=⟨_,rfl⟩;have hsl:S.gB (L.drop i)=if E=true then r+1+S.run S.lU (L.drop (x+1)) else r:=by
   have h1:=HI.out;have hE:=HEE.out;unfold S.gB;rw [HR.out,List.drop_drop,List.drop_drop,h1.1,show i+(r+1)=x+1 by omega,hop];by_cases hc:E=true
   ·rw [if_pos hc]
    rw [hc] at hE;rw [Bool.and_eq_true] at hE;rw [if_pos hE]
   rw [if_neg hc];rw [if_neg (fun q=>hc (by rw [<- hE,q.1,q.2];rfl))]
  have alJ:x2<=n/\i<=x2:=by
   have h1:=HI.out;by_cases hc:E=true
   rotate_left
   ·rw [if_neg hc] at hsl
    omega
   rw [if_pos hc] at hsl;have:=JU S.lU (L.drop (x+1));rw [List.length_drop,HN.out] at this;have hE:=HEE.out;rw [hc,Bool.and_eq_true] at hE;have h2:x+1 < n:=by
    rcases Nat.lt_or_ge (x+1) n with h | h
    ·exact h
    ·have hlen:(L.drop x).length<=1:=by rw [List.length_drop,HN.out];omega
     rcases h0:L.drop x with _ | ⟨a,_ | ⟨b,t⟩⟩
     ·rw [h0] at hE;cases hE.2
     ·rw [h0] at hE;cases hE.2
     ·rw [h0] at hlen;simp at hlen
   omega
  have HT:aj (S.jw (L.drop i)=if 40 < x2 - i then .err 30 else .ok (((L.drop i).take (x2 - i)).map S.up) (x2 - i)):=⟨by
   unfold S.jw;rw [show S.gB (L.drop i)=x2 - i by omega]⟩
  go_upto_if 74 with (fail)
  go_cut [] from 4 (fun wc=>aj (Sc s src x2 line m wc)/\aj (But (·=s) w wc))
  case first =>
   have d1:=HS2.out.c1;have e1:=HS2.out.fr 1;cases E with
   | false =>
    obtain rfl:x=x2:=by have h1:=HI.out;simp at hsl;omega
    go_wp2_with fail
    go_meet
    exact ⟨HS2,HB2⟩
   | true =>
    simp only [if_true] at hsl;have hx3:((x+1+S.run S.lU (L.drop (x+1)):Nat):Int)=(x2:Int):=by have h1:=HI.out;omega
    have hxn:x+1<=n:=by have h1:=HI.out;omega
    have HR2:=GI.calls s src x line m (x+1) 96 S.lU wc (by omega) (by omega) JQ NC HS2.out;rw [HL.out,hx3] at HR2;have HRR:=Lib.hid HR2;clear HR2 hx3;go_wp2_with (go_at_call 94;refine HRR.out.mono ?_;rintro e w' ⟨rfl,⟨⟨q,rfl⟩⟩⟩)
    go_meet
    exact ⟨⟨Sc.set1 (w:=wc.drewN q) HS2.out _⟩,⟨(HB2.out.drewN q).set _ _ rfl⟩⟩
  case rest =>
   obtain ⟨JV,HB3⟩:=hcut;clear HS2 HB2 Qg;have d0:=JV.out.c0;have d1:=JV.out.c1;have d2:=JV.out.c2;obtain ⟨k,hk⟩:∃ k,x2 - i=k:=⟨_,rfl⟩;have HT2:=HT;rw [hk] at HT2;have hw2:IntKind.i64.wrap ((x2:Int) - (i:Int))=(k:Int):=by rw [vC _ (by omega) (by omega)];omega
   by_cases h40:40 < k
   ·have g1:decide (40 < k)=true:=decide_eq_true h40
    have g2:decide ((40:Int) < (k:Int))=true:=decide_eq_true (by omega);have HF:=Lib.hid (kU.calls (.pointer (some ⟨s,0,none⟩)) 30 line wc);rw [if_pos h40] at HT2;clear hk h40;go_wp2_with (go_at_call 97;refine HF.out.mono ?_;rintro e w' ⟨rfl,rfl⟩;unfold Fails)
    rw [HT2.out];exact ⟨rfl,HB3.out,rfl,_,JV.out⟩
   have g1:decide (40 < k)=false:=decide_eq_false h40;have g2:decide ((40:Int) < (k:Int))=false:=decide_eq_false (by omega);rw [if_neg h40] at HT2;have hz3:(i:Int)<=(x2:Int):=by omega
   have ND:(x2:Int)<=(n:Int):=by omega
   have hup:nI.f (src.extract i x2)=some (strOfNums (((L.drop i).take k).map S.up)):=by
    unfold nI.f Yh;rw [if_pos (by rw [ByteArray.size_extract];omega),iT,HL.out,hk]
   have JW:=fun W=>nI.calls (src.extract i x2) _ W hup
   have HK:aj (x2=i+k):=⟨by omega⟩;clear hk h40 hup;obtain ⟨out,hout⟩:∃ out,strOfNums (((L.drop i).take k).map S.up)=out:=⟨_,rfl⟩;rw [hout] at JW;have HU:=Lib.hid JW;have Tq:=aj.mk hout;clear JW hout;have cc0:∀ y:nD s src x2 line m w,y.world.cell? ⟨s,0,none⟩=some (.string src):=nD.c0;have OQ:∀ y:nD s src x2 line m w,y.world.cell? ⟨s,1,none⟩=some (.int .i64 x2):=nD.c1;have hne:Nonempty (nD s src x2 line m w):=⟨⟨wc.drew,JV.out,HB3.out.drew⟩⟩;go_wp2;refine dM (fun W=>∃ y:nD s src x2 line m w,W=y.world) (by kernel_rfl) (by kernel_rfl) ⟨⟨wc.drew,JV.out,HB3.out.drew⟩,rfl⟩ ?_;repeat (go_big_quiet_step ((rename_i y;(go_at_call 98;refine (HU.out _).mono ?_;rintro e w' ⟨rfl,hb⟩;exact ⟨rfl,y.ret hb⟩))))
   refine wpQuiet_nil ?_;rintro W ⟨y,rfl⟩
   have HY:=aj.mk (And.intro y.sc y.but);generalize y.world=W at *;go_wp2;go_ret;refine ⟨HY.out.2,?_⟩;rw [HT2.out];exact ⟨by rw [Tq.out];rfl,by rw [<- HK.out];exact HY.out.1⟩
end Go.Proofs.YtkkpjonfaflkmaaGreatDoor.T
