/- A part of the proof of ScanWrites. -/
import Derived.Test.YtkkpjonfaflkmaaGreatDoorCScanWrites3
set_option linter.all false
namespace Go.Proofs.YtkkpjonfaflkmaaGreatDoor.T
open Go.RowKit Go.Proofs.aj.aI Go.Proofs.aj.aY Go.Proofs.aj.bq
def nums (l:List UInt8):List Int:=l.map fun b=>(b.toNat:Int)
theorem gY (s:ByteArray):bytesOf s=nums s.data.toList:=rfl
theorem EX {a b:UInt8} (h:(a.toNat:Int)=(b.toNat:Int)):a=b:=UInt8.toNat_inj.1 (by omega)
theorem Bd:∀ {a b:List UInt8},nums a=nums b->a=b
 | [],[],_=>rfl
 | [],_::_,h=>by simp [nums] at h
 | _::_,[],h=>by simp [nums] at h
 | x::a,y::b,h=>by
  simp only [nums,List.map_cons,List.cons.injEq] at h;rw [EX h.1,Bd (a:=a) (b:=b) h.2]
theorem pO {a b:ByteArray} (h:bytesOf a=bytesOf b):a=b:=by
 apply ByteArray.ext
 apply Array.toList_inj.1
 exact Bd h
theorem str_eq (s:ByteArray) (l:List UInt8):(s.toList==l)=decide (bytesOf s=nums l):=by
 rw [Lib.toList_data,gY];by_cases h:s.data.toList=l
 ·subst h;simp
 have h2:¬ nums s.data.toList=nums l:=fun e=>h (Bd e)
 simp [h,h2]
theorem uo (s:ByteArray):(s.toList==([]:List UInt8))=decide (bytesOf s=[]):=str_eq s []
theorem qF (s:ByteArray) (k:Nat):bytesOf (s.extract k s.size)=(bytesOf s).drop k:=by
 simp only [bytesOf];rw [ByteArray.data_extract,Array.toList_extract,List.extract_eq_take_drop,List.take_of_length_le (by rw [List.length_drop,jQ];exact Nat.le_refl _),List.map_drop]
theorem gP (s:ByteArray) (i j:Nat):bytesOf (s.extract i j)=((bytesOf s).drop i).take (j - i):=by
 simp only [bytesOf];rw [ByteArray.data_extract,Array.toList_extract,List.extract_eq_take_drop,List.map_take,List.map_drop]
theorem oL (a b:ByteArray):bytesOf (a++b)=bytesOf a++bytesOf b:=by
 simp only [bytesOf];rw [ByteArray.data_append,Array.toList_append,List.map_append]
theorem zn:∀ (p l:List UInt8),p.isPrefixOf l=(nums p).isPrefixOf (nums l)
 | [],_=>rfl
 | _::_,[]=>rfl
 | x::p,y::l=>by
  show (x==y&&p.isPrefixOf l)=(((x.toNat:Int)==(y.toNat:Int))&&(nums p).isPrefixOf (nums l))
  rw [zn p l];congr 1
  by_cases h:x=y
  ·subst h;simp
  have:¬ (x.toNat:Int)=(y.toNat:Int):=fun e=>h (EX e)
  rw [beq_eq_false_iff_ne.2 h,beq_eq_false_iff_ne.2 this]
theorem sK (s p:ByteArray):Lib.hasPrefix s.data.toList p.data.toList=(bytesOf p).isPrefixOf (bytesOf s):=zn _ _
theorem Lb (a b:UInt8) (xs:List Int):([(a.toNat:Int),(b.toNat:Int)]:List Int).isPrefixOf xs=S.st2 a.toNat b.toNat xs:=by
 rcases xs with _ | ⟨c,_ | ⟨d,t⟩⟩
 ·rfl
 ·simp [S.st2,List.isPrefixOf]
 ·simp only [S.st2,List.isPrefixOf,Bool.and_true]
  by_cases h1:c=(a.toNat:Int)<;>by_cases h2:d=(b.toNat:Int)<;>simp [h1,h2]<;>omega
theorem wI.calls (rs:ByteArray) (a b:UInt8) (r:Bool) (hr:S.st2 a.toNat b.toNat (bytesOf rs)=r) (W:World) :
  Calls Tryz.prog 123 #[.string rs,.string ⟨#[a,b]⟩] W fun e W'=>e=.returned (.bool r)/\W'=W:=by
 have h:=Tryz.strings_HasPrefix rs ⟨#[a,b]⟩ W;rw [sK] at h;have e:bytesOf ⟨#[a,b]⟩=[(a.toNat:Int),(b.toNat:Int)]:=rfl;rw [e,Lb,hr] at h;exact h
theorem Bf (rs:ByteArray) (y:Int) (t:List Int) (h:bytesOf rs=y::t):∃ hz:0 < rs.size,((rs[0]'hz).toNat:Int)=y:=by
 have hz:0 < rs.size:=by rw [<- bytesOf_length,h];simp
 refine ⟨hz,?_⟩;have h1:=um rs 0 hz;rw [h] at h1;have h2:bt rs ((0:Nat):Int)=((rs[0]'hz).toNat:Int):=by simp [bt,hz]
 rw [h2] at h1;simpa using h1
theorem jT (rs:ByteArray) (k:Nat) (hz:k < rs.size):((rs[k]'hz).toNat:Int)=(bytesOf rs).getD k 0:=by
 have h1:=um rs k hz;have h2:bt rs (k:Int)=((rs[k]'hz).toNat:Int):=by simp [bt,hz]
 rw [h2] at h1;exact h1
theorem uq (x:Int) (h0:-9223372036854775808<=x) (h1:x<=9223372036854775807):IntKind.i64.wrap x=x:=(dK _).trans (by unfold wrap64;omega)
theorem bW (L:List Int) (h:∀ x∈L,0<=x/\x < 256):bytesOf (strOfNums L)=L:=by
 have e:(strOfNums L).data.toList=L.map fun x=>UInt8.ofNat x.toNat:=by simp [strOfNums]
 rw [gY,e];unfold nums;rw [List.map_map];refine (List.map_congr_left fun x hx=>?_).trans (List.map_id L);obtain ⟨h0,h1⟩:=h x hx;simp only [Function.comp_apply];rw [UInt8.toNat_ofNat_of_lt' (by simp [UInt8.size];omega)];show ((x.toNat:Nat):Int)=x
 omega
theorem dA {P:Program} {id:Nat} {Q:Exit->Act->World->Prop} {a:Act} {w:World} {l:List Oper} (C:World->Prop) (hm:P.follows .mixedOrders=true) (hB:Region.lexB .any l.toArray=true) (hC:C w.drew)
  (h:wpQuiet P l.toArray C (fun a'=>∀ w',C w'->Q .normal a' w') l a):(Code.region id l.toArray true).wp P Q a w :=
 wp_region_quiet (C:=C) hm hB hC (by simpa using h)
structure mU (s:Nat) (src:ByteArray) (i line:Int) (m:Value) (w:World) where
 world:World
 sc:Sc s src i line m world
 but:But (·=s) w world
theorem mU.c0 {s:Nat} {src:ByteArray} {i line:Int} {m:Value} {w:World} (x:mU s src i line m w):x.world.cell? ⟨s,0,none⟩=some (.string src):=x.sc.c0
theorem mU.c1 {s:Nat} {src:ByteArray} {i line:Int} {m:Value} {w:World} (x:mU s src i line m w):x.world.cell? ⟨s,1,none⟩=some (.int .i64 i):=x.sc.c1
theorem mU.c2 {s:Nat} {src:ByteArray} {i line:Int} {m:Value} {w:World} (x:mU s src i line m w):x.world.cell? ⟨s,2,none⟩=some (.int .i64 line):=x.sc.c2
theorem mU.c3 {s:Nat} {src:ByteArray} {i line:Int} {m:Value} {w:World} (x:mU s src i line m w):x.world.cell? ⟨s,3,none⟩=some m:=x.sc.c3
theorem mU.ret {s:Nat} {src:ByteArray} {i line:Int} {m:Value} {w w':World} (x:mU s src i line m w) (hb:Below x.world.heap.size x.world w'):∃ y:mU s src i line m w,w'=y.world:=⟨⟨w',x.sc.below hb,x.but.then hb⟩,rfl⟩
end Go.Proofs.YtkkpjonfaflkmaaGreatDoor.T
namespace Go.Proofs.YtkkpjonfaflkmaaGreatDoor.T
open Go.RowKit Go.Proofs.aj.aI Go.Proofs.aj.aY Go.Proofs.aj.bq
attribute [local go_sem] eY eZ gH gI dV dW fq fu
def iw.f (a0:Int):Option (Bool):=if a0>=97 then (if a0<=122 then (some true) else (if a0>=65 then (if a0<=90 then (some true) else (if a0>=48 then (if a0<=57 then (some true) else ((strings_IndexByte.f (⟨#[46,95,33,63]⟩:ByteArray) a0).bind fun Pm=>(some (decide (Pm>=0))))) else ((strings_IndexByte.f (⟨#[46,95,33,63]⟩:ByteArray) a0).bind fun t119=>(some (decide (t119>=0)))))) else (if a0>=48 then (if a0<=57 then (some true) else ((strings_IndexByte.f (⟨#[46,95,33,63]⟩:ByteArray) a0).bind fun Pn=>(some (decide (Pn>=0))))) else ((strings_IndexByte.f (⟨#[46,95,33,63]⟩:ByteArray) a0).bind fun Po=>(some (decide (Po>=0))))))) else (if a0>=65 then (if a0<=90 then (some true) else (if a0>=48 then (if a0<=57 then (some true) else ((strings_IndexByte.f (⟨#[46,95,33,63]⟩:ByteArray) a0).bind fun Pp=>(some (decide (Pp>=0))))) else ((strings_IndexByte.f (⟨#[46,95,33,63]⟩:ByteArray) a0).bind fun Pq=>(some (decide (Pq>=0)))))) else (if a0>=48 then (if a0<=57 then (some true) else ((strings_IndexByte.f (⟨#[46,95,33,63]⟩:ByteArray) a0).bind fun t124=>(some (decide (t124>=0))))) else ((strings_IndexByte.f (⟨#[46,95,33,63]⟩:ByteArray) a0).bind fun Pt=>(some (decide (Pt>=0))))))
set_option maxHeartbeats 8000000 in
set_option maxRecDepth 100000 in
theorem iw.calls (a0:Int) (r:Bool) (w:World) (h:iw.f a0=some r) :
  Calls Tryz.prog 55 #[.int .u8 a0] w fun e w'=>e=.returned (.bool r)/\aG w w':=by
 have H:(if a0>=97 then (if a0<=122 then (some true) else (if a0>=65 then (if a0<=90 then (some true) else (if a0>=48 then (if a0<=57 then (some true) else ((strings_IndexByte.f (⟨#[46,95,33,63]⟩:ByteArray) a0).bind fun Pm=>(some (decide (Pm>=0))))) else ((strings_IndexByte.f (⟨#[46,95,33,63]⟩:ByteArray) a0).bind fun t119=>(some (decide (t119>=0)))))) else (if a0>=48 then (if a0<=57 then (some true) else ((strings_IndexByte.f (⟨#[46,95,33,63]⟩:ByteArray) a0).bind fun Pn=>(some (decide (Pn>=0))))) else ((strings_IndexByte.f (⟨#[46,95,33,63]⟩:ByteArray) a0).bind fun Po=>(some (decide (Po>=0))))))) else (if a0>=65 then (if a0<=90 then (some true) else (if a0>=48 then (if a0<=57 then (some true) else ((strings_IndexByte.f (⟨#[46,95,33,63]⟩:ByteArray) a0).bind fun Pp=>(some (decide (Pp>=0))))) else ((strings_IndexByte.f (⟨#[46,95,33,63]⟩:ByteArray) a0).bind fun Pq=>(some (decide (Pq>=0)))))) else (if a0>=48 then (if a0<=57 then (some true) else ((strings_IndexByte.f (⟨#[46,95,33,63]⟩:ByteArray) a0).bind fun t124=>(some (decide (t124>=0))))) else ((strings_IndexByte.f (⟨#[46,95,33,63]⟩:ByteArray) a0).bind fun Pt=>(some (decide (Pt>=0)))))))=some r:=h;clear h;by_cases c2:a0>=97
 rotate_left
 ·rw [if_neg c2] at H
  have kX:decide (97<=a0)=false:=decide_eq_false c2;clear c2;by_cases c14:a0>=65
  rotate_left
  ·rw [if_neg c14] at H
   have wJ:decide (65<=a0)=false:=decide_eq_false c14;clear c14;by_cases c20:a0>=48
   rotate_left
   ·rw [if_neg c20] at H
    have IE:decide (48<=a0)=false:=decide_eq_false c20;clear c20;replace H:=Option.bind_eq_some_iff.mp H;obtain ⟨Pt,RA,H⟩:=H;replace H:(some (decide (Pt>=0)))=some r:=H;have A23:=ah.mk RA;clear RA;obtain rfl:=Option.some.inj H;go_enter Tryz.func55,Tryz.ntmps55
    go_wp2_with (first | (go_at_call 93;(with_reducible refine (strings_IndexByte.calls (⟨#[46,95,33,63]⟩:ByteArray) a0 Pt _ A23.out).mono ?_);rintro e w' ⟨rfl,⟨nd,rfl⟩⟩))
    go_ret;exact ⟨by first | rfl | (simp;done) | (simp [*];done),by repeat (first | exact aG.refl _ | apply aG.step)⟩
   rw [if_pos c20] at H;have IE:decide (48<=a0)=true:=decide_eq_true c20;clear c20;by_cases c21:a0<=57
   ·rw [if_pos c21] at H
    have Nz:decide (a0<=57)=true:=decide_eq_true c21;clear c21;obtain rfl:=Option.some.inj H;go_enter Tryz.func55,Tryz.ntmps55
    go_wp2;go_ret;exact ⟨by first | rfl | (simp;done) | (simp [*];done),by repeat (first | exact aG.refl _ | apply aG.step)⟩
   rw [if_neg c21] at H;have Nz:decide (a0<=57)=false:=decide_eq_false c21;clear c21;replace H:=Option.bind_eq_some_iff.mp H;obtain ⟨t124,RB,H⟩:=H;replace H:(some (decide (t124>=0)))=some r:=H;have A22:=ah.mk RB;clear RB;obtain rfl:=Option.some.inj H;go_enter Tryz.func55,Tryz.ntmps55
   go_wp2_with (first | (go_at_call 93;(with_reducible refine (strings_IndexByte.calls (⟨#[46,95,33,63]⟩:ByteArray) a0 t124 _ A22.out).mono ?_);rintro e w' ⟨rfl,⟨nd,rfl⟩⟩))
   go_ret;exact ⟨by first | rfl | (simp;done) | (simp [*];done),by repeat (first | exact aG.refl _ | apply aG.step)⟩
  rw [if_pos c14] at H;have wJ:decide (65<=a0)=true:=decide_eq_true c14;clear c14;by_cases c15:a0<=90
  ·rw [if_pos c15] at H
   have wK:decide (a0<=90)=true:=decide_eq_true c15;clear c15;obtain rfl:=Option.some.inj H;go_enter Tryz.func55,Tryz.ntmps55
   go_wp2;go_ret;exact ⟨by first | rfl | (simp;done) | (simp [*];done),by repeat (first | exact aG.refl _ | apply aG.step)⟩
  rw [if_neg c15] at H;have wK:decide (a0<=90)=false:=decide_eq_false c15;clear c15;by_cases c16:a0>=48
  rotate_left
  ·rw [if_neg c16] at H
   have sM:decide (48<=a0)=false:=decide_eq_false c16;clear c16;replace H:=Option.bind_eq_some_iff.mp H;obtain ⟨Pq,IG,H⟩:=H;replace H:(some (decide (Pq>=0)))=some r:=H;have A19:=ah.mk IG;clear IG;obtain rfl:=Option.some.inj H;go_enter Tryz.func55,Tryz.ntmps55
   go_wp2_with (first | (go_at_call 93;(with_reducible refine (strings_IndexByte.calls (⟨#[46,95,33,63]⟩:ByteArray) a0 Pq _ A19.out).mono ?_);rintro e w' ⟨rfl,⟨nd,rfl⟩⟩))
   go_ret;exact ⟨by first | rfl | (simp;done) | (simp [*];done),by repeat (first | exact aG.refl _ | apply aG.step)⟩
  rw [if_pos c16] at H;have sM:decide (48<=a0)=true:=decide_eq_true c16;clear c16;by_cases c17:a0<=57
  ·rw [if_pos c17] at H
   have DC:decide (a0<=57)=true:=decide_eq_true c17;clear c17;obtain rfl:=Option.some.inj H;go_enter Tryz.func55,Tryz.ntmps55
   go_wp2;go_ret;exact ⟨by first | rfl | (simp;done) | (simp [*];done),by repeat (first | exact aG.refl _ | apply aG.step)⟩
  rw [if_neg c17] at H;have DC:decide (a0<=57)=false:=decide_eq_false c17;clear c17;replace H:=Option.bind_eq_some_iff.mp H;obtain ⟨Pp,RD,H⟩:=H;replace H:(some (decide (Pp>=0)))=some r:=H;have A18:=ah.mk RD;clear RD;obtain rfl:=Option.some.inj H;go_enter Tryz.func55,Tryz.ntmps55
  go_wp2_with (first | (go_at_call 93;(with_reducible refine (strings_IndexByte.calls (⟨#[46,95,33,63]⟩:ByteArray) a0 Pp _ A18.out).mono ?_);rintro e w' ⟨rfl,⟨nd,rfl⟩⟩))
  go_ret;exact ⟨by first | rfl | (simp;done) | (simp [*];done),by repeat (first | exact aG.refl _ | apply aG.step)⟩
 rw [if_pos c2] at H;have kX:decide (97<=a0)=true:=decide_eq_true c2;clear c2;by_cases c3:a0<=122
 ·rw [if_pos c3] at H
  have nH:decide (a0<=122)=true:=decide_eq_true c3;clear c3;obtain rfl:=Option.some.inj H;go_enter Tryz.func55,Tryz.ntmps55
  go_wp2;go_ret;exact ⟨by first | rfl | (simp;done) | (simp [*];done),by repeat (first | exact aG.refl _ | apply aG.step)⟩
 rw [if_neg c3] at H;have nH:decide (a0<=122)=false:=decide_eq_false c3;clear c3;by_cases c4:a0>=65
 rotate_left
 ·rw [if_neg c4] at H
  have kP:decide (65<=a0)=false:=decide_eq_false c4;clear c4;by_cases c10:a0>=48
  rotate_left
  ·rw [if_neg c10] at H
   have sN:decide (48<=a0)=false:=decide_eq_false c10;clear c10;replace H:=Option.bind_eq_some_iff.mp H;obtain ⟨Po,adM,H⟩:=H;replace H:(some (decide (Po>=0)))=some r:=H;have A13:=ah.mk adM;clear adM;obtain rfl:=Option.some.inj H;go_enter Tryz.func55,Tryz.ntmps55
   go_wp2_with (first | (go_at_call 93;(with_reducible refine (strings_IndexByte.calls (⟨#[46,95,33,63]⟩:ByteArray) a0 Po _ A13.out).mono ?_);rintro e w' ⟨rfl,⟨nd,rfl⟩⟩))
   go_ret;exact ⟨by first | rfl | (simp;done) | (simp [*];done),by repeat (first | exact aG.refl _ | apply aG.step)⟩
  rw [if_pos c10] at H;have sN:decide (48<=a0)=true:=decide_eq_true c10;clear c10;by_cases c11:a0<=57
  ·rw [if_pos c11] at H
   have Bg:decide (a0<=57)=true:=decide_eq_true c11;clear c11;obtain rfl:=Option.some.inj H;go_enter Tryz.func55,Tryz.ntmps55
   go_wp2;go_ret;exact ⟨by first | rfl | (simp;done) | (simp [*];done),by repeat (first | exact aG.refl _ | apply aG.step)⟩
  rw [if_neg c11] at H;have Bg:decide (a0<=57)=false:=decide_eq_false c11;clear c11;replace H:=Option.bind_eq_some_iff.mp H;obtain ⟨Pn,Bh,H⟩:=H;replace H:(some (decide (Pn>=0)))=some r:=H;have WM:=ah.mk Bh;clear Bh;obtain rfl:=Option.some.inj H;go_enter Tryz.func55,Tryz.ntmps55
  go_wp2_with (first | (go_at_call 93;(with_reducible refine (strings_IndexByte.calls (⟨#[46,95,33,63]⟩:ByteArray) a0 Pn _ WM.out).mono ?_);rintro e w' ⟨rfl,⟨nd,rfl⟩⟩))
  go_ret;exact ⟨by first | rfl | (simp;done) | (simp [*];done),by repeat (first | exact aG.refl _ | apply aG.step)⟩
 rw [if_pos c4] at H;have kP:decide (65<=a0)=true:=decide_eq_true c4;clear c4;by_cases c5:a0<=90
 ·rw [if_pos c5] at H
  have kN:decide (a0<=90)=true:=decide_eq_true c5;clear c5;obtain rfl:=Option.some.inj H;go_enter Tryz.func55,Tryz.ntmps55
  go_wp2;go_ret;exact ⟨by first | rfl | (simp;done) | (simp [*];done),by repeat (first | exact aG.refl _ | apply aG.step)⟩
 rw [if_neg c5] at H;have kN:decide (a0<=90)=false:=decide_eq_false c5;clear c5;by_cases c6:a0>=48
 rotate_left
 ·rw [if_neg c6] at H
  have lJ:decide (48<=a0)=false:=decide_eq_false c6;clear c6;replace H:=Option.bind_eq_some_iff.mp H;obtain ⟨t119,RF,H⟩:=H;replace H:(some (decide (t119>=0)))=some r:=H;have A9:=ah.mk RF;clear RF;obtain rfl:=Option.some.inj H;go_enter Tryz.func55,Tryz.ntmps55
  go_wp2_with (first | (go_at_call 93;(with_reducible refine (strings_IndexByte.calls (⟨#[46,95,33,63]⟩:ByteArray) a0 t119 _ A9.out).mono ?_);rintro e w' ⟨rfl,⟨nd,rfl⟩⟩))
  go_ret;exact ⟨by first | rfl | (simp;done) | (simp [*];done),by repeat (first | exact aG.refl _ | apply aG.step)⟩
 rw [if_pos c6] at H;have lJ:decide (48<=a0)=true:=decide_eq_true c6;clear c6;by_cases c7:a0<=57
 ·rw [if_pos c7] at H
  have sJ:decide (a0<=57)=true:=decide_eq_true c7;clear c7;obtain rfl:=Option.some.inj H;go_enter Tryz.func55,Tryz.ntmps55
  go_wp2;go_ret;exact ⟨by first | rfl | (simp;done) | (simp [*];done),by repeat (first | exact aG.refl _ | apply aG.step)⟩
 rw [if_neg c7] at H;have sJ:decide (a0<=57)=false:=decide_eq_false c7;clear c7;replace H:=Option.bind_eq_some_iff.mp H;obtain ⟨Pm,RG,H⟩:=H;replace H:(some (decide (Pm>=0)))=some r:=H;have A8:=ah.mk RG;clear RG;obtain rfl:=Option.some.inj H;go_enter Tryz.func55,Tryz.ntmps55
 go_wp2_with (first | (go_at_call 93;(with_reducible refine (strings_IndexByte.calls (⟨#[46,95,33,63]⟩:ByteArray) a0 Pm _ A8.out).mono ?_);rintro e w' ⟨rfl,⟨nd,rfl⟩⟩))
 go_ret;exact ⟨by first | rfl | (simp;done) | (simp [*];done),by repeat (first | exact aG.refl _ | apply aG.step)⟩
def gQ.f (a0:Int):Option (Bool):=if a0>=48 then (some (decide (a0<=57))) else (some false)
set_option maxHeartbeats 8000000 in
set_option maxRecDepth 100000 in
theorem gQ.calls (a0:Int) (r:Bool) (w:World) (h:gQ.f a0=some r) :
  Calls Tryz.prog 96 #[.int .u8 a0] w fun e w'=>e=.returned (.bool r)/\aG w w':=by
 have H:(if a0>=48 then (some (decide (a0<=57))) else (some false))=some r:=h;clear h;by_cases c2:a0>=48
 ·rw [if_pos c2] at H
  have kX:decide (48<=a0)=true:=decide_eq_true c2;clear c2;obtain rfl:=Option.some.inj H;go_enter Tryz.func96,Tryz.ntmps96
  go_wp2;go_ret;exact ⟨by first | rfl | (simp;done) | (simp [*];done),by repeat (first | exact aG.refl _ | apply aG.step)⟩
 rw [if_neg c2] at H;have kX:decide (48<=a0)=false:=decide_eq_false c2;clear c2;obtain rfl:=Option.some.inj H;go_enter Tryz.func96,Tryz.ntmps96
 go_wp2;go_ret;exact ⟨by first | rfl | (simp;done) | (simp [*];done),by repeat (first | exact aG.refl _ | apply aG.step)⟩
def ql.f (a0:ByteArray):Option (Bool):=(dM.f a0 (⟨#[69,101]⟩:ByteArray)).bind fun t130=>(if (t130.size:Int)=(wrap64 ((a0.size:Int) - 1)) then ((strings_Count.f t130 (⟨#[46]⟩:ByteArray)).bind fun t131=>(if t131 > 1 then (some false) else ((dL.f t130 (⟨#[46]⟩:ByteArray)).bind fun uI=>(if uI.toList=([]:List UInt8) then (some false) else ((dL.f t130 (⟨#[48,49,50,51,52,53,54,55,56,57,46]⟩:ByteArray)).bind fun zP=>(some (zP.toList==([]:List UInt8)))))))) else (some false))
set_option maxHeartbeats 8000000 in
set_option maxRecDepth 100000 in
theorem ql.calls (a0:ByteArray) (r:Bool) (w:World) (h:ql.f a0=some r) :
  Calls Tryz.prog 95 #[.string a0] w fun e w'=>e=.returned (.bool r)/\Below w.heap.size w w':=by
 have HB:=ah.mk (Below.refl w.heap.size w);have H:((dM.f a0 (⟨#[69,101]⟩:ByteArray)).bind fun t130=>(if (t130.size:Int)=(wrap64 ((a0.size:Int) - 1)) then ((strings_Count.f t130 (⟨#[46]⟩:ByteArray)).bind fun t131=>(if t131 > 1 then (some false) else ((dL.f t130 (⟨#[46]⟩:ByteArray)).bind fun uI=>(if uI.toList=([]:List UInt8) then (some false) else ((dL.f t130 (⟨#[48,49,50,51,52,53,54,55,56,57,46]⟩:ByteArray)).bind fun zP=>(some (zP.toList==([]:List UInt8)))))))) else (some false)))=some r:=h;clear h;replace H:=Option.bind_eq_some_iff.mp H;obtain ⟨t130,EY,H⟩:=H;replace H:(if (t130.size:Int)=(wrap64 ((a0.size:Int) - 1)) then ((strings_Count.f t130 (⟨#[46]⟩:ByteArray)).bind fun t131=>(if t131 > 1 then (some false) else ((dL.f t130 (⟨#[46]⟩:ByteArray)).bind fun uI=>(if uI.toList=([]:List UInt8) then (some false) else ((dL.f t130 (⟨#[48,49,50,51,52,53,54,55,56,57,46]⟩:ByteArray)).bind fun zP=>(some (zP.toList==([]:List UInt8)))))))) else (some false))=some r:=H;have A2:=ah.mk EY;clear EY;by_cases c3:(t130.size:Int)=(wrap64 ((a0.size:Int) - 1))
 rotate_left
 ·rw [if_neg c3] at H
  have nH:((t130.size:Int)==(wrap64 ((a0.size:Int) - 1)))=false:=beq_eq_false_iff_ne.mpr c3;have zN:((t130.size:Int) != (wrap64 ((a0.size:Int) - 1)))=true:=bne_iff_ne.mpr c3;obtain rfl:=Option.some.inj H;go_enter Tryz.func95,Tryz.ntmps95
  go_wp2_with (first | ((with_reducible refine aQ (f:=127) rfl ?_);refine bL (some 5) rfl rfl Tryz.func127 (by kernel_rfl) rfl #[.string a0,.string (⟨#[69,101]⟩:ByteArray)] rfl (by (try simp only [List.map_toArray,List.map_cons,List.map_nil]);first | done | rfl) ?_;(with_reducible refine (dM.calls a0 (⟨#[69,101]⟩:ByteArray) t130 _ A2.out).mono ?_);rintro e w15 ⟨rfl,hb⟩;refine ⟨_,rfl,?_⟩;have bY:=ah.mk (aX (by with_reducible repeat (first | exact HB.out | apply av | apply ak | apply ay)) hb);clear HB;have HB:=bY;clear bY;(try clear hb);(try clear hb2);(try clear hk);(try clear hi)))
  go_ret;exact ⟨by first | rfl | (simp [aJ,aK]<;>rfl) | (simp [*,aJ,aK]<;>rfl),by with_reducible repeat (first | exact HB.out | apply av | apply ak | apply ay)⟩
 rw [if_pos c3] at H;have nH:((t130.size:Int)==(wrap64 ((a0.size:Int) - 1)))=true:=beq_iff_eq.mpr c3;have zN:((t130.size:Int) != (wrap64 ((a0.size:Int) - 1)))=false:=bne_eq_false_iff_eq.mpr c3;clear c3;replace H:=Option.bind_eq_some_iff.mp H;obtain ⟨t131,RH,H⟩:=H;replace H:(if t131 > 1 then (some false) else ((dL.f t130 (⟨#[46]⟩:ByteArray)).bind fun uI=>(if uI.toList=([]:List UInt8) then (some false) else ((dL.f t130 (⟨#[48,49,50,51,52,53,54,55,56,57,46]⟩:ByteArray)).bind fun zP=>(some (zP.toList==([]:List UInt8)))))))=some r:=H;have A4:=ah.mk RH;clear RH;by_cases c5:t131 > 1
 ·rw [if_pos c5] at H
  have kN:decide (1 < t131)=true:=decide_eq_true c5;clear c5;obtain rfl:=Option.some.inj H;go_enter Tryz.func95,Tryz.ntmps95
  go_wp2_with (first | ((with_reducible refine aQ (f:=127) rfl ?_);refine bL (some 5) rfl rfl Tryz.func127 (by kernel_rfl) rfl #[.string a0,.string (⟨#[69,101]⟩:ByteArray)] rfl (by (try simp only [List.map_toArray,List.map_cons,List.map_nil]);first | done | rfl) ?_;(with_reducible refine (dM.calls a0 (⟨#[69,101]⟩:ByteArray) t130 _ A2.out).mono ?_);rintro e w6 ⟨rfl,hb⟩;refine ⟨_,rfl,?_⟩;have bY:=ah.mk (aX (by with_reducible repeat (first | exact HB.out | apply av | apply ak | apply ay)) hb);clear HB;have HB:=bY;clear bY;(try clear hb);(try clear hb2);(try clear hk);(try clear hi)) | (go_at_call 77;(with_reducible refine (strings_Count.calls t130 (⟨#[46]⟩:ByteArray) t131 _ A4.out).mono ?_);rintro e w' ⟨rfl,⟨nd,rfl⟩⟩))
  go_ret;exact ⟨by first | rfl | (simp [aJ,aK]<;>rfl) | (simp [*,aJ,aK]<;>rfl),by with_reducible repeat (first | exact HB.out | apply av | apply ak | apply ay)⟩
 rw [if_neg c5] at H;have kN:decide (1 < t131)=false:=decide_eq_false c5;clear c5;replace H:=Option.bind_eq_some_iff.mp H;obtain ⟨uI,RJ,H⟩:=H;replace H:(if uI.toList=([]:List UInt8) then (some false) else ((dL.f t130 (⟨#[48,49,50,51,52,53,54,55,56,57,46]⟩:ByteArray)).bind fun zP=>(some (zP.toList==([]:List UInt8)))))=some r:=H;have A7:=ah.mk RJ;clear RJ;by_cases c8:uI.toList=([]:List UInt8)
 ·rw [if_pos c8] at H
  have zO:(uI.toList==([]:List UInt8))=true:=beq_iff_eq.mpr c8;have Iu:(uI.toList != ([]:List UInt8))=false:=bne_eq_false_iff_eq.mpr c8;clear c8;obtain rfl:=Option.some.inj H;go_enter Tryz.func95,Tryz.ntmps95
  go_wp2_with (first | ((with_reducible refine aQ (f:=127) rfl ?_);refine bL (some 5) rfl rfl Tryz.func127 (by kernel_rfl) rfl #[.string a0,.string (⟨#[69,101]⟩:ByteArray)] rfl (by (try simp only [List.map_toArray,List.map_cons,List.map_nil]);first | done | rfl) ?_;(with_reducible refine (dM.calls a0 (⟨#[69,101]⟩:ByteArray) t130 _ A2.out).mono ?_);rintro e w9 ⟨rfl,hb⟩;refine ⟨_,rfl,?_⟩;have bY:=ah.mk (aX (by with_reducible repeat (first | exact HB.out | apply av | apply ak | apply ay)) hb);clear HB;have HB:=bY;clear bY;(try clear hb);(try clear hb2);(try clear hk);(try clear hi)) | (go_at_call 77;(with_reducible refine (strings_Count.calls t130 (⟨#[46]⟩:ByteArray) t131 _ A4.out).mono ?_);rintro e w' ⟨rfl,⟨nd,rfl⟩⟩) | (go_at_call 128;(with_reducible refine (dL.calls t130 (⟨#[46]⟩:ByteArray) uI _ A7.out).mono ?_);rintro e Ij ⟨rfl,hb⟩;have bY:=ah.mk (aX (by with_reducible repeat (first | exact HB.out | apply av | apply ak | apply ay)) hb);clear HB;have HB:=bY;clear bY;(try clear hb);(try clear hb2);(try clear hk);(try clear hi)))
  go_ret;exact ⟨by first | rfl | (simp [aJ,aK]<;>rfl) | (simp [*,aJ,aK]<;>rfl),by with_reducible repeat (first | exact HB.out | apply av | apply ak | apply ay)⟩
 rw [if_neg c8] at H;have zO:(uI.toList==([]:List UInt8))=false:=beq_eq_false_iff_ne.mpr c8;have Iu:(uI.toList != ([]:List UInt8))=true:=bne_iff_ne.mpr c8;replace H:=Option.bind_eq_some_iff.mp H;obtain ⟨zP,wL,H⟩:=H;replace H:(some (zP.toList==([]:List UInt8)))=some r:=H;have Pv:=ah.mk wL;clear wL;obtain rfl:=Option.some.inj H;go_enter Tryz.func95,Tryz.ntmps95
 go_wp2_with (first | ((with_reducible refine aQ (f:=127) rfl ?_);refine bL (some 5) rfl rfl Tryz.func127 (by kernel_rfl) rfl #[.string a0,.string (⟨#[69,101]⟩:ByteArray)] rfl (by (try simp only [List.map_toArray,List.map_cons,List.map_nil]);first | done | rfl) ?_;(with_reducible refine (dM.calls a0 (⟨#[69,101]⟩:ByteArray) t130 _ A2.out).mono ?_);rintro e ZT ⟨rfl,hb⟩;refine ⟨_,rfl,?_⟩;have bY:=ah.mk (aX (by with_reducible repeat (first | exact HB.out | apply av | apply ak | apply ay)) hb);clear HB;have HB:=bY;clear bY;(try clear hb);(try clear hb2);(try clear hk);(try clear hi)) | (go_at_call 77;(with_reducible refine (strings_Count.calls t130 (⟨#[46]⟩:ByteArray) t131 _ A4.out).mono ?_);rintro e w' ⟨rfl,⟨nd,rfl⟩⟩) | (go_at_call 128;(with_reducible refine (dL.calls t130 (⟨#[46]⟩:ByteArray) uI _ A7.out).mono ?_);rintro e VA ⟨rfl,hb⟩;have bY:=ah.mk (aX (by with_reducible repeat (first | exact HB.out | apply av | apply ak | apply ay)) hb);clear HB;have HB:=bY;clear bY;(try clear hb);(try clear hb2);(try clear hk);(try clear hi)) | ((with_reducible refine aQ (f:=128) rfl ?_);refine bL (some 23) rfl rfl Tryz.func128 (by kernel_rfl) rfl #[.string t130,.string (⟨#[48,49,50,51,52,53,54,55,56,57,46]⟩:ByteArray)] rfl (by (try simp only [List.map_toArray,List.map_cons,List.map_nil]);first | done | rfl) ?_;(with_reducible refine (dL.calls t130 (⟨#[48,49,50,51,52,53,54,55,56,57,46]⟩:ByteArray) zP _ Pv.out).mono ?_);rintro e WO ⟨rfl,hb⟩;refine ⟨_,rfl,?_⟩;have bY:=ah.mk (aX (by with_reducible repeat (first | exact HB.out | apply av | apply ak | apply ay)) hb);clear HB;have HB:=bY;clear bY;(try clear hb);(try clear hb2);(try clear hk);(try clear hi)))
 go_ret;exact ⟨by first | rfl | (simp [aJ,aK]<;>rfl) | (simp [*,aJ,aK]<;>rfl),by with_reducible repeat (first | exact HB.out | apply av | apply ak | apply ay)⟩
end Go.Proofs.YtkkpjonfaflkmaaGreatDoor.T
namespace Go.Proofs.YtkkpjonfaflkmaaGreatDoor.T
open Go.RowKit Go.Proofs.aj.aI Go.Proofs.aj.aY Go.Proofs.aj.bq
def ZU (s:ByteArray):ByteArray:=strOfNums ((bytesOf s).map S.up)
def nk.f (a0:ByteArray):Option ByteArray:=if a0.size<=1000000 then some (ZU a0) else none
def iA.f (a0:ByteArray):Option ByteArray:=if a0.size<=1000000 then some (ZU a0) else none
theorem EZ (x:Int) (h0:0<=x) (h1:x < 256):IntKind.u8.wrap x=x:=by
 have:IntKind.u8.wrap x=x % 256:=rfl;rw [this];omega
theorem wM (xs:List Int) (k:Nat) (h:k < xs.length):xs.set k (xs.getD k 0)=xs:=by
 have h1:xs.getD k 0=xs[k]:=by simp [List.getD_eq_getElem?_getD,List.getElem?_eq_getElem h]
 rw [h1,List.set_getElem_self]
set_option maxHeartbeats 2000000 in
theorem nk.calls (a0:ByteArray) (r:ByteArray) (w:World) (h:nk.f a0=some r) :
  Calls Tryz.prog 98 #[.string a0] w fun e w'=>e=.returned (.string r)/\Below w.heap.size w w':=by
 unfold nk.f at h;by_cases ha:a0.size<=1000000
 rotate_left
 ·rw [if_neg ha] at h
  cases h
 rw [if_pos ha] at h;obtain rfl:=Option.some.inj h;unfold ZU;clear h;obtain ⟨n,hn⟩:∃ n,a0.size=n:=⟨_,rfl⟩;have HB0:=ah.mk (Buf.new w a0);have rY:=ah.mk (pE (Below.refl w.heap.size w) (Nat.le_refl _) 5 a0);have HN:ah ((bytesOf a0).length=n):=⟨by rw [bytesOf_length];exact hn⟩;have kb:=fun W=>nE (P:=Tryz.prog) 9 100 5 Tryz.underlying9 Tryz.underlying100 Tryz.underlying5 a0 W
 rw [hn] at kb ha;have kc:=fun W c=>nS (P:=Tryz.prog) (w:=W) (src:=100) (dst:=9) (e:=5) (A:=some ⟨w.heap.size,0,none⟩) (n:=n) (c:=c) (xs:=(bytesOf a0).map S.up) Tryz.underlying100 Tryz.underlying5 Tryz.underlying9
 go_enter Tryz.func98,Tryz.ntmps98
 go_wp2;go_loopg [4,5,10] n (fun gg _ _ s10 wr=>∃ kk:Nat,kk<=n/\n - kk<=gg/\s10=.int .i64 kk/\ah (Below w.heap.size w wr)/\ah (Buf w.heap.size (gy S.up kk (bytesOf a0)) wr))
 case atStart=>exact ⟨0,Nat.zero_le _,by omega,rfl,rY,⟨by rw [uQ];exact HB0.out⟩⟩
 case round =>
  obtain ⟨kk,hkk,hg,rfl,HB,HF⟩:=hrel;by_cases hlt:kk < n
  rotate_left
  ·obtain rfl:kk=n:=by omega
   have HR:ah (Buf w.heap.size ((bytesOf a0).map S.up) wr):=⟨by have:=HF.out;rw [<- HN.out,wG] at this;exact this⟩;have ZV:=fun c=>kc wr c (by have:=HR.out.reads (by simp;have:=HN.out;omega);rw [List.length_map,HN.out] at this;exact this)
   go_wp2;go_ret;exact ⟨rfl,HB.out⟩
  have hltz:(kk:Int) < (n:Int):=by omega
  have hl:kk < (bytesOf a0).length:=by have:=HN.out;omega
  have hcell0:=HF.out.cell kk (by rw [eu];exact hl);rw [pK S.up kk _ hl] at hcell0;obtain ⟨hx0,hx1⟩:=eG a0 _ (kQ _ kk hl);have HS:ah (Buf w.heap.size ((gy S.up kk (bytesOf a0)).set kk (S.up ((bytesOf a0).getD kk 0))) (wr.setCell ⟨w.heap.size,kk,none⟩ (.int .u8 (S.up ((bytesOf a0).getD kk 0))))):=⟨HF.out.set kk _ (by rw [eu];exact hl)⟩;have HQ:=ah.mk (wH S.up kk _ hl);have HG:ah ((gy S.up kk (bytesOf a0)).getD kk 0=(bytesOf a0).getD kk 0):=⟨pK S.up kk _ hl⟩;generalize (bytesOf a0).getD kk 0=y at hcell0 hx0 hx1 HS HQ HG;have hfree:wr.frozen? ⟨w.heap.size,kk,none⟩=false:=HF.out.free kk (by rw [eu];exact hl);by_cases c1:97<=y
  rotate_left
  ·have d1:decide (97<=y)=false:=decide_eq_false c1
   have HU:ah (S.up y=y):=⟨by unfold S.up;rw [if_neg (fun q=>c1 q.1)]⟩;clear c1 hx0 hx1;go_wp2;go_roundg (n - (kk+1))
   case measure=>omega
   case rel =>
    refine ⟨kk+1,by omega,by omega,by go_num,HB,⟨?_⟩⟩;rw [<- HQ.out,HU.out,<- HG.out,wM _ kk (by rw [eu];exact hl)];exact HF.out
  by_cases c2:y<=122
  ·have d1:decide (97<=y)=true:=decide_eq_true c1
   have d2:decide (y<=122)=true:=decide_eq_true c2;have hu:S.up y=y - 32:=by unfold S.up;rw [if_pos ⟨c1,c2⟩]
   rw [hu] at HS HQ;have hw:IntKind.u8.wrap (y - 32)=y - 32:=EZ _ (by omega) (by omega);clear c1 c2 hx0 hx1 hl hu;go_wp2;go_roundg (n - (kk+1))
   case measure=>omega
   case rel =>
    refine ⟨kk+1,by omega,by omega,by go_num,⟨bf HB.out (Nat.le_refl _)⟩,⟨?_⟩⟩;rw [<- HQ.out];exact HS.out
  have d1:decide (97<=y)=true:=decide_eq_true c1;have d2:decide (y<=122)=false:=decide_eq_false c2;have HU:ah (S.up y=y):=⟨by unfold S.up;rw [if_neg (fun q=>c2 q.2)]⟩;clear c1 c2 hx0 hx1;go_wp2;go_roundg (n - (kk+1))
  case measure=>omega
  case rel =>
   refine ⟨kk+1,by omega,by omega,by go_num,HB,⟨?_⟩⟩;rw [<- HQ.out,HU.out,<- HG.out,wM _ kk (by rw [eu];exact hl)];exact HF.out
set_option maxHeartbeats 2000000 in
theorem iA.calls (a0:ByteArray) (r:ByteArray) (w:World) (h:iA.f a0=some r) :
  Calls Tryz.prog 101 #[.string a0] w fun e w'=>e=.returned (.string r)/\Below w.heap.size w w':=by
 unfold iA.f at h;by_cases ha:a0.size<=1000000
 rotate_left
 ·rw [if_neg ha] at h
  cases h
 rw [if_pos ha] at h;obtain rfl:=Option.some.inj h;unfold ZU;clear h;obtain ⟨n,hn⟩:∃ n,a0.size=n:=⟨_,rfl⟩;have HB0:=ah.mk (Buf.new w a0);have rY:=ah.mk (pE (Below.refl w.heap.size w) (Nat.le_refl _) 5 a0);have HN:ah ((bytesOf a0).length=n):=⟨by rw [bytesOf_length];exact hn⟩;have kb:=fun W=>nE (P:=Tryz.prog) 9 100 5 Tryz.underlying9 Tryz.underlying100 Tryz.underlying5 a0 W
 rw [hn] at kb ha;have kc:=fun W c=>nS (P:=Tryz.prog) (w:=W) (src:=100) (dst:=9) (e:=5) (A:=some ⟨w.heap.size,0,none⟩) (n:=n) (c:=c) (xs:=(bytesOf a0).map S.up) Tryz.underlying100 Tryz.underlying5 Tryz.underlying9
 go_enter Tryz.func101,Tryz.ntmps101
 go_wp2;go_loopg [4] n (fun gg s10 wr=>∃ kk:Nat,kk<=n/\n - kk<=gg/\s10=.int .i64 kk/\ah (Below w.heap.size w wr)/\ah (Buf w.heap.size (gy S.up kk (bytesOf a0)) wr))
 case atStart=>exact ⟨0,Nat.zero_le _,by omega,rfl,rY,⟨by rw [uQ];exact HB0.out⟩⟩
 case round =>
  obtain ⟨kk,hkk,hg,rfl,HB,HF⟩:=hrel;by_cases hlt:kk < n
  rotate_left
  ·obtain rfl:kk=n:=by omega
   have HR:ah (Buf w.heap.size ((bytesOf a0).map S.up) wr):=⟨by have:=HF.out;rw [<- HN.out,wG] at this;exact this⟩;have ZV:=fun c=>kc wr c (by have:=HR.out.reads (by simp;have:=HN.out;omega);rw [List.length_map,HN.out] at this;exact this)
   go_wp2;go_ret;exact ⟨rfl,HB.out⟩
  have hltz:(kk:Int) < (n:Int):=by omega
  have hl:kk < (bytesOf a0).length:=by have:=HN.out;omega
  have hcell0:=HF.out.cell kk (by rw [eu];exact hl);rw [pK S.up kk _ hl] at hcell0;obtain ⟨hx0,hx1⟩:=eG a0 _ (kQ _ kk hl);have HS:ah (Buf w.heap.size ((gy S.up kk (bytesOf a0)).set kk (S.up ((bytesOf a0).getD kk 0))) (wr.setCell ⟨w.heap.size,kk,none⟩ (.int .u8 (S.up ((bytesOf a0).getD kk 0))))):=⟨HF.out.set kk _ (by rw [eu];exact hl)⟩;have HQ:=ah.mk (wH S.up kk _ hl);have HG:ah ((gy S.up kk (bytesOf a0)).getD kk 0=(bytesOf a0).getD kk 0):=⟨pK S.up kk _ hl⟩;generalize (bytesOf a0).getD kk 0=y at hcell0 hx0 hx1 HS HQ HG;have hfree:wr.frozen? ⟨w.heap.size,kk,none⟩=false:=HF.out.free kk (by rw [eu];exact hl);by_cases c1:97<=y
  rotate_left
  ·have d1:decide (97<=y)=false:=decide_eq_false c1
   have HU:ah (S.up y=y):=⟨by unfold S.up;rw [if_neg (fun q=>c1 q.1)]⟩;clear c1 hx0 hx1;go_wp2;go_roundg (n - (kk+1))
   case measure=>omega
   case rel =>
    refine ⟨kk+1,by omega,by omega,by go_num,HB,⟨?_⟩⟩;rw [<- HQ.out,HU.out,<- HG.out,wM _ kk (by rw [eu];exact hl)];exact HF.out
  by_cases c2:y<=122
  ·have d1:decide (97<=y)=true:=decide_eq_true c1
   have d2:decide (y<=122)=true:=decide_eq_true c2;have hu:S.up y=y - 32:=by unfold S.up;rw [if_pos ⟨c1,c2⟩]
   rw [hu] at HS HQ;have hw:IntKind.u8.wrap (y - 97)=y - 97:=EZ _ (by omega) (by omega);have hw2:IntKind.u8.wrap (y - 97+65)=y - 32:=by rw [EZ _ (by omega) (by omega)];omega
   clear c1 c2 hx0 hx1 hl hu;go_wp2;go_roundg (n - (kk+1))
   case measure=>omega
   case rel =>
    refine ⟨kk+1,by omega,by omega,by go_num,⟨bf HB.out (Nat.le_refl _)⟩,⟨?_⟩⟩;rw [<- HQ.out];exact HS.out
  have d1:decide (97<=y)=true:=decide_eq_true c1;have d2:decide (y<=122)=false:=decide_eq_false c2;have HU:ah (S.up y=y):=⟨by unfold S.up;rw [if_neg (fun q=>c2 q.2)]⟩;clear c1 c2 hx0 hx1;go_wp2;go_roundg (n - (kk+1))
  case measure=>omega
  case rel =>
   refine ⟨kk+1,by omega,by omega,by go_num,HB,⟨?_⟩⟩;rw [<- HQ.out,HU.out,<- HG.out,wM _ kk (by rw [eu];exact hl)];exact HF.out
theorem Bj (P:Int->Prop) (h:∀ n:Fin 256,P (n.val:Int)) (x:Int) (h0:0<=x) (h1:x < 256):P x:=by
 have:=h ⟨x.toNat,by omega⟩;simp only at this;rwa [Int.toNat_of_nonneg h0] at this
theorem NA (x:Int) (h0:0<=x) (h1:x < 256):iw.f x=some (S.sym x) :=
 Bj (fun x=>iw.f x=some (S.sym x)) (by decide +kernel) x h0 h1
theorem RL (x:Int):gQ.f x=some (S.kH x):=by
 unfold gQ.f S.kH;by_cases h1:48<=x<;>by_cases h2:x<=57<;>simp [h1,h2]
theorem Pw:Rw 55 S.sym:=fun W x h0 h1=>iw.calls x (S.sym x) W (NA x h0 h1)
theorem Px:Rw 96 S.kH:=fun W x h0 h1=>gQ.calls x (S.kH x) W (RL x)
theorem Lc:∀ args w,(callFunc 55 args).run Tryz.prog w=.ok (.enter 55 args) w:=enters_of Tryz.func55 (by kernel_rfl) rfl
theorem Ld:∀ args w,(callFunc 96 args).run Tryz.prog w=.ok (.enter 96 args) w:=enters_of Tryz.func96 (by kernel_rfl) rfl
theorem RN (l:List UInt8) (p:Int->Bool):(nums l).all p=l.all (fun b=>p (b.toNat:Int)):=by simp [nums,Function.comp_def]
theorem II (l:List UInt8) (p:Int->Bool):(nums l).any p=l.any (fun b=>p (b.toNat:Int)):=by simp [nums,Function.comp_def]
theorem vH (l:List UInt8) (c:UInt8):(nums l).count (c.toNat:Int)=l.count c:=by
 induction l with
 | nil=>rfl
 | cons x t ih =>
  simp only [nums,List.map_cons,List.count_cons];rw [show List.map (fun b:UInt8=>(b.toNat:Int)) t=nums t from rfl,ih];by_cases h:x=c
  ·subst h;simp
  have:¬ (x.toNat:Int)=(c.toNat:Int):=fun e=>h (EX e)
  simp [h,this]
theorem drop_nil {α:Type} (p:α->Bool):∀ l:List α,l.dropWhile p=[] <-> ∀ x∈l,p x=true
 | []=>by simp
 | x::t=>by
  by_cases h:p x=true
  ·rw [List.dropWhile_cons_of_pos h,drop_nil p t];simp [h]
  ·rw [List.dropWhile_cons_of_neg h];simp [h]
theorem IJ {α:Type} (p:α->Bool):∀ (l:List α) (x:α),x∈l.takeWhile p->p x=true
 | [],_,h=>by cases h
 | y::t,x,h=>by
  by_cases hy:p y=true
  ·rw [List.takeWhile_cons_of_pos hy] at h
   rcases List.mem_cons.1 h with rfl | h
   ·exact hy
   ·exact IJ p t x h
  ·rw [List.takeWhile_cons_of_neg hy] at h;cases h
theorem nJ (l cs:List UInt8):(Lib.trimS l cs=[]) <-> ∀ b∈l,cs.contains b=true:=by
 unfold Lib.trimS Lib.trimLeftS Lib.trimRightS;constructor
 ·intro h b hb
  have h1:∀ b∈(l.reverse.dropWhile (cs.contains ·)).reverse,cs.contains b=true:=by
   have:=(drop_nil _ _).1 h;exact this
  by_cases hm:b∈l.reverse.dropWhile (cs.contains ·)
  ·exact h1 b (by simpa using hm)
  have hb':b∈l.reverse:=by simpa using hb
  rw [<- List.takeWhile_append_dropWhile (p:=(cs.contains ·)) (l:=l.reverse)] at hb';rcases List.mem_append.1 hb' with h2 | h2
  ·exact IJ _ _ _ h2
  ·exact absurd h2 hm
 ·intro h
  have:l.reverse.dropWhile (cs.contains ·)=[]:=by
   rw [drop_nil];intro b hb
   exact h b (by simpa using hb)
  rw [this];rfl
theorem Le (P:UInt8->Prop) (h:∀ n:Fin 256,P (UInt8.ofNat n.val)) (b:UInt8):P b:=by
 have:=h ⟨b.toNat,b.toNat_lt⟩;simpa using this
theorem isE (b:UInt8):([69,101]:List UInt8).contains b=(decide ((b.toNat:Int)=69)||decide ((b.toNat:Int)=101)):=Le (fun b=>([69,101]:List UInt8).contains b=(decide ((b.toNat:Int)=69)||decide ((b.toNat:Int)=101))) (by decide +kernel) b
theorem ZW (b:UInt8):([46]:List UInt8).contains b=decide ((b.toNat:Int)=46):=Le (fun b=>([46]:List UInt8).contains b=decide ((b.toNat:Int)=46)) (by decide +kernel) b
theorem abe (b:UInt8):([48,49,50,51,52,53,54,55,56,57,46]:List UInt8).contains b=(S.kH b.toNat||decide ((b.toNat:Int)=46)):=Le (fun b=>([48,49,50,51,52,53,54,55,56,57,46]:List UInt8).contains b=(S.kH b.toNat||decide ((b.toNat:Int)=46))) (by decide +kernel) b
theorem yw (l:List UInt8) (e:UInt8) (cs:List UInt8):Lib.trimRightS (l++[e]) cs=if cs.contains e=true then Lib.trimRightS l cs else l++[e]:=by
 unfold Lib.trimRightS;rw [List.reverse_append];by_cases h:cs.contains e=true
 ·rw [if_pos h]
  simp only [List.reverse_cons,List.reverse_nil,List.nil_append,List.singleton_append];rw [List.dropWhile_cons_of_pos h]
 rw [if_neg h];simp only [List.reverse_cons,List.reverse_nil,List.nil_append,List.singleton_append];rw [List.dropWhile_cons_of_neg h];simp
theorem RO (l cs:List UInt8):(Lib.trimRightS l cs).length<=l.length:=by
 unfold Lib.trimRightS;rw [List.length_reverse];have:=(List.dropWhile_sublist (cs.contains ·) (l:=l.reverse)).length_le;simpa using this
theorem cb (l:List UInt8):(Lib.countByte l 46:Int)=(l.count 46:Int):=rfl
theorem abf (l:List UInt8):(⟨l.toArray⟩:ByteArray).toList=l:=by rw [Lib.toList_data]
theorem NC (l:List UInt8):(⟨l.toArray⟩:ByteArray).size=l.length:=by simp [ByteArray.size]
theorem abg (x:ByteArray) (hx:x.size<=100000):ql.f x=some (S.ni (bytesOf x)):=by
 have hsz:x.size=x.data.toList.length:=(jQ x).symm;rw [gY];unfold ql.f dM.f;rw [if_pos ⟨hx,by decide,by decide⟩];simp only [Option.bind_some,NC];rw [hsz];rw [hsz] at hx;generalize x.data.toList=l at hx;have hw:wrap64 ((l.length:Int) - 1)=(l.length:Int) - 1:=by unfold wrap64;omega
 rw [hw];show (if ((Lib.trimRightS l [69,101]).length:Int)=(l.length:Int) - 1 then _ else some false)=_
 rcases List.eq_nil_or_concat l with rfl | ⟨l',e,rfl⟩
 ·rw [if_neg (by simp [Lib.trimRightS])]
  rfl
 rw [List.concat_eq_append] at hx |-
 have hm:S.ni (nums (l'++[e]))=(([69,101]:List UInt8).contains e&&(nums l').all (fun c=>S.kH c||decide (c=46))&&(nums l').any S.kH&&decide ((nums l').count 46<=1)):=by
  unfold S.ni;have h1:nums (l'++[e])=nums l'++[(e.toNat:Int)]:=by simp [nums]
  rw [h1,List.getLast?_concat,isE];simp only [List.dropLast_concat]
 rw [hm,yw];by_cases he:([69,101]:List UInt8).contains e=true
 rotate_left
 ·rw [if_neg he,if_neg (by simp;omega)]
  simp only [Bool.not_eq_true] at he;rw [he];rfl
 rw [if_pos he,he,Bool.true_and];have hl:((l'++[e]).length:Int) - 1=(l'.length:Int):=by simp
 rw [hl];by_cases hs:((Lib.trimRightS l' [69,101]).length:Int)=(l'.length:Int)
 rotate_left
 ·rw [if_neg hs]
  have:(nums l').all (fun c=>S.kH c||decide (c=46))=false:=by
   rcases List.eq_nil_or_concat l' with rfl | ⟨l2,e2,rfl⟩
   ·exact absurd rfl hs
   ·rw [List.concat_eq_append] at hs |-
    rw [yw] at hs;by_cases h2:([69,101]:List UInt8).contains e2=true
    ·rw [isE] at h2
     have h3:nums (l2++[e2])=nums l2++[(e2.toNat:Int)]:=by simp [nums]
     rw [h3,List.all_append];simp only [Bool.or_eq_true,decide_eq_true_eq] at h2;have:(S.kH (e2.toNat:Int)||decide ((e2.toNat:Int)=46))=false:=by
      rcases h2 with h2 | h2<;>rw [h2]<;>rfl
     simp [this]
    rw [if_neg h2] at hs;exact absurd rfl hs
  rw [this];rfl
 rw [if_pos hs];have ht:Lib.trimRightS l' [69,101]=l':=by
  rcases List.eq_nil_or_concat l' with rfl | ⟨l2,e2,rfl⟩
  ·rfl
  ·rw [List.concat_eq_append] at hs |-
   rw [yw] at hs |-
   by_cases h2:([69,101]:List UInt8).contains e2=true
   ·rw [if_pos h2] at hs
    have:=RO l2 [69,101];simp at hs
    omega
   ·rw [if_neg h2]
 rw [ht];unfold strings_Count.f;simp only [Option.bind_some];have hc:Lib.countByte l' 46=((nums l').count 46:Int):=by
  have:=vH l' 46;rw [show (((46:UInt8).toNat:Nat):Int)=46 from rfl] at this;rw [this];exact cb l'
 rw [hc];by_cases h1:((nums l').count 46:Int) > 1
 ·rw [if_pos h1]
  have:decide ((nums l').count 46<=1)=false:=decide_eq_false (by omega);rw [this,Bool.and_false]
 rw [if_neg h1];have:decide ((nums l').count 46<=1)=true:=decide_eq_true (by omega);rw [this,Bool.and_true];have hx2:l'.length<=100000:=by simp at hx;omega
 unfold dL.f;rw [NC,if_pos ⟨hx2,by decide,by decide⟩,if_pos ⟨hx2,by decide,by decide⟩];simp only [Option.bind_some,abf];show (if Lib.trimS l' [46]=[] then some false else some (Lib.trimS l' [48,49,50,51,52,53,54,55,56,57,46]==[]))=_
 have hall:(nums l').all (fun c=>S.kH c||decide (c=46))=decide (Lib.trimS l' [48,49,50,51,52,53,54,55,56,57,46]=[]):=by
  rw [RN];by_cases h:Lib.trimS l' [48,49,50,51,52,53,54,55,56,57,46]=[]
  ·rw [decide_eq_true h,List.all_eq_true]
   intro b hb
   rw [<- abe];exact (nJ _ _).1 h b hb
  rw [decide_eq_false h,<- Bool.not_eq_true,List.all_eq_true];intro q
  refine h ((nJ _ _).2 fun b hb=>?_);rw [abe];exact q b hb
 by_cases h2:Lib.trimS l' [46]=[]
 ·rw [if_pos h2]
  have:(nums l').any S.kH=false:=by
   rw [II,<- Bool.not_eq_true,List.any_eq_true];rintro ⟨b,hb,hd⟩
   have h3:=(nJ _ _).1 h2 b hb;rw [ZW,decide_eq_true_eq] at h3;rw [h3] at hd;cases hd
  rw [this,Bool.and_false]
 rw [if_neg h2,hall];by_cases h3:Lib.trimS l' [48,49,50,51,52,53,54,55,56,57,46]=[]
 rotate_left
 ·rw [decide_eq_false h3,Bool.false_and]
  simp [h3]
 have h4:(nums l').any S.kH=true:=by
  rw [II];rcases Bool.eq_false_or_eq_true (l'.any fun b=>S.kH b.toNat) with h | h
  ·exact h
  ·exfalso
   refine h2 ((nJ _ _).2 fun b hb=>?_);have h5:=(nJ _ _).1 h3 b hb;rw [abe] at h5;have h6:S.kH b.toNat=false:=by
    rw [List.any_eq_false] at h;simpa using h b hb
   rw [h6,Bool.false_or] at h5;rw [ZW];exact h5
 rw [h3,h4];rfl
theorem Lf (p:Int->Bool):∀ l:List Int,S.run p l<=l.length
 | []=>Nat.le_refl _
 | c::t=>by
  unfold S.run;split
  ·have:=Lf p t;simp;omega
  ·omega
def qG (s:Nat) (src:ByteArray) (m:Value) (i line:Nat) (e:Ending) (w':World):S.TR->Prop
 | .err c=>e=Fails c line/\∃ i':Nat,Sc s src i' line m w'
 | .ok t n=>e=.returned (.string (strOfNums t))/\Sc s src ((i+n:Nat):Int) line m w'
set_option maxRecDepth 100000 in
set_option maxHeartbeats 4000000 in
theorem zq.calls (s:Nat) (src:ByteArray) (m:Value) (i line:Nat) (w:World) (hsz:src.size<=100000) (hl:line<=1000000000) (hi:i<=src.size) (h:Sc s src i line m w) :
  Calls Tryz.prog 56 #[.pointer (some ⟨s,0,none⟩)] w fun e w'=>But (·=s) w w'/\qG s src m i line e w' (S.iH ((bytesOf src).drop i)):=by
 have HS:=ah.mk h;obtain ⟨n,hn⟩:∃ n,src.size=n:=⟨_,rfl⟩;obtain ⟨L,hL⟩:∃ L,bytesOf src=L:=⟨_,rfl⟩;have HN:ah (L.length=n):=⟨by rw [<- hL,bytesOf_length];exact hn⟩;have RP:=Lib.hid (fun W hW=>Iz.calls s src i line m i 55 S.sym W (by omega) hi Lc Pw hW);rw [hL] at RP |-
 obtain ⟨r,hr⟩:∃ r,S.run S.sym (L.drop i)=r:=⟨_,rfl⟩;rw [hr] at RP;have hrn:i+r<=n:=by
  have:=Lf S.sym (L.drop i);rw [hr,List.length_drop,HN.out] at this;omega
 have HL:=ah.mk hL;have HR:=ah.mk hr;have c0:=h.c0;have c1:=h.c1;have f1:=h.fr 1;clear hL h hr;rw [hn] at hsz hi;obtain ⟨x,hx⟩:∃ x,i+r=x:=⟨_,rfl⟩;rw [hx] at hrn RP;have hxr:x - i=r:=by omega
 have HX:ah (bytesOf (src.extract i x)=(L.drop i).take r):=⟨by rw [gP,HL.out,hxr]⟩;have hxs:(src.extract i x).size<=100000:=by rw [ByteArray.size_extract];omega
 have HO:=abg _ hxs;rw [HX.out] at HO;obtain ⟨op,hop⟩:∃ op,S.ni ((L.drop i).take r)=op:=⟨_,rfl⟩;rw [hop] at HO;have hz0:(0:Int)<=(i:Int):=by omega
 have hz1:(i:Int)<=(x:Int):=by omega
 have hz2:(x:Int)<=(n:Int):=by omega
 have HOP:=Lib.hid (fun W=>ql.calls (src.extract i x) op W HO);have HI:=ah.mk (And.intro hx hxr);clear hx hxr HO hxs;have hw1:IntKind.i64.wrap ((x:Int)+1)=((x+1:Nat):Int):=by rw [uq _ (by omega) (by omega)];omega
 obtain ⟨E,hE⟩:∃ E,(op&&S.nI (L.drop x))=E:=⟨_,rfl⟩;have HEE:=ah.mk hE;go_enter Tryz.func56,Tryz.ntmps56
 go_wp2_with (go_at_call 94;refine (RP.out _ HS.out).mono ?_;rintro e w' ⟨rfl,⟨⟨q,rfl⟩⟩⟩)
 have Py:ah (Sc s src x line m ((w.drewN q).setCell ⟨s,1,none⟩ (.int .i64 x))):=⟨Sc.set1 (w:=w.drewN q) HS.out _⟩;have HB1:ah (But (·=s) w ((w.drewN q).setCell ⟨s,1,none⟩ (.int .i64 x))):=⟨((But.refl _ w).drewN q).set _ _ rfl⟩;clear hE;generalize (w.drewN q).setCell ⟨s,1,none⟩ (.int .i64 x)=w1 at *;go_cut [74] from 4 (fun s74 wc=>s74=.bool E/\ah (Sc s src x line m wc)/\ah (But (·=s) w wc))
 case first =>
  have cc0:∀ y:mU s src x line m w,y.world.cell? ⟨s,0,none⟩=some (.string src):=mU.c0;have QF:∀ y:mU s src x line m w,y.world.cell? ⟨s,1,none⟩=some (.int .i64 x):=mU.c1;have hne:Nonempty (mU s src x line m w):=⟨⟨w1.drew,Py.out,HB1.out.drew⟩⟩;cases op with
  | false =>
   obtain rfl:false=E:=HEE.out;refine dA (fun W=>∃ y:mU s src x line m w,W=y.world) (by kernel_rfl) (by kernel_rfl) ⟨⟨w1.drew,Py.out,HB1.out.drew⟩,rfl⟩ ?_;repeat (go_big_quiet_step ((rename_i y;(go_at_call 95;refine (HOP.out _).mono ?_;rintro e w' ⟨rfl,hb⟩;exact ⟨rfl,y.ret hb⟩))))
   refine wpQuiet_nil ?_;rintro W ⟨y,rfl⟩
   go_wp2_with fail
   go_meet
   exact ⟨rfl,⟨y.sc⟩,⟨y.but⟩⟩
  | true =>
   by_cases c1:x+1 < n
   rotate_left
   ·have g1:decide (((x:Int)+1) < (n:Int))=false:=decide_eq_false (by omega)
    have g1':decide (x+1 < n)=false:=decide_eq_false c1;obtain rfl:E=false:=by
     have:=HEE.out;rw [<- this];have hlen:(L.drop x).length<=1:=by rw [List.length_drop,HN.out];omega
     rcases h0:L.drop x with _ | ⟨a,_ | ⟨b,t⟩⟩
     ·rfl
     ·rfl
     ·rw [h0] at hlen;simp at hlen
    refine dA (fun W=>∃ y:mU s src x line m w,W=y.world) (by kernel_rfl) (by kernel_rfl) ⟨⟨w1.drew,Py.out,HB1.out.drew⟩,rfl⟩ ?_;repeat (go_big_quiet_step ((rename_i y;(go_at_call 95;refine (HOP.out _).mono ?_;rintro e w' ⟨rfl,hb⟩;exact ⟨rfl,y.ret hb⟩))))
    refine wpQuiet_nil ?_;rintro W ⟨y,rfl⟩
    go_wp2_with fail
    go_meet
    exact ⟨rfl,⟨y.sc⟩,⟨y.but⟩⟩
   have g1:decide (((x:Int)+1) < (n:Int))=true:=decide_eq_true (by omega);have g1':decide (x+1 < n)=true:=decide_eq_true c1;have hxn:x < src.size:=by omega
   have aiz:x+1 < src.size:=by omega
   have hb1:=jT src x hxn;have hb2:=jT src (x+1) aiz;rw [HL.out] at hb1 hb2;have HE2:ah (E=((decide (L.getD x 0=43)||decide (L.getD x 0=45))&&S.kH (L.getD (x+1) 0))):=⟨by
    have:=HEE.out;rw [drop_at L x (by rw [HN.out];omega),drop_at L (x+1) (by rw [HN.out];omega)] at this;rw [<- this];rfl⟩
   have hr1:0<=L.getD (x+1) 0/\L.getD (x+1) 0 < 256:=by
    have:=eG src (L.getD (x+1) 0) (by rw [HL.out];exact kQ L (x+1) (by rw [HN.out];omega));exact this
   generalize L.getD x 0=y1 at *;generalize L.getD (x+1) 0=y2 at *;have hdd:=fun W=>gQ.calls y2 (S.kH y2) W (RL y2)
   obtain ⟨D,hD⟩:∃ D,S.kH y2=D:=⟨_,rfl⟩;rw [hD] at HE2 hdd;have RQ:=Lib.hid hdd;clear hdd hD hr1 c1;have hi1:(x:Int) < (n:Int):=by omega
   have hi2:((x:Int)+1) < (n:Int):=by omega
   have hi0:(0:Int)<=(x:Int):=by omega
   by_cases c2:y1=43
   ·have g2:(y1==43)=true:=beq_iff_eq.2 c2
    obtain rfl:E=D:=by rw [HE2.out,c2];simp
    refine dA (fun W=>∃ y:mU s src x line m w,W=y.world) (by kernel_rfl) (by kernel_rfl) ⟨⟨w1.drew,Py.out,HB1.out.drew⟩,rfl⟩ ?_;repeat (go_big_quiet_step ((rename_i y;first | (go_at_call 95;refine (HOP.out _).mono ?_;rintro e w' ⟨rfl,hb⟩;exact ⟨rfl,y.ret hb⟩) | (go_at_call 96;refine (RQ.out _).mono ?_;rintro e w' ⟨rfl,hb⟩;exact ⟨rfl,y.ret hb.below⟩))))
    refine wpQuiet_nil ?_;rintro W ⟨y,rfl⟩
    go_wp2_with fail
    go_meet
    exact ⟨rfl,⟨y.sc⟩,⟨y.but⟩⟩
   have g2:(y1==43)=false:=beq_eq_false_iff_ne.2 c2;by_cases c3:y1=45
   ·have g3:(y1==45)=true:=beq_iff_eq.2 c3
    obtain rfl:E=D:=by rw [HE2.out,c3];simp
    refine dA (fun W=>∃ y:mU s src x line m w,W=y.world) (by kernel_rfl) (by kernel_rfl) ⟨⟨w1.drew,Py.out,HB1.out.drew⟩,rfl⟩ ?_;repeat (go_big_quiet_step ((rename_i y;first | (go_at_call 95;refine (HOP.out _).mono ?_;rintro e w' ⟨rfl,hb⟩;exact ⟨rfl,y.ret hb⟩) | (go_at_call 96;refine (RQ.out _).mono ?_;rintro e w' ⟨rfl,hb⟩;exact ⟨rfl,y.ret hb.below⟩))))
    refine wpQuiet_nil ?_;rintro W ⟨y,rfl⟩
    go_wp2_with fail
    go_meet
    exact ⟨rfl,⟨y.sc⟩,⟨y.but⟩⟩
   have g3:(y1==45)=false:=beq_eq_false_iff_ne.2 c3;obtain rfl:E=false:=by rw [HE2.out];simp [c2,c3]
   refine dA (fun W=>∃ y:mU s src x line m w,W=y.world) (by kernel_rfl) (by kernel_rfl) ⟨⟨w1.drew,Py.out,HB1.out.drew⟩,rfl⟩ ?_;repeat (go_big_quiet_step ((rename_i y;first | (go_at_call 95;refine (HOP.out _).mono ?_;rintro e w' ⟨rfl,hb⟩;exact ⟨rfl,y.ret hb⟩) | (go_at_call 96;refine (RQ.out _).mono ?_;rintro e w' ⟨rfl,hb⟩;exact ⟨rfl,y.ret hb.below⟩))))
   refine wpQuiet_nil ?_;rintro W ⟨y,rfl⟩
   go_wp2_with fail
   go_meet
   exact ⟨rfl,⟨y.sc⟩,⟨y.but⟩⟩
 case rest =>
  obtain ⟨rfl,HS2,HB2⟩:=hcut;clear Py HB1 HOP;obtain ⟨x2,hx2⟩:∃ x2:Nat,i+S.dH (L.drop i)=x2:=⟨_,rfl⟩;have hsl:S.dH (L.drop i)=if E=true then r+1+S.run S.kH (L.drop (x+1)) else r:=by
   have h1:=HI.out;have hE:=HEE.out;unfold S.dH;rw [HR.out,List.drop_drop,List.drop_drop,h1.1,show i+(r+1)=x+1 by omega,hop];by_cases hc:E=true
   ·rw [if_pos hc]
    rw [hc] at hE;rw [Bool.and_eq_true] at hE;rw [if_pos hE]
   rw [if_neg hc];rw [if_neg (fun q=>hc (by rw [<- hE,q.1,q.2];rfl))]
  have alh:x2<=n/\i<=x2:=by
   have h1:=HI.out;by_cases hc:E=true
   rotate_left
   ·rw [if_neg hc] at hsl
    omega
   rw [if_pos hc] at hsl;have:=Lf S.kH (L.drop (x+1));rw [List.length_drop,HN.out] at this;have hE:=HEE.out;rw [hc,Bool.and_eq_true] at hE;have h2:x+1 < n:=by
    rcases Nat.lt_or_ge (x+1) n with h | h
    ·exact h
    ·have hlen:(L.drop x).length<=1:=by rw [List.length_drop,HN.out];omega
     rcases h0:L.drop x with _ | ⟨a,_ | ⟨b,t⟩⟩
     ·rw [h0] at hE;cases hE.2
     ·rw [h0] at hE;cases hE.2
     ·rw [h0] at hlen;simp at hlen
   omega
  have HT:ah (S.iH (L.drop i)=if 40 < x2 - i then .err 30 else .ok (((L.drop i).take (x2 - i)).map S.up) (x2 - i)):=⟨by
   unfold S.iH;rw [show S.dH (L.drop i)=x2 - i by omega]⟩
  go_upto_if 74 with (fail)
  go_cut [] from 4 (fun wc=>ah (Sc s src x2 line m wc)/\ah (But (·=s) w wc))
  case first =>
   have d1:=HS2.out.c1;have e1:=HS2.out.fr 1;cases E with
   | false =>
    obtain rfl:x=x2:=by have h1:=HI.out;simp at hsl;omega
    go_wp2_with fail
    go_meet
    exact ⟨HS2,HB2⟩
   | true =>
    simp only [if_true] at hsl;have hx3:((x+1+S.run S.kH (L.drop (x+1)):Nat):Int)=(x2:Int):=by have h1:=HI.out;omega
    have hxn:x+1<=n:=by have h1:=HI.out;omega
    have HR2:=Iz.calls s src x line m (x+1) 96 S.kH wc (by omega) (by omega) Ld Px HS2.out;rw [HL.out,hx3] at HR2;have HRR:=Lib.hid HR2;clear HR2 hx3;go_wp2_with (go_at_call 94;refine HRR.out.mono ?_;rintro e w' ⟨rfl,⟨⟨q,rfl⟩⟩⟩)
    go_meet
    exact ⟨⟨Sc.set1 (w:=wc.drewN q) HS2.out _⟩,⟨(HB2.out.drewN q).set _ _ rfl⟩⟩
  case rest =>
   obtain ⟨Lg,HB3⟩:=hcut;clear HS2 HB2 RP;have d0:=Lg.out.c0;have d1:=Lg.out.c1;have d2:=Lg.out.c2;obtain ⟨k,hk⟩:∃ k,x2 - i=k:=⟨_,rfl⟩;have HT2:=HT;rw [hk] at HT2;have hw2:IntKind.i64.wrap ((x2:Int) - (i:Int))=(k:Int):=by rw [uq _ (by omega) (by omega)];omega
   by_cases h40:40 < k
   ·have g1:decide (40 < k)=true:=decide_eq_true h40
    have g2:decide ((40:Int) < (k:Int))=true:=decide_eq_true (by omega);have HF:=Lib.hid (kg.calls (.pointer (some ⟨s,0,none⟩)) 30 line wc);rw [if_pos h40] at HT2;clear hk h40;go_wp2_with (go_at_call 97;refine HF.out.mono ?_;rintro e w' ⟨rfl,rfl⟩;unfold Fails)
    rw [HT2.out];exact ⟨rfl,HB3.out,rfl,_,Lg.out⟩
   have g1:decide (40 < k)=false:=decide_eq_false h40;have g2:decide ((40:Int) < (k:Int))=false:=decide_eq_false (by omega);rw [if_neg h40] at HT2;have hz3:(i:Int)<=(x2:Int):=by omega
   have Pz:(x2:Int)<=(n:Int):=by omega
   have hup:nk.f (src.extract i x2)=some (strOfNums (((L.drop i).take k).map S.up)):=by
    unfold nk.f ZU;rw [if_pos (by rw [ByteArray.size_extract];omega),gP,HL.out,hk]
   have Lh:=fun W=>nk.calls (src.extract i x2) _ W hup
   have HK:ah (x2=i+k):=⟨by omega⟩;clear hk h40 hup;obtain ⟨out,hout⟩:∃ out,strOfNums (((L.drop i).take k).map S.up)=out:=⟨_,rfl⟩;rw [hout] at Lh;have HU:=Lib.hid Lh;have WQ:=ah.mk hout;clear Lh hout;have cc0:∀ y:mU s src x2 line m w,y.world.cell? ⟨s,0,none⟩=some (.string src):=mU.c0;have QF:∀ y:mU s src x2 line m w,y.world.cell? ⟨s,1,none⟩=some (.int .i64 x2):=mU.c1;have hne:Nonempty (mU s src x2 line m w):=⟨⟨wc.drew,Lg.out,HB3.out.drew⟩⟩;go_wp2;refine dA (fun W=>∃ y:mU s src x2 line m w,W=y.world) (by kernel_rfl) (by kernel_rfl) ⟨⟨wc.drew,Lg.out,HB3.out.drew⟩,rfl⟩ ?_;repeat (go_big_quiet_step ((rename_i y;(go_at_call 98;refine (HU.out _).mono ?_;rintro e w' ⟨rfl,hb⟩;exact ⟨rfl,y.ret hb⟩))))
   refine wpQuiet_nil ?_;rintro W ⟨y,rfl⟩
   have HY:=ah.mk (And.intro y.sc y.but);generalize y.world=W at *;go_wp2;go_ret;refine ⟨HY.out.2,?_⟩;rw [HT2.out];exact ⟨by rw [WQ.out];rfl,by rw [<- HK.out];exact HY.out.1⟩
def Li:Go.Shelf.Ren:=⟨fun | 167=>106 | 166=>112 | 240=>132 | 276=>153 | 169=>107 | n=>n,fun | 0=>0 | 3=>3 | 4=>4 | 5=>5 | 9=>9 | 20=>20 | 37=>100 | 70=>124 | 72=>126 | 75=>128 | 76=>134 | 80=>94 | 127=>141 | 164=>160 | n=>n,fun | n=>n⟩
theorem Bl:Go.Proofs.Lays.n167 Tryz.prog Li:={
 mixed:=by kernel_rfl
 f167:=Tryz.func106.trans (congrArg some (by kernel_rfl))
 f240:=Tryz.func132.trans (congrArg some (by kernel_rfl))
 f276:=Tryz.func153.trans (congrArg some (by kernel_rfl))
 t0:=Tryz.underlying0
 a0:=Tryz.isAgg0
 z0:=Tryz.sizeOf0
 v0:=Tryz.zeroValue0
 t4:=Tryz.underlying4
 a4:=Tryz.isAgg4
 z4:=Tryz.sizeOf4
 v4:=Tryz.zeroValue4
 t5:=Tryz.underlying5
 a5:=Tryz.isAgg5
 z5:=Tryz.sizeOf5
 v5:=Tryz.zeroValue5
 t9:=Tryz.underlying9
 a9:=Tryz.isAgg9
 z9:=Tryz.sizeOf9
 v9:=Tryz.zeroValue9
 t20:=Tryz.underlying20
 a20:=Tryz.isAgg20
 z20:=Tryz.sizeOf20
 v20:=Tryz.zeroValue20
 t37:=Tryz.underlying100
 a37:=Tryz.isAgg100
 z37:=Tryz.sizeOf100
 v37:=Tryz.zeroValue100
 t70:=Tryz.underlying124
 a70:=Tryz.isAgg124
 z70:=Tryz.sizeOf124
 v70:=Tryz.zeroValue124
 t72:=Tryz.underlying126
 a72:=Tryz.isAgg126
 z72:=Tryz.sizeOf126
 v72:=Tryz.zeroValue126
 t75:=Tryz.underlying128
 a75:=Tryz.isAgg128
 z75:=Tryz.sizeOf128
 v75:=Tryz.zeroValue128
 t164:=Tryz.underlying160
 a164:=Tryz.isAgg160
 z164:=Tryz.sizeOf160
 v164:=Tryz.zeroValue160 }
theorem Bn:Go.Proofs.Lays.n166 Tryz.prog Li:={
 mixed:=by kernel_rfl
 f166:=Tryz.func112.trans (congrArg some (by kernel_rfl))
 f240:=Tryz.func132.trans (congrArg some (by kernel_rfl))
 f276:=Tryz.func153.trans (congrArg some (by kernel_rfl))
 t0:=Tryz.underlying0
 a0:=Tryz.isAgg0
 z0:=Tryz.sizeOf0
 v0:=Tryz.zeroValue0
 t3:=Tryz.underlying3
 a3:=Tryz.isAgg3
 z3:=Tryz.sizeOf3
 v3:=Tryz.zeroValue3
 t4:=Tryz.underlying4
 a4:=Tryz.isAgg4
 z4:=Tryz.sizeOf4
 v4:=Tryz.zeroValue4
 t9:=Tryz.underlying9
 a9:=Tryz.isAgg9
 z9:=Tryz.sizeOf9
 v9:=Tryz.zeroValue9
 t20:=Tryz.underlying20
 a20:=Tryz.isAgg20
 z20:=Tryz.sizeOf20
 v20:=Tryz.zeroValue20
 t37:=Tryz.underlying100
 a37:=Tryz.isAgg100
 z37:=Tryz.sizeOf100
 v37:=Tryz.zeroValue100
 t70:=Tryz.underlying124
 a70:=Tryz.isAgg124
 z70:=Tryz.sizeOf124
 v70:=Tryz.zeroValue124
 t72:=Tryz.underlying126
 a72:=Tryz.isAgg126
 z72:=Tryz.sizeOf126
 v72:=Tryz.zeroValue126
 t75:=Tryz.underlying128
 a75:=Tryz.isAgg128
 z75:=Tryz.sizeOf128
 v75:=Tryz.zeroValue128
 t164:=Tryz.underlying160
 a164:=Tryz.isAgg160
 z164:=Tryz.sizeOf160
 v164:=Tryz.zeroValue160 }
theorem wN:Builder.Extra Tryz.prog Li:={
 sizeBuilder:=by kernel_rfl
 liesBuilder:=by kernel_rfl
 t5:=Tryz.underlying5
 a5:=Tryz.isAgg5
 z5:=Tryz.sizeOf5
 v5:=Tryz.zeroValue5
 infoByte:=by kernel_rfl
 cellsByte:=by kernel_rfl
 sizeByte:=by kernel_rfl
 neB5:=by decide }
def vZ (B b:Nat) (xs:List Int) (w:World):Prop:=Lib.IsBuilderF 126 5 B b (xs.map (Value.int .u8)) w
theorem vZ.new (w:World):vZ w.heap.size w.heap.size [] (w.alloc (.cells #[.pointer none,.slice none 0 0] 126)) :=
 .inl ⟨Nat.le_refl _,.slice none 0 0,heap_alloc_new w _,World.ownsRowF_nil _ _ _ _,by simp [Value.ownBlock]⟩
theorem CX (B b:Nat) (xs:List Int) (c:Int) (w:World) (h:vZ B b xs w) (hl:xs.length<=100000000) (hB:B<=w.heap.size) :
  Calls Tryz.prog 106 #[.pointer (some ⟨b,0,none⟩),.int .u8 c] w fun e w'=>e=.returned .nilIface/\vZ B b (xs++[c]) w'/\Below B w w':=by
 refine (Any.Builder_WriteByte_k Bl wN B b _ c w h (by rw [List.length_map];omega) hB).mono ?_;rintro e w' ⟨rfl,h1,h2,_⟩
 refine ⟨rfl,?_,h2⟩;unfold vZ;rw [List.map_append];exact .inr h1
theorem zQ (B b:Nat) (xs:List Int) (s:ByteArray) (w:World) (h:vZ B b xs w) (hl:xs.length+s.size<=100000000) (hB:B<=w.heap.size) :
  Calls Tryz.prog 112 #[.pointer (some ⟨b,0,none⟩),.string s] w fun e w'=>e=.returned (.tuple #[.int .i64 s.size,.nilIface])/\vZ B b (xs++bytesOf s) w'/\Below B w w':=by
 refine (Any.Builder_WriteString_k Bn wN B b _ s w h (by rw [List.length_map];omega) hB).mono ?_;rintro e w' ⟨rfl,h1,h2,_⟩
 refine ⟨rfl,?_,h2⟩;unfold vZ;rw [List.map_append];have e:(bytesOf s).map (Value.int .u8)=Lib.strCells s:=by simp [bytesOf,Lib.strCells,Lib.byteCells,Function.comp_def]
 rw [e];exact .inr h1
theorem vI (B b:Nat) (xs:List Int) (w:World) (h:vZ B b xs w) (hr:∀ x∈xs,0<=x/\x < 256) (hB:B<=w.heap.size) :
  Calls Tryz.prog 107 #[.pointer (some ⟨b,0,none⟩)] w fun e w'=>e=.returned (.string (strOfNums xs))/\vZ B b xs w'/\Below B w w':=by
 have e:xs.map (Value.int .u8)=Lib.byteCells (xs.map fun x=>UInt8.ofNat x.toNat):=by
  simp only [Lib.byteCells,List.map_map];refine List.map_congr_left fun x hx=>?_
  obtain ⟨h0,h1⟩:=hr x hx;simp only [Function.comp_apply];congr 1
  rw [UInt8.toNat_ofNat_of_lt' (by simp [UInt8.size];omega)];omega
 unfold vZ at h |-
 rw [e] at h |-
 refine (Tryz.Builder_String_any_k B b _ w h hB).mono ?_;rintro e' w' ⟨rfl,h1,h2,_⟩
 exact ⟨rfl,h1,h2⟩
end Go.Proofs.YtkkpjonfaflkmaaGreatDoor.T
