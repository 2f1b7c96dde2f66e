/- A part of the proof of ScanWrites. -/
import Derived.Test.YtkkpjonfaflkmaaGreatDoorCScanWrites1
import Init
import Derived.Lib.Hide
import Derived.Lib.BufferMore
import Derived.WalkLawsBesides
import Derived.Test.YtkkpjonfaflkmaaGreatDoorCScanWrites2
import Derived.Lib.LaidU8
import Derived.Shelf.Strings.SlTrimAscii
set_option linter.all false
namespace Go.Proofs.YtkkpjonfaflkmaaGreatDoor.T
open Go.RowKit Go.Proofs.aj.aI Go.Proofs.aj.aY Go.Proofs.aj.bq
attribute [local go_sem] eY eZ gH gI dV dW fq fu
def adH:Option Int->Value
 | none=>.nilIface
 | some c=>.iface 0 (.int .i64 c)
theorem aJ:adH none=.nilIface:=rfl
theorem aK (c:Int):adH (some c)=.iface 0 (.int .i64 c):=rfl
theorem info5:(Tryz.prog.info? 5).map (fun i=>(i.zero,i.size,i.bytes))=some (some (.int .u8 0),1,1):=by kernel_rfl
theorem vC:(Tryz.prog.info? 53).map (fun i=>(i.zero,i.size,i.bytes))=some (some (.agg #[(.int .i64 0),(.string ⟨#[]⟩),(.bool false),(.int .i64 0),(.int .i64 0),(.int .i64 0)]),6,56):=by kernel_rfl
theorem aaU:(Tryz.prog.info? 73).map (fun i=>(i.zero,i.size,i.bytes))=some (some (.agg #[(.string ⟨#[]⟩),(.int .i64 0)]),2,24):=by kernel_rfl
structure dh where
 f0:Int
 f1:ByteArray
 f2:Bool
 f3:Int
 f4:Int
 f5:Int
def z53:dh:=⟨(0:Int),(⟨#[]⟩:ByteArray),false,(0:Int),(0:Int),(0:Int)⟩
def jP:Kd dh:=Kd.iso (Kd.pair (Kd.int .i64) (Kd.pair Kd.string (Kd.pair Kd.bool (Kd.pair (Kd.int .i64) (Kd.pair (Kd.int .i64) (Kd.int .i64)))))) (fun x:dh=>(x.f0,x.f1,x.f2,x.f3,x.f4,x.f5))
theorem Rp {w:World} {x:dh} {cs:List Value} (h:jP.K w x cs):cs=[.int .i64 x.f0,.string x.f1,.bool x.f2,.int .i64 x.f3,.int .i64 x.f4,.int .i64 x.f5]:=by
 obtain ⟨_,_,rfl,rfl,⟨_,_,rfl,rfl,⟨_,_,rfl,rfl,⟨_,_,rfl,rfl,⟨_,_,rfl,rfl,rfl⟩⟩⟩⟩⟩:=h;exact rfl
theorem KO (w:World) (x:dh) :jP.K w x [.int .i64 x.f0,.string x.f1,.bool x.f2,.int .i64 x.f3,.int .i64 x.f4,.int .i64 x.f5]:=⟨[.int .i64 x.f0],[.string x.f1,.bool x.f2,.int .i64 x.f3,.int .i64 x.f4,.int .i64 x.f5],rfl,rfl,⟨[.string x.f1],[.bool x.f2,.int .i64 x.f3,.int .i64 x.f4,.int .i64 x.f5],rfl,rfl,⟨[.bool x.f2],[.int .i64 x.f3,.int .i64 x.f4,.int .i64 x.f5],rfl,rfl,⟨[.int .i64 x.f3],[.int .i64 x.f4,.int .i64 x.f5],rfl,rfl,⟨[.int .i64 x.f4],[.int .i64 x.f5],rfl,rfl,rfl⟩⟩⟩⟩⟩
theorem Ni (w:World) (base:Nat) (ok:Nat->Prop) (x:dh) :jP.M w base ok x [.int .i64 x.f0,.string x.f1,.bool x.f2,.int .i64 x.f3,.int .i64 x.f4,.int .i64 x.f5]:=⟨[.int .i64 x.f0],[.string x.f1,.bool x.f2,.int .i64 x.f3,.int .i64 x.f4,.int .i64 x.f5],rfl,rfl,⟨[.string x.f1],[.bool x.f2,.int .i64 x.f3,.int .i64 x.f4,.int .i64 x.f5],rfl,rfl,⟨[.bool x.f2],[.int .i64 x.f3,.int .i64 x.f4,.int .i64 x.f5],rfl,rfl,⟨[.int .i64 x.f3],[.int .i64 x.f4,.int .i64 x.f5],rfl,rfl,⟨[.int .i64 x.f4],[.int .i64 x.f5],rfl,rfl,rfl⟩⟩⟩⟩⟩
def aC (xs:List dh) (i:Int):dh:=xs.getD i.toNat z53
theorem bQ {w:World} {A:Option Addr} {n:Nat} {xs:List dh} (h:Kd.C jP w A n xs) (i:Int) (h0:0<=i) (h1:i < n):∃ ad ,A=some ad/\w.cell? (ad.add (i.toNat*6))=some (.int .i64 (aC xs i).f0)/\w.cell? ⟨(ad.add (i.toNat*6)).block,(ad.add (i.toNat*6)).off+1,none⟩=some (.string (aC xs i).f1)/\w.cell? ⟨(ad.add (i.toNat*6)).block,(ad.add (i.toNat*6)).off+2,none⟩=some (.bool (aC xs i).f2)/\w.cell? ⟨(ad.add (i.toNat*6)).block,(ad.add (i.toNat*6)).off+3,none⟩=some (.int .i64 (aC xs i).f3)/\w.cell? ⟨(ad.add (i.toNat*6)).block,(ad.add (i.toNat*6)).off+4,none⟩=some (.int .i64 (aC xs i).f4)/\w.cell? ⟨(ad.add (i.toNat*6)).block,(ad.add (i.toNat*6)).off+5,none⟩=some (.int .i64 (aC xs i).f5):=by
 obtain ⟨ad,c,e,_,hK,hc0⟩:=Kd.QW h z53 i h0 h1;have hc:∀ j u,c[j]?=some u->w.cell? (ad.add (i.toNat*6+j))=some u:=hc0;obtain rfl:=Rp hK;exact ⟨ad,e,hc 0 _ rfl,by rw [<- oC _ _ 1 (by omega)];exact hc 1 _ rfl,by rw [<- oC _ _ 2 (by omega)];exact hc 2 _ rfl,by rw [<- oC _ _ 3 (by omega)];exact hc 3 _ rfl,by rw [<- oC _ _ 4 (by omega)];exact hc 4 _ rfl,by rw [<- oC _ _ 5 (by omega)];exact hc 5 _ rfl⟩
def dX (xs:List (List dh)) (i:Int):(List dh):=xs.getD i.toNat ([]:List dh)
theorem ZP {w:World} {A:Option Addr} {n:Nat} {xs:List (List dh)} (h:Kd.C (Kd.slice 53 jP) w A n xs) (i:Int) (h0:0<=i) (h1:i < n):∃ ad A0 c0,A=some ad/\w.cell? (ad.add i.toNat)=some (.slice A0 (dX xs i).length c0)/\(dX xs i).length<=c0/\jP.C w A0 (dX xs i).length (dX xs i):=by
 obtain ⟨ad,c,e,_,hK,hc0⟩:=Kd.QW h ([]:List dh) i h0 h1;have hc:∀ j u,c[j]?=some u->w.cell? (ad.add (i.toNat*1+j))=some u:=hc0;obtain ⟨A0,c0,rfl,l0,g0⟩:=hK;exact ⟨ad,A0,c0,e,by have hq:=hc 0 _ rfl;rwa [Nat.mul_one,Nat.add_zero] at hq,l0,g0⟩
structure xY where
 f0:ByteArray
 f1:Int
def z73:xY:=⟨(⟨#[]⟩:ByteArray),(0:Int)⟩
def ZQ:Kd xY:=Kd.iso (Kd.pair Kd.string (Kd.int .i64)) (fun x:xY=>(x.f0,x.f1))
theorem Rq {w:World} {x:xY} {cs:List Value} (h:ZQ.K w x cs):cs=[.string x.f0,.int .i64 x.f1]:=by
 obtain ⟨_,_,rfl,rfl,rfl⟩:=h;exact rfl
theorem Wp (w:World) (base:Nat) (ok:Nat->Prop) (x:xY) :ZQ.M w base ok x [.string x.f0,.int .i64 x.f1]:=⟨[.string x.f0],[.int .i64 x.f1],rfl,rfl,rfl⟩
def KP (xs:List xY) (i:Int):xY:=xs.getD i.toNat z73
theorem aaV {w:World} {A:Option Addr} {n:Nat} {xs:List xY} (h:Kd.C ZQ w A n xs) (i:Int) (h0:0<=i) (h1:i < n):∃ ad ,A=some ad/\w.cell? (ad.add (i.toNat*2))=some (.string (KP xs i).f0)/\w.cell? ⟨(ad.add (i.toNat*2)).block,(ad.add (i.toNat*2)).off+1,none⟩=some (.int .i64 (KP xs i).f1):=by
 obtain ⟨ad,c,e,_,hK,hc0⟩:=Kd.QW h z73 i h0 h1;have hc:∀ j u,c[j]?=some u->w.cell? (ad.add (i.toNat*2+j))=some u:=hc0;obtain rfl:=Rq hK;exact ⟨ad,e,hc 0 _ rfl,by rw [<- oC _ _ 1 (by omega)];exact hc 1 _ rfl⟩
def bP.l0:Nat->List (dh)->Int->Int->Option (Bool)
 | 0,_,_,_=>none
 | k+1,x0,x3,x4=>if x4 < (x0.length:Int) then (if 0<=x4 then (if (((aC x0 x4).f1).size:Int) > 1100 then (some false) else (bP.l0 k x0 (wrap64 (x3+(((aC x0 x4).f1).size:Int))) (wrap64 (x4+1)))) else (none)) else (if (x0.length:Int)<=300 then (some (decide (x3<=4000))) else (some false))
def bP.f (k:Nat) (l0:List (dh)):Option (Bool):=bP.l0 k l0 0 0
set_option maxHeartbeats 8000000 in
set_option maxRecDepth 100000 in
theorem bP.calls (k:Nat) (A0:Option Addr) (c0:Nat) (l0:List (dh)) (r:Bool) (w:World) (hr0:Kd.C jP w A0 l0.length l0) (hc0:l0.length<=c0) (h:bP.f k l0=some r) :
  Calls Tryz.prog 34 #[.slice A0 l0.length c0] w fun e w'=>e=.returned (.bool r)/\aG w w':=by
 have iG:=ah.mk hr0;have CV:=ah.mk hc0;clear hr0 hc0;have H:(bP.l0 k l0 0 0)=some r:=h;clear h;have H':=ah.mk H;clear H;go_enter Tryz.func34,Tryz.ntmps34
 go_wp2;go_loopg [3,4] k (fun kq v3 v4 w'=>∃ (bZ:Int) (bB:Int),v3=.int .i64 bZ/\v4=.int .i64 bB/\ah (bP.l0 kq l0 bZ bB=some r)/\ah (kq<=k)/\aG w w')
 case atStart=>exact ⟨(0),(0),(by first | rfl | (simp;done) | (simp [*];done)),(by first | rfl | (simp;done) | (simp [*];done)),H',⟨Nat.le_refl _⟩,by repeat (first | exact aG.refl _ | apply aG.step)⟩
 case round =>
  clear H';obtain ⟨bZ,bB,rfl,rfl,HA,jY,⟨m1,rfl⟩⟩:=hrel;cases gk with
  | zero=>exact absurd HA.out (by simp [bP.l0])
  | succ k1 =>
   have H:=HA.out;clear HA;simp only [bP.l0] at H;by_cases c2:bB < (l0.length:Int)
   rotate_left
   ·rw [if_neg c2] at H
    have kX:decide (bB < (l0.length:Int))=false:=decide_eq_false c2;clear c2;by_cases c5:(l0.length:Int)<=300
    ·rw [if_pos c5] at H
     have kN:decide ((l0.length:Int)<=300)=true:=decide_eq_true c5;have EF:decide (l0.length<=300)=true:=decide_eq_true (by omega);clear c5;obtain rfl:=Option.some.inj H;go_wp2;go_ret;exact ⟨by first | rfl | (simp;done) | (simp [*];done),by repeat (first | exact aG.refl _ | apply aG.step)⟩
    rw [if_neg c5] at H;have kN:decide ((l0.length:Int)<=300)=false:=decide_eq_false c5;have EF:decide (l0.length<=300)=false:=decide_eq_false (by omega);clear c5;obtain rfl:=Option.some.inj H;go_wp2;go_ret;exact ⟨by first | rfl | (simp;done) | (simp [*];done),by repeat (first | exact aG.refl _ | apply aG.step)⟩
   rw [if_pos c2] at H;have kX:decide (bB < (l0.length:Int))=true:=decide_eq_true c2;clear c2;by_cases c3:0<=bB
   rotate_left
   ·rw [if_neg c3] at H
    exact absurd H (by simp)
   rw [if_pos c3] at H;have nH:decide (0<=bB)=true:=decide_eq_true c3;clear c3;by_cases c4:(((aC l0 bB).f1).size:Int) > 1100
   ·rw [if_pos c4] at H
    have kP:decide (1100 < (((aC l0 bB).f1).size:Int))=true:=decide_eq_true c4;have CW:decide (1100 < ((aC l0 bB).f1).size)=true:=decide_eq_true (by omega);clear c4;obtain rfl:=Option.some.inj H;have KQ:0<=(bB:Int):=of_decide_eq_true (by with_reducible assumption);have KR:bB < (l0.length:Int):=of_decide_eq_true (by with_reducible assumption);obtain ⟨ZR,aaW,Wq,Ws,Wt,Wu,Wv,Ww⟩:=bQ iG.out bB KQ KR;cases aaW
    replace KQ:=eq_true KQ;replace KR:=eq_true KR;go_wp2;go_ret;exact ⟨by first | rfl | (simp;done) | (simp [*];done),by repeat (first | exact aG.refl _ | apply aG.step)⟩
   rw [if_neg c4] at H;have kP:decide (1100 < (((aC l0 bB).f1).size:Int))=false:=decide_eq_false c4;have CW:decide (1100 < ((aC l0 bB).f1).size)=false:=decide_eq_false (by omega);clear c4;have H':=ah.mk H;clear H;have KQ:0<=(bB:Int):=of_decide_eq_true (by with_reducible assumption);have KR:bB < (l0.length:Int):=of_decide_eq_true (by with_reducible assumption);obtain ⟨ZR,aaW,Wq,Ws,Wt,Wu,Wv,Ww⟩:=bQ iG.out bB KQ KR;cases aaW
   replace KQ:=eq_true KQ;replace KR:=eq_true KR;have aaX:0<=(bB:Int):=of_decide_eq_true (by with_reducible assumption);have aaY:bB < (l0.length:Int):=of_decide_eq_true (by with_reducible assumption);obtain ⟨adI,aiv,agk,agl,agm,agn,agp,agq⟩:=bQ iG.out bB aaX aaY;obtain rfl:ZR=adI:=(by injection aiv);replace aaX:=eq_true aaX;replace aaY:=eq_true aaY;go_wp2;go_roundg k1
   case measure=>have:=jY.out;omega
   case rel=>exact ⟨(wrap64 (bZ+(((aC l0 bB).f1).size:Int))),(wrap64 (bB+1)),(by first | rfl | (simp;done) | (simp [*];done)),(by first | rfl | (simp;done) | (simp [*];done)),H',⟨by have:=jY.out;omega⟩,by repeat (first | exact aG.refl _ | apply aG.step)⟩
def bO.l0:Nat->List (dh)->List (dh)->Int->Option (Bool)
 | 0,_,_,_=>none
 | k+1,x0,x1,x5=>if x5 < (x0.length:Int) then (if 0<=x5 then (if x5 < (x1.length:Int) then (if ((aC x0 x5).f0)=((aC x1 x5).f0) then (if ((aC x0 x5).f1).toList=((aC x1 x5).f1).toList then (if (((aC x0 x5).f2) != ((aC x1 x5).f2))=true then (some false) else (bO.l0 k x0 x1 (wrap64 (x5+1)))) else (some false)) else (some false)) else (none)) else (none)) else (some true)
def bO.f (k:Nat) (l0:List (dh)) (l1:List (dh)):Option (Bool):=if (l0.length:Int)=(l1.length:Int) then (bO.l0 k l0 l1 0) else (some false)
set_option maxHeartbeats 8000000 in
set_option maxRecDepth 100000 in
theorem bO.calls (k:Nat) (A0:Option Addr) (c0:Nat) (l0:List (dh)) (A1:Option Addr) (c1:Nat) (l1:List (dh)) (r:Bool) (w:World) (hr0:Kd.C jP w A0 l0.length l0) (hc0:l0.length<=c0) (hr1:Kd.C jP w A1 l1.length l1) (hc1:l1.length<=c1) (h:bO.f k l0 l1=some r) :
  Calls Tryz.prog 38 #[.slice A0 l0.length c0,.slice A1 l1.length c1] w fun e w'=>e=.returned (.bool r)/\aG w w':=by
 have iG:=ah.mk hr0;have CV:=ah.mk hc0;clear hr0 hc0;have HR1:=ah.mk hr1;have EG:=ah.mk hc1;clear hr1 hc1;have H:(if (l0.length:Int)=(l1.length:Int) then (bO.l0 k l0 l1 0) else (some false))=some r:=h;clear h;by_cases c3:(l0.length:Int)=(l1.length:Int)
 rotate_left
 ·rw [if_neg c3] at H
  have nH:((l0.length:Int)==(l1.length:Int))=false:=beq_eq_false_iff_ne.mpr c3;have zN:((l0.length:Int) != (l1.length:Int))=true:=bne_iff_ne.mpr c3;have aiw:(l0.length==l1.length)=false:=by first | simpa using c3 | (simp at c3 |-;omega)
  obtain rfl:=Option.some.inj H;go_enter Tryz.func38,Tryz.ntmps38
  go_wp2;repeat (go_quiet (fail);try go_wp2)
  go_ret;exact ⟨by first | rfl | (simp;done) | (simp [*];done),by repeat (first | exact aG.refl _ | apply aG.step)⟩
 rw [if_pos c3] at H;have nH:((l0.length:Int)==(l1.length:Int))=true:=beq_iff_eq.mpr c3;have zN:((l0.length:Int) != (l1.length:Int))=false:=bne_eq_false_iff_eq.mpr c3;have aiw:(l0.length==l1.length)=true:=by first | simpa using c3 | (simp at c3 |-;omega)
 clear c3;have H':=ah.mk H;clear H;go_enter Tryz.func38,Tryz.ntmps38
 go_wp2;repeat (go_quiet (fail);try go_wp2)
 go_loopg [5] k (fun kq v5 w'=>∃ (bM:Int),v5=.int .i64 bM/\ah (bO.l0 kq l0 l1 bM=some r)/\ah (kq<=k)/\aG w w')
 case atStart=>exact ⟨(0),(by first | rfl | (simp;done) | (simp [*];done)),H',⟨Nat.le_refl _⟩,by repeat (first | exact aG.refl _ | apply aG.step)⟩
 case round =>
  clear H';obtain ⟨bM,rfl,HA,jY,⟨m1,rfl⟩⟩:=hrel;cases gk with
  | zero=>exact absurd HA.out (by simp [bO.l0])
  | succ k1 =>
   have H:=HA.out;clear HA;simp only [bO.l0] at H;by_cases c4:bM < (l0.length:Int)
   rotate_left
   ·rw [if_neg c4] at H
    have kP:decide (bM < (l0.length:Int))=false:=decide_eq_false c4;clear c4;obtain rfl:=Option.some.inj H;go_wp2;repeat (go_quiet (fail);try go_wp2)
    go_ret;exact ⟨by first | rfl | (simp;done) | (simp [*];done),by repeat (first | exact aG.refl _ | apply aG.step)⟩
   rw [if_pos c4] at H;have kP:decide (bM < (l0.length:Int))=true:=decide_eq_true c4;clear c4;by_cases c5:0<=bM
   rotate_left
   ·rw [if_neg c5] at H
    exact absurd H (by simp)
   rw [if_pos c5] at H;have kN:decide (0<=bM)=true:=decide_eq_true c5;clear c5;by_cases c6:bM < (l1.length:Int)
   rotate_left
   ·rw [if_neg c6] at H
    exact absurd H (by simp)
   rw [if_pos c6] at H;have lJ:decide (bM < (l1.length:Int))=true:=decide_eq_true c6;clear c6;by_cases c7:((aC l0 bM).f0)=((aC l1 bM).f0)
   rotate_left
   ·rw [if_neg c7] at H
    have sJ:(((aC l0 bM).f0)==((aC l1 bM).f0))=false:=beq_eq_false_iff_ne.mpr c7;have KS:(((aC l0 bM).f0) != ((aC l1 bM).f0))=true:=bne_iff_ne.mpr c7;obtain rfl:=Option.some.inj H;have vD:0<=(bM:Int):=of_decide_eq_true (by with_reducible assumption);have vE:bM < (l0.length:Int):=of_decide_eq_true (by with_reducible assumption);obtain ⟨zk,KU,EH,EI,EJ,EK,EL,EM⟩:=bQ iG.out bM vD vE;cases KU
    replace vD:=eq_true vD;replace vE:=eq_true vE;have vF:0<=(bM:Int):=of_decide_eq_true (by with_reducible assumption);have vG:bM < (l1.length:Int):=of_decide_eq_true (by with_reducible assumption);obtain ⟨zm,KV,EN,EO,EP,ER,ES,ET⟩:=bQ HR1.out bM vF vG;cases KV
    replace vF:=eq_true vF;replace vG:=eq_true vG;go_wp2;repeat (go_quiet (fail);try go_wp2)
    go_ret;exact ⟨by first | rfl | (simp;done) | (simp [*];done),by repeat (first | exact aG.refl _ | apply aG.step)⟩
   rw [if_pos c7] at H;have sJ:(((aC l0 bM).f0)==((aC l1 bM).f0))=true:=beq_iff_eq.mpr c7;have KS:(((aC l0 bM).f0) != ((aC l1 bM).f0))=false:=bne_eq_false_iff_eq.mpr c7;clear c7;by_cases c8:((aC l0 bM).f1).toList=((aC l1 bM).f1).toList
   rotate_left
   ·rw [if_neg c8] at H
    have zO:(((aC l0 bM).f1).toList==((aC l1 bM).f1).toList)=false:=beq_eq_false_iff_ne.mpr c8;have Iu:(((aC l0 bM).f1).toList != ((aC l1 bM).f1).toList)=true:=bne_iff_ne.mpr c8;obtain rfl:=Option.some.inj H;have vD:0<=(bM:Int):=of_decide_eq_true (by with_reducible assumption);have vE:bM < (l0.length:Int):=of_decide_eq_true (by with_reducible assumption);obtain ⟨zk,KU,EH,EI,EJ,EK,EL,EM⟩:=bQ iG.out bM vD vE;cases KU
    replace vD:=eq_true vD;replace vE:=eq_true vE;have vF:0<=(bM:Int):=of_decide_eq_true (by with_reducible assumption);have vG:bM < (l1.length:Int):=of_decide_eq_true (by with_reducible assumption);obtain ⟨zm,KV,EN,EO,EP,ER,ES,ET⟩:=bQ HR1.out bM vF vG;cases KV
    replace vF:=eq_true vF;replace vG:=eq_true vG;have AX:0<=(bM:Int):=of_decide_eq_true (by with_reducible assumption);have AY:bM < (l0.length:Int):=of_decide_eq_true (by with_reducible assumption);obtain ⟨Iw,Rs,Nj,Nk,Nl,Nn,Np,Nq⟩:=bQ iG.out bM AX AY;obtain rfl:zk=Iw:=(by injection Rs);replace AX:=eq_true AX;replace AY:=eq_true AY;have AZ:0<=(bM:Int):=of_decide_eq_true (by with_reducible assumption);have Ba:bM < (l1.length:Int):=of_decide_eq_true (by with_reducible assumption);obtain ⟨Iy,Rt,Nr,Ns,Nt,Nu,Nv,Nw⟩:=bQ HR1.out bM AZ Ba;obtain rfl:zm=Iy:=(by injection Rt);replace AZ:=eq_true AZ;replace Ba:=eq_true Ba;go_wp2;repeat (go_quiet (fail);try go_wp2)
    go_ret;exact ⟨by first | rfl | (simp;done) | (simp [*];done),by repeat (first | exact aG.refl _ | apply aG.step)⟩
   rw [if_pos c8] at H;have zO:(((aC l0 bM).f1).toList==((aC l1 bM).f1).toList)=true:=beq_iff_eq.mpr c8;have Iu:(((aC l0 bM).f1).toList != ((aC l1 bM).f1).toList)=false:=bne_eq_false_iff_eq.mpr c8;clear c8;by_cases c9:(((aC l0 bM).f2) != ((aC l1 bM).f2))=true
   ·rw [if_pos c9] at H
    have KW:(((aC l0 bM).f2) != ((aC l1 bM).f2))=true:=c9
    (try (have aaZ:decide (((aC l0 bM).f2)=((aC l1 bM).f2))=false:=by simpa using c9))
    (try (have aix:(((aC l0 bM).f2)==((aC l1 bM).f2))=false:=by simpa using c9))
    (try (have alg:¬ (((aC l0 bM).f2)=((aC l1 bM).f2)):=by simpa using c9))
    clear c9;obtain rfl:=Option.some.inj H;have vD:0<=(bM:Int):=of_decide_eq_true (by with_reducible assumption);have vE:bM < (l0.length:Int):=of_decide_eq_true (by with_reducible assumption);obtain ⟨zk,KU,EH,EI,EJ,EK,EL,EM⟩:=bQ iG.out bM vD vE;cases KU
    replace vD:=eq_true vD;replace vE:=eq_true vE;have vF:0<=(bM:Int):=of_decide_eq_true (by with_reducible assumption);have vG:bM < (l1.length:Int):=of_decide_eq_true (by with_reducible assumption);obtain ⟨zm,KV,EN,EO,EP,ER,ES,ET⟩:=bQ HR1.out bM vF vG;cases KV
    replace vF:=eq_true vF;replace vG:=eq_true vG;have AX:0<=(bM:Int):=of_decide_eq_true (by with_reducible assumption);have AY:bM < (l0.length:Int):=of_decide_eq_true (by with_reducible assumption);obtain ⟨Iw,Rs,Nj,Nk,Nl,Nn,Np,Nq⟩:=bQ iG.out bM AX AY;obtain rfl:zk=Iw:=(by injection Rs);replace AX:=eq_true AX;replace AY:=eq_true AY;have AZ:0<=(bM:Int):=of_decide_eq_true (by with_reducible assumption);have Ba:bM < (l1.length:Int):=of_decide_eq_true (by with_reducible assumption);obtain ⟨Iy,Rt,Nr,Ns,Nt,Nu,Nv,Nw⟩:=bQ HR1.out bM AZ Ba;obtain rfl:zm=Iy:=(by injection Rt);replace AZ:=eq_true AZ;replace Ba:=eq_true Ba;have KX:0<=(bM:Int):=of_decide_eq_true (by with_reducible assumption);have KY:bM < (l0.length:Int):=of_decide_eq_true (by with_reducible assumption);obtain ⟨Ru,abb,Wx,Wy,Wz,WA,WC,WE⟩:=bQ iG.out bM KX KY;obtain rfl:zk=Ru:=(by injection abb);replace KX:=eq_true KX;replace KY:=eq_true KY;have KZ:0<=(bM:Int):=of_decide_eq_true (by with_reducible assumption);have La:bM < (l1.length:Int):=of_decide_eq_true (by with_reducible assumption);obtain ⟨Rv,abd,WG,WH,WI,WJ,WK,WL⟩:=bQ HR1.out bM KZ La;obtain rfl:zm=Rv:=(by injection abd);replace KZ:=eq_true KZ;replace La:=eq_true La;go_wp2;repeat (go_quiet (fail);try go_wp2)
    go_ret;exact ⟨by first | rfl | (simp;done) | (simp [*];done),by repeat (first | exact aG.refl _ | apply aG.step)⟩
   rw [if_neg c9] at H;have KW:(((aC l0 bM).f2) != ((aC l1 bM).f2))=false:=by simpa using c9
   (try (have aaZ:decide (((aC l0 bM).f2)=((aC l1 bM).f2))=true:=by simpa using c9))
   (try (have aix:(((aC l0 bM).f2)==((aC l1 bM).f2))=true:=by simpa using c9))
   clear c9;have H':=ah.mk H;clear H;have vD:0<=(bM:Int):=of_decide_eq_true (by with_reducible assumption);have vE:bM < (l0.length:Int):=of_decide_eq_true (by with_reducible assumption);obtain ⟨zk,KU,EH,EI,EJ,EK,EL,EM⟩:=bQ iG.out bM vD vE;cases KU
   replace vD:=eq_true vD;replace vE:=eq_true vE;have vF:0<=(bM:Int):=of_decide_eq_true (by with_reducible assumption);have vG:bM < (l1.length:Int):=of_decide_eq_true (by with_reducible assumption);obtain ⟨zm,KV,EN,EO,EP,ER,ES,ET⟩:=bQ HR1.out bM vF vG;cases KV
   replace vF:=eq_true vF;replace vG:=eq_true vG;have AX:0<=(bM:Int):=of_decide_eq_true (by with_reducible assumption);have AY:bM < (l0.length:Int):=of_decide_eq_true (by with_reducible assumption);obtain ⟨Iw,Rs,Nj,Nk,Nl,Nn,Np,Nq⟩:=bQ iG.out bM AX AY;obtain rfl:zk=Iw:=(by injection Rs);replace AX:=eq_true AX;replace AY:=eq_true AY;have AZ:0<=(bM:Int):=of_decide_eq_true (by with_reducible assumption);have Ba:bM < (l1.length:Int):=of_decide_eq_true (by with_reducible assumption);obtain ⟨Iy,Rt,Nr,Ns,Nt,Nu,Nv,Nw⟩:=bQ HR1.out bM AZ Ba;obtain rfl:zm=Iy:=(by injection Rt);replace AZ:=eq_true AZ;replace Ba:=eq_true Ba;have KX:0<=(bM:Int):=of_decide_eq_true (by with_reducible assumption);have KY:bM < (l0.length:Int):=of_decide_eq_true (by with_reducible assumption);obtain ⟨Ru,abb,Wx,Wy,Wz,WA,WC,WE⟩:=bQ iG.out bM KX KY;obtain rfl:zk=Ru:=(by injection abb);replace KX:=eq_true KX;replace KY:=eq_true KY;have KZ:0<=(bM:Int):=of_decide_eq_true (by with_reducible assumption);have La:bM < (l1.length:Int):=of_decide_eq_true (by with_reducible assumption);obtain ⟨Rv,abd,WG,WH,WI,WJ,WK,WL⟩:=bQ HR1.out bM KZ La;obtain rfl:zm=Rv:=(by injection abd);replace KZ:=eq_true KZ;replace La:=eq_true La;go_wp2;repeat (go_quiet (fail);try go_wp2)
   go_roundg k1
   case measure=>have:=jY.out;omega
   case rel=>exact ⟨(wrap64 (bM+1)),(by first | rfl | (simp;done) | (simp [*];done)),H',⟨by have:=jY.out;omega⟩,by repeat (first | exact aG.refl _ | apply aG.step)⟩
end Go.Proofs.YtkkpjonfaflkmaaGreatDoor.T
namespace Go.Proofs.YtkkpjonfaflkmaaGreatDoor.S
def sym (c:Int):Bool:=(decide (97<=c)&&decide (c<=122))||(decide (65<=c)&&decide (c<=90))||(decide (48<=c)&&decide (c<=57))||decide (c=46)||decide (c=95)||decide (c=33)||decide (c=63)
def kH (c:Int):Bool:=decide (48<=c)&&decide (c<=57)
def iT (c:Int):Bool:=decide (32<=c)&&decide (c<=126)
def up (c:Int):Int:=if 97<=c/\c<=122 then c - 32 else c
inductive CR where
 | eof
 | done (at_ line bad:Nat)
deriving DecidableEq
def jD:List Int->(i deep line bad:Nat)->CR
 | [],_,_,_,_=>.eof
 | [_],_,_,_,_=>.eof
 | c::d::t,i,deep,line,bad =>
  if c=47/\d=42 then jD t (i+2) (deep+1) line bad
  else if c=42/\d=47 then (if deep=1 then .done (i+2) line bad else jD t (i+2) (deep - 1) line bad)
  else jD (d::t) (i+1) deep (if c=10 then line+1 else line) (if c≠10/\iT c=false/\bad=0 then line else bad)
def lit (q:Int):List Int->Nat->List Int->Option (List Int × Nat)
 | [],_,_=>none
 | [c],i,acc=>if c=10 then none else if c=q then some (acc,i) else none
 | c::d::t,i,acc =>
  if c=10 then none
  else if c=q then (if d=q then lit q t (i+2) (acc++[q]) else some (acc,i))
  else lit q (d::t) (i+1) (acc++[c])
def pY (c:Int):Int:=if 48<=c/\c<=57 then c - 48 else if 97<=c/\c<=102 then c - 87 else if 65<=c/\c<=70 then c - 55 else -1
def su (base:Int):List Int->Int->Option Int
 | [],n=>some n
 | c::t,n=>if pY c < 0\/base<=pY c then none else su base t (n*base+pY c)
def lK (base:Int) (w:Nat):Nat->List Int->Option (List Int)
 | 0,_=>some []
 | k+1,xs=>match su base (xs.take w) 0 with
  | none=>none
  | some n=>if iT n=true then (lK base w k (xs.drop w)).map (n::·) else none
def decode (base:Int) (w:Nat) (xs:List Int):Option (List Int):=if xs.length % w≠0 then none else lK base w (xs.length / w) xs
inductive TR where
 | err (code:Nat)
 | ok (text:List Int) (n:Nat)
deriving DecidableEq
def kF (c:Int):Nat:=if c=88\/c=120 then 4 else if c=66\/c=98 then 1 else 0
def sfx:List Int->Nat
 | []=>0
 | [c]=>kF c
 | c::d::_=>if sym d=true then 0 else kF c
def jR (v:List Int) (n:Nat):TR:=if 1000 < v.length then .err 30 else .ok v n
def eU (v:List Int) (sx:Nat):Option (List Int):=if sx=4 then decode 16 2 v else decode 2 8 v
def dZ:List Int->TR
 | []=>.err 6
 | q::t=>match lit q t 1 [] with
  | none=>.err 6
  | some (v,i) =>
   if v.all iT=true then
    (if sfx ((q::t).drop (i+1))=0 then jR v (i+1) else match eU v (sfx ((q::t).drop (i+1))) with
     | none=>.err 15
     | some u=>jR u (i+2))
   else .err 13
def run (p:Int->Bool):List Int->Nat
 | []=>0
 | c::t=>if p c=true then run p t+1 else 0
def ni (xs:List Int):Bool :=
 match xs.getLast? with
 | none=>false
 | some e=>(decide (e=69)||decide (e=101))&&xs.dropLast.all (fun c=>kH c||decide (c=46))&&xs.dropLast.any kH&&decide (xs.dropLast.count 46<=1)
def nI:List Int->Bool
 | c::d::_=>(decide (c=43)||decide (c=45))&&kH d
 | _=>false
def dH (xs:List Int):Nat:=if ni (xs.take (run sym xs))=true/\nI (xs.drop (run sym xs))=true then run sym xs+1+run kH (xs.drop (run sym xs+1)) else run sym xs
def iH (xs:List Int):TR:=if 40 < dH xs then .err 30 else .ok ((xs.take (dH xs)).map up) (dH xs)
def signs:List (List Int):=[[92,61,61],[92,62,62],[92,60,60],[62,62,61],[60,60,61],[42,42],[47,47],[124,124],[38,38],[61,61],[92,61],[92,62],[92,60],[62,61],[60,61],[62,62],[60,60],[62,60],[60,62],
 [43],[45],[42],[47],[37],[124],[38],[61],[62],[60],[92],[40],[41],[44],[58],[59]]
def gJ (xs:List Int):TR:=match signs.find? (fun x=>x.isPrefixOf xs) with
 | none=>.err 13
 | some x=>.ok x x.length
inductive Step where
 | fin
 | line
 | blank
 | jD (n dl:Nat)
 | tok (kind:Nat) (text:List Int) (n:Nat)
 | err (code dl:Nat)
deriving DecidableEq
def gK (k:Nat):TR->Step
 | .err c=>.err c 0
 | .ok t n=>.tok k t n
def gX:CR->Step
 | .eof=>.err 6 0
 | .done i l bad=>if bad=0 then .jD i (l - 1) else .err 13 (bad - 1)
def st2 (a b:Int):List Int->Bool
 | c::d::_=>decide (c=a)&&decide (d=b)
 | _=>false
def dQ:List Int->Bool
 | c::d::_=>decide (c=47)&&decide (d=42)
 | _=>false
theorem Bb (xs:List Int):dQ xs=st2 47 42 xs:=by rcases xs with _ | ⟨_,_ | ⟨_,_⟩⟩<;>rfl
def step (xs:List Int):Step:=match xs with
 | []=>.fin
 | c::t =>
  if c=10 then .line
  else if c=32 then .blank
  else if dQ (c::t)=true then gX (jD (c::t) 0 0 1 0)
  else if c=39\/c=34 then gK 2 (dZ (c::t))
  else if sym c=true then gK 1 (iH (c::t))
  else gK 3 (gJ (c::t))
structure Tk where
 kind:Nat
 text:List Int
 gap:Bool
 line:Nat
 at_:Nat
 «to»:Nat
deriving DecidableEq
def comma (l:List Tk):Bool:=match l.getLast? with
 | none=>false
 | some t=>decide (t.kind=3)&&decide (t.text=[44])
def label:List Tk->Bool
 | [a,b]=>decide (a.kind=1)&&decide (b.kind=3)&&decide (b.text=[58])
 | _=>false
def oK (i j line:Nat):Tk:=⟨4,[],false,line,i,j⟩
def emit (cur:List Tk) (i j line:Nat):List (List Tk):=if cur=[] then [] else [cur++[oK i j line]]
def cut (cur:List Tk):List Tk:=if comma cur=true then cur.dropLast else cur
structure Out where
 cl:List (List Tk)
 err:Option (Nat × Nat)
deriving DecidableEq
def Out.pre (l:List (List Tk)) (o:Out):Out:=⟨l++o.cl,o.err⟩
def go:Nat->List Int->(i line:Nat)->List Tk->Bool->Out
 | 0,_,_,_,_,_=>⟨[],none⟩
 | f+1,xs,i,line,cur,gap=>match step xs with
  | .fin=>⟨emit (cut cur) i i line,none⟩
  | .line=>if comma cur=true then go f (xs.drop 1) (i+1) (line+1) cur.dropLast true else (go f (xs.drop 1) (i+1) (line+1) [] false).pre (emit cur i (i+1) line)
  | .blank=>go f (xs.drop 1) (i+1) line cur true
  | .jD n dl=>go f (xs.drop n) (i+n) (line+dl) cur gap
  | .tok k t n =>
   if k=3/\t=[59] then (go f (xs.drop n) (i+n) line [] false).pre (emit cur i (i+n) line)
   else if label (cur++[⟨k,t,gap&&!decide (cur=[]),line,i,i+n⟩])=true then
    (go f (xs.drop n) (i+n) line [] false).pre (emit (cur++[⟨k,t,gap&&!decide (cur=[]),line,i,i+n⟩]) (i+n) (i+n) line)
   else go f (xs.drop n) (i+n) line (cur++[⟨k,t,gap&&!decide (cur=[]),line,i,i+n⟩]) false
  | .err code dl=>⟨if cur=[] then [] else [cur],some (code,line+dl)⟩
def scan (xs:List Int):Out:=go (xs.length+1) xs 0 1 [] false
def tokens (xs:List Int):List Tk:=(scan xs).cl.flatten
end Go.Proofs.YtkkpjonfaflkmaaGreatDoor.S
namespace Go.Proofs.YtkkpjonfaflkmaaGreatDoor.T
open Go.RowKit Go.Proofs.aj.aI Go.Proofs.aj.aY Go.Proofs.aj.bq
def Buf (g:Nat) (xs:List Int) (W:World):Prop :=
 ∃ (c:Array Value) (e lo hi:Nat),W.heap[g]?=some (.cells c e (lo,hi))/\(xs.length<=lo\/hi=0)/\∀ j,j < xs.length->c[j]?=some (.int .u8 (xs.getD j 0))
theorem Buf.new (W:World) (s:ByteArray):Buf W.heap.size (bytesOf s) (Lib.bytesWorld W 5 s):=by
 refine ⟨_,_,_,_,Lib.bytesWorld_at_new W 5 s,.inl ?_,fun j hj=>?_⟩
 ·rw [bytesOf_length]
  simp [Lib.bytesCells]
 ·rw [bytesOf_length] at hj
  have h:=Lib.bytesWorld_cell W 5 s j hj;simp only [World.cell?,Lib.bytesWorld_at_new] at h;have h':j < s.data.toList.length:=by rw [jQ];exact hj
  rw [show (Lib.bytesCells W 5 s)[j]?=some (.int .u8 (s.data.toList.getD j 0).toNat) from h];simp [bytesOf,List.getD_eq_getElem?_getD,List.getElem?_eq_getElem h']
theorem Buf.cell {g:Nat} {xs:List Int} {W:World} (h:Buf g xs W) (j:Nat) (hj:j < xs.length):W.cell? ⟨g,j,none⟩=some (.int .u8 (xs.getD j 0)):=by
 obtain ⟨c,e,lo,hi,hg,hl,hc⟩:=h;simp only [World.cell?,hg];exact hc j hj
theorem Buf.free {g:Nat} {xs:List Int} {W:World} (h:Buf g xs W) (j:Nat) (hj:j < xs.length):W.frozen? ⟨g,j,none⟩=false:=by
 obtain ⟨c,e,lo,hi,hg,hl,hc⟩:=h;simp only [World.frozen?,hg];rcases hl with hl | rfl
 ·have:¬ lo<=j:=by omega
  simp [this]
 ·simp
theorem Buf.set {g:Nat} {xs:List Int} {W:World} (h:Buf g xs W) (j:Nat) (x:Int) (hj:j < xs.length):Buf g (xs.set j x) (W.setCell ⟨g,j,none⟩ (.int .u8 x)):=by
 obtain ⟨c,e,lo,hi,hg,hl,hc⟩:=h;refine ⟨c.setIfInBounds j (.int .u8 x),e,lo,hi,Lib.heap_setCell_same hg _,by rw [List.length_set];exact hl,fun k hk=>?_⟩;rw [List.length_set] at hk;rw [Array.getElem?_setIfInBounds];by_cases e1:j=k
 ·subst e1
  have h1:j < c.size:=(Array.getElem?_eq_some_iff.1 (hc j hj)).1;simp [h1,List.getD_eq_getElem?_getD,hj]
 simp only [e1,if_false];rw [hc k hk];simp [List.getD_eq_getElem?_getD,e1]
theorem Buf.reads {g:Nat} {xs:List Int} {W:World} (h:Buf g xs W) (hl:xs.length<=9223372036854775807):fD W .u8 (some ⟨g,0,none⟩) xs.length xs :=
 ⟨rfl,hl,fun _=>⟨_,rfl,fun j hj=>by rw [add_plain];exact h.cell j hj⟩⟩
theorem Buf.drewN {g:Nat} {xs:List Int} {W:World} (h:Buf g xs W) (n:Nat):Buf g xs (W.drewN n):=h
theorem Buf.drawn {g:Nat} {xs:List Int} {W W':World} (h:Buf g xs W) (hd:aG W W'):Buf g xs W':=by
 obtain ⟨n,rfl⟩:=hd.out;exact h
theorem Buf.blk {g:Nat} {xs:List Int} {W W':World} (h:Buf g xs W) (e:W'.heap[g]?=W.heap[g]?):Buf g xs W':=by
 obtain ⟨c,t,lo,hi,hg,hl,hc⟩:=h;exact ⟨c,t,lo,hi,e.trans hg,hl,hc⟩
theorem um (s:ByteArray) (k:Nat) (hk:k < s.size):bt s (k:Int)=(bytesOf s).getD k 0:=by
 have h':k < s.data.toList.length:=by rw [jQ];exact hk
 simp [bt,hk,bytesOf,List.getD_eq_getElem?_getD,List.getElem?_eq_getElem h']
 rfl
theorem eG (s:ByteArray) (x:Int) (h:x∈bytesOf s):0<=x/\x < 256:=by
 simp only [bytesOf,List.mem_map] at h;obtain ⟨b,_,rfl⟩:=h;have:=b.toNat_lt;omega
def gy (f:Int->Int) (k:Nat) (xs:List Int):List Int:=(xs.take k).map f++xs.drop k
theorem eu (f:Int->Int) (k:Nat) (xs:List Int):(gy f k xs).length=xs.length:=by
 simp [gy];omega
theorem uQ (f:Int->Int) (xs:List Int):gy f 0 xs=xs:=by simp [gy]
theorem wG (f:Int->Int) (xs:List Int):gy f xs.length xs=xs.map f:=by simp [gy]
theorem pK (f:Int->Int) (k:Nat) (xs:List Int) (hk:k < xs.length):(gy f k xs).getD k 0=xs.getD k 0:=by
 have h1:((xs.take k).map f).length=k:=by simp;omega
 simp only [gy,List.getD_eq_getElem?_getD];rw [List.getElem?_append_right (by omega),h1];simp
theorem wH (f:Int->Int) (k:Nat) (xs:List Int) (hk:k < xs.length):(gy f k xs).set k (f (xs.getD k 0))=gy f (k+1) xs:=by
 have h1:((xs.take k).map f).length=k:=by simp;omega
 unfold gy;have h2:xs.take (k+1)=xs.take k++[xs[k]]:=by rw [List.take_add_one,List.getElem?_eq_getElem hk];rfl
 rw [List.set_append_right _ _ (by omega),h1,Nat.sub_self,List.drop_eq_getElem_cons hk,List.set_cons_zero,h2,List.map_append,List.append_assoc];simp [List.getD_eq_getElem?_getD,List.getElem?_eq_getElem hk]
theorem kQ (xs:List Int) (k:Nat) (hk:k < xs.length):xs.getD k 0∈xs:=by
 have h1:xs.getD k 0=xs[k]:=by simp [List.getD_eq_getElem?_getD,List.getElem?_eq_getElem hk]
 rw [h1];exact List.getElem_mem hk
def Sc (s:Nat) (src:ByteArray) (i line:Int) (m:Value) (w:World):Prop:=w.heap[s]?=some (.cells #[.string src,.int .i64 i,.int .i64 line,m] 93 (0,0))
theorem Sc.c0 {s:Nat} {src:ByteArray} {i line:Int} {m:Value} {w:World} (h:Sc s src i line m w):w.cell? ⟨s,0,none⟩=some (.string src):=(au h 0).trans rfl
theorem Sc.c1 {s:Nat} {src:ByteArray} {i line:Int} {m:Value} {w:World} (h:Sc s src i line m w):w.cell? ⟨s,1,none⟩=some (.int .i64 i):=(au h 1).trans rfl
theorem Sc.c2 {s:Nat} {src:ByteArray} {i line:Int} {m:Value} {w:World} (h:Sc s src i line m w):w.cell? ⟨s,2,none⟩=some (.int .i64 line):=(au h 2).trans rfl
theorem Sc.c3 {s:Nat} {src:ByteArray} {i line:Int} {m:Value} {w:World} (h:Sc s src i line m w):w.cell? ⟨s,3,none⟩=some m:=(au h 3).trans rfl
theorem Sc.fr {s:Nat} {src:ByteArray} {i line:Int} {m:Value} {w:World} (h:Sc s src i line m w) (j:Nat):w.frozen? ⟨s,j,none⟩=false:=aA h j
theorem Sc.lt {s:Nat} {src:ByteArray} {i line:Int} {m:Value} {w:World} (h:Sc s src i line m w):s < w.heap.size:=(Array.getElem?_eq_some_iff.1 h).1
theorem Sc.set1 {s:Nat} {src:ByteArray} {i line:Int} {m:Value} {w:World} (h:Sc s src i line m w) (x:Int):Sc s src x line m (w.setCell ⟨s,1,none⟩ (.int .i64 x)):=aW (cs:=#[.string src,.int .i64 i,.int .i64 line,m]) h 1 _ rfl
theorem Sc.set2 {s:Nat} {src:ByteArray} {i line:Int} {m:Value} {w:World} (h:Sc s src i line m w) (x:Int):Sc s src i x m (w.setCell ⟨s,2,none⟩ (.int .i64 x)):=aW (cs:=#[.string src,.int .i64 i,.int .i64 line,m]) h 2 _ rfl
theorem Sc.drawn {s:Nat} {src:ByteArray} {i line:Int} {m:Value} {w w':World} (h:Sc s src i line m w) (hd:aG w w'):Sc s src i line m w':=by obtain ⟨n,rfl⟩:=hd.out;exact h
theorem Sc.below {s:Nat} {src:ByteArray} {i line:Int} {m:Value} {w w':World} (h:Sc s src i line m w) (hb:Below w.heap.size w w'):Sc s src i line m w':=(hb.block _ h.lt).trans h
def fl (code line:Int):Value:=.iface 76 (.agg #[.int .i64 code,.int .i64 line])
def Fails (code line:Int):Ending:=.panicked [{ v:=fl code line,recovered:=false }]
theorem kg.calls (p:Value) (c l:Int) (w:World):Calls Tryz.prog 97 #[p,.int .i64 c,.int .i64 l] w fun e w'=>e=Fails c l/\w'=w:=by
 unfold Fails fl;go_enter Tryz.func97,Tryz.ntmps97
 go_wp2;exact ⟨rfl,rfl,rfl⟩
theorem drop_at (L:List Int) (k:Nat) (hk:k < L.length):L.drop k=L.getD k 0::L.drop (k+1):=by
 rw [List.drop_eq_getElem_cons hk];simp [List.getD_eq_getElem?_getD,List.getElem?_eq_getElem hk]
def Rw (g:Nat) (p:Int->Bool):Prop:=∀ (W:World) (x:Int),0<=x->x < 256->Calls Tryz.prog g #[.int .u8 x] W fun e W'=>e=.returned (.bool (p x))/\aG W W'
set_option maxHeartbeats 2000000 in
theorem Iz.calls (s:Nat) (src:ByteArray) (i line:Int) (m:Value) (frm:Nat) (g:Nat) (p:Int->Bool) (w:World) (hsz:src.size<=1000000) (hf:frm<=src.size)
  (eg:∀ args w,(callFunc g args).run Tryz.prog w=.ok (.enter g args) w) (hp:Rw g p) (h:Sc s src i line m w) :
  Calls Tryz.prog 94 #[.pointer (some ⟨s,0,none⟩),.int .i64 frm,.func (.func g) #[] #[]] w fun e w'=>e=.returned (.int .i64 ((frm+S.run p ((bytesOf src).drop frm):Nat):Int))/\aG w w':=by
 have HP:=ah.mk hp;have HS:=ah.mk h;clear hp h;obtain ⟨n,hn⟩:∃ n,src.size=n:=⟨_,rfl⟩;obtain ⟨L,hL⟩:∃ L,bytesOf src=L:=⟨_,rfl⟩;have HN:ah (L.length=n):=⟨by rw [<- hL,bytesOf_length];exact hn⟩;rw [hL];obtain ⟨R,hR⟩:∃ R:Nat,frm+S.run p (L.drop frm)=R:=⟨_,rfl⟩;rw [hR];have HR:=ah.mk hR;have HL:=ah.mk hL;clear hR hL;rw [hn] at hsz hf;go_enter Tryz.func94,Tryz.ntmps94
 go_wp2;go_loopg [1] n (fun gg s1 wr=>∃ kk:Nat,kk<=n/\n - kk<=gg/\s1=.int .i64 kk/\ah (aG w wr)/\ah (kk+S.run p (L.drop kk)=R))
 case atStart=>exact ⟨frm,hf,by omega,rfl,⟨.refl _⟩,HR⟩
 case round =>
  obtain ⟨kk,hkk,hg,rfl,HB,HA⟩:=hrel;have c0:=(HS.out.drawn HB.out).c0;by_cases hlt:kk < n
  rotate_left
  ·have hltz:¬ (kk:Int) < (n:Int):=by omega
   have hkn:kk=n:=by omega
   subst hkn;go_wp2;go_ret;refine ⟨?_,HB.out⟩;have:=HA.out;rw [List.drop_eq_nil_of_le (by have:=HN.out;omega)] at this;simp only [S.run] at this;have e:kk=R:=by omega
   rw [e];rfl
  have hltz:(kk:Int) < (n:Int):=by omega
  have hl:kk < src.size:=by omega
  have hx:((src[kk]'hl).toNat:Int)=bt src (kk:Int):=by simp [bt,hl]
  have hr:=Az src (kk:Int);have hy0:bt src (kk:Int)=L.getD kk 0:=by rw [<- HL.out];exact um src kk hl
  have HD:=ah.mk (drop_at L kk (by have:=HN.out;omega));rw [<- hy0] at HD;generalize bt src (kk:Int)=y at hx hr HD;have hcall:=HP.out wr y hr.1 (by omega);clear hr hy0;cases hq:p y with
  | true =>
   rw [hq] at hcall;have HC:=Lib.hid hcall;have HQ:=ah.mk hq;clear hcall hq;go_wp2_with (go_at_fn g;refine HC.out.mono ?_;rintro e w' ⟨rfl,⟨⟨q,rfl⟩⟩⟩)
   go_roundg (n - (kk+1))
   case measure=>omega
   case rel =>
    refine ⟨kk+1,by omega,by omega,by go_num,⟨HB.out.step q⟩,⟨?_⟩⟩;have:=HA.out;rw [HD.out] at this;simp only [S.run,HQ.out,if_true] at this;omega
  | false =>
   rw [hq] at hcall;have HC:=Lib.hid hcall;have HQ:=ah.mk hq;clear hcall hq;go_wp2_with (go_at_fn g;refine HC.out.mono ?_;rintro e w' ⟨rfl,⟨⟨q,rfl⟩⟩⟩)
   go_ret;refine ⟨?_,HB.out.step q⟩;have:=HA.out;rw [HD.out] at this;simp only [S.run,HQ.out,Bool.false_eq_true,if_false] at this;have e:kk=R:=by omega
   rw [e];rfl
structure But (A:Nat->Prop) (w w':World):Prop where
 os:w'.os=w.os
 tape:w'.tape=w.tape
 output:w'.output=w.output
 size:w.heap.size<=w'.heap.size
 block:∀ k,k < w.heap.size->¬ A k->w'.heap[k]?=w.heap[k]?
theorem But.refl (A:Nat->Prop) (w:World):But A w w:=⟨rfl,rfl,rfl,Nat.le_refl _,fun _ _ _=>rfl⟩
theorem But.trans {A B C:Nat->Prop} {w w' w'':World} (h:But A w w') (h':But B w' w'') (hA:∀ k,k < w.heap.size->A k->C k) (hB:∀ k,k < w.heap.size->B k->C k):But C w w'' :=
 ⟨h'.os.trans h.os,h'.tape.trans h.tape,h'.output.trans h.output,Nat.le_trans h.size h'.size,fun k hk hc=>(h'.block k (Nat.lt_of_lt_of_le hk h.size) (fun e=>hc (hB k hk e))).trans (h.block k hk (fun e=>hc (hA k hk e)))⟩
theorem But.trans' {A:Nat->Prop} {w w' w'':World} (h:But A w w') (h':But A w' w''):But A w w'':=h.trans h' (fun _ _ e=>e) (fun _ _ e=>e)
theorem But.mono {A B:Nat->Prop} {w w':World} (h:But A w w') (hA:∀ k,k < w.heap.size->A k->B k):But B w w':=⟨h.os,h.tape,h.output,h.size,fun k hk hb=>h.block k hk (fun e=>hb (hA k hk e))⟩
theorem But.of_below {A:Nat->Prop} {w w':World} (h:Below w.heap.size w w'):But A w w':=⟨h.os,h.tape,h.output,h.size,fun k hk _=>h.block k hk⟩
theorem But.below {w w':World} (h:But (fun _=>False) w w'):Below w.heap.size w w':=⟨h.os,h.tape,h.output,h.size,fun k hk=>h.block k hk (fun e=>e)⟩
theorem But.jS {A:Nat->Prop} {B:Nat} {w w':World} (h:But A w w') (hB:B<=w.heap.size) (hA:∀ k,k < B->¬ A k):Below B w w':=⟨h.os,h.tape,h.output,h.size,fun k hk=>h.block k (by omega) (hA k hk)⟩
theorem But.then {A:Nat->Prop} {w w' w'':World} (h:But A w w') (h':Below w'.heap.size w' w''):But A w w'':=h.trans' (.of_below h')
theorem But.set {A:Nat->Prop} {w w':World} (h:But A w w') (a:Addr) (v:Value) (ha:A a.block):But A w (w'.setCell a v):=by
 have hg:w'.grownBy (w'.setCell a v) (some a.block):=⟨rfl,rfl,rfl,by simp [World.setCell],fun k _ hk=>Below.heap_setCell w' a v k (fun e=>hk (by rw [e]))⟩;exact ⟨hg.os.trans h.os,hg.tape.trans h.tape,hg.output.trans h.output,Nat.le_trans h.size hg.size,fun k hk hn=>(hg.block k (Nat.lt_of_lt_of_le hk h.size) (fun e=>hn (by cases e;exact ha))).trans (h.block k hk hn)⟩
theorem But.drewN {A:Nat->Prop} {w w':World} (h:But A w w') (n:Nat):But A w (w'.drewN n):=⟨h.os,h.tape,h.output,h.size,h.block⟩
theorem But.drew {A:Nat->Prop} {w w':World} (h:But A w w'):But A w w'.drew:=⟨h.os,h.tape,h.output,h.size,h.block⟩
theorem But.drawn {A:Nat->Prop} {w w' w'':World} (h:But A w w') (hd:aG w' w''):But A w w'':=by obtain ⟨n,rfl⟩:=hd.out;exact h.drewN n
theorem But.alloc {A:Nat->Prop} {w w':World} (h:But A w w') (o:Obj):But A w (w'.alloc o):=h.then (av (Below.refl _ _) o)
structure dR (w:World):Prop where
 most:∃ m,w.cell? ⟨0,0,none⟩=some (.int .i64 m)
 space:Lib.TabIs Tryz.prog w "strings.asciiSpace" .u8 Lib.asciiSpaceTab
 white:Lib.WhiteTab 2 w
theorem dR.of_below {w w':World} (h:dR w) (hb:Below w.heap.size w w'):dR w' where
 most:=by
  obtain ⟨m,hm⟩:=h.most;exact ⟨m,nC hb hm⟩
 space:=by
  have h:=h.space;have hgn:Tryz.prog.globalNamed "strings.asciiSpace"=some 1:=by kernel_rfl
  unfold Lib.TabIs World.var? at h |-
  rw [hgn] at h |-
  simp only [Option.bind_some] at h |-
  have hlt:1 < w.heap.size:=by
   rcases Nat.lt_or_ge 1 w.heap.size with h' | h'
   ·exact h'
   ·rw [Array.getElem?_eq_none h'] at h;cases h
  rw [hb.block 1 hlt];exact h
 white:=WhiteTab_below h.white hb
theorem Bc {P:Program} {W:World} {name:String} {k:IntKind} {zs:List Int} {g:Nat} {t e:TypeId} {n:Nat}
  (hg:P.globalNamed name=some g) (hty:(P.globals[g]?).map (·.type)=some t) (ht:P.underlying t=some (.array n e)) (he:P.underlying e=some (.int k)) (hce:P.cellsOf e=1) (hct:P.cellsOf t=n)
  (h:Lib.VarReads P W name (Lib.tabData k zs)):Lib.TabIs P W name k zs:=by
 obtain ⟨g',t',cs,fuel,p,hg',ht',hvar,hd⟩:=h;obtain rfl:=Option.some.inj (hg.symm.trans hg');obtain rfl:=Option.some.inj (hty.symm.trans ht');unfold Lib.TabIs;rw [hvar,<- Lib.cells_of_tab ht he hce hct hd]
theorem Rx (W:World) (hsh:W.ShapedOpen Tryz.prog) (h1:Lib.VarReads Tryz.prog W "strings.asciiSpace" (Lib.tabData .u8 Lib.asciiSpaceTab)) (h2:Lib.VarReads Tryz.prog W "unicode.White_Space" Lib.whiteData):dR W where
 most:=Tryz.laysM155.s1_3 W hsh
 space:=Bc (g:=1) (t:=146) (e:=5) (n:=256) (by kernel_rfl) (by kernel_rfl) (by kernel_rfl) Tryz.underlying5 (by kernel_rfl) (by kernel_rfl) h1
 white:=whiteTab_of_reads Tryz.lays199 ⟨by kernel_rfl,by kernel_rfl,by kernel_rfl,by kernel_rfl,by kernel_rfl,by kernel_rfl,by kernel_rfl,by kernel_rfl⟩ h2
def strings_IndexByte.f (a0:ByteArray) (a1:Int):Option Int:=some (Lib.indexByte a0.data.toList a1.toNat.toUInt8)
theorem strings_IndexByte.calls (a0:ByteArray) (a1:Int) (r:Int) (w:World) (h:strings_IndexByte.f a0 a1=some r) :
  Calls Tryz.prog 93 #[.string a0,.int .u8 a1] w fun e w'=>e=.returned (.int .i64 r)/\aG w w':=by
 obtain rfl:=Option.some.inj h;refine (Tryz.strings_IndexByte a0 a1 w).mono ?_;rintro e w' ⟨rfl,rfl⟩
 exact ⟨rfl,.refl _⟩
def strings_HasPrefix.f (a0 a1:ByteArray):Option Bool:=some (Lib.hasPrefix a0.data.toList a1.data.toList)
theorem strings_HasPrefix.calls (a0 a1:ByteArray) (r:Bool) (w:World) (h:strings_HasPrefix.f a0 a1=some r) :
  Calls Tryz.prog 123 #[.string a0,.string a1] w fun e w'=>e=.returned (.bool r)/\aG w w':=by
 obtain rfl:=Option.some.inj h;refine (Tryz.strings_HasPrefix a0 a1 w).mono ?_;rintro e w' ⟨rfl,rfl⟩
 exact ⟨rfl,.refl _⟩
def strings_Count.f (a0 a1:ByteArray):Option Int :=
 match a1 with
 | ⟨⟨[c]⟩⟩=>some (Lib.countByte a0.data.toList c)
 | _=>none
theorem strings_Count.calls (a0 a1:ByteArray) (r:Int) (w:World) (h:strings_Count.f a0 a1=some r) :
  Calls Tryz.prog 77 #[.string a0,.string a1] w fun e w'=>e=.returned (.int .i64 r)/\aG w w':=by
 unfold strings_Count.f at h;split at h
 ·next c =>
  obtain rfl:=Option.some.inj h;refine (Tryz.strings_Count_one a0 c w).mono ?_;rintro e w' ⟨rfl,rfl⟩
  exact ⟨rfl,.refl _⟩
 ·cases h
def dM.f (a0 a1:ByteArray):Option ByteArray :=
 if a0.size<=100000/\a1.size<=1000/\a1.data.toList.all (fun b=>decide (b.toNat < 128))=true then some ⟨(Lib.trimRightS a0.data.toList a1.data.toList).toArray⟩ else none
theorem Dz (a1:ByteArray) (h:a1.data.toList.all (fun b=>decide (b.toNat < 128))=true):∀ (j:Nat) b,a1.data.toList[j]?=some b->b.toNat < 128:=fun j b hb =>
 of_decide_eq_true (List.all_eq_true.1 h b (List.mem_of_getElem? hb))
theorem dM.calls (a0 a1:ByteArray) (r:ByteArray) (w:World) (h:dM.f a0 a1=some r) :
  Calls Tryz.prog 127 #[.string a0,.string a1] w fun e w'=>e=.returned (.string r)/\Below w.heap.size w w':=by
 unfold dM.f at h;split at h
 ·next hc =>
  obtain rfl:=Option.some.inj h;exact Any.strings_TrimRight_laid Tryz.lays162 (by kernel_rfl) a0 a1 w (by omega) (by omega) (Dz a1 hc.2.2)
 ·cases h
def dL.f (a0 a1:ByteArray):Option ByteArray :=
 if a0.size<=100000/\a1.size<=1000/\a1.data.toList.all (fun b=>decide (b.toNat < 128))=true then some ⟨(Lib.trimS a0.data.toList a1.data.toList).toArray⟩ else none
theorem dL.calls (a0 a1:ByteArray) (r:ByteArray) (w:World) (h:dL.f a0 a1=some r) :
  Calls Tryz.prog 128 #[.string a0,.string a1] w fun e w'=>e=.returned (.string r)/\Below w.heap.size w w':=by
 unfold dL.f at h;split at h
 ·next hc =>
  obtain rfl:=Option.some.inj h;exact Any.strings_Trim_laid Tryz.lays160 (by kernel_rfl) a0 a1 w (by omega) (by omega) (Dz a1 hc.2.2)
 ·cases h
def strings_ReplaceAll.f (a0 a1 a2:ByteArray):Option ByteArray :=
 if a0.size<=100000/\1<=a1.size/\a0.size+Lib.countB a0 a1*a2.size<=100000000 then some ⟨(Lib.replaceAll a0.data.toList a1.data.toList a2.data.toList).toArray⟩ else none
theorem strings_ReplaceAll.calls (a0 a1 a2:ByteArray) (r:ByteArray) (w:World) (hT:dR w) (h:strings_ReplaceAll.f a0 a1 a2=some r) :
  Calls Tryz.prog 105 #[.string a0,.string a1,.string a2] w fun e w'=>e=.returned (.string r)/\Below w.heap.size w w':=by
 unfold strings_ReplaceAll.f at h;split at h
 ·next hc =>
  obtain rfl:=Option.some.inj h;obtain ⟨m,hm⟩:=hT.most;exact Tryz.strings_ReplaceAll a0 a1 a2 m w (by omega) hm hc.2.1 (by omega)
 ·cases h
def strings_Cut.f (a0 a1:ByteArray):Option (ByteArray × ByteArray × Bool) :=
 if a0.size<=100000 then some (⟨(Lib.cut a0.data.toList a1.data.toList).1.toArray⟩,⟨(Lib.cut a0.data.toList a1.data.toList).2.1.toArray⟩,(Lib.cut a0.data.toList a1.data.toList).2.2) else none
theorem strings_Cut.calls (a0 a1:ByteArray) (r1 r2:ByteArray) (r3:Bool) (w:World) (hT:dR w) (h:strings_Cut.f a0 a1=some (r1,r2,r3)) :
  Calls Tryz.prog 61 #[.string a0,.string a1] w fun e w'=>e=.returned (.tuple #[.string r1,.string r2,.bool r3])/\aG w w':=by
 unfold strings_Cut.f at h;split at h
 ·next hc =>
  have h:=Option.some.inj h;simp only [Prod.mk.injEq] at h;obtain ⟨rfl,rfl,rfl⟩:=h;obtain ⟨m,hm⟩:=hT.most;refine (Tryz.strings_Cut a0 a1 m w (by omega) hm).mono ?_;rintro e w' ⟨rfl,n,rfl⟩
  exact ⟨rfl,⟨⟨n,rfl⟩⟩⟩
 ·cases h
end Go.Proofs.YtkkpjonfaflkmaaGreatDoor.T
namespace Go.Proofs.YtkkpjonfaflkmaaGreatDoor.T
open Go.RowKit Go.Proofs.aj.aI Go.Proofs.aj.aY Go.Proofs.aj.bq
attribute [local go_sem] eY eZ gH gI dV dW fq fu
def gB.f (a0:Int):Option (Bool):=if a0>=32 then (some (decide (a0<=126))) else (some false)
set_option maxHeartbeats 8000000 in
set_option maxRecDepth 100000 in
theorem gB.calls (a0:Int) (r:Bool) (w:World) (h:gB.f a0=some r) :
  Calls Tryz.prog 65 #[.int .u8 a0] w fun e w'=>e=.returned (.bool r)/\aG w w':=by
 have H:(if a0>=32 then (some (decide (a0<=126))) else (some false))=some r:=h;clear h;by_cases c2:a0>=32
 ·rw [if_pos c2] at H
  have kX:decide (32<=a0)=true:=decide_eq_true c2;clear c2;obtain rfl:=Option.some.inj H;go_enter Tryz.func65,Tryz.ntmps65
  go_wp2;go_ret;exact ⟨by first | rfl | (simp;done) | (simp [*];done),by repeat (first | exact aG.refl _ | apply aG.step)⟩
 rw [if_neg c2] at H;have kX:decide (32<=a0)=false:=decide_eq_false c2;clear c2;obtain rfl:=Option.some.inj H;go_enter Tryz.func65,Tryz.ntmps65
 go_wp2;go_ret;exact ⟨by first | rfl | (simp;done) | (simp [*];done),by repeat (first | exact aG.refl _ | apply aG.step)⟩
end Go.Proofs.YtkkpjonfaflkmaaGreatDoor.T
namespace Go.Proofs.YtkkpjonfaflkmaaGreatDoor.T
open Go.RowKit Go.Proofs.aj.aI Go.Proofs.aj.aY Go.Proofs.aj.bq
def IB {α:Type} (p:α->Bool) (xs:List α):Int:=match xs.findIdx? p with
 | some i=>(i:Int)
 | none=>-1
theorem Ry {α:Type} (p:α->Bool) (xs:List α) (z:α) (kk:Nat) (hlt:kk < xs.length) (hp:p (xs.getD kk z)=true) (hn:∀ j,j < kk->p (xs.getD j z)=false):IB p xs=(kk:Int):=by
 have h:xs.findIdx? p=some kk:=by
  rw [List.findIdx?_eq_some_iff_getElem];refine ⟨hlt,?_,fun j hj=>?_⟩
  ·have h1:xs.getD kk z=xs[kk]:=by simp [List.getD_eq_getElem?_getD,List.getElem?_eq_getElem hlt]
   rw [h1] at hp;exact hp
  ·have h1:xs.getD j z=xs[j]:=by simp [List.getD_eq_getElem?_getD,List.getElem?_eq_getElem (show j < xs.length by omega)]
   have:=hn j hj;rw [h1] at this;simp [this]
 simp [IB,h]
theorem Pk {α:Type} (p:α->Bool) (xs:List α) (z:α) (hn:∀ j,j < xs.length->p (xs.getD j z)=false):IB p xs=-1:=by
 have h:xs.findIdx? p=none:=by
  rw [List.findIdx?_eq_none_iff];intro x hx
  obtain ⟨j,hj,rfl⟩:=List.mem_iff_getElem.1 hx;have:=hn j hj;simpa [List.getD_eq_getElem?_getD,List.getElem?_eq_getElem hj] using this
 simp [IB,h]
theorem Rz {α:Type} (p:α->Bool) (xs:List α):decide (0<=IB p xs)=xs.any p:=by
 unfold IB;cases h:xs.findIdx? p with
 | none =>
  rw [List.findIdx?_eq_none_iff] at h;have:xs.any p=false:=by rw [List.any_eq_false];intro x hx;simp [h x hx]
  rw [this];rfl
 | some i =>
  rw [List.findIdx?_eq_some_iff_getElem] at h;obtain ⟨hlt,hp,_⟩:=h;have:xs.any p=true:=by rw [List.any_eq_true];exact ⟨_,List.getElem_mem hlt,hp⟩
  rw [this];exact decide_eq_true (show (0:Int)<=(i:Int) by omega)
def IC {α:Type} (g:Nat) (lb:Array Value) (enc:α->Value) (p:α->Bool) (D:α->Prop) (w:World):Prop :=
 ∀ (W:World) (x:α),D x->Below w.heap.size w W->Calls Tryz.prog g (#[enc x]++lb) W fun e W'=>e=.returned (.bool (p x))/\Below W.heap.size W W'
theorem IC.later {α:Type} {g:Nat} {lb:Array Value} {enc:α->Value} {p:α->Bool} {D:α->Prop} {w w':World} (h:IC g lb enc p D w) (hb:Below w.heap.size w w'):IC g lb enc p D w' :=
 fun W x hx hW=>h W x hx (aX hb hW)
set_option maxHeartbeats 2000000 in
theorem aiy.calls (A:Option Addr) (c:Nat) (xs:List Int) (g:Nat) (lb:Array Value) (p:Int->Bool) (D:Int->Prop) (w:World)
  (eg:∀ args w,(callFunc g args).run Tryz.prog w=.ok (.enter g args) w) (hr:Kd.C (Kd.int .u8) w A xs.length xs) (hD:∀ x∈xs,D x) (hp:IC g lb (fun x=>Value.int .u8 x) p D w) :
  Calls Tryz.prog 104 #[.slice A xs.length c,.func (.func g) #[] lb] w fun e w'=>e=.returned (.int .i64 (IB p xs))/\Below w.heap.size w w':=by
 have HR:=ah.mk hr;have HP:=ah.mk hp;have HD:=ah.mk hD;clear hr hp hD;have hbig:xs.length<=9223372036854775807:=Kd.adv HR.out;obtain ⟨n,hn⟩:∃ n,xs.length=n:=⟨_,rfl⟩;have HN:=ah.mk hn;rw [hn] at hbig |-
 clear hn;go_enter Tryz.func104,Tryz.ntmps104
 go_wp2;go_loopg [5,8] n (fun gg _ s8 wr=>∃ kk:Nat,kk<=n/\n - kk<=gg/\s8=.int .i64 kk/\ah (Below w.heap.size w wr)/\ah (∀ j,j < kk->p (xs.getD j 0)=false))
 case atStart=>exact ⟨0,Nat.zero_le _,by omega,rfl,⟨Below.refl _ _⟩,⟨fun j hj=>absurd hj (Nat.not_lt_zero _)⟩⟩
 case round =>
  obtain ⟨kk,hkk,hg,rfl,HB,HA⟩:=hrel;by_cases hlt:kk < n
  rotate_left
  ·have hltz:¬ (kk:Int) < (n:Int):=by omega
   have hkn:kk=n:=by omega
   subst hkn;go_wp2;go_ret;refine ⟨?_,HB.out⟩;rw [Pk p xs 0 (by rw [HN.out];exact HA.out)];rfl
  have hltz:(kk:Int) < (n:Int):=by omega
  obtain ⟨ad,rfl,hcell0⟩:=Kd.aaI (Kd.bS HR.out HB.out) (kk:Int) (by omega) (by have:=HN.out;omega);have hy0:rd xs (kk:Int)=xs.getD kk 0:=by simp [rd]
  rw [hy0] at hcell0;have hmem:xs.getD kk 0∈xs:=by
   have hk:kk < xs.length:=by have:=HN.out;omega
   have h1:xs.getD kk 0=xs[kk]:=by simp [List.getD_eq_getElem?_getD,List.getElem?_eq_getElem hk]
   rw [h1];exact List.getElem_mem hk
  generalize hy:xs.getD kk 0=y at hcell0 hmem;have HY:=ah.mk hy;have hcell:wr.cell? (ad.add kk)=some (.int .u8 y):=by simpa using hcell0
  clear hy hy0 hcell0;have hcall:=HP.out wr y (HD.out y hmem) HB.out;clear hmem;cases hq:p y with
  | true =>
   rw [hq] at hcall;have HC:=Lib.hid hcall;have HQ:=ah.mk hq;clear hcall hq;go_wp2_with (go_at_fn g;refine HC.out.mono ?_;rintro e w' ⟨rfl,hb⟩)
   go_ret;refine ⟨?_,aX HB.out hb⟩;rw [Ry p xs 0 kk (by have:=HN.out;omega) (by rw [HY.out];exact HQ.out) HA.out];rfl
  | false =>
   rw [hq] at hcall;have HC:=Lib.hid hcall;have HQ:=ah.mk hq;clear hcall hq;go_wp2_with (go_at_fn g;refine HC.out.mono ?_;rintro e w' ⟨rfl,hb⟩)
   go_roundg (n - (kk+1))
   case measure=>omega
   case rel =>
    refine ⟨kk+1,by omega,by omega,by go_num,⟨aX HB.out hb⟩,⟨fun j hj=>?_⟩⟩;by_cases e:j=kk
    ·subst e
     rw [HY.out];exact HQ.out
    ·exact HA.out j (by omega)
set_option maxHeartbeats 1000000 in
theorem adJ.calls (A:Option Addr) (c:Nat) (xs:List Int) (g:Nat) (lb:Array Value) (p:Int->Bool) (D:Int->Prop) (w:World)
  (eg:∀ args w,(callFunc g args).run Tryz.prog w=.ok (.enter g args) w) (hr:Kd.C (Kd.int .u8) w A xs.length xs) (hD:∀ x∈xs,D x) (hp:IC g lb (fun x=>Value.int .u8 x) p D w) :
  Calls Tryz.prog 63 #[.slice A xs.length c,.func (.func g) #[] lb] w fun e w'=>e=.returned (.bool (xs.any p))/\Below w.heap.size w w':=by
 rw [<- Rz];have HC:=Lib.hid (aiy.calls A c xs g lb p D w eg hr hD hp);clear hr hD hp;obtain ⟨q,hq⟩:∃ q,IB p xs=q:=⟨_,rfl⟩;rw [hq] at HC |-
 clear hq;go_enter Tryz.func63,Tryz.ntmps63
 go_wp2_with (go_at_call 104;refine HC.out.mono ?_;rintro e w' ⟨rfl,hb⟩)
 go_ret;exact ⟨rfl,hb⟩
theorem Ny (x:Int):gB.f x=some (S.iT x):=by
 unfold gB.f S.iT;by_cases h1:32<=x<;>by_cases h2:x<=126<;>simp [h1,h2]
theorem EU:∀ args w,(callFunc 108 args).run Tryz.prog w=.ok (.enter 108 args) w:=enters_of Tryz.func108 (by kernel_rfl) rfl
theorem EW:∀ args w,(callFunc 64 args).run Tryz.prog w=.ok (.enter 64 args) w:=enters_of Tryz.func64 (by kernel_rfl) rfl
theorem adK.pays (w:World):IC 108 #[] (fun x=>Value.int .u8 x) (fun x=>!S.iT x) (fun _=>True) w:=by
 intro W x _ _
 show Calls Tryz.prog 108 #[.int .u8 x] W fun e W'=>e=.returned (.bool (!S.iT x))/\Below W.heap.size W W'
 have HC:=Lib.hid (gB.calls x (S.iT x) W (Ny x));obtain ⟨q,hq⟩:∃ q,S.iT x=q:=⟨_,rfl⟩;rw [hq] at HC |-
 clear hq;go_enter Tryz.func108,Tryz.ntmps108
 go_wp2_with (go_at_call 65;refine HC.out.mono ?_;rintro e w' ⟨rfl,hb⟩)
 go_ret;exact ⟨rfl,hb.below⟩
theorem adL.pays (w:World):IC 64 #[] (fun x=>Value.int .u8 x) (fun x=>!S.iT x) (fun _=>True) w:=by
 intro W x _ _
 show Calls Tryz.prog 64 #[.int .u8 x] W fun e W'=>e=.returned (.bool (!S.iT x))/\Below W.heap.size W W'
 have HC:=Lib.hid (gB.calls x (S.iT x) W (Ny x));obtain ⟨q,hq⟩:∃ q,S.iT x=q:=⟨_,rfl⟩;rw [hq] at HC |-
 clear hq;go_enter Tryz.func64,Tryz.ntmps64
 go_wp2_with (go_at_call 65;refine HC.out.mono ?_;rintro e w' ⟨rfl,hb⟩)
 go_ret;exact ⟨rfl,hb.below⟩
end Go.Proofs.YtkkpjonfaflkmaaGreatDoor.T
