/- A part of the proof of ScanWrites. -/
import Derived.Test.YtkkpjonfaflkmaaGreatDoorCScanWrites6
set_option linter.all false
namespace Go.Proofs.YtkkpjonfaflkmaaGreatDoor.T
open Go.RowKit Go.Proofs.aj.aI Go.Proofs.aj.aY Go.Proofs.aj.bq
attribute [local go_sem] eY eZ gH gI dV dW fq fu
def uz.f (gF:Int) (iI:ByteArray) (kY:Bool) (kZ:Int) (lg:Int) (lq:Int) (wS:Int) (Fj:ByteArray) (Ls:Bool) (Lu:Int) (Lv:Int) (Lx:Int):Option (Bool):=if gF=wS then (some (iI.toList==Fj.toList)) else (some false)
set_option maxHeartbeats 8000000 in
set_option maxRecDepth 100000 in
theorem uz.calls (gF:Int) (iI:ByteArray) (kY:Bool) (kZ:Int) (lg:Int) (lq:Int) (wS:Int) (Fj:ByteArray) (Ls:Bool) (Lu:Int) (Lv:Int) (Lx:Int) (r:Bool) (w:World) (h:uz.f gF iI kY kZ lg lq wS Fj Ls Lu Lv Lx=some r) :
  Calls Tryz.prog 76 #[.agg #[.int .i64 gF,.string iI,.bool kY,.int .i64 kZ,.int .i64 lg,.int .i64 lq],.agg #[.int .i64 wS,.string Fj,.bool Ls,.int .i64 Lu,.int .i64 Lv,.int .i64 Lx]] w fun e w'=>e=.returned (.bool r)/\Below w.heap.size w w':=by
 have Bu:=Tryz.underlying53;have HB:=ah.mk (Below.refl w.heap.size w);have H:(if gF=wS then (some (iI.toList==Fj.toList)) else (some false))=some r:=h;clear h;by_cases c3:gF=wS
 ·rw [if_pos c3] at H
  have nH:(gF==wS)=true:=beq_iff_eq.mpr c3;have zN:(gF != wS)=false:=bne_eq_false_iff_eq.mpr c3;clear c3;obtain rfl:=Option.some.inj H;go_enter Tryz.func76,Tryz.ntmps76
  go_wp2_with (first | ((with_reducible refine fO (N:=2) rfl ?_);refine fG ?hg (N:=2) ?hd (cs:=#[.int .i64 gF,.string iI,.bool kY,.int .i64 kZ,.int .i64 lg,.int .i64 lq]) (t:=53) ?hr ?_;(case hd=>rfl);(case hg=>rfl);(case hr=>first | (go_simp;done) | (go_simp;rfl));intro jc hg w4 iE hb;have bY:=ah.mk (aX (by with_reducible repeat (first | exact HB.out | apply av | apply ak | apply ay)) hb);have dO:=ah.mk (iE);have jA:=ah.mk ((by rw [hg];exact (bG (by with_reducible repeat (first | exact HB.out | apply av | apply ak | apply ay))):w.heap.size<=jc));have mW:=ah.mk ((by rw [hg];exact (bG (by with_reducible repeat (first | exact HB.out | apply av | apply ak | apply ay))):w.heap.size<=jc));clear HB;have HB:=bY;have gD:=dO;have adV:=jA;have wT:=mW;clear bY dO jA mW;clear hb iE hg) | ((with_reducible refine fO (N:=3) rfl ?_);refine fG ?hg (N:=3) ?hd (cs:=#[.int .i64 wS,.string Fj,.bool Ls,.int .i64 Lu,.int .i64 Lv,.int .i64 Lx]) (t:=53) ?hr ?_;(case hd=>rfl);(case hg=>rfl);(case hr=>first | (go_simp;done) | (go_simp;rfl));intro kT hg w5 iE hb;have bY:=ah.mk (fF (g:=jc) (o:=.cells #[.int .i64 gF,.string iI,.bool kY,.int .i64 kZ,.int .i64 lg,.int .i64 lq] 53 (0,0)) (by (with_reducible repeat (first | refine aH ?_ _ | refine aU ?_ | refine aN ?_ _));exact gD.out) hb);have dO:=ah.mk (aX (by with_reducible repeat (first | exact HB.out | apply av | apply ak | apply ay | refine bf ?_ wT.out)) hb);have jA:=ah.mk (iE);have mW:=ah.mk ((by rw [hg];exact (bG (by with_reducible repeat (first | exact HB.out | apply av | apply ak | apply ay | refine bf ?_ wT.out))):w.heap.size<=kT));have zy:=ah.mk ((by rw [hg];exact (bG (by with_reducible repeat (first | exact HB.out | apply av | apply ak | apply ay | refine bf ?_ wT.out))):w.heap.size<=kT));have n5_:=ah.mk ((by rw [hg];exact Nat.ne_of_lt (kV (g:=jc) (o:=.cells #[.int .i64 gF,.string iI,.bool kY,.int .i64 kZ,.int .i64 lg,.int .i64 lq] 53 (0,0)) (by (with_reducible repeat (first | refine aH ?_ _ | refine aU ?_ | refine aN ?_ _));exact gD.out)):jc≠kT));have n6_:=ah.mk ((by rw [hg];exact Nat.ne_of_gt (kV (g:=jc) (o:=.cells #[.int .i64 gF,.string iI,.bool kY,.int .i64 kZ,.int .i64 lg,.int .i64 lq] 53 (0,0)) (by (with_reducible repeat (first | refine aH ?_ _ | refine aU ?_ | refine aN ?_ _));exact gD.out)):kT≠jc));clear gD;clear HB;have gD:=bY;have HB:=dO;have jB:=jA;have adW:=mW;have Si:=zy;have yB:=n5_;have yC:=n6_;clear bY dO jA mW zy n5_ n6_;clear hb iE hg;have alk:=yB.out;have alm:=yC.out;have Sj:w5.cell? ⟨jc,0,none⟩=some (.int .i64 gF):=(au gD.out 0).trans rfl;have Sk:w5.cell? ⟨jc,1,none⟩=some (.string iI):=(au gD.out 1).trans rfl;have Sl:w5.cell? ⟨jc,2,none⟩=some (.bool kY):=(au gD.out 2).trans rfl;have Sm:w5.cell? ⟨jc,3,none⟩=some (.int .i64 kZ):=(au gD.out 3).trans rfl;have abq:w5.cell? ⟨jc,4,none⟩=some (.int .i64 lg):=(au gD.out 4).trans rfl;have aiI:w5.cell? ⟨jc,5,none⟩=some (.int .i64 lq):=(au gD.out 5).trans rfl;have Sn:=aA gD.out 0;have Sq:=aA gD.out 1;have Sr:=aA gD.out 2;have Sv:=aA gD.out 3;have abr:=aA gD.out 4;have aiJ:=aA gD.out 5;have Sw:w5.cell? ⟨kT,0,none⟩=some (.int .i64 wS):=(au jB.out 0).trans rfl;have Sy:w5.cell? ⟨kT,1,none⟩=some (.string Fj):=(au jB.out 1).trans rfl;have Sz:w5.cell? ⟨kT,2,none⟩=some (.bool Ls):=(au jB.out 2).trans rfl;have SA:w5.cell? ⟨kT,3,none⟩=some (.int .i64 Lu):=(au jB.out 3).trans rfl;have SB:w5.cell? ⟨kT,4,none⟩=some (.int .i64 Lv):=(au jB.out 4).trans rfl;have SC:w5.cell? ⟨kT,5,none⟩=some (.int .i64 Lx):=(au jB.out 5).trans rfl;have SE:=aA jB.out 0;have SF:=aA jB.out 1;have SG:=aA jB.out 2;have SH:=aA jB.out 3;have SI:=aA jB.out 4;have SK:=aA jB.out 5))
  go_ret;exact ⟨by first | rfl | (simp [aJ,aK]<;>rfl) | (simp [*,aJ,aK]<;>rfl),by with_reducible repeat (first | exact HB.out | apply av | apply ak | apply ay | refine bf ?_ wT.out | refine bf ?_ Si.out)⟩
 rw [if_neg c3] at H;have nH:(gF==wS)=false:=beq_eq_false_iff_ne.mpr c3;have zN:(gF != wS)=true:=bne_iff_ne.mpr c3;obtain rfl:=Option.some.inj H;go_enter Tryz.func76,Tryz.ntmps76
 go_wp2_with (first | ((with_reducible refine fO (N:=2) rfl ?_);refine fG ?hg (N:=2) ?hd (cs:=#[.int .i64 gF,.string iI,.bool kY,.int .i64 kZ,.int .i64 lg,.int .i64 lq]) (t:=53) ?hr ?_;(case hd=>rfl);(case hg=>rfl);(case hr=>first | (go_simp;done) | (go_simp;rfl));intro jc hg w9 iE hb;have bY:=ah.mk (aX (by with_reducible repeat (first | exact HB.out | apply av | apply ak | apply ay)) hb);have dO:=ah.mk (iE);have jA:=ah.mk ((by rw [hg];exact (bG (by with_reducible repeat (first | exact HB.out | apply av | apply ak | apply ay))):w.heap.size<=jc));have mW:=ah.mk ((by rw [hg];exact (bG (by with_reducible repeat (first | exact HB.out | apply av | apply ak | apply ay))):w.heap.size<=jc));clear HB;have HB:=bY;have gD:=dO;have adV:=jA;have wT:=mW;clear bY dO jA mW;clear hb iE hg) | ((with_reducible refine fO (N:=3) rfl ?_);refine fG ?hg (N:=3) ?hd (cs:=#[.int .i64 wS,.string Fj,.bool Ls,.int .i64 Lu,.int .i64 Lv,.int .i64 Lx]) (t:=53) ?hr ?_;(case hd=>rfl);(case hg=>rfl);(case hr=>first | (go_simp;done) | (go_simp;rfl));intro kT hg Ij iE hb;have bY:=ah.mk (fF (g:=jc) (o:=.cells #[.int .i64 gF,.string iI,.bool kY,.int .i64 kZ,.int .i64 lg,.int .i64 lq] 53 (0,0)) (by (with_reducible repeat (first | refine aH ?_ _ | refine aU ?_ | refine aN ?_ _));exact gD.out) hb);have dO:=ah.mk (aX (by with_reducible repeat (first | exact HB.out | apply av | apply ak | apply ay | refine bf ?_ wT.out)) hb);have jA:=ah.mk (iE);have mW:=ah.mk ((by rw [hg];exact (bG (by with_reducible repeat (first | exact HB.out | apply av | apply ak | apply ay | refine bf ?_ wT.out))):w.heap.size<=kT));have zy:=ah.mk ((by rw [hg];exact (bG (by with_reducible repeat (first | exact HB.out | apply av | apply ak | apply ay | refine bf ?_ wT.out))):w.heap.size<=kT));have n5_:=ah.mk ((by rw [hg];exact Nat.ne_of_lt (kV (g:=jc) (o:=.cells #[.int .i64 gF,.string iI,.bool kY,.int .i64 kZ,.int .i64 lg,.int .i64 lq] 53 (0,0)) (by (with_reducible repeat (first | refine aH ?_ _ | refine aU ?_ | refine aN ?_ _));exact gD.out)):jc≠kT));have n6_:=ah.mk ((by rw [hg];exact Nat.ne_of_gt (kV (g:=jc) (o:=.cells #[.int .i64 gF,.string iI,.bool kY,.int .i64 kZ,.int .i64 lg,.int .i64 lq] 53 (0,0)) (by (with_reducible repeat (first | refine aH ?_ _ | refine aU ?_ | refine aN ?_ _));exact gD.out)):kT≠jc));clear gD;clear HB;have gD:=bY;have HB:=dO;have jB:=jA;have adW:=mW;have Si:=zy;have yB:=n5_;have yC:=n6_;clear bY dO jA mW zy n5_ n6_;clear hb iE hg;have ajX:=yB.out;have ajY:=yC.out;have agr:Ij.cell? ⟨jc,0,none⟩=some (.int .i64 gF):=(au gD.out 0).trans rfl;have ags:Ij.cell? ⟨jc,1,none⟩=some (.string iI):=(au gD.out 1).trans rfl;have agt:Ij.cell? ⟨jc,2,none⟩=some (.bool kY):=(au gD.out 2).trans rfl;have agu:Ij.cell? ⟨jc,3,none⟩=some (.int .i64 kZ):=(au gD.out 3).trans rfl;have agv:Ij.cell? ⟨jc,4,none⟩=some (.int .i64 lg):=(au gD.out 4).trans rfl;have agw:Ij.cell? ⟨jc,5,none⟩=some (.int .i64 lq):=(au gD.out 5).trans rfl;have agx:=aA gD.out 0;have agy:=aA gD.out 1;have agz:=aA gD.out 2;have agA:=aA gD.out 3;have agB:=aA gD.out 4;have agC:=aA gD.out 5;have Xa:Ij.cell? ⟨kT,0,none⟩=some (.int .i64 wS):=(au jB.out 0).trans rfl;have Xb:Ij.cell? ⟨kT,1,none⟩=some (.string Fj):=(au jB.out 1).trans rfl;have Xc:Ij.cell? ⟨kT,2,none⟩=some (.bool Ls):=(au jB.out 2).trans rfl;have Xd:Ij.cell? ⟨kT,3,none⟩=some (.int .i64 Lu):=(au jB.out 3).trans rfl;have agD:Ij.cell? ⟨kT,4,none⟩=some (.int .i64 Lv):=(au jB.out 4).trans rfl;have agE:Ij.cell? ⟨kT,5,none⟩=some (.int .i64 Lx):=(au jB.out 5).trans rfl;have Xe:=aA jB.out 0;have Xf:=aA jB.out 1;have Xg:=aA jB.out 2;have Xi:=aA jB.out 3;have agF:=aA jB.out 4;have agG:=aA jB.out 5))
 go_ret;exact ⟨by first | rfl | (simp [aJ,aK]<;>rfl) | (simp [*,aJ,aK]<;>rfl),by with_reducible repeat (first | exact HB.out | apply av | apply ak | apply ay | refine bf ?_ wT.out | refine bf ?_ Si.out)⟩
end Go.Proofs.YtkkpjonfaflkmaaGreatDoor.T
namespace Go.Proofs.YtkkpjonfaflkmaaGreatDoor.T
open Go.RowKit Go.Proofs.aj.aI Go.Proofs.aj.aY Go.Proofs.aj.bq
attribute [local go_sem] Oper.semAt_some
def NJ (x:dh):Value:=.agg #[.int .i64 x.f0,.string x.f1,.bool x.f2,.int .i64 x.f3,.int .i64 x.f4,.int .i64 x.f5]
def sG {α:Type} (p:α->α->Bool):List α->List α->Bool
 | [],[]=>true
 | x::l,y::m=>p x y&&sG p l m
 | _,_=>false
theorem Fp {α:Type} (p:α->α->Bool):∀ l m:List α,l.length≠m.length->sG p l m=false
 | [],[],h=>absurd rfl h
 | [],_::_,_=>rfl
 | _::_,[],_=>rfl
 | x::l,y::m,h=>by rw [sG,Fp p l m (fun e=>h (by simp [e])),Bool.and_false]
def mX (x y:dh):Bool:=decide (x.f0=y.f0)&&(x.f1.toList==y.f1.toList)
def jK (x y:dh):Bool:=mX x y&&(x.f2==y.f2)
def LA (g:Nat) (p:dh->dh->Bool):Prop:=∀ (W:World) (x y:dh),Calls Tryz.prog g #[NJ x,NJ y] W fun e W'=>e=.returned (.bool (p x y))/\Below W.heap.size W W'
theorem Bv:LA 76 mX:=fun W x y=>by
 refine uz.calls _ _ _ _ _ _ _ _ _ _ _ _ _ W ?_;unfold uz.f mX;by_cases h:x.f0=y.f0
 ·rw [if_pos h,decide_eq_true h,Bool.true_and]
 ·rw [if_neg h,decide_eq_false h,Bool.false_and]
theorem Jd:∀ args w,(callFunc 76 args).run Tryz.prog w=.ok (.enter 76 args) w:=enters_of Tryz.func76 (by kernel_rfl) rfl
theorem Fq:∀ args w,(callFunc 75 args).run Tryz.prog w=.ok (.enter 75 args) w:=enters_of Tryz.func75 (by kernel_rfl) rfl
theorem ig {l:List dh} {k:Nat} (h:k < l.length):l.drop k=aC l (k:Int)::l.drop (k+1):=by
 rw [List.drop_eq_getElem_cons h];congr 1
 unfold aC;rw [Int.toNat_natCast,List.getD_eq_getElem?_getD,List.getElem?_eq_getElem h];rfl
set_option maxRecDepth 100000 in
set_option maxHeartbeats 4000000 in
theorem eqf.calls (A0:Option Addr) (c0:Nat) (l0:List dh) (A1:Option Addr) (c1:Nat) (l1:List dh) (g:Nat) (p:dh->dh->Bool) (w:World)
  (eg:∀ args w,(callFunc g args).run Tryz.prog w=.ok (.enter g args) w) (hp:LA g p) (hr0:Kd.C jP w A0 l0.length l0) (hc0:l0.length<=c0) (hr1:Kd.C jP w A1 l1.length l1) (hc1:l1.length<=c1) (hsm:l0.length<=1000000) :
  Calls Tryz.prog 74 #[.slice A0 l0.length c0,.slice A1 l1.length c1,.func (.func g) #[] #[]] w fun e w'=>e=.returned (.bool (sG p l0 l1))/\Below w.heap.size w w':=by
 have Bu:=Tryz.underlying53;have HP:=ah.mk hp;have iG:=ah.mk hr0;have HR1:=ah.mk hr1;clear hp hr0 hr1;by_cases hl:l0.length=l1.length
 rotate_left
 ·rw [Fp p l0 l1 hl]
  obtain ⟨n,hn⟩:∃ n,l0.length=n:=⟨_,rfl⟩;obtain ⟨m,hm⟩:∃ m,l1.length=m:=⟨_,rfl⟩;rw [hn,hm] at hl;rw [hn,hm];have g1:((n:Int)==(m:Int))=false:=beq_eq_false_iff_ne.2 (by omega);have g2:((n:Int) != (m:Int))=true:=bne_iff_ne.2 (by omega);have g3:(n==m)=false:=beq_eq_false_iff_ne.2 (by omega);clear hn hm hl iG HR1;go_enter Tryz.func74,Tryz.ntmps74
  go_wp2;go_ret;exact ⟨rfl,Below.refl _ _⟩
 obtain ⟨n,hn⟩:∃ n,l0.length=n:=⟨_,rfl⟩;have hn1:l1.length=n:=by omega
 obtain ⟨R,hR⟩:∃ R,sG p l0 l1=R:=⟨_,rfl⟩;rw [hR];have HR:=ah.mk hR;have rY:=ah.mk hn;have HL1:=ah.mk hn1;rw [hn] at iG hc0 hsm |-
 rw [hn1] at HR1 hc1 |-
 clear hl hn hn1 hR;go_enter Tryz.func74,Tryz.ntmps74
 go_wp2;go_loopg [17] n (fun gg s17 wr=>∃ kk:Nat,kk<=n/\n - kk<=gg/\s17=.int .i64 kk/\ah (Below w.heap.size w wr)/\ah (sG p (l0.drop kk) (l1.drop kk)=R))
 case atStart=>exact ⟨0,by omega,by omega,rfl,⟨Below.refl _ _⟩,HR⟩
 case round =>
  obtain ⟨kk,hkk,hg,rfl,HB,HA⟩:=hrel;by_cases hlt:kk < n
  rotate_left
  ·have hltz:¬ (kk:Int) < (n:Int):=by omega
   have HA2:=HA.out;rw [List.drop_eq_nil_of_le (by rw [rY.out];omega),List.drop_eq_nil_of_le (by rw [HL1.out];omega)] at HA2;replace HA2:=ah.mk HA2;go_wp2;go_ret;exact ⟨by rw [<- HA2.out];rfl,HB.out⟩
  have hltz:(kk:Int) < (n:Int):=by omega
  have hz0:(0:Int)<=(kk:Int):=by omega
  have hw1:IntKind.i64.wrap ((kk:Int)+1)=((kk+1:Nat):Int):=by rw [uq _ (by omega) (by omega)];omega
  have HA2:=HA.out;rw [ig (l:=l0) (k:=kk) (by rw [rY.out];exact hlt),ig (l:=l1) (k:=kk) (by rw [HL1.out];exact hlt),sG] at HA2;obtain ⟨ad,rfl,x0,x1,x2,x3,x4,x5⟩:=bQ (Kd.bS iG.out HB.out) (kk:Int) hz0 hltz;simp only [Int.toNat_natCast] at x0 x1 x2 x3 x4 x5;have hcl:=HP.out;generalize aC l0 (kk:Int)=tx at *;go_upto_region 6 with (fail)
  have hn1:=heap_alloc_new wr (.cells #[.int .i64 tx.f0,.string tx.f1,.bool tx.f2,.int .i64 tx.f3,.int .i64 tx.f4,.int .i64 tx.f5] 53);have hB1:=av HB.out (.cells #[.int .i64 tx.f0,.string tx.f1,.bool tx.f2,.int .i64 tx.f3,.int .i64 tx.f4,.int .i64 tx.f5] 53);obtain ⟨h1,SL⟩:∃ h1,wr.heap.size=h1:=⟨_,rfl⟩;rw [SL] at hn1 |-
  clear x0 x1 x2 x3 x4 x5 SL HB;generalize wr.alloc (.cells #[.int .i64 tx.f0,.string tx.f1,.bool tx.f2,.int .i64 tx.f3,.int .i64 tx.f4,.int .i64 tx.f5] 53)=W1 at *;obtain ⟨be,rfl,y0,y1,y2,y3,y4,y5⟩:=bQ (Kd.bS HR1.out hB1) (kk:Int) hz0 hltz;simp only [Int.toNat_natCast] at y0 y1 y2 y3 y4 y5;generalize aC l1 (kk:Int)=ty at *;go_upto_region 7 with (fail)
  have hn2:=heap_alloc_new W1 (.cells #[.int .i64 ty.f0,.string ty.f1,.bool ty.f2,.int .i64 ty.f3,.int .i64 ty.f4,.int .i64 ty.f5] 53);have hB2:=av hB1 (.cells #[.int .i64 ty.f0,.string ty.f1,.bool ty.f2,.int .i64 ty.f3,.int .i64 ty.f4,.int .i64 ty.f5] 53);have zS:=(((But.refl (fun _=>False) W1).alloc (.cells #[.int .i64 ty.f0,.string ty.f1,.bool ty.f2,.int .i64 ty.f3,.int .i64 ty.f4,.int .i64 ty.f5] 53)).block h1 (Array.getElem?_eq_some_iff.1 hn1).1 (fun e=>e)).trans hn1;obtain ⟨h2,hh2⟩:∃ h2,W1.heap.size=h2:=⟨_,rfl⟩;rw [hh2] at hn2 |-
  clear y0 y1 y2 y3 y4 y5 hh2 hB1 hn1;generalize W1.alloc (.cells #[.int .i64 ty.f0,.string ty.f1,.bool ty.f2,.int .i64 ty.f3,.int .i64 ty.f4,.int .i64 ty.f5] 53)=W2 at *;have HC:=Lib.hid (hcl W2 tx ty);have HB2:=ah.mk hB2;have a0:W2.cell? ⟨h1,0,none⟩=some (.int .i64 tx.f0):=(au zS 0).trans rfl;have a1:W2.cell? ⟨h1,1,none⟩=some (.string tx.f1):=(au zS 1).trans rfl;have a2:W2.cell? ⟨h1,2,none⟩=some (.bool tx.f2):=(au zS 2).trans rfl;have a3:W2.cell? ⟨h1,3,none⟩=some (.int .i64 tx.f3):=(au zS 3).trans rfl;have a4:W2.cell? ⟨h1,4,none⟩=some (.int .i64 tx.f4):=(au zS 4).trans rfl;have a5:W2.cell? ⟨h1,5,none⟩=some (.int .i64 tx.f5):=(au zS 5).trans rfl;have b0:W2.cell? ⟨h2,0,none⟩=some (.int .i64 ty.f0):=(au hn2 0).trans rfl;have b1:W2.cell? ⟨h2,1,none⟩=some (.string ty.f1):=(au hn2 1).trans rfl;have b2:W2.cell? ⟨h2,2,none⟩=some (.bool ty.f2):=(au hn2 2).trans rfl;have b3:W2.cell? ⟨h2,3,none⟩=some (.int .i64 ty.f3):=(au hn2 3).trans rfl;have b4:W2.cell? ⟨h2,4,none⟩=some (.int .i64 ty.f4):=(au hn2 4).trans rfl;have b5:W2.cell? ⟨h2,5,none⟩=some (.int .i64 ty.f5):=(au hn2 5).trans rfl;clear hcl hB2 hn2 zS;cases hq:p tx ty with
  | true =>
   rw [hq] at HC HA2;rw [Bool.true_and] at HA2;replace HA2:=ah.mk HA2;clear hq;go_wp2_with (go_at_fn g;refine HC.out.mono ?_;rintro e w' ⟨rfl,hb3⟩)
   go_roundg (n - (kk+1))
   case measure=>omega
   case rel=>exact ⟨kk+1,by omega,by omega,by go_num,⟨HB2.out.trans (hb3.mono HB2.out.size)⟩,HA2⟩
  | false =>
   rw [hq] at HC HA2;rw [Bool.false_and] at HA2;replace HA2:=ah.mk HA2;clear hq;go_wp2_with (go_at_fn g;refine HC.out.mono ?_;rintro e w' ⟨rfl,hb3⟩)
   go_ret;exact ⟨by rw [<- HA2.out];rfl,HB2.out.trans (hb3.mono HB2.out.size)⟩
set_option maxRecDepth 100000 in
set_option maxHeartbeats 4000000 in
theorem Je:LA 75 jK:=fun W x y=>by
 have hcl:=Bv;unfold NJ;have Bu:=Tryz.underlying53;go_enter Tryz.func75,Tryz.ntmps75
 go_upto_region 1 with (fail)
 have hn1:=heap_alloc_new W (.cells #[.int .i64 x.f0,.string x.f1,.bool x.f2,.int .i64 x.f3,.int .i64 x.f4,.int .i64 x.f5] 53);have hs1:=World.size_alloc W (.cells #[.int .i64 x.f0,.string x.f1,.bool x.f2,.int .i64 x.f3,.int .i64 x.f4,.int .i64 x.f5] 53);have hn2:=heap_alloc_new (W.alloc (.cells #[.int .i64 x.f0,.string x.f1,.bool x.f2,.int .i64 x.f3,.int .i64 x.f4,.int .i64 x.f5] 53)) (.cells #[.int .i64 y.f0,.string y.f1,.bool y.f2,.int .i64 y.f3,.int .i64 y.f4,.int .i64 y.f5] 53);have zS:=(((But.refl (fun _=>False) (W.alloc (.cells #[.int .i64 x.f0,.string x.f1,.bool x.f2,.int .i64 x.f3,.int .i64 x.f4,.int .i64 x.f5] 53))).alloc (.cells #[.int .i64 y.f0,.string y.f1,.bool y.f2,.int .i64 y.f3,.int .i64 y.f4,.int .i64 y.f5] 53)).block W.heap.size (by omega) (fun e=>e)).trans hn1;have hB2:=av (av (Below.refl W.heap.size W) (.cells #[.int .i64 x.f0,.string x.f1,.bool x.f2,.int .i64 x.f3,.int .i64 x.f4,.int .i64 x.f5] 53)) (.cells #[.int .i64 y.f0,.string y.f1,.bool y.f2,.int .i64 y.f3,.int .i64 y.f4,.int .i64 y.f5] 53);rw [hs1] at hn2;obtain ⟨H,hH⟩:∃ H,W.heap.size=H:=⟨_,rfl⟩;rw [hH] at hn2 zS hB2 |-
 clear hn1 hs1;generalize (W.alloc (.cells #[.int .i64 x.f0,.string x.f1,.bool x.f2,.int .i64 x.f3,.int .i64 x.f4,.int .i64 x.f5] 53)).alloc (.cells #[.int .i64 y.f0,.string y.f1,.bool y.f2,.int .i64 y.f3,.int .i64 y.f4,.int .i64 y.f5] 53)=W2 at *;have hc:=hcl W2 x y;have hfin:ah (∀ w3,Below W2.heap.size W2 w3->Below H W w3):=⟨fun w3 hb=>hB2.trans (hb.mono (by have:=hB2.size;omega))⟩;have hcf:ah (∀ w3,Below W2.heap.size W2 w3->w3.cell? ⟨H,2,none⟩=some (.bool x.f2)/\w3.cell? ⟨H+1,2,none⟩=some (.bool y.f2)):=⟨fun w3 hb=>⟨(au ((hb.block H (Array.getElem?_eq_some_iff.1 zS).1).trans zS) 2).trans rfl,(au ((hb.block (H+1) (Array.getElem?_eq_some_iff.1 hn2).1).trans hn2) 2).trans rfl⟩⟩;have a0:W2.cell? ⟨H,0,none⟩=some (.int .i64 x.f0):=(au zS 0).trans rfl;have a1:W2.cell? ⟨H,1,none⟩=some (.string x.f1):=(au zS 1).trans rfl;have a2:W2.cell? ⟨H,2,none⟩=some (.bool x.f2):=(au zS 2).trans rfl;have a3:W2.cell? ⟨H,3,none⟩=some (.int .i64 x.f3):=(au zS 3).trans rfl;have a4:W2.cell? ⟨H,4,none⟩=some (.int .i64 x.f4):=(au zS 4).trans rfl;have a5:W2.cell? ⟨H,5,none⟩=some (.int .i64 x.f5):=(au zS 5).trans rfl;have b0:W2.cell? ⟨H+1,0,none⟩=some (.int .i64 y.f0):=(au hn2 0).trans rfl;have b1:W2.cell? ⟨H+1,1,none⟩=some (.string y.f1):=(au hn2 1).trans rfl;have b2:W2.cell? ⟨H+1,2,none⟩=some (.bool y.f2):=(au hn2 2).trans rfl;have b3:W2.cell? ⟨H+1,3,none⟩=some (.int .i64 y.f3):=(au hn2 3).trans rfl;have b4:W2.cell? ⟨H+1,4,none⟩=some (.int .i64 y.f4):=(au hn2 4).trans rfl;have b5:W2.cell? ⟨H+1,5,none⟩=some (.int .i64 y.f5):=(au hn2 5).trans rfl;unfold NJ at hc;have HH:=ah.mk hH;clear hcl hn2 zS hB2 hH;cases hq:mX x y with
 | false =>
  rw [hq] at hc;have HC:=Lib.hid hc;have NK:ah (jK x y=false):=⟨by unfold jK;rw [hq];rfl⟩;clear hc hq;go_wp2_with (go_at_call 76;refine HC.out.mono ?_;rintro e w3 ⟨rfl,hb3⟩)
  go_ret;exact ⟨by rw [NK.out];rfl,by rw [HH.out];exact hfin.out _ hb3⟩
 | true =>
  rw [hq] at hc;have HC:=Lib.hid hc;have NK:ah (jK x y=(x.f2==y.f2)):=⟨by unfold jK;rw [hq];rfl⟩;clear hc hq;go_wp2_with (go_at_call 76;refine HC.out.mono ?_;rintro e w3 ⟨rfl,hb3⟩;obtain ⟨k1,k2⟩:=hcf.out _ hb3)
  go_ret;exact ⟨by rw [NK.out];first | rfl | simp,by rw [HH.out];exact hfin.out _ hb3⟩
def iJ.f (l0 l1:List dh):Option Bool:=if l0.length<=1000000 then some (sG jK l0 l1) else none
set_option maxRecDepth 100000 in
set_option maxHeartbeats 4000000 in
theorem iJ.calls (A0:Option Addr) (c0:Nat) (l0:List dh) (A1:Option Addr) (c1:Nat) (l1:List dh) (r:Bool) (w:World) (hr0:Kd.C jP w A0 l0.length l0) (hc0:l0.length<=c0) (hr1:Kd.C jP w A1 l1.length l1) (hc1:l1.length<=c1) (h:iJ.f l0 l1=some r) :
  Calls Tryz.prog 37 #[.slice A0 l0.length c0,.slice A1 l1.length c1] w fun e w'=>e=.returned (.bool r)/\Below w.heap.size w w':=by
 unfold iJ.f at h;by_cases hs:l0.length<=1000000
 rotate_left
 ·rw [if_neg hs] at h;cases h
 rw [if_pos hs] at h;obtain rfl:=Option.some.inj h;have hc:=Lib.hid (eqf.calls A0 c0 l0 A1 c1 l1 75 jK w Fq Je hr0 hc0 hr1 hc1 hs);clear hr0 hr1 hc0 hc1 hs;generalize sG jK l0 l1=R at *;generalize l0.length=n at *;generalize l1.length=m at *;go_enter Tryz.func37,Tryz.ntmps37
 go_wp2_with (go_at_call 74;refine hc.out.mono ?_;rintro e w' ⟨rfl,hb⟩)
 go_ret;exact ⟨rfl,hb⟩
end Go.Proofs.YtkkpjonfaflkmaaGreatDoor.T
namespace Go.Proofs.YtkkpjonfaflkmaaGreatDoor.T
open Go.RowKit Go.Maps Go.Proofs.aj.aI Go.Proofs.aj.aY Go.Proofs.aj.bq
def encS (v:Value):Option (DataW Unit × List MemPlace) :=
 match v with
 | .slice none n c=>some (.agg [.lit (.int .i64 n),.lit (.int .i64 c)],[])
 | .slice (some ⟨g,o,none⟩) n c=>some (.agg [.lit (.int .i64 g),.lit (.int .i64 o),.lit (.int .i64 n),.lit (.int .i64 c)],[])
 | _=>none
theorem SN {v v':Value} {d:DataW Unit} {p p':List MemPlace} (h:encS v=some (d,p)) (h':encS v'=some (d,p')):v=v':=by
 unfold encS at h h';split at h
 ·split at h'
  ·simp at h h'
   obtain ⟨rfl,_⟩:=h;obtain ⟨h',_⟩:=h';simp at h'
   obtain ⟨h1,h2⟩:=h';cases Int.ofNat_inj.1 h1;cases Int.ofNat_inj.1 h2;rfl
  ·simp at h h'
   obtain ⟨rfl,_⟩:=h;obtain ⟨h',_⟩:=h';simp at h'
  ·cases h'
 ·split at h'
  ·simp at h h'
   obtain ⟨rfl,_⟩:=h;obtain ⟨h',_⟩:=h';simp at h'
  ·simp at h h'
   obtain ⟨rfl,_⟩:=h;obtain ⟨h',_⟩:=h';simp at h'
   obtain ⟨h1,h2,h3,h4⟩:=h';cases Int.ofNat_inj.1 h1;cases Int.ofNat_inj.1 h2;cases Int.ofNat_inj.1 h3;cases Int.ofNat_inj.1 h4;rfl
  ·cases h'
 ·cases h
def uw (ps:List (Int × ByteArray)) (c:Int):List ByteArray:=(ps.filter fun p=>decide (p.1=c)).map (·.2)
structure Ag (W:World) (b base:Nat) (ps:List (Int × ByteArray)) (hd:Int->Value) (D:DataW Unit):Prop where
 map:W.ownsMap Tryz.prog 5 encS b ps.length D
 at_:∀ c,0<=c->c < 256->∃ d,encS (hd c)=some (d,[])/\D.atKey (.int .u8 c) (.agg [.lit (.int .i64 0),.lit (.int .i64 0)])=d
 row:∀ c,W.ownsRow base 9 1 (hd c) (uw ps c).length ((uw ps c).map Value.string)
 apart:∀ c c',c≠c'->(hd c).ownBlock=none\/(hd c).ownBlock≠(hd c').ownBlock
 lt:b < base
theorem abt (w:World):(zeroValue 43).run Tryz.prog w=.ok (.slice none 0 0) w:=by kernel_rfl
theorem SQ:Keyed Tryz.prog 5:=int_keyed Tryz.underlying5
theorem SS {x:Int} (h0:0<=x) (h1:x < 256):keyOf Tryz.prog 5 (.int .u8 x)=some (.int .u8 x):=keyOf_int_mk Tryz.underlying5 (WalkArith.wf_u8 ⟨h0,by omega⟩)
theorem Ag.look {W:World} {b base:Nat} {ps:List (Int × ByteArray)} {hd:Int->Value} {D:DataW Unit} (h:Ag W b base ps hd D) (c:Int) (h0:0<=c) (h1:c < 256) :
  (Instr.lookup 91 (.map (some b)) (.int .u8 c) false).run Tryz.prog W=.ok (hd c) W:=by
 obtain ⟨v,p,hrun,hv⟩:=h.map.lookup SQ Tryz.underlying91 (abt W) (zd:=.agg [.lit (.int .i64 0),.lit (.int .i64 0)]) (zp:=[]) rfl (SS h0 h1);obtain ⟨d,h2,h3⟩:=h.at_ c h0 h1;rw [h3] at hv;rw [hrun,SN hv h2]
theorem Ag.blk {W W':World} {b base:Nat} {ps:List (Int × ByteArray)} {hd:Int->Value} {D:DataW Unit} (h:Ag W b base ps hd D) (he:W'.heap[b]?=W.heap[b]?) (hr:∀ c g,(hd c).ownBlock=some g->W'.heap[g]?=W.heap[g]?):Ag W' b base ps hd D:=by
 refine ⟨?_,h.at_,fun c=>?_,h.apart,h.lt⟩
 ·obtain ⟨es,clock,hb,rest⟩:=h.map
  exact ⟨es,clock,he.trans hb,rest⟩
 ·obtain ⟨h1,h2⟩:=h.row c
  refine ⟨h1,h2.imp id ?_⟩;rintro ⟨g,cap,cur,hv,hbg,hg,rest⟩
  exact ⟨g,cap,cur,hv,hbg,(hr c g (by rw [hv];rfl)).trans hg,rest⟩
theorem Ag.kept {W W':World} {b base:Nat} {ps:List (Int × ByteArray)} {hd:Int->Value} {D:DataW Unit} (h:Ag W b base ps hd D) (hb:Below W.heap.size W W'):Ag W' b base ps hd D :=
 h.blk (hb.block _ h.map.lt) (fun c g hg=>hb.block _ ((h.row c).lt g hg).2)
theorem Ag.step {W W1 w':World} {b base:Nat} {ps:List (Int × ByteArray)} {hd:Int->Value} {D:DataW Unit} (h:Ag W b base ps hd D) (hw1:Below W.heap.size W W1) (c:Int) (h0:0<=c) (h1:c < 256) (x:ByteArray) (g cap:Nat) (hps:ps.length<=1000)
  (hown:w'.ownsRow base 9 1 (.slice (some ⟨g,0,none⟩) ((uw ps c).length+1) cap) ((uw ps c).length+1) ((uw ps c).map Value.string++[.string x])) (hg:W1.grownBy w' (hd c).ownBlock) (hloc:(hd c).ownBlock=some g\/W.heap.size<=g) (hbw:b < W.heap.size) :
  ∃ w2 D' hd',(Instr.mapUpdate 91 (.map (some b)) (.int .u8 c) (.slice (some ⟨g,0,none⟩) ((uw ps c).length+1) cap)).run Tryz.prog w'=.ok () w2/\Ag w2 b base (ps++[(c,x)]) hd' D'/\w'.grownBy w2 (some b):=by
 have hne:∀ c',c'≠c->∀ g',(hd c').ownBlock=some g'->w'.heap[g']?=W.heap[g']?:=by
  intro c' hc' g' hg'
  have hl:=((h.row c').lt g' hg').2;refine (hg.block g' (by have:=hw1.size;omega) ?_).trans (hw1.block _ hl);intro e
  rcases h.apart c' c hc' with e1 | e1
  ·rw [e1] at hg';cases hg'
  ·exact e1 (by rw [hg',e])
 have hbb:w'.heap[b]?=W.heap[b]?:=by
  refine (hg.block b (by have:=hw1.size;omega) ?_).trans (hw1.block _ hbw);intro e
  have:=((h.row c).lt b e.symm).1;have:=h.lt;omega
 have hmap:w'.ownsMap Tryz.prog 5 encS b ps.length D:=by
  obtain ⟨es,clock,hb,rest⟩:=h.map;exact ⟨es,clock,hbb.trans hb,rest⟩
 obtain ⟨w2,hrun,hm2,hg2⟩:=hmap.update SQ Tryz.underlying91 (by unfold maxLen;omega) (SS h0 h1) (val:=.slice (some ⟨g,0,none⟩) ((uw ps c).length+1) cap) (d:=_) (ps:=[]) rfl;have hgb:g≠b:=by have:=(hown.lt g rfl).1;have:=h.lt;omega
 have hlist:∀ c',uw (ps++[(c,x)]) c'=if c'=c then uw ps c'++[x] else uw ps c':=fun c'=>by
  unfold uw;rw [List.filter_append,List.map_append];by_cases e:c'=c
  ·rw [if_pos e];simp [e]
  rw [if_neg e];have:¬ c=c':=fun q=>e q.symm
  simp [this]
 refine ⟨w2,_,fun c'=>if c'=c then .slice (some ⟨g,0,none⟩) ((uw ps c).length+1) cap else hd c',hrun,⟨by rw [List.length_append];exact hm2,fun c' h0' h1'=>?_,fun c'=>?_,fun c' c'' hcc=>?_,h.lt⟩,hg2⟩
 ·by_cases e:c'=c
  ·subst e
   simp only [if_true];exact ⟨_,rfl,atKey_put_same hmap.isMap (show WideAt.IsKeyLit (.int .u8 c') from trivial) _ _⟩
  simp only [e,if_false];obtain ⟨d,h2,h3⟩:=h.at_ c' h0' h1';refine ⟨d,h2,?_⟩;rw [atKey_put_other (by simpa using e)];exact h3
 ·rw [hlist]
  by_cases e:c'=c
  ·subst e
   simp only [if_true];rw [List.length_append,List.map_append];have:=hown.kept hg2 (.inr (by simp [Value.ownBlock];exact hgb));exact this
  simp only [e,if_false];obtain ⟨r1,r2⟩:=h.row c';refine ⟨r1,r2.imp id ?_⟩;rintro ⟨g',cap',cur',hv,hbg,hg',rest⟩
  have hob:(hd c').ownBlock=some g':=by rw [hv];rfl
  have hlt':g' < w'.heap.size:=by have:=((h.row c').lt g' hob).2;have:=hw1.size;have:=hg.size;omega
  exact ⟨g',cap',cur',hv,hbg,(hg2.block g' hlt' (by intro e1;cases e1;have:=h.lt;omega)).trans ((hne c' e g' hob).trans hg'),rest⟩
 ·have NM:∀ c',c'≠c->(hd c').ownBlock=none\/(hd c').ownBlock≠some g:=by
   intro c' e
   rcases hloc with hl | hl
   ·rw [<- hl];exact h.apart c' c e
   ·cases hv:(hd c').ownBlock with
    | none=>exact .inl rfl
    | some g' =>
     have:=((h.row c').lt g' hv).2;exact .inr (by intro e1;cases e1;omega)
  by_cases e:c'=c
  ·have e2:c''≠c:=fun q=>hcc (by rw [e,q])
   simp only [e,e2,if_true,if_false];refine .inr ?_;rcases NM c'' e2 with q | q
   ·rw [q];simp [Value.ownBlock]
   ·exact fun q2=>q q2.symm
  by_cases e2:c''=c
  ·simp only [e,e2,if_true,if_false]
   exact NM c' e
  simp only [e,e2,if_false];exact h.apart c' c'' hcc
def jd:List (Int × ByteArray):=S.signs.map fun l=>(l.headD 0,strOfNums l)
theorem Bw:jd.length=35:=by decide
def DI:ByteArray:=⟨(([92,61,61,32,92,62,62,32,92,60,60,32,62,62,61,32,60,60,61,32,42,42,32,47,47,32,124,124,32,38,38,32,61,61,32,92,61,32,92,62,32,92,60,32,62,61]:List UInt8).append [32,60,61,32,62,62,32,60,60,32,62,60,32,60,62,32,43,32,45,32,42,32,47,32,37,32,124,32,38,32,61,32,62,32,60,32,92,32,40,32,41,32,44,32,58,32,59]).toArray⟩
theorem PU:(Lib.fields DI.data.toList).map (fun l=>Value.string ⟨l.toArray⟩)=jd.map fun p=>Value.string p.2:=by
 have h:(Lib.fields DI.data.toList).map (fun l=>(⟨l.toArray⟩:ByteArray))=jd.map (·.2):=by decide +kernel
 have h2:=congrArg (List.map Value.string) h;rw [List.map_map,List.map_map] at h2;exact h2
theorem Xj:(Lib.fields DI.data.toList).length=35:=by decide +kernel
theorem SV:∀ (j:Nat) b,DI.data.toList[j]?=some b->b.toNat < 128:=fun j b hb =>
 of_decide_eq_true (List.all_eq_true.1 (show DI.data.toList.all (fun b=>decide (b.toNat < 128))=true by decide +kernel) b (List.mem_of_getElem? hb))
theorem Xk:∀ k:Fin 35,(bytesOf (jd.getD k.val (0,⟨#[]⟩)).2).headD 0=(jd.getD k.val (0,⟨#[]⟩)).1/\(bytesOf (jd.getD k.val (0,⟨#[]⟩)).2)≠[]/\0<=(jd.getD k.val (0,⟨#[]⟩)).1/\(jd.getD k.val (0,⟨#[]⟩)).1 < 256:=by decide +kernel
theorem Ag.adX (w:World) (o:Obj):Ag ((w.alloc (.map #[] 0)).alloc o) w.heap.size (w.heap.size+2) [] (fun _=>.slice none 0 0) (.map []) :=
 ⟨(World.ownsMap_made _ _ _ _).alloc o,fun c _ _=>⟨_,rfl,rfl⟩,fun c=>World.ownsRow_nil _ _ _ _,fun c c' _=>.inl rfl,by omega⟩
set_option maxRecDepth 100000 in
set_option maxHeartbeats 4000000 in
theorem LB.calls (w:World) (hT:Lib.TabIs Tryz.prog (w.alloc (.map #[] 0)) "strings.asciiSpace" .u8 Lib.asciiSpaceTab) :
  Calls Tryz.prog 88 #[] w fun e w'=>e=.returned (.map (some w.heap.size))/\Below w.heap.size w w'/\∃ hd D,Ag w' w.heap.size (w.heap.size+2) jd hd D:=by
 have hmm:=@run_makeMap Tryz.prog;have hfi:=Tryz.strings_Fields_laid DI (w.alloc (.map #[] 0)) (by decide) SV hT;rw [Xj,PU] at hfi;have HFI:=Lib.hid hfi;have HI0:=ah.mk (Ag.adX w (.cells (jd.map fun p=>Value.string p.2).toArray 9));have iG:ah (((w.alloc (.map #[] 0)).alloc (.cells (jd.map fun p=>Value.string p.2).toArray 9)).heap[w.heap.size+1]?=some (.cells (jd.map fun p=>Value.string p.2).toArray 9 (0,0))):=⟨by
  have:=heap_alloc_new (w.alloc (.map #[] 0)) (.cells (jd.map fun p=>Value.string p.2).toArray 9);rwa [World.size_alloc] at this⟩
 have HB0:ah (Below w.heap.size w ((w.alloc (.map #[] 0)).alloc (.cells (jd.map fun p=>Value.string p.2).toArray 9))):=⟨av (av (Below.refl _ _) _) _⟩;have HS0:ah (w.heap.size+2<=((w.alloc (.map #[] 0)).alloc (.cells (jd.map fun p=>Value.string p.2).toArray 9)).heap.size):=⟨by simp⟩;clear hfi hT;go_enter Tryz.func88,Tryz.ntmps88
 go_wp2_with (go_at_call 122;refine HFI.out.mono ?_;rintro e w1 ⟨rfl,rfl⟩)
 obtain ⟨W0,hW0⟩:∃ W0,(w.alloc (.map #[] 0)).alloc (.cells (jd.map fun p=>Value.string p.2).toArray 9)=W0:=⟨_,rfl⟩;rw [hW0] at HI0 iG HB0 HS0 |-
 clear hW0 HFI;generalize hH:w.heap.size=H at *;obtain ⟨i0,hi,hz0,hz1,hz2⟩:=info_parts (show (Tryz.prog.info? 9).map (fun i=>(i.zero,i.size,i.bytes))=some (some (.string ⟨#[]⟩),1,16) by kernel_rfl);go_loopg [3,7] 35 (fun gg _ s7 wr=>∃ (kk:Nat) (hd:Int->Value) (D:DataW Unit),kk<=35/\35 - kk<=gg/\s7=.int .i64 kk/\ah (Ag wr H (H+2) (jd.take kk) hd D)/\ah (wr.heap[H+1]?=some (.cells (jd.map fun p=>Value.string p.2).toArray 9 (0,0)))/\ah (Below H w wr)/\ah (H+2<=wr.heap.size))
 case atStart=>exact ⟨0,_,_,by omega,by omega,rfl,HI0,iG,HB0,HS0⟩
 case round =>
  obtain ⟨kk,hd,D,hkk,hg,rfl,HI,HR,HB,HS⟩:=hrel;by_cases hlt:kk < 35
  rotate_left
  ·obtain rfl:kk=35:=by omega
   go_wp2;go_ret;rw [hH];refine ⟨rfl,HB.out,hd,D,?_⟩;have:=HI.out;rw [List.take_of_length_le (by rw [Bw];omega)] at this;exact this
  have hltz:(kk:Int) < 35:=by omega
  obtain ⟨q1,q2,q3,q4⟩:=Xk ⟨kk,hlt⟩;simp only at q1 q2 q3 q4;have hget:jd[kk]?=some (jd.getD kk (0,⟨#[]⟩)):=by
   rw [List.getD_eq_getElem?_getD,List.getElem?_eq_getElem (by rw [Bw];exact hlt)];rfl
  have htake:jd.take (kk+1)=jd.take kk++[jd.getD kk (0,⟨#[]⟩)]:=by
   rw [List.take_add_one,hget];rfl
  have hcell:wr.cell? ⟨H+1,kk,none⟩=some (.string (jd.getD kk (0,⟨#[]⟩)).2):=by
   refine (au HR.out kk).trans ?_;rw [List.getElem?_toArray,List.getElem?_map,hget];rfl
  obtain ⟨p,hp⟩:∃ p,jd.getD kk (0,⟨#[]⟩)=p:=⟨_,rfl⟩;rw [hp] at q1 q2 q3 q4 htake hcell;obtain ⟨c,x⟩:=p;simp only at q1 q2 q3 q4 hcell;obtain ⟨y,M,hyM⟩:∃ y M,bytesOf x=y::M:=by
   rcases hb:bytesOf x with _ | ⟨y,M⟩
   ·exact absurd hb q2
   ·exact ⟨y,M,rfl⟩
  obtain ⟨hz,hby⟩:=Bf x y M hyM;rw [hyM] at q1;obtain rfl:y=c:=q1;have hzi:(0:Int) < (x.size:Int):=by omega
  have HI1:ah (Ag wr.drew H (H+2) (jd.take kk) hd D):=⟨⟨HI.out.map,HI.out.at_,HI.out.row,HI.out.apart,HI.out.lt⟩⟩;have HI2:ah (Ag (wr.alloc (.cells #[.string x] 9)).drew H (H+2) (jd.take kk) hd D):=⟨HI.out.kept (ay (av (Below.refl _ _) _))⟩;have aln:=HI1.out.look y q3 q4;have hlk2:=HI2.out.look y q3 q4;have HT:=ah.mk htake;have SX:(jd.take kk).length<=1000:=by rw [List.length_take];omega
  have HPL:=ah.mk SX;have hgl:(uw (jd.take kk) y).length<=1000:=by
   unfold uw;rw [List.length_map];exact Nat.le_trans (List.length_filter_le _ _) SX
  obtain ⟨gn,hgn⟩:∃ gn,(uw (jd.take kk) y).length=gn:=⟨_,rfl⟩;have HGN:=ah.mk hgn;rw [hgn] at hgl;clear q2 hyM hget htake SX hgn;go_wp2;go_region_law ((refine step_append_lies _ rfl (.tmp 17) (.tmp 19) 43 rfl (H+2) 9 i0 (.string ⟨#[]⟩) 1 16 Tryz.underlying43 hi hz0 hz1 hz2 rfl (by decide) (hd y) gn ((uw (jd.take kk) y).map Value.string) rfl (by rw [<- HGN.out];exact HI2.out.row y) ⟨wr.heap.size,0,none⟩ 1 1 [.string x] rfl rfl (cell_one_new _ _ _) (by simp [Value.oneCell']) (by decide) (by unfold maxLen;omega) (by omega) (by have:=HS.out;simp;omega) (wr.heap.size+1) (by simp) ?_;intro g cap w' hown' hgr hl hlt';obtain ⟨w2,D2,hd2,hrun,hI2,hg2⟩:=HI.out.step (W1:=(wr.alloc (.cells #[.string x] 9)).drew) (ay (av (Below.refl _ _) _)) y q3 q4 x g cap HPL.out (by rw [HGN.out];exact hown') hgr (hl.imp id (fun e=>by omega)) HI.out.map.lt;rw [HGN.out] at hrun;have HI3:=ah.mk hI2;have HG3:=ah.mk (And.intro hgr hg2);clear hI2 hg2 hgr hown' hl))
  all_goals
   go_wp2;go_roundg (35 - (kk+1))
   case measure=>omega
   case rel =>
    obtain ⟨k1,k2⟩:=HG3.out;have adY:∀ k,(hd y).ownBlock=some k->H+2<=k:=fun k e=>((HI.out.row y).lt k e).1
    have hs1:=k1.size;have hs2:=k2.size;have hs0:=HS.out;have hs3:((wr.alloc (.cells #[.string x] 9)).drew).heap.size=wr.heap.size+1:=World.size_alloc _ _;refine ⟨kk+1,hd2,D2,by omega,by omega,by go_num,⟨by rw [HT.out];exact HI3.out⟩,⟨?_⟩,⟨?_⟩,⟨by omega⟩⟩
    ·refine (k2.block _ (by omega) (by simp)).trans ((k1.block _ (by omega) (by intro e;have:=adY _ e.symm;omega)).trans ?_)
     exact (Below.heap_alloc _ _ _ (by omega)).trans HR.out
    ·have b0:Below H w (wr.alloc (.cells #[.string x] 9)):=HB.out.alloc (by omega) _
     have b1:Below H w (wr.alloc (.cells #[.string x] 9)).drew:=⟨b0.os,b0.tape,b0.output,b0.size,b0.block⟩;exact (b1.grown k1 (by omega) (fun k e=>by have:=adY k e;omega)).grown k2 (by omega) (fun k e=>by cases e;omega)
theorem DJ (c:Int):uw jd c=(S.signs.filter fun l=>decide (l.headD 0=c)).map strOfNums:=by
 unfold uw jd;rw [List.filter_map,List.map_map];rfl
theorem vN:∀ l∈S.signs,l≠[]/\l.length<=3/\∀ x∈l,0<=x/\x < 256:=by decide
theorem PV (c:Int) (t:List Int):(uw jd c).find? (fun x=>(bytesOf x).isPrefixOf (c::t))=(S.signs.find? (fun x=>x.isPrefixOf (c::t))).map strOfNums:=by
 rw [DJ,List.find?_map,List.find?_filter];congr 1
 have key:∀ ls:List (List Int),(∀ l∈ls,l≠[]/\l.length<=3/\∀ x∈l,0<=x/\x < 256) ->
   ls.find? (fun a=>decide ((decide (a.headD 0=c))=true/\((fun x=>(bytesOf x).isPrefixOf (c::t)) ∘ strOfNums) a=true))=ls.find? (fun x=>x.isPrefixOf (c::t)):=by
  intro ls
  induction ls with
  | nil=>intro _;rfl
  | cons l ls ih =>
   intro h
   obtain ⟨h1,_,h2⟩:=h l (by simp);have e:decide ((decide (l.headD 0=c))=true/\((fun x=>(bytesOf x).isPrefixOf (c::t)) ∘ strOfNums) l=true)=l.isPrefixOf (c::t):=by
    simp only [Function.comp_apply];simp only [bW l h2];rcases l with _ | ⟨a,l'⟩
    ·exact absurd rfl h1
    ·by_cases ha:a=c
     ·subst ha;simp only [List.headD_cons,decide_true,true_and,Bool.decide_eq_true]
     ·simp [List.isPrefixOf,ha]
   rw [List.find?_cons,List.find?_cons,e,ih (fun l' hl'=>h l' (by simp [hl']))]
 exact key S.signs vN
structure ScM (s:Nat) (src:ByteArray) (i line:Int) (mb base:Nat) (hd:Int->Value) (D:DataW Unit) (w:World):Prop where
 sc:Sc s src i line (.map (some mb)) w
 sg:Ag w mb base jd hd D
 nm:mb≠s
 nr:∀ c g,(hd c).ownBlock=some g->g≠s
theorem Ag.but {s:Nat} {w w':World} {mb base:Nat} {hd:Int->Value} {D:DataW Unit} (h:Ag w mb base jd hd D) (nm:mb≠s) (nr:∀ c g,(hd c).ownBlock=some g->g≠s) (hb:But (·=s) w w'):Ag w' mb base jd hd D :=
 h.blk (hb.block _ h.map.lt nm) (fun c g hg=>hb.block _ ((h.row c).lt g hg).2 (nr c g hg))
set_option maxRecDepth 100000 in
set_option maxHeartbeats 4000000 in
theorem PW.calls (s:Nat) (src:ByteArray) (i line mb base:Nat) (hd:Int->Value) (D:DataW Unit) (w:World) (hsz:src.size<=100000) (hl:line<=1000000000) (hi:i < src.size) (h:ScM s src i line mb base hd D w) :
  Calls Tryz.prog 125 #[.pointer (some ⟨s,0,none⟩)] w fun e w'=>But (·=s) w w'/\qG s src (.map (some mb)) i line e w' (S.gJ ((bytesOf src).drop i)):=by
 have HM:=ah.mk h;obtain ⟨n,hn⟩:∃ n,src.size=n:=⟨_,rfl⟩;obtain ⟨L,hL⟩:∃ L,bytesOf src=L:=⟨_,rfl⟩;have HN:ah (L.length=n):=⟨by rw [<- hL,bytesOf_length];exact hn⟩;have hbi:=jT src i hi;rw [hL] at hbi |-
 have hdi:=drop_at L i (by rw [HN.out];omega);obtain ⟨c,hc⟩:∃ c,L.getD i 0=c:=⟨_,rfl⟩;have hcr:0<=c/\c < 256:=by rw [<- hc];exact eG src _ (by rw [hL];exact kQ _ _ (by rw [HN.out];omega))
 rw [hc] at hbi hdi;have PG:=ah.mk hdi;have HL:=ah.mk hL;have HX:ah (bytesOf (src.extract i n)=L.drop i):=⟨by rw [<- hn,qF,hL]⟩;have hz0:(0:Int)<=(i:Int):=by omega
 have hz1:(i:Int) < (n:Int):=by omega
 have hz2:(i:Int)<=(n:Int):=by omega
 obtain ⟨G,hG⟩:∃ G,uw jd c=G:=⟨_,rfl⟩;have hrow:=h.sg.row c;rw [hG] at hrow;obtain ⟨k,hk⟩:∃ k,G.length=k:=⟨_,rfl⟩;rw [hk] at hrow;obtain ⟨A,cap,hv⟩:∃ A cap,hd c=.slice A k cap:=by
  rcases hrow.2 with ⟨e,e2⟩ | ⟨g,cap,cur,e,_⟩
  ·exact ⟨_,_,by rw [e,e2]⟩
  ·exact ⟨_,_,e⟩
 have hlk:∀ y:mU s src i line (.map (some mb)) w,(Instr.lookup 91 (.map (some mb)) (.int .u8 c) false).run Tryz.prog y.world=.ok (.slice A k cap) y.world:=fun y=>by
  rw [<- hv];exact (h.sg.but h.nm h.nr y.but).look c hcr.1 hcr.2
 have hkb:k<=35:=by
  rw [<- hk,<- hG];unfold uw;rw [List.length_map];have:=List.length_filter_le (fun p:Int × ByteArray=>decide (p.1=c)) jd;rw [Bw] at this;exact this
 have hfind:=PV c (L.drop (i+1));rw [hG,<- hdi] at hfind;have hgr:∀ x∈G,x.size<=3/\∃ l,x=strOfNums l:=by
  intro x hx
  rw [<- hG,DJ] at hx;obtain ⟨l,hl,rfl⟩:=List.mem_map.1 hx;obtain ⟨_,h1,h2⟩:=vN l (List.mem_filter.1 hl).1;refine ⟨?_,l,rfl⟩;rw [<- bytesOf_length,bW l h2];exact h1
 have NP:=ah.mk hgr;clear hgr;have HF:=ah.mk hfind;have alo:=ah.mk hrow;have HG:=ah.mk hG;have HV:=ah.mk hv;have HK:=ah.mk hk;have HW0:ah (Sc s src i line (.map (some mb)) w.drew/\But (·=s) w w.drew):=⟨h.sc,(But.refl _ w).drew⟩;have cc0:∀ y:mU s src i line (.map (some mb)) w,y.world.cell? ⟨s,0,none⟩=some (.string src):=mU.c0;have QF:∀ y:mU s src i line (.map (some mb)) w,y.world.cell? ⟨s,1,none⟩=some (.int .i64 i):=mU.c1;have cc3:∀ y:mU s src i line (.map (some mb)) w,y.world.cell? ⟨s,3,none⟩=some (.map (some mb)):=mU.c3;have hne:Nonempty (mU s src i line (.map (some mb)) w):=⟨⟨w.drew,HW0.out.1,HW0.out.2⟩⟩;clear hfind hrow hG hv hk hL hc hdi hcr;rw [hn] at hsz hi;go_enter Tryz.func125,Tryz.ntmps125
 go_upto_region 1 with (fail)
 refine dA (fun W=>∃ y:mU s src i line (.map (some mb)) w,W=y.world) (by kernel_rfl) (by kernel_rfl) ⟨⟨w.drew,HW0.out.1,HW0.out.2⟩,rfl⟩ ?_;repeat (go_big_quiet_step (fail))
 refine wpQuiet_nil ?_;rintro W ⟨y,rfl⟩
 go_wp2;have HY0:ah (∃ y2:mU s src i line (.map (some mb)) w,y.world=y2.world):=⟨⟨y,rfl⟩⟩;generalize y.world=W0 at *;go_loopg [4,20] (k+1) (fun gg _ s20 wr=>∃ j:Nat,j<=k/\k+1 - j<=gg/\s20=.int .i64 j/\ah (∃ y2:mU s src i line (.map (some mb)) w,wr=y2.world)/\ah ((G.drop j).find? (fun x=>(bytesOf x).isPrefixOf (L.drop i))=G.find? (fun x=>(bytesOf x).isPrefixOf (L.drop i))))
 case atStart=>exact ⟨0,Nat.zero_le _,by omega,rfl,HY0,⟨rfl⟩⟩
 case round =>
  obtain ⟨j,hj,hg,rfl,HY,HA⟩:=hrel;obtain ⟨y2,hy2⟩:=HY.out;have hs2:=y2.sc;have hb2:=y2.but;rw [<- hy2] at hs2 hb2;have HS2:=ah.mk hs2;have HB2:=ah.mk hb2;have d1:=hs2.c1;have d2:=hs2.c2;have f1:=hs2.fr 1;clear hs2 hb2 hy2;by_cases hlt:j < k
  rotate_left
  ·obtain rfl:j=k:=by omega
   have hnone:S.signs.find? (fun x=>x.isPrefixOf (L.drop i))=none:=by
    have h1:=HF.out;have hG0:G.drop j=[]:=List.drop_eq_nil_of_le (by rw [HK.out];omega);rw [<- HA.out,hG0] at h1;cases h2:S.signs.find? (fun x=>x.isPrefixOf (L.drop i)) with
    | none=>rfl
    | some v=>rw [h2] at h1;cases h1
   have HT:ah (S.gJ (L.drop i)=.err 13):=⟨by unfold S.gJ;rw [hnone]⟩;have HFL:=Lib.hid (kg.calls (.pointer (some ⟨s,0,none⟩)) 13 line wr);clear hnone;go_wp2_with (go_at_call 97;refine HFL.out.mono ?_;rintro e w3 ⟨rfl,rfl⟩;unfold Fails)
   refine ⟨rfl,HB2.out,?_⟩;rw [HT.out];exact ⟨rfl,_,HS2.out⟩
  have hltz:(j:Int) < (k:Int):=by omega
  have hGl:j < G.length:=by rw [HK.out];exact hlt
  have hdj:G.drop j=G[j]::G.drop (j+1):=List.drop_eq_getElem_cons hGl;have hxm:G[j]∈G:=List.getElem_mem hGl;have hgj:(G.map Value.string)[j]?=some (.string G[j]):=by rw [List.getElem?_map,List.getElem?_eq_getElem hGl];rfl
  obtain ⟨x,hx⟩:∃ x,G[j]=x:=⟨_,rfl⟩;rw [hx] at hdj hxm hgj;have hr2:=(HM.out.sg.but HM.out.nm HM.out.nr HB2.out).row c;rw [HG.out,HK.out,HV.out] at hr2;rcases hr2.2 with ⟨_,e2⟩ | ⟨g,cap',cur,e,_⟩
  ·omega
  simp only [Value.slice.injEq] at e;obtain ⟨rfl,_,rfl⟩:=e;have hcell:wr.cell? ⟨g,j,none⟩=some (.string x):=by rw [hr2.cellAt j (by omega),hgj]
  obtain ⟨b,hb⟩:∃ b,(bytesOf x).isPrefixOf (L.drop i)=b:=⟨_,rfl⟩;have hcall:∀ W,Calls Tryz.prog 123 #[.string (src.extract i n),.string x] W fun e W'=>e=.returned (.bool b)/\W'=W:=fun W=>by
   have h:=Tryz.strings_HasPrefix (src.extract i n) x W;rw [sK,HX.out,hb] at h;exact h
  have hxs:=(NP.out x hxm).1;have HXL:=ah.mk (NP.out x hxm).2;have HC:=Lib.hid hcall;have HDJ:=ah.mk hdj;have HB:=ah.mk hb;clear hr2 hcall hdj hgj hx hxm hb;have hne2:Nonempty (mU s src i line (.map (some mb)) w):=hne;go_upto_region 4 with (fail)
  refine dA (fun W=>∃ y:mU s src i line (.map (some mb)) w,W=y.world) (by kernel_rfl) (by kernel_rfl) ⟨⟨wr.drew,HS2.out,HB2.out.drew⟩,rfl⟩ ?_;repeat (go_big_quiet_step ((rename_i y;(go_at_call 123;refine (HC.out _).mono ?_;rintro e w' ⟨rfl,rfl⟩;exact ⟨rfl,y,rfl⟩))))
  refine wpQuiet_nil ?_;rintro W ⟨y3,rfl⟩
  have Lg:=ah.mk y3.sc;have HB3:=ah.mk y3.but;have c1:=y3.sc.c1;have fr1:=y3.sc.fr 1;generalize y3.world=W3 at *;cases b with
  | true =>
   have hfs:∃ l,S.signs.find? (fun x=>x.isPrefixOf (L.drop i))=some l/\x=strOfNums l/\x.size=l.length:=by
    have h1:=HF.out;rw [<- HA.out,HDJ.out,List.find?_cons] at h1;simp only [HB.out] at h1;cases h2:S.signs.find? (fun x=>x.isPrefixOf (L.drop i)) with
    | none=>rw [h2] at h1;cases h1
    | some v =>
     rw [h2] at h1;simp only [Option.map_some,Option.some.injEq] at h1;obtain ⟨_,_,h4⟩:=vN v (List.mem_of_find?_eq_some h2);refine ⟨v,rfl,h1,?_⟩;rw [h1,<- bytesOf_length,bW v h4]
   obtain ⟨l,hl1,hl2,hl3⟩:=hfs;have HT:ah (S.gJ (L.drop i)=.ok l l.length):=⟨by unfold S.gJ;rw [hl1]⟩;have HL2:=ah.mk hl2;have HL3:=ah.mk hl3;clear hl1 hl2 hl3;obtain ⟨xn,hxn⟩:∃ xn,x.size=xn:=⟨_,rfl⟩;rw [hxn] at hxs;rw [hxn] at HL3;have hw:IntKind.i64.wrap ((i:Int)+(xn:Int))=(i:Int)+(xn:Int):=uq _ (by omega) (by omega);go_wp2_with fail
   go_ret;refine ⟨HB3.out.set _ _ rfl,?_⟩;rw [HT.out];refine ⟨by rw [HL2.out];rfl,?_⟩;rw [<- HL3.out];exact Lg.out.set1 _
  | false =>
   go_wp2_with fail
   go_roundg (k+1 - (j+1))
   case measure=>omega
   case rel =>
    refine ⟨j+1,by omega,by omega,by go_num,⟨⟨_,Lg.out,HB3.out⟩,rfl⟩,⟨?_⟩⟩;rw [<- HA.out,HDJ.out,List.find?_cons];simp only [HB.out]
end Go.Proofs.YtkkpjonfaflkmaaGreatDoor.T
namespace Go.Proofs.YtkkpjonfaflkmaaGreatDoor.T
open Go.RowKit Go.Proofs.aj.aI Go.Proofs.aj.aY Go.Proofs.aj.bq
def om (s:Nat) (src:ByteArray) (m:Value) (line:Nat) (e:Ending) (w':World):S.CR->Prop
 | .eof=>e=Fails 6 line/\∃ i' l':Nat,Sc s src i' l' m w'
 | .done i' l' bad=>if bad=0 then e=.returned (.tuple #[])/\Sc s src i' l' m w' else e=Fails 13 bad/\∃ i' l':Nat,Sc s src i' l' m w'
theorem om.ret {s:Nat} {src:ByteArray} {m:Value} {line i' l' bad:Nat} {w':World} (hb:bad=0) (h:Sc s src i' l' m w'):om s src m line (.returned (.tuple #[])) w' (.done i' l' bad):=by
 show if bad=0 then _ else _
 rw [if_pos hb];exact ⟨rfl,h⟩
theorem om.fail {s:Nat} {src:ByteArray} {m:Value} {line i' l' bad j k:Nat} {w':World} (hb:¬ bad=0) (h:Sc s src j k m w'):om s src m line (Fails 13 bad) w' (.done i' l' bad):=by
 show if bad=0 then _ else _
 rw [if_neg hb];exact ⟨rfl,_,_,h⟩
set_option maxRecDepth 100000 in
set_option maxHeartbeats 4000000 in
theorem Fu.calls (s:Nat) (src:ByteArray) (m:Value) (i line:Nat) (w:World) (hsz:src.size<=1000000) (hl:line<=1000000000) (hi:i<=src.size) (hst:S.dQ ((bytesOf src).drop i)=true) (h:Sc s src i line m w) :
  Calls Tryz.prog 124 #[.pointer (some ⟨s,0,none⟩)] w fun e w'=>But (·=s) w w'/\om s src m line e w' (S.jD ((bytesOf src).drop i) i 0 line 0):=by
 have HS:=ah.mk h;obtain ⟨n,hn⟩:∃ n,src.size=n:=⟨_,rfl⟩;obtain ⟨L,hL⟩:∃ L,bytesOf src=L:=⟨_,rfl⟩;have HN:ah (L.length=n):=⟨by rw [<- hL,bytesOf_length];exact hn⟩;rw [hL] at hst |-
 obtain ⟨R,hR⟩:∃ R,S.jD (L.drop i) i 0 line 0=R:=⟨_,rfl⟩;rw [hR];have HR:=ah.mk hR;have HL:=ah.mk hL;have HST:=ah.mk hst;have h2:=h.c2;clear hR hL hst h;rw [hn] at hsz hi;go_enter Tryz.func124,Tryz.ntmps124
 go_step3
 go_wp2;go_step3
 go_wp2;go_loopg [3,4,5] (n+1) (fun gg s3 s4 _ wr=>∃ kk dp ln bd:Nat,kk<=n/\n+1 - kk<=gg/\s3=.int .i64 dp/\s4=.int .i64 bd/\ah (Sc s src kk ln m wr)/\ah (But (·=s) w wr)/\dp<=kk/\ln<=line+kk/\bd<=line+kk/\ah (1<=dp\/S.dQ (L.drop kk)=true)/\ah (S.jD (L.drop kk) kk dp ln bd=R))
 case atStart=>exact ⟨i,0,line,0,hi,by omega,rfl,rfl,HS,⟨.refl _ _⟩,by omega,by omega,by omega,⟨.inr HST.out⟩,HR⟩
 case round =>
  obtain ⟨kk,dp,ln,bd,hkk,hg,rfl,rfl,HC,HB,hdp,hln,hbd,HD,HA⟩:=hrel;have c0:=HC.out.c0;have c1:=HC.out.c1;have hkz:(kk:Int)<=(n:Int):=by omega
  have hk0:(0:Int)<=(kk:Int):=by omega
  go_wp2;go_region
  have EG:ah (Sc s src kk ln m wr.drew):=HC;have HB1:ah (But (·=s) w wr.drew):=⟨HB.out.drew⟩;have c0':wr.drew.cell? ⟨s,0,none⟩=some (.string src):=c0;have c1':wr.drew.cell? ⟨s,1,none⟩=some (.int .i64 kk):=c1;have c2':wr.drew.cell? ⟨s,2,none⟩=some (.int .i64 ln):=EG.out.c2;have f1:=EG.out.fr 1;have f2:=EG.out.fr 2;clear HC HB c0 c1;generalize wr.drew=w1 at *;have HM:ah (bytesOf (src.extract kk n)=L.drop kk):=⟨by rw [<- hn,qF,HL.out]⟩;generalize src.extract kk n=rs at *;have HE:ah ((bytesOf rs).length=n - kk):=⟨by rw [HM.out,List.length_drop,HN.out]⟩;have HDR:ah (∀ j,L.drop (kk+j)=(L.drop kk).drop j):=⟨fun j=>by rw [List.drop_drop]⟩;rcases hM:L.drop kk with _ | ⟨y,M⟩
  ·rw [hM] at HM HA HD
   have hkn:kk=n:=by
    have:=HE.out;rw [HM.out] at this;simp at this
    omega
   have e0:(rs.toList==([]:List UInt8))=true:=by rw [uo,HM.out];rfl
   have HF:=Lib.hid (kg.calls (.pointer (some ⟨s,0,none⟩)) 6 line w1);clear hM;go_wp2_with (go_at_call 97;refine HF.out.mono ?_;rintro e w' ⟨rfl,rfl⟩;unfold Fails)
   have hR:R=.eof:=HA.out.symm;rw [hR];exact ⟨rfl,HB1.out,rfl,_,_,EG.out⟩
  ·have HMM:=ah.mk hM
   rw [hM] at HM HA HD HDR;have hlt:kk < n:=by
    have:=HE.out;rw [HM.out] at this;simp at this
    omega
   have e0:(rs.toList==([]:List UInt8))=false:=by rw [uo,HM.out];rfl
   obtain ⟨hz,hy⟩:=Bf rs y M HM.out;have hzi:(0:Int) < (rs.size:Int):=by omega
   have hw1:IntKind.i64.wrap ((kk:Int)+1)=((kk+1:Nat):Int):=by rw [uq _ (by omega) (by omega)];omega
   have hw2:IntKind.i64.wrap ((kk:Int)+2)=((kk+2:Nat):Int):=by rw [uq _ (by omega) (by omega)];omega
   have hw3:IntKind.i64.wrap ((dp:Int)+1)=((dp+1:Nat):Int):=by rw [uq _ (by omega) (by omega)];omega
   have hw4:IntKind.i64.wrap ((ln:Int)+1)=((ln+1:Nat):Int):=by rw [uq _ (by omega) (by omega)];omega
   have HCA:=ah.mk (fun (x:Nat)=>EG.out.set1 (x:Int));have HBA:=ah.mk (fun (v:Value)=>HB1.out.set ⟨s,1,none⟩ v rfl);clear hM;by_cases hp1:S.st2 47 42 (y::M)=true
   ·
    obtain ⟨z,t,rfl,rfl,rfl⟩:∃ z t,M=z::t/\y=47/\z=42:=by
     rcases M with _ | ⟨z,t⟩
     ·cases hp1
     ·simp [S.st2] at hp1
      exact ⟨z,t,rfl,hp1⟩
    have hk2:kk+2<=n:=by
     have:=HE.out;rw [HM.out] at this;simp at this
     omega
    have H1:=Lib.hid (wI.calls rs 47 42 true (by rw [HM.out];exact hp1) w1);have HA2:ah (S.jD (L.drop (kk+2)) (kk+2) (dp+1) ln bd=R):=⟨by
     rw [HDR.out 2,<- HA.out];simp [S.jD]⟩
    clear hp1;go_wp2_with (go_at_call 123;refine H1.out.mono ?_;rintro e w' ⟨rfl,rfl⟩)
    go_roundg (n+1 - (kk+2))
    case measure=>omega
    case rel =>
     refine ⟨kk+2,dp+1,ln,bd,by omega,by omega,by go_num,rfl,⟨?_⟩,⟨?_⟩,by omega,by omega,by omega,⟨.inl (by omega)⟩,HA2⟩
     ·exact HCA.out (kk+2)
     ·exact HBA.out _
   ·have hp1':S.st2 47 42 (y::M)=false:=by simpa using hp1
    have hd1:1<=dp:=by
     rcases HD.out with h | h
     ·exact h
     ·rw [S.Bb,hp1'] at h;cases h
    have hw5:IntKind.i64.wrap ((dp:Int) - 1)=((dp - 1:Nat):Int):=by rw [uq _ (by omega) (by omega)];omega
    have H1:=Lib.hid (wI.calls rs 47 42 false (by rw [HM.out];exact hp1') w1);by_cases hp2:S.st2 42 47 (y::M)=true
    ·
     obtain ⟨z,t,rfl,rfl,rfl⟩:∃ z t,M=z::t/\y=42/\z=47:=by
      rcases M with _ | ⟨z,t⟩
      ·cases hp2
      ·simp [S.st2] at hp2
       exact ⟨z,t,rfl,hp2⟩
     have hk2:kk+2<=n:=by
      have:=HE.out;rw [HM.out] at this;simp at this
      omega
     have H2:=Lib.hid (wI.calls rs 42 47 true (by rw [HM.out];exact hp2) w1);clear hp1 hp1' hp2;by_cases hd:dp=1
     rotate_left
     ·have e5:(((dp - 1:Nat):Int)==0)=false:=beq_eq_false_iff_ne.2 (by omega)
      have HA2:ah (S.jD (L.drop (kk+2)) (kk+2) (dp - 1) ln bd=R):=⟨by
       rw [HDR.out 2,<- HA.out];simp [S.jD,hd]⟩
      go_wp2_with (go_at_call 123;(first | (with_reducible refine H1.out.mono ?_) | (with_reducible refine H2.out.mono ?_));rintro e w' ⟨rfl,rfl⟩)
      go_roundg (n+1 - (kk+2))
      case measure=>omega
      case rel =>
       refine ⟨kk+2,dp - 1,ln,bd,by omega,by omega,by go_num,rfl,⟨?_⟩,⟨?_⟩,by omega,by omega,by omega,⟨.inl (by omega)⟩,HA2⟩
       ·exact HCA.out (kk+2)
       ·exact HBA.out _
     have hR:R=.done (kk+2) ln bd:=by
      rw [<- HA.out];simp [S.jD,hd]
     have e5:(((dp - 1:Nat):Int)==0)=true:=by rw [hd];rfl
     by_cases hb:bd=0
     ·have b1:decide (0 < bd)=false:=decide_eq_false (by omega)
      have b2:decide ((0:Int) < (bd:Int))=false:=decide_eq_false (by omega);have HCF:=HCA.out (kk+2);have HF:=ah.mk HCF;clear HCF;go_wp2_with (go_at_call 123;(first | (with_reducible refine H1.out.mono ?_) | (with_reducible refine H2.out.mono ?_));rintro e w' ⟨rfl,rfl⟩)
      try rw [Exit.noGoto_normal]
      go_end0
      rw [hR];exact ⟨HBA.out _,om.ret hb HF.out⟩
     have b1:decide (0 < bd)=true:=decide_eq_true (by omega);have b2:decide ((0:Int) < (bd:Int))=true:=decide_eq_true (by omega);have HF:=Lib.hid (fun W=>kg.calls (.pointer (some ⟨s,0,none⟩)) 13 bd W);go_wp2_with (first | (go_at_call 123;(first | (with_reducible refine H1.out.mono ?_) | (with_reducible refine H2.out.mono ?_));rintro e w' ⟨rfl,rfl⟩) | (go_at_call 97;refine (HF.out _).mono ?_;rintro e w' ⟨rfl,rfl⟩;unfold Fails))
     rw [hR];exact ⟨rfl,HBA.out _,om.fail hb (HCA.out (kk+2))⟩
    ·have abu:S.st2 42 47 (y::M)=false:=by simpa using hp2
     have H2:=Lib.hid (wI.calls rs 42 47 false (by rw [HM.out];exact abu) w1);have hstep:S.jD (y::M) kk dp ln bd=S.jD M (kk+1) dp (if y=10 then ln+1 else ln) (if y≠10/\S.iT y=false/\bd=0 then ln else bd):=by
      rcases M with _ | ⟨z,t⟩
      ·rfl
      ·simp only [S.st2,Bool.and_eq_false_iff,decide_eq_false_iff_not] at hp1' abu
       conv=>{ lhs;unfold S.jD }
       rw [if_neg (by omega),if_neg (by omega)]
     rw [hstep] at HA;have hD1:L.drop (kk+1)=M:=HDR.out 1;clear hp1 hp1' hp2 abu hstep;by_cases lM:y=10
     ·have e6:(y==10)=true:=beq_iff_eq.2 lM
      rw [if_pos lM,if_neg (fun q=>q.1 lM)] at HA;have aiK:=ah.mk (fun (l x:Nat)=>(EG.out.set2 (l:Int)).set1 (x:Int));have aiL:=ah.mk (fun (u v:Value)=>(HB1.out.set ⟨s,2,none⟩ u rfl).set ⟨s,1,none⟩ v rfl);go_wp2_with (go_at_call 123;(first | (with_reducible refine H1.out.mono ?_) | (with_reducible refine H2.out.mono ?_));rintro e w' ⟨rfl,rfl⟩)
      go_roundg (n+1 - (kk+1))
      case measure=>omega
      case rel =>
       refine ⟨kk+1,dp,ln+1,bd,by omega,by omega,rfl,rfl,⟨?_⟩,⟨?_⟩,by omega,by omega,by omega,⟨.inl (by omega)⟩,⟨by rw [hD1];exact HA.out⟩⟩
       ·exact aiK.out (ln+1) (kk+1)
       ·exact aiL.out _ _
     have e6:(y==10)=false:=beq_eq_false_iff_ne.2 lM;rw [if_neg lM] at HA;have HP:=Lib.hid (fun W=>gB.calls y (S.iT y) W (Ny y));by_cases hpr:S.iT y=true
     ·rw [if_neg (by rw [hpr];simp)] at HA
      rw [hpr] at HP;go_wp2_with (first | (go_at_call 123;(first | (with_reducible refine H1.out.mono ?_) | (with_reducible refine H2.out.mono ?_));rintro e w' ⟨rfl,rfl⟩) | (go_at_call 65;refine (HP.out _).mono ?_;rintro e w' ⟨rfl,⟨⟨q,rfl⟩⟩⟩))
      go_roundg (n+1 - (kk+1))
      case measure=>omega
      case rel =>
       refine ⟨kk+1,dp,ln,bd,by omega,by omega,rfl,rfl,⟨?_⟩,⟨?_⟩,by omega,by omega,by omega,⟨.inl (by omega)⟩,⟨by rw [hD1];exact HA.out⟩⟩
       ·exact HCA.out (kk+1)
       ·exact (HBA.out _).drewN q
     have WT:S.iT y=false:=by simpa using hpr
     rw [WT] at HP;by_cases hb:bd=0
     ·have b1:((bd:Int)==0)=true:=beq_iff_eq.2 (by omega)
      rw [if_pos ⟨lM,WT,hb⟩] at HA;go_wp2_with (first | (go_at_call 123;(first | (with_reducible refine H1.out.mono ?_) | (with_reducible refine H2.out.mono ?_));rintro e w' ⟨rfl,rfl⟩) | (go_at_call 65;refine (HP.out _).mono ?_;rintro e w' ⟨rfl,⟨⟨q,rfl⟩⟩⟩))
      go_roundg (n+1 - (kk+1))
      case measure=>omega
      case rel =>
       refine ⟨kk+1,dp,ln,ln,by omega,by omega,rfl,rfl,⟨?_⟩,⟨?_⟩,by omega,by omega,by omega,⟨.inl (by omega)⟩,⟨by rw [hD1];exact HA.out⟩⟩
       ·exact HCA.out (kk+1)
       ·exact (HBA.out _).drewN q
     have b1:((bd:Int)==0)=false:=beq_eq_false_iff_ne.2 (by omega);rw [if_neg (fun q=>hb q.2.2)] at HA;go_wp2_with (first | (go_at_call 123;(first | (with_reducible refine H1.out.mono ?_) | (with_reducible refine H2.out.mono ?_));rintro e w' ⟨rfl,rfl⟩) | (go_at_call 65;refine (HP.out _).mono ?_;rintro e w' ⟨rfl,⟨⟨q,rfl⟩⟩⟩))
     go_roundg (n+1 - (kk+1))
     case measure=>omega
     case rel =>
      refine ⟨kk+1,dp,ln,bd,by omega,by omega,rfl,rfl,⟨?_⟩,⟨?_⟩,by omega,by omega,by omega,⟨.inl (by omega)⟩,⟨by rw [hD1];exact HA.out⟩⟩
      ·exact HCA.out (kk+1)
      ·exact (HBA.out _).drewN q
end Go.Proofs.YtkkpjonfaflkmaaGreatDoor.T
