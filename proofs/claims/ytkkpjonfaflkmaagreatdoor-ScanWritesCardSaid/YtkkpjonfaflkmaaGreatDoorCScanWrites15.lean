/- A part of the proof of ScanWrites. -/
import Derived.Test.YtkkpjonfaflkmaaGreatDoorCScanWrites14
set_option linter.all false
namespace Go.Proofs.YtkkpjonfaflkmaaGreatDoor.T
open Go.RowKit Go.Proofs.aj.aI Go.Proofs.aj.aY Go.Proofs.aj.bq
def BP (ln:Int) (v:List Int) (n:Nat):Int × ByteArray × Int × Int × Int:=if 1000 < v.length then (0,⟨#[]⟩,0,30,ln) else (2,strOfNums v,(n:Int),0,0)
def abH (xs:List Int) (ln:Int):Option (List Int × Nat)->Int × ByteArray × Int × Int × Int
 | none=>(0,⟨#[]⟩,0,6,ln)
 | some (v,e)=>if v.all S.iT=true then (if S.sfx (xs.drop (e+1))=0 then BP ln v (e+1) else match S.eU v (S.sfx (xs.drop (e+1))) with
   | none=>(0,⟨#[]⟩,0,15,ln)
   | some u=>BP ln u (e+2)) else (0,⟨#[]⟩,0,13,ln)
def eX.f (k:Nat) (a0:ByteArray) (a1:Int) (a2:Int):Option (Int × ByteArray × Int × Int × Int) :=
 if 0<=a1/\a1 < (a0.size:Int)/\a0.size<=100000/\(bt a0 a1=39\/bt a0 a1=34) then some (abH (bytesOf a0) a2 (S.lit (bt a0 a1) ((bytesOf a0).drop (a1.toNat+1)) (a1.toNat+1) [])) else none
theorem abI (q:Int) (t:List Int) (i:Nat) (acc:List Int):S.lit q (10::t) i acc=none:=by
 rcases t with _ | ⟨d,t⟩<;>rw [S.lit,if_pos rfl]
theorem aeH {q y:Int} (h1:y≠10) (h2:y≠q) (t:List Int) (i:Nat) (acc:List Int):S.lit q (y::t) i acc=S.lit q t (i+1) (acc++[y]):=by
 rcases t with _ | ⟨d,t⟩
 ·show (if y=10 then none else if y=q then some (acc,i) else none)=none
  rw [if_neg h1,if_neg h2]
 ·rw [S.lit,if_neg h1,if_neg h2]
theorem abJ {q:Int} (h1:q≠10) (t:List Int) (i:Nat) (acc:List Int):S.lit q (q::q::t) i acc=S.lit q t (i+2) (acc++[q]):=by
 rw [S.lit,if_neg h1,if_pos rfl,if_pos rfl]
theorem TJ {q:Int} (h1:q≠10) (t:List Int) (h:t.head?≠some q) (i:Nat) (acc:List Int):S.lit q (q::t) i acc=some (acc,i):=by
 rcases t with _ | ⟨d,t⟩
 ·rw [S.lit,if_neg h1,if_pos rfl]
 ·rw [S.lit,if_neg h1,if_pos rfl,if_neg (by simpa using h)]
theorem nu.ints {base:Nat} {A:Option Addr} {c:Nat} {xs:List Int} {W:World} (h:nu base (.slice A xs.length c) xs W):fD W .u8 A xs.length xs:=by
 rcases h with ⟨h1,rfl⟩ | ⟨g,cap,h1,_,_,h2,h3,h4,_⟩
 ·exact ⟨rfl,by decide,fun h=>absurd h (by simp)⟩
 ·simp at h1
  obtain ⟨rfl,rfl⟩:=h1;exact ⟨rfl,by omega,fun _=>⟨_,rfl,fun j hj=>by rw [add_plain];exact h4 j hj⟩⟩
theorem TK {b:Int} {t:List Int} (h:S.sfx (b::t)≠0):S.sfx (b::t)=S.kF b:=by
 rcases t with _ | ⟨d,t⟩
 ·rfl
 ·simp only [S.sfx] at h |-
  split
  ·rename_i hh;rw [if_pos hh] at h;exact absurd rfl h
  ·rfl
theorem Jz {b:Int} (h:S.kF b≠0):b=88\/b=120\/b=66\/b=98:=by
 unfold S.kF at h;split at h
 ·omega
 ·split at h
  ·omega
  ·exact absurd rfl h
theorem aeI {W:World} {G:Nat} (h:W.heap[G]?=some (.cells #[.int .i64 0,.string ⟨#[]⟩,.int .i64 0,.int .i64 0,.int .i64 0] 82 (0,0))) (a:Int) (b:ByteArray) (c d e:Int) :
  (((((W.setCell ⟨G,0,none⟩ (.int .i64 a)).setCell ⟨G,1,none⟩ (.string b)).setCell ⟨G,2,none⟩ (.int .i64 c)).setCell ⟨G,3,none⟩ (.int .i64 d)).setCell ⟨G,4,none⟩ (.int .i64 e)).heap[G]?=some (.cells #[.int .i64 a,.string b,.int .i64 c,.int .i64 d,.int .i64 e] 82 (0,0)) :=
 aW (aW (aW (aW (aW h 0 _ rfl) 1 _ rfl) 2 _ rfl) 3 _ rfl) 4 _ rfl
theorem yN {W:World} {G:Nat} (h:W.heap[G]?=some (.cells #[.int .i64 0,.string ⟨#[]⟩,.int .i64 0,.int .i64 0,.int .i64 0] 82 (0,0))) :
  W.cell? ⟨G,0,none⟩=some (.int .i64 0)/\W.cell? ⟨G,1,none⟩=some (.string ⟨#[]⟩)/\W.cell? ⟨G,2,none⟩=some (.int .i64 0)/\W.cell? ⟨G,3,none⟩=some (.int .i64 0)/\W.cell? ⟨G,4,none⟩=some (.int .i64 0) /\
   W.frozen? ⟨G,0,none⟩=false/\W.frozen? ⟨G,1,none⟩=false/\W.frozen? ⟨G,2,none⟩=false/\W.frozen? ⟨G,3,none⟩=false/\W.frozen? ⟨G,4,none⟩=false :=
 ⟨(au h 0).trans rfl,(au h 1).trans rfl,(au h 2).trans rfl,(au h 3).trans rfl,(au h 4).trans rfl,aA h 0,aA h 1,aA h 2,aA h 3,aA h 4⟩
theorem TL {w W:World} {G:Nat} (hb:Below G w W) (a:Int) (b:ByteArray) (c d e:Int) :
  Below G w (((((W.setCell ⟨G,0,none⟩ (.int .i64 a)).setCell ⟨G,1,none⟩ (.string b)).setCell ⟨G,2,none⟩ (.int .i64 c)).setCell ⟨G,3,none⟩ (.int .i64 d)).setCell ⟨G,4,none⟩ (.int .i64 e)) :=
 ((((hb.setCell (p:=⟨G,0,none⟩) (Nat.le_refl _) _).setCell (p:=⟨G,1,none⟩) (Nat.le_refl _) _).setCell (p:=⟨G,2,none⟩) (Nat.le_refl _) _).setCell (p:=⟨G,3,none⟩) (Nat.le_refl _) _).setCell (p:=⟨G,4,none⟩) (Nat.le_refl _) _
set_option maxHeartbeats 16000000 in
set_option maxRecDepth 100000 in
theorem eX.calls (k:Nat) (a0:ByteArray) (a1:Int) (a2:Int) (r1:Int) (r2:ByteArray) (r3:Int) (r4:Int) (r5:Int) (w:World) (h:eX.f k a0 a1 a2=some (r1,r2,r3,r4,r5)) :
  Calls Tryz.prog 71 #[.string a0,.int .i64 a1,.int .i64 a2] w fun e w'=>e=.returned (.agg #[.int .i64 r1,.string r2,.int .i64 r3,.int .i64 r4,.int .i64 r5])/\Below w.heap.size w w':=by
 unfold eX.f at h;by_cases hc:0<=a1/\a1 < (a0.size:Int)/\a0.size<=100000/\(bt a0 a1=39\/bt a0 a1=34)
 rotate_left
 ·rw [if_neg hc] at h
  cases h
 rw [if_pos hc] at h;obtain ⟨hp0,hp1,hsz,hq⟩:=hc;obtain ⟨p,hp⟩:∃ p:Nat,a1=(p:Int):=⟨a1.toNat,by omega⟩;rw [hp,Int.toNat_natCast,<- hp] at h;obtain ⟨q,hqe⟩:∃ q,bt a0 a1=q:=⟨_,rfl⟩;have hbq:=dJ a0 a1;rw [hqe] at h hq hbq;obtain ⟨L,hL⟩:∃ L,S.lit q ((bytesOf a0).drop (p+1)) (p+1) []=L:=⟨_,rfl⟩;rw [hL] at h;have HH:=ah.mk (Option.some.inj h);have HL:=ah.mk hL;have HP:=ah.mk hp;have VF:=ah.mk hsz;have HQ:=ah.mk hq;have hw1:IntKind.i64.wrap (a1+1)=a1+1:=(dK _).trans (by unfold wrap64;omega);have p0:(0<=a1)=True:=eq_true hp0;have p1:(a1 < (a0.size:Int))=True:=eq_true hp1;have HP1:=ah.mk hp1;have hnl:(bytesOf a0).length=a0.size:=bytesOf_length a0;clear h hqe hL hsz hq hp hp0 hp1;go_enter Tryz.func71,Tryz.ntmps71
 go_upto_region 1 with (fail)
 have hbx:=heap_alloc_new w (.cells #[.int .i64 0,.string ⟨#[]⟩,.int .i64 0,.int .i64 0,.int .i64 0] 82);have hb0:Below w.heap.size w (w.alloc (.cells #[.int .i64 0,.string ⟨#[]⟩,.int .i64 0,.int .i64 0,.int .i64 0] 82)):=av (Below.refl _ _) _;have hs0:=World.size_alloc w (.cells #[.int .i64 0,.string ⟨#[]⟩,.int .i64 0,.int .i64 0,.int .i64 0] 82);obtain ⟨G,hG⟩:∃ G,w.heap.size=G:=⟨_,rfl⟩;rw [hG] at hbx hb0 hs0;try rw [hG]
 have HBX:=ah.mk hbx;have HB0:=ah.mk hb0;have HS0:=ah.mk hs0;have HGG:=ah.mk hG;clear hbx hb0 hs0 hG;generalize w.alloc (.cells #[.int .i64 0,.string ⟨#[]⟩,.int .i64 0,.int .i64 0,.int .i64 0] 82)=W0 at *;go_wp2;have fin:∀ (v0:Int) (v1:ByteArray) (v2 v3 v4:Int),(v0,v1,v2,v3,v4)=(r1,r2,r3,r4,r5)->∀ (tmps:Array Value) (W:World),tmps.getD 6 undef=.pointer (some ⟨G,0,none⟩)->Below G w W->W.heap[G]?=some (.cells #[.int .i64 0,.string ⟨#[]⟩,.int .i64 0,.int .i64 0,.int .i64 0] 82 (0,0)) ->
   bodyPost Tryz.prog Tryz.f71 (fun e w'=>e=.returned (.agg #[.int .i64 r1,.string r2,.int .i64 r3,.int .i64 r4,.int .i64 r5])/\Below w.heap.size w w') Exit.ret { tmps:=tmps,defers:=[] } (((((W.setCell ⟨G,0,none⟩ (.int .i64 v0)).setCell ⟨G,1,none⟩ (.string v1)).setCell ⟨G,2,none⟩ (.int .i64 v2)).setCell ⟨G,3,none⟩ (.int .i64 v3)).setCell ⟨G,4,none⟩ (.int .i64 v4)):=by
  intro v0 v1 v2 v3 v4 hv tmps W ht hb hx
  simp only [Prod.mk.injEq] at hv;obtain ⟨rfl,rfl,rfl,rfl,rfl⟩:=hv;refine bodyPost_ret (results_cell_row rfl tmps _ G 82 _ (0,0) _ ht (aeI hx _ _ _ _ _) Tryz.underlying82 rfl (by kernel_rfl)) rfl ?_;exact ⟨rfl,by rw [HGG.out];exact TL hb _ _ _ _ _⟩
 have bI:=Lib.hid fin;clear fin;go_loopg [8,10,11] (a0.size+2) (fun gg s8 s10 s11 wr=>∃ (i:Nat) (x t:Int) (acc:List Int),s11=.int .i64 x/\s10=.int .i64 t/\ah (x=(i:Int)/\i<=a0.size/\p+1<=i)/\ah (nu (G+1) s8 acc wr)/\ah (Below G w wr)/\ah (G+1<=wr.heap.size)/\ah (wr.heap[G]?=some (.cells #[.int .i64 0,.string ⟨#[]⟩,.int .i64 0,.int .i64 0,.int .i64 0] 82 (0,0)))/\ah (acc.length<=i) /\
  ((decide (t < 0)=true/\a0.size - i+1<=gg/\ah (S.lit q ((bytesOf a0).drop i) i acc=L)/\ah (t < 0))\/(decide (t < 0)=false/\ah (t=(i:Int)+1/\L=some (acc,i)/\i < a0.size))))
 case atStart =>
  have e1:=HP.out;have e2:=HP1.out;exact ⟨p+1,a1+1,-1,[],rfl,rfl,⟨by omega,by omega,Nat.le_refl _⟩,⟨nu.nil _ _⟩,HB0,⟨by rw [HS0.out];omega⟩,HBX,⟨Nat.zero_le _⟩,.inl ⟨rfl,by omega,⟨HL.out⟩,⟨by decide⟩⟩⟩
 case round =>
  obtain ⟨i,x,t,acc,rfl,rfl,HX,HO,HB,HS,TM,HAC,(⟨d0,hg,HLI,HT0⟩ | ⟨d0,HLE⟩)⟩:=hrel
  ·by_cases hi:i < a0.size
   rotate_left
   ·have l1:decide ((a0.size:Int)<=x)=true:=decide_eq_true (by have:=HX.out;omega)
    have hR:=HH.out;rw [<- HLI.out,show (bytesOf a0).drop i=[] from List.drop_of_length_le (by omega)] at hR;have HR:=ah.mk hR;clear hi hR;obtain ⟨b0,b1,b2,b3,b4,b5,b6,b7,b8,b9⟩:=yN TM.out;go_wp2;refine bI.out _ _ _ _ _ HR.out _ _ ?_ HB.out TM.out;rfl
   have hxe:=HX.out;have l1:decide ((a0.size:Int)<=x)=false:=decide_eq_false (by omega);have px:(0<=x)=True:=eq_true (by omega);have qx:(x < (a0.size:Int))=True:=eq_true (by omega);have hbx:=dJ a0 x;have hd:=fB a0 (i:=i) hi;obtain ⟨y,hy⟩:∃ y,bt a0 x=y:=⟨_,rfl⟩;rw [hy] at hbx;rw [<- hxe.1,hy] at hd;have DY:=HLI.out;rw [hd] at DY;have hw2:IntKind.i64.wrap (x+1)=x+1:=(dK _).trans (by have:=VF.out;unfold wrap64;omega);have hw3:IntKind.i64.wrap (x+2)=x+2:=(dK _).trans (by have:=VF.out;unfold wrap64;omega);by_cases lM:y=10
   ·have d1:(y==10)=true:=beq_iff_eq.2 lM
    have hR:=HH.out;rw [<- DY,lM,abI] at hR;have HR:=ah.mk hR;clear DY hd hy lM hxe hi hR;obtain ⟨b0,b1,b2,b3,b4,b5,b6,b7,b8,b9⟩:=yN TM.out;go_wp2;refine bI.out _ _ _ _ _ HR.out _ _ ?_ HB.out TM.out;rfl
   have d1:(y==10)=false:=beq_eq_false_iff_ne.2 lM;by_cases hyq:y=q
   rotate_left
   ·have d2:(y==q)=false:=beq_eq_false_iff_ne.2 hyq
    rw [aeH lM hyq] at DY;have HL2:=ah.mk DY;have HI:=ah.mk hi;clear DY hd hy lM hxe hi hyq;go_wp2_with (at_builtin;refine rZ (w0:=wr) rfl (.tmp 40) (.tmp 44) 100 100 5 rfl Tryz.underlying100 (by kernel_rfl) (G+1) _ acc rfl (HO.out.alloc _) _ rfl [y] (ND wr Tryz.underlying100 y 5) (by have:=HAC.out;have:=HX.out;have:=VF.out;simp;omega) (by have:=HS.out;simp;omega) ((av (Below.refl _ _) _).mono HS.out) ?_;intro v1 w1 ho1 hb1;have LP:=ah.mk ho1;have HB1:=ah.mk hb1;clear ho1 hb1)
    go_roundg (a0.size - (i+1)+1)
    case measure=>have:=HI.out;omega
    case rel=>exact ⟨i+1,x+1,t,acc++[y],rfl,rfl,⟨by have:=HX.out;have:=HI.out;omega⟩,LP,⟨HB.out.trans (HB1.out.mono (by omega))⟩,⟨Nat.le_trans HS.out HB1.out.size⟩,⟨(HB1.out.block G (by omega)).trans TM.out⟩,⟨by have:=HAC.out;simp;omega⟩,.inl ⟨d0,Nat.le_refl _,HL2,HT0⟩⟩
   have d2:(y==q)=true:=beq_iff_eq.2 hyq;subst hyq;by_cases hj:i+1 < a0.size
   rotate_left
   ·have l2:decide (x+1 < (a0.size:Int))=false:=decide_eq_false (by omega)
    rw [show (bytesOf a0).drop (i+1)=[] from List.drop_of_length_le (by omega),TJ lM _ (by simp)] at DY;have HL2:=ah.mk DY;have HI:=ah.mk hi;clear DY hd hy lM hxe hi hj;go_wp2;go_roundg 0
    case measure=>omega
    case rel=>exact ⟨i,x,x+1,acc,rfl,rfl,HX,HO,HB,HS,TM,HAC,.inr ⟨decide_eq_false (by have:=HX.out;omega),⟨by have:=HX.out;exact ⟨by omega,HL2.out.symm,HI.out⟩⟩⟩⟩
   have l2:decide (x+1 < (a0.size:Int))=true:=decide_eq_true (by omega);have px2:(0<=x+1)=True:=eq_true (by omega);have qx2:(x+1 < (a0.size:Int))=True:=eq_true (by omega);have hbz:=dJ a0 (x+1);have hd2:=fB a0 (i:=i+1) hj;obtain ⟨z,hz⟩:∃ z,bt a0 (x+1)=z:=⟨_,rfl⟩;rw [hz] at hbz;rw [show ((i+1:Nat):Int)=x+1 by omega,hz] at hd2;rw [hd2] at DY;by_cases Ll:z=y
   ·have d3:(z==y)=true:=beq_iff_eq.2 Ll
    rw [Ll,abJ lM] at DY;have HL2:=ah.mk DY;have HI:=ah.mk hj;clear DY hd hd2 hy hz lM hxe hi hj Ll;go_wp2_with (at_builtin;refine rZ (w0:=wr) rfl (.tmp 69) (.tmp 71) 100 100 5 rfl Tryz.underlying100 (by kernel_rfl) (G+1) _ acc rfl (HO.out.alloc _) _ rfl [y] (ND wr Tryz.underlying100 y 5) (by have:=HAC.out;have:=HX.out;have:=VF.out;simp;omega) (by have:=HS.out;simp;omega) ((av (Below.refl _ _) _).mono HS.out) ?_;intro v1 w1 ho1 hb1;have LP:=ah.mk ho1;have HB1:=ah.mk hb1;clear ho1 hb1)
    go_roundg (a0.size - (i+2)+1)
    case measure=>have:=HI.out;omega
    case rel=>exact ⟨i+2,x+2,t,acc++[y],rfl,rfl,⟨by have:=HX.out;have:=HI.out;omega⟩,LP,⟨HB.out.trans (HB1.out.mono (by omega))⟩,⟨Nat.le_trans HS.out HB1.out.size⟩,⟨(HB1.out.block G (by omega)).trans TM.out⟩,⟨by have:=HAC.out;simp;omega⟩,.inl ⟨d0,Nat.le_refl _,HL2,HT0⟩⟩
   have d3:(z==y)=false:=beq_eq_false_iff_ne.2 Ll;rw [TJ lM _ (by simpa using Ll)] at DY;have HL2:=ah.mk DY;have HI:=ah.mk hi;clear DY hd hd2 hy hz lM hxe hi hj Ll;go_wp2;go_roundg 0
   case measure=>omega
   case rel=>exact ⟨i,x,x+1,acc,rfl,rfl,HX,HO,HB,HS,TM,HAC,.inr ⟨decide_eq_false (by have:=HX.out;omega),⟨by have:=HX.out;exact ⟨by omega,HL2.out.symm,HI.out⟩⟩⟩⟩
  ·obtain ⟨hte,XG,hi⟩:=HLE.out
   obtain ⟨A,c,rfl,hAc⟩:=HO.out.slice;have ZV:=nS (P:=Tryz.prog) (src:=100) (dst:=9) (e:=5) (c:=c) Tryz.underlying100 Tryz.underlying5 Tryz.underlying9 HO.out.ints;have hxe:=HX.out;have hap:=HP.out;have hw4:IntKind.i64.wrap (t - 1)=t - 1:=(dK _).trans (by have:=VF.out;unfold wrap64;omega);have hw5:IntKind.i64.wrap (t+1)=t+1:=(dK _).trans (by have:=VF.out;unfold wrap64;omega);have s1:decide (0<=a1+1)=true:=decide_eq_true (by omega);have s2:decide (a1+1<=t - 1)=true:=decide_eq_true (by omega);have s3:decide (t - 1<=(a0.size:Int))=true:=decide_eq_true (by omega);have s4:(0<=a1+1)=True:=eq_true (by omega);have s5:(a1+1<=t - 1)=True:=eq_true (by omega);have s6:(t - 1<=(a0.size:Int))=True:=eq_true (by omega);have hlr:=HL.out;rw [XG] at hlr;obtain ⟨u,r,g1,g2,g3,g4,g5,g6,g7⟩:=S.FV q _ _ _ _ _ hlr;rw [List.nil_append] at g3;subst g3;have hby:bytesOf (a0.extract (a1+1).toNat (t.toNat - 1))=r:=by
    rw [show (a1+1).toNat=p+1 by omega,show t.toNat - 1=i by omega,g2];exact gP a0 (p+1) i
   have hrl:r.length<=100000:=by have:=VF.out;omega
   have hR:=HH.out;rw [XG] at hR;unfold abH at hR;have HR:=ah.mk hR;have Xz:=ah.mk hby;have hdec:∀ (base:Int) (w:Nat),S.decode base w r=S.decode base w acc:=fun base w=>by
    have hh:S.pY q < 0:=by rcases HQ.out with rfl | rfl<;>decide
    by_cases hin:q∈r
    ·rw [S.BO base w hh _ hin,S.BO base w hh _ (g5.1 hin)]
    ·rw [g6 hin]
   have abm:=ah.mk hdec;have HPL:=ah.mk g4;have HRL:=ah.mk hrl;clear hR hby hdec g1 g2 g4 g5 g6 g7 hlr hrl XG hte hi hxe hap hAc;go_upto_region 18 with (fail)
   obtain ⟨inn,aeJ⟩:∃ inn,a0.extract (a1+1).toNat (t.toNat - 1)=inn:=⟨_,rfl⟩;rw [aeJ] at Xz |-
   clear aeJ;have hil:(bytesOf inn).length=inn.size:=bytesOf_length inn;have hpl:=LW inn (by have:=HRL.out;rw [Xz.out] at hil;omega) 200000 (by have:=HRL.out;rw [Xz.out] at hil;omega);rw [Xz.out,HPL.out] at hpl;cases hv:acc.all S.iT with
   | false =>
    rw [hv] at hpl;have hR:=HR.out;simp only [hv] at hR;rw [if_neg Bool.false_ne_true] at hR;have HR2:=ah.mk hR;have abK:=ah.mk hpl;clear hR hpl hv hil;go_upto_region 19 with (go_at_call 43;refine (bR.calls 200000 inn false _ abK.out).mono ?_;rintro e w1 ⟨rfl,⟨nd,rfl⟩⟩)
    obtain ⟨b0,b1,b2,b3,b4,b5,b6,b7,b8,b9⟩:=yN (aH TM.out nd);go_wp2;refine bI.out _ _ _ _ _ HR2.out _ _ ?_ (ak HB.out nd) (aH TM.out nd);rfl
   | true =>
    rw [hv] at hpl;have hR:=HR.out;simp only [hv] at hR;rw [if_pos trivial] at hR;have HR2:=ah.mk hR;have abK:=ah.mk hpl;have HV:ah (∀ x∈acc,S.iT x=true):=⟨List.all_eq_true.1 hv⟩;clear hR hpl hv hil;go_upto_region 20 with (go_at_call 43;refine (bR.calls 200000 inn true _ abK.out).mono ?_;rintro e w1 ⟨rfl,⟨nd,rfl⟩⟩)
    have XH:=ah.mk (aH TM.out nd);have HB1:=ah.mk (ak HB.out nd);generalize wr.drewN nd=W1 at *;go_cut [14] (fun v14 wc=>∃ sx:Bool,v14=.bool sx/\ah (sx=decide (S.sfx ((bytesOf a0).drop (i+1))≠0))/\aG W1 wc)
    case first =>
     obtain ⟨hte,XG,hi⟩:=HLE.out;have hxe:=HX.out;by_cases c1:i+1 < a0.size
     rotate_left
     ·have e1:decide (t < (a0.size:Int))=false:=decide_eq_false (by omega)
      have HZ:ah (false=decide (S.sfx ((bytesOf a0).drop (i+1))≠0)):=⟨by
       rw [show (bytesOf a0).drop (i+1)=[] from List.drop_of_length_le (by omega)];rfl⟩
      clear hte XG hi hxe c1;go_wp2;go_meet
      case rel=>exact ⟨false,rfl,HZ,aG.refl _⟩
     have e1:decide (t < (a0.size:Int))=true:=decide_eq_true (by omega);have pt:(0<=t)=True:=eq_true (by omega);have qt:(t < (a0.size:Int))=True:=eq_true (by omega);have hbt:=dJ a0 t;have hd:=fB a0 (i:=i+1) c1;rw [show ((i+1:Nat):Int)=t by omega] at hd;obtain ⟨b,hb⟩:∃ b,bt a0 t=b:=⟨_,rfl⟩;rw [hb] at hbt hd;have HDR:=ah.mk hd;by_cases hl:S.kF b=0
     ·have d1:(b==88)=false:=beq_eq_false_iff_ne.2 (fun e=>by subst e;revert hl;decide)
      have d2:(b==120)=false:=beq_eq_false_iff_ne.2 (fun e=>by subst e;revert hl;decide);have d3:(b==66)=false:=beq_eq_false_iff_ne.2 (fun e=>by subst e;revert hl;decide);have d4:(b==98)=false:=beq_eq_false_iff_ne.2 (fun e=>by subst e;revert hl;decide);have HZ:ah (false=decide (S.sfx ((bytesOf a0).drop (i+1))≠0)):=⟨by
       symm
       rw [HDR.out];exact decide_eq_false (fun h=>h (Classical.byContradiction fun hn=>hn ((TK hn).trans hl)))⟩
      clear hd hb hl hte XG hi hxe c1;go_wp2;go_meet
      case rel=>exact ⟨false,rfl,HZ,aG.refl _⟩
     have hbs:=Jz hl;have XI:=ah.mk hl;by_cases c2:i+2 < a0.size
     rotate_left
     ·have e2:decide ((a0.size:Int)<=t+1)=true:=decide_eq_true (by omega)
      have HZ:ah (true=decide (S.sfx ((bytesOf a0).drop (i+1))≠0)):=⟨by
       symm
       rw [HDR.out,show (bytesOf a0).drop (i+1+1)=[] from List.drop_of_length_le (by omega)];exact decide_eq_true XI.out⟩
      clear hd hb hl hte XG hi hxe c1 c2;rcases hbs with rfl | rfl | rfl | rfl
      all_goals
       go_wp2;go_meet
       case rel=>exact ⟨true,rfl,HZ,aG.refl _⟩
     have e2:decide ((a0.size:Int)<=t+1)=false:=decide_eq_false (by omega);have pt2:(0<=t+1)=True:=eq_true (by omega);have qt2:(t+1 < (a0.size:Int))=True:=eq_true (by omega);have hbz:=dJ a0 (t+1);have hd2:=fB a0 (i:=i+1+1) c2;rw [show ((i+1+1:Nat):Int)=t+1 by omega] at hd2;obtain ⟨z,hz⟩:∃ z,bt a0 (t+1)=z:=⟨_,rfl⟩;rw [hz] at hbz hd2;rw [hd2] at hd;have HD2:=ah.mk hd;cases hsy:S.sym z with
     | true =>
      have HCH:ah (dw.f z=some true):=⟨by rw [Jv,hsy]⟩;have HZ:ah (false=decide (S.sfx ((bytesOf a0).drop (i+1))≠0)):=⟨by symm;rw [HD2.out,S.sfx,if_pos hsy];rfl⟩;clear hd hd2 hb hz hl hte XG hi hxe c1 c2 hsy;rcases hbs with rfl | rfl | rfl | rfl
      all_goals
       go_wp2_with (go_at_call 58;refine (dw.calls z true _ HCH.out).mono ?_;rintro e w1 ⟨rfl,hdr⟩)
       go_meet
       case rel=>exact ⟨false,rfl,HZ,hdr⟩
     | false =>
      have HCH:ah (dw.f z=some false):=⟨by rw [Jv,hsy]⟩;have HZ:ah (true=decide (S.sfx ((bytesOf a0).drop (i+1))≠0)):=⟨by
       symm
       rw [HD2.out,S.sfx,if_neg (by rw [hsy];decide)];exact decide_eq_true XI.out⟩
      clear hd hd2 hb hz hl hte XG hi hxe c1 c2 hsy;rcases hbs with rfl | rfl | rfl | rfl
      all_goals
       go_wp2_with (go_at_call 58;refine (dw.calls z false _ HCH.out).mono ?_;rintro e w1 ⟨rfl,hdr⟩)
       go_meet
       case rel=>exact ⟨true,rfl,HZ,hdr⟩
    case rest =>
     obtain ⟨sx,rfl,HSX,HD⟩:=hcut;obtain ⟨nn,rfl⟩:=HD.out;have wY:=ah.mk (aH XH.out nn);have HB2:=ah.mk (ak HB1.out nn);generalize W1.drewN nn=W2 at *;cases sx with
     | false =>
      have hR:=HR2.out;rw [if_pos (Classical.byContradiction fun hn=>by have:=HSX.out;rw [decide_eq_true hn] at this;cases this)] at hR;unfold BP at hR;have hte:((i+1:Nat):Int)=t:=by have:=HLE.out;omega
      rw [hte] at hR;have HVV:=HV;clear hte;obtain ⟨tx,htx⟩:∃ tx,strOfNums acc=tx:=⟨_,rfl⟩;have hzl:tx.size=acc.length:=by rw [<- htx];exact sV acc (fun x hx=>S.yM (HVV.out x hx))
      rw [htx] at hR |-
      clear htx;by_cases hlen:1000 < acc.length
      ·have z1:decide ((1000:Int) < (tx.size:Int))=true:=decide_eq_true (by omega)
       have z2:decide (1000 < tx.size)=true:=decide_eq_true (by omega);rw [if_pos hlen] at hR;have HR3:=ah.mk hR;clear hR hlen hzl;obtain ⟨b0,b1,b2,b3,b4,b5,b6,b7,b8,b9⟩:=yN wY.out;go_wp2;refine bI.out _ _ _ _ _ HR3.out _ _ ?_ HB2.out wY.out;rfl
      have z1:decide ((1000:Int) < (tx.size:Int))=false:=decide_eq_false (by omega);have z2:decide (1000 < tx.size)=false:=decide_eq_false (by omega);rw [if_neg hlen] at hR;have HR3:=ah.mk hR;clear hR hlen hzl;obtain ⟨b0,b1,b2,b3,b4,b5,b6,b7,b8,b9⟩:=yN wY.out;go_wp2;refine bI.out _ _ _ _ _ HR3.out _ _ ?_ HB2.out wY.out;rfl
     | true =>
      have hnz:S.sfx ((bytesOf a0).drop (i+1))≠0:=fun hn=>by have:=HSX.out;rw [decide_eq_false (fun h=>h hn)] at this;cases this
      have hR:=HR2.out;rw [if_neg hnz] at hR;have hte:=HLE.out.1;have c1:i+1 < a0.size:=Classical.byContradiction fun hn=>hnz (by rw [show (bytesOf a0).drop (i+1)=[] from List.drop_of_length_le (by omega)];rfl)
      have hd:=fB a0 (i:=i+1) c1;rw [show ((i+1:Nat):Int)=t by omega] at hd;have pt:(0<=t)=True:=eq_true (by omega);have qt:(t < (a0.size:Int))=True:=eq_true (by omega);have hbt:=dJ a0 t;have hi2:((i+2:Nat):Int)=t+1:=by omega
      obtain ⟨b,hb⟩:∃ b,bt a0 t=b:=⟨_,rfl⟩;rw [hb] at hbt hd;rw [hd] at hnz;have hsf:=TK hnz;rw [hd,hsf] at hR;rw [hsf] at hnz;have hbs:=Jz hnz;have hil:inn.size<=100000:=by have:=HRL.out;rw [<- Xz.out,bytesOf_length] at this;exact this
      have HBS:ah (∀ (base:Int) (w:Nat),(base=16\/base=2)->(w=2\/w=8)->bg.f 500000 inn base (w:Int)=(match S.decode base w acc with
        | none=>some ((⟨#[]⟩:ByteArray),false)
        | some u=>some (strOfNums u,true))):=⟨fun base w h1 h2=>by rw [abG inn hil base w h1 h2 500000 (by omega),Xz.out,abm.out];cases S.decode base w acc<;>rfl⟩
      clear hnz hsf hd hb c1 hil hte;have hb2:(b=88\/b=120)\/(b=66\/b=98):=by omega
      clear hbs;rcases hb2 with hb2 | hb2
      ·rcases hb2 with rfl | rfl
       all_goals
        have hR':(match S.decode 16 2 acc with
         | none=>((0:Int),(⟨#[]⟩:ByteArray),(0:Int),(15:Int),a2)
         | some u=>BP a2 u (i+2))=(r1,r2,r3,r4,r5):=hR
        clear hR;have hbf:=HBS.out 16 2 (by decide) (by decide);cases hdc:S.decode 16 2 acc with
        | none =>
         rw [hdc] at hR' hbf;have HBF:=ah.mk hbf;have HR3:=ah.mk hR';clear hR' hbf hdc hi2;go_upto_region 28 with (go_at_call 110;refine (bg.calls 500000 inn 16 2 ⟨#[]⟩ false _ HBF.out).mono ?_;rintro e w5 ⟨rfl,hb5⟩)
         have sD:=ah.mk (fF wY.out hb5);have IY:=ah.mk (HB2.out.trans (hb5.mono (Nat.le_of_lt (kV wY.out))));clear hb5;obtain ⟨b0,b1,b2,b3,b4,b5,b6,b7,b8,b9⟩:=yN sD.out;go_wp2;refine bI.out _ _ _ _ _ HR3.out _ _ ?_ IY.out sD.out;rfl
        | some u =>
         rw [hdc] at hR' hbf;have HBF:=ah.mk hbf;have hR:BP a2 u (i+2)=(r1,r2,r3,r4,r5):=hR';unfold BP at hR;rw [hi2] at hR;have HVV:ah (∀ x∈u,S.iT x=true):=⟨S.zG hdc⟩;clear hR' hbf hdc hi2;go_upto_region 28 with (go_at_call 110;refine (bg.calls 500000 inn 16 2 (strOfNums u) true _ HBF.out).mono ?_;rintro e w5 ⟨rfl,hb5⟩)
         have sD:=ah.mk (fF wY.out hb5);have IY:=ah.mk (HB2.out.trans (hb5.mono (Nat.le_of_lt (kV wY.out))));clear hb5;obtain ⟨tx,htx⟩:∃ tx,strOfNums u=tx:=⟨_,rfl⟩;have hzl:tx.size=u.length:=by rw [<- htx];exact sV u (fun x hx=>S.yM (HVV.out x hx))
         rw [htx] at hR |-
         clear htx;by_cases hlen:1000 < u.length
         ·have z1:decide ((1000:Int) < (tx.size:Int))=true:=decide_eq_true (by omega)
          have z2:decide (1000 < tx.size)=true:=decide_eq_true (by omega);rw [if_pos hlen] at hR;have HR3:=ah.mk hR;clear hR hlen hzl;obtain ⟨b0,b1,b2,b3,b4,b5,b6,b7,b8,b9⟩:=yN sD.out;go_wp2;refine bI.out _ _ _ _ _ HR3.out _ _ ?_ IY.out sD.out;rfl
         have z1:decide ((1000:Int) < (tx.size:Int))=false:=decide_eq_false (by omega);have z2:decide (1000 < tx.size)=false:=decide_eq_false (by omega);rw [if_neg hlen] at hR;have HR3:=ah.mk hR;clear hR hlen hzl;obtain ⟨b0,b1,b2,b3,b4,b5,b6,b7,b8,b9⟩:=yN sD.out;go_wp2;refine bI.out _ _ _ _ _ HR3.out _ _ ?_ IY.out sD.out;rfl
      ·rcases hb2 with rfl | rfl
       all_goals
        have hR':(match S.decode 2 8 acc with
         | none=>((0:Int),(⟨#[]⟩:ByteArray),(0:Int),(15:Int),a2)
         | some u=>BP a2 u (i+2))=(r1,r2,r3,r4,r5):=hR
        clear hR;have hbf:=HBS.out 2 8 (by decide) (by decide);cases hdc:S.decode 2 8 acc with
        | none =>
         rw [hdc] at hR' hbf;have HBF:=ah.mk hbf;have HR3:=ah.mk hR';clear hR' hbf hdc hi2;go_upto_region 28 with (go_at_call 110;refine (bg.calls 500000 inn 2 8 ⟨#[]⟩ false _ HBF.out).mono ?_;rintro e w5 ⟨rfl,hb5⟩)
         have sD:=ah.mk (fF wY.out hb5);have IY:=ah.mk (HB2.out.trans (hb5.mono (Nat.le_of_lt (kV wY.out))));clear hb5;obtain ⟨b0,b1,b2,b3,b4,b5,b6,b7,b8,b9⟩:=yN sD.out;go_wp2;refine bI.out _ _ _ _ _ HR3.out _ _ ?_ IY.out sD.out;rfl
        | some u =>
         rw [hdc] at hR' hbf;have HBF:=ah.mk hbf;have hR:BP a2 u (i+2)=(r1,r2,r3,r4,r5):=hR';unfold BP at hR;rw [hi2] at hR;have HVV:ah (∀ x∈u,S.iT x=true):=⟨S.zG hdc⟩;clear hR' hbf hdc hi2;go_upto_region 28 with (go_at_call 110;refine (bg.calls 500000 inn 2 8 (strOfNums u) true _ HBF.out).mono ?_;rintro e w5 ⟨rfl,hb5⟩)
         have sD:=ah.mk (fF wY.out hb5);have IY:=ah.mk (HB2.out.trans (hb5.mono (Nat.le_of_lt (kV wY.out))));clear hb5;obtain ⟨tx,htx⟩:∃ tx,strOfNums u=tx:=⟨_,rfl⟩;have hzl:tx.size=u.length:=by rw [<- htx];exact sV u (fun x hx=>S.yM (HVV.out x hx))
         rw [htx] at hR |-
         clear htx;by_cases hlen:1000 < u.length
         ·have z1:decide ((1000:Int) < (tx.size:Int))=true:=decide_eq_true (by omega)
          have z2:decide (1000 < tx.size)=true:=decide_eq_true (by omega);rw [if_pos hlen] at hR;have HR3:=ah.mk hR;clear hR hlen hzl;obtain ⟨b0,b1,b2,b3,b4,b5,b6,b7,b8,b9⟩:=yN sD.out;go_wp2;refine bI.out _ _ _ _ _ HR3.out _ _ ?_ IY.out sD.out;rfl
         have z1:decide ((1000:Int) < (tx.size:Int))=false:=decide_eq_false (by omega);have z2:decide (1000 < tx.size)=false:=decide_eq_false (by omega);rw [if_neg hlen] at hR;have HR3:=ah.mk hR;clear hR hlen hzl;obtain ⟨b0,b1,b2,b3,b4,b5,b6,b7,b8,b9⟩:=yN sD.out;go_wp2;refine bI.out _ _ _ _ _ HR3.out _ _ ?_ IY.out sD.out;rfl
def abL (a0:ByteArray) (p:Nat) (ln:Int) (n:Nat):Int × ByteArray × Int × Int × Int:=if 40 < n - p then (0,⟨#[]⟩,0,30,ln) else (1,ZU (a0.extract p n),(n:Int),0,0)
def eO.f (k:Nat) (a0:ByteArray) (a1:Int) (a2:Int):Option (Int × ByteArray × Int × Int × Int) :=
 if 0<=a1/\a1<=(a0.size:Int)/\a0.size<=100000 then some (abL a0 a1.toNat a2 (a1.toNat+S.dH ((bytesOf a0).drop a1.toNat))) else none
theorem Ob (p:Int->Bool):∀ xs:List Int,S.run p xs<=xs.length
 | []=>Nat.le_refl _
 | c::t=>by
  rw [S.run];split
  ·have:=Ob p t;simp only [List.length_cons];omega
  ·exact Nat.zero_le _
set_option maxHeartbeats 16000000 in
set_option maxRecDepth 100000 in
theorem eO.calls (k:Nat) (a0:ByteArray) (a1:Int) (a2:Int) (r1:Int) (r2:ByteArray) (r3:Int) (r4:Int) (r5:Int) (w:World) (h:eO.f k a0 a1 a2=some (r1,r2,r3,r4,r5)) :
  Calls Tryz.prog 59 #[.string a0,.int .i64 a1,.int .i64 a2] w fun e w'=>e=.returned (.agg #[.int .i64 r1,.string r2,.int .i64 r3,.int .i64 r4,.int .i64 r5])/\Below w.heap.size w w':=by
 unfold eO.f at h;by_cases hc:0<=a1/\a1<=(a0.size:Int)/\a0.size<=100000
 rotate_left
 ·rw [if_neg hc] at h
  cases h
 rw [if_pos hc] at h;obtain ⟨hp0,hp1,hsz⟩:=hc;obtain ⟨p,hp⟩:∃ p:Nat,a1=(p:Int):=⟨a1.toNat,by omega⟩;rw [show a1.toNat=p by omega] at h;have hnl:(bytesOf a0).length=a0.size:=bytesOf_length a0;obtain ⟨r,hr⟩:∃ r,S.run S.sym ((bytesOf a0).drop p)=r:=⟨_,rfl⟩;have hrl:=Ob S.sym ((bytesOf a0).drop p);rw [hr,List.length_drop,hnl] at hrl;have HRN:=ah.mk hr;have HH:=ah.mk (Option.some.inj h);have HF:ah (a1=(p:Int)/\p+r<=a0.size/\a0.size<=100000):=⟨hp,by omega,hsz⟩;have XI:=ah.mk hnl;clear h hsz hp hp0 hp1 hrl hr hnl;go_enter Tryz.func59,Tryz.ntmps59
 go_upto_region 1 with (fail)
 have hbx:=heap_alloc_new w (.cells #[.int .i64 0,.string ⟨#[]⟩,.int .i64 0,.int .i64 0,.int .i64 0] 82);have hb0:Below w.heap.size w (w.alloc (.cells #[.int .i64 0,.string ⟨#[]⟩,.int .i64 0,.int .i64 0,.int .i64 0] 82)):=av (Below.refl _ _) _;obtain ⟨G,hG⟩:∃ G,w.heap.size=G:=⟨_,rfl⟩;rw [hG] at hbx hb0;try rw [hG]
 have HBX:=ah.mk hbx;have HB0:=ah.mk hb0;have HGG:=ah.mk hG;clear hbx hb0 hG;generalize w.alloc (.cells #[.int .i64 0,.string ⟨#[]⟩,.int .i64 0,.int .i64 0,.int .i64 0] 82)=W0 at *;have fin:∀ (v0:Int) (v1:ByteArray) (v2 v3 v4:Int),(v0,v1,v2,v3,v4)=(r1,r2,r3,r4,r5)->∀ (tmps:Array Value) (W:World),tmps.getD 6 undef=.pointer (some ⟨G,0,none⟩)->Below G w W->W.heap[G]?=some (.cells #[.int .i64 0,.string ⟨#[]⟩,.int .i64 0,.int .i64 0,.int .i64 0] 82 (0,0)) ->
   bodyPost Tryz.prog Tryz.f59 (fun e w'=>e=.returned (.agg #[.int .i64 r1,.string r2,.int .i64 r3,.int .i64 r4,.int .i64 r5])/\Below w.heap.size w w') Exit.ret { tmps:=tmps,defers:=[] } (((((W.setCell ⟨G,0,none⟩ (.int .i64 v0)).setCell ⟨G,1,none⟩ (.string v1)).setCell ⟨G,2,none⟩ (.int .i64 v2)).setCell ⟨G,3,none⟩ (.int .i64 v3)).setCell ⟨G,4,none⟩ (.int .i64 v4)):=by
  intro v0 v1 v2 v3 v4 hv tmps W ht hb hx
  simp only [Prod.mk.injEq] at hv;obtain ⟨rfl,rfl,rfl,rfl,rfl⟩:=hv;refine bodyPost_ret (results_cell_row rfl tmps _ G 82 _ (0,0) _ ht (aeI hx _ _ _ _ _) Tryz.underlying82 rfl (by kernel_rfl)) rfl ?_;exact ⟨rfl,by rw [HGG.out];exact TL hb _ _ _ _ _⟩
 have bI:=Lib.hid fin;clear fin;go_upto_block 0 with (fail)
 go_cut [7] (fun v7 wc=>∃ x:Int,v7=.int .i64 x/\ah (x=((p+r:Nat):Int))/\aG W0 wc)
 case first =>
  go_wp2;go_loopg [7] (a0.size+1) (fun gg v7 wr=>∃ (i:Nat) (x:Int),v7=.int .i64 x/\ah (x=(i:Int)/\p<=i/\i<=a0.size/\p+r=i+S.run S.sym ((bytesOf a0).drop i))/\a0.size - i<=gg/\aG W0 wr)
  case atStart=>exact ⟨p,a1,rfl,⟨HF.out.1,Nat.le_refl _,by have:=HF.out;omega,by rw [HRN.out]⟩,by omega,aG.refl _⟩
  case round =>
   obtain ⟨i,x,rfl,HX,hg,HD⟩:=hrel;have hxe:=HX.out;by_cases hi:i < a0.size
   rotate_left
   ·have l1:decide (x < (a0.size:Int))=false:=decide_eq_false (by omega)
    have Oc:ah (x=((p+r:Nat):Int)):=⟨by
     have h4:=hxe.2.2.2;rw [show (bytesOf a0).drop i=[] from List.drop_of_length_le (by have:=XI.out;omega),S.run] at h4;omega⟩
    clear hxe hi;go_wp2;go_meet
    case rel=>exact ⟨x,rfl,Oc,HD⟩
   have l1:decide (x < (a0.size:Int))=true:=decide_eq_true (by omega);have px:(0<=x)=True:=eq_true (by omega);have qx:(x < (a0.size:Int))=True:=eq_true (by omega);have hbx:=dJ a0 x;have hd:=fB a0 (i:=i) hi;obtain ⟨y,hy⟩:∃ y,bt a0 x=y:=⟨_,rfl⟩;rw [hy] at hbx;rw [<- hxe.1,hy] at hd;have hw1:IntKind.i64.wrap (x+1)=x+1:=(dK _).trans (by have:=HF.out;unfold wrap64;omega);cases hs:S.sym y with
   | true =>
    have HC:ah (dw.f y=some true):=⟨by rw [Jv,hs]⟩;have Oc:ah (x+1=((i+1:Nat):Int)/\p<=i+1/\i+1<=a0.size/\p+r=i+1+S.run S.sym ((bytesOf a0).drop (i+1))):=⟨by
     have h4:=hxe.2.2.2;rw [hd,S.run,if_pos hs] at h4;exact ⟨by omega,by omega,by omega,by omega⟩⟩
    have HI:=ah.mk hi;clear hd hy hs hxe hi;go_wp2_with (go_at_call 58;refine (dw.calls y true _ HC.out).mono ?_;rintro e w1 ⟨rfl,hd1⟩)
    go_roundg (a0.size - (i+1))
    case measure=>have:=HI.out;omega
    case rel=>exact ⟨i+1,x+1,rfl,Oc,Nat.le_refl _,⟨by obtain ⟨a,ha⟩:=HD.out;obtain ⟨b,hb⟩:=hd1.out;exact ⟨a+b,by rw [hb,ha,World.drewN_drewN]⟩⟩⟩
   | false =>
    have HC:ah (dw.f y=some false):=⟨by rw [Jv,hs]⟩;have Oc:ah (x=((p+r:Nat):Int)):=⟨by
     have h4:=hxe.2.2.2;rw [hd,S.run,if_neg (by rw [hs];decide)] at h4;omega⟩
    clear hd hy hs hxe hi;go_wp2_with (go_at_call 58;refine (dw.calls y false _ HC.out).mono ?_;rintro e w1 ⟨rfl,hd1⟩)
    go_meet
    case rel=>exact ⟨x,rfl,Oc,⟨by obtain ⟨a,ha⟩:=HD.out;obtain ⟨b,hb⟩:=hd1.out;exact ⟨a+b,by rw [hb,ha,World.drewN_drewN]⟩⟩⟩
 case rest =>
  obtain ⟨x,rfl,HX,HD⟩:=hcut;obtain ⟨nn,rfl⟩:=HD.out;have XH:=ah.mk (aH HBX.out nn);have HB1:=ah.mk (ak HB0.out nn);clear HD;generalize W0.drewN nn=W1 at *;go_upto_region 4 with (fail)
  go_cut [51] (fun v51 wc=>∃ b:Bool,v51=.bool b/\ah (b=(S.ni (((bytesOf a0).drop p).take r)&&S.nI ((bytesOf a0).drop (p+r))))/\aG W1 wc)
  case first =>
   have hxe:=HX.out;have hf:=HF.out;have s1:decide (0<=a1)=true:=decide_eq_true (by omega);have s2:decide (a1<=x)=true:=decide_eq_true (by omega);have s3:decide (x<=(a0.size:Int))=true:=decide_eq_true (by omega);have s4:(0<=a1)=True:=eq_true (by omega);have s5:(a1<=x)=True:=eq_true (by omega);have s6:(x<=(a0.size:Int))=True:=eq_true (by omega);have hw1:IntKind.i64.wrap (x+1)=x+1:=(dK _).trans (by unfold wrap64;omega);have hby:bytesOf (a0.extract a1.toNat x.toNat)=((bytesOf a0).drop p).take r:=by
    rw [show a1.toNat=p by omega,show x.toNat=p+r by omega,gP,Nat.add_sub_cancel_left]
   have hm:=aeG (a0.extract a1.toNat x.toNat) (by rw [ByteArray.size_extract];omega) 200000 (by rw [ByteArray.size_extract];omega);rw [hby] at hm;cases hM:S.ni (((bytesOf a0).drop p).take r) with
   | false =>
    rw [hM] at hm;have HM:=ah.mk hm;have HZ:ah (false=(S.ni (((bytesOf a0).drop p).take r)&&S.nI ((bytesOf a0).drop (p+r)))):=⟨by rw [hM];rfl⟩;clear hm hby hxe hf hM;go_wp2_with (go_at_call 100;refine (aR.calls 200000 _ false _ HM.out).mono ?_;rintro e w1 ⟨rfl,hd1⟩)
    go_meet
    case rel=>exact ⟨false,rfl,HZ,hd1⟩
   | true =>
    rw [hM] at hm;have HM:=ah.mk hm;by_cases c1:p+r+1 < a0.size
    rotate_left
    ·have l1:decide (x+1 < (a0.size:Int))=false:=decide_eq_false (by omega)
     have HX0:ah (S.nI ((bytesOf a0).drop (p+r))=false):=⟨by
      have hl:((bytesOf a0).drop (p+r)).length<=1:=by have:=XI.out;rw [List.length_drop];omega
      match (bytesOf a0).drop (p+r),hl with
      | [],_=>rfl
      | [c],_=>rfl⟩
     have HZ:ah (false=(S.ni (((bytesOf a0).drop p).take r)&&S.nI ((bytesOf a0).drop (p+r)))):=⟨by rw [HX0.out,Bool.and_false]⟩;clear hm hby hxe hf hM c1;go_wp2_with (go_at_call 100;refine (aR.calls 200000 _ true _ HM.out).mono ?_;rintro e w1 ⟨rfl,hd1⟩)
     go_meet
     case rel=>exact ⟨false,rfl,HZ,hd1⟩
    have l1:decide (x+1 < (a0.size:Int))=true:=decide_eq_true (by omega);have px:(0<=x)=True:=eq_true (by omega);have qx:(x < (a0.size:Int))=True:=eq_true (by omega);have px2:(0<=x+1)=True:=eq_true (by omega);have qx2:(x+1 < (a0.size:Int))=True:=eq_true (by omega);have hbx:=dJ a0 x;have hbz:=dJ a0 (x+1);have hd:=fB a0 (i:=p+r) (by omega);have hd2:=fB a0 (i:=p+r+1) c1;rw [show ((p+r+1:Nat):Int)=x+1 by omega] at hd2;rw [<- hxe,hd2] at hd;obtain ⟨y,hy⟩:∃ y,bt a0 x=y:=⟨_,rfl⟩;obtain ⟨z,hz⟩:∃ z,bt a0 (x+1)=z:=⟨_,rfl⟩;rw [hy] at hbx hd;rw [hz] at hbz hd;have HE:ah ((S.ni (((bytesOf a0).drop p).take r)&&S.nI ((bytesOf a0).drop (p+r)))=((decide (y=43)||decide (y=45))&&S.kH z)):=⟨by rw [hM,hd];rfl⟩;cases hdz:S.kH z with
    | false =>
     have HC:ah (bD.f z=some false):=⟨by rw [vR,hdz]⟩;have HZ:ah (false=(S.ni (((bytesOf a0).drop p).take r)&&S.nI ((bytesOf a0).drop (p+r)))):=⟨by rw [HE.out,hdz,Bool.and_false]⟩;clear hd hd2 hy hz hm hby hxe hf hM c1 hdz;by_cases h43:y=43
     ·have d1:(y==43)=true:=beq_iff_eq.2 h43
      clear h43;go_wp2_with (first
       | (go_at_call 100;refine (aR.calls 200000 _ true _ HM.out).mono ?_;rintro e w1 ⟨rfl,hd1⟩)
       | (go_at_call 60;refine (bD.calls z false _ HC.out).mono ?_;rintro e w2 ⟨rfl,hd2⟩))
      go_meet
      case rel=>exact ⟨false,rfl,HZ,⟨by obtain ⟨a,ha⟩:=hd1.out;obtain ⟨b,hb⟩:=hd2.out;exact ⟨a+b,by rw [hb,ha,World.drewN_drewN]⟩⟩⟩
     have d1:(y==43)=false:=beq_eq_false_iff_ne.2 h43;by_cases h45:y=45
     ·have d2:(y==45)=true:=beq_iff_eq.2 h45
      clear h43 h45;go_wp2_with (first
       | (go_at_call 100;refine (aR.calls 200000 _ true _ HM.out).mono ?_;rintro e w1 ⟨rfl,hd1⟩)
       | (go_at_call 60;refine (bD.calls z false _ HC.out).mono ?_;rintro e w2 ⟨rfl,hd2⟩))
      go_meet
      case rel=>exact ⟨false,rfl,HZ,⟨by obtain ⟨a,ha⟩:=hd1.out;obtain ⟨b,hb⟩:=hd2.out;exact ⟨a+b,by rw [hb,ha,World.drewN_drewN]⟩⟩⟩
     have d2:(y==45)=false:=beq_eq_false_iff_ne.2 h45;clear h43 h45;go_wp2_with (go_at_call 100;refine (aR.calls 200000 _ true _ HM.out).mono ?_;rintro e w1 ⟨rfl,hd1⟩)
     go_meet
     case rel=>exact ⟨false,rfl,HZ,hd1⟩
    | true =>
     have HC:ah (bD.f z=some true):=⟨by rw [vR,hdz]⟩;have HDZ:=ah.mk hdz;rw [hdz] at HE;clear hd hd2 hy hz hm hby hxe hf hM c1 hdz;by_cases h43:y=43
     ·have d1:(y==43)=true:=beq_iff_eq.2 h43
      have HZ:ah (true=(S.ni (((bytesOf a0).drop p).take r)&&S.nI ((bytesOf a0).drop (p+r)))):=⟨by rw [HE.out,decide_eq_true h43];rfl⟩;clear h43;go_wp2_with (first
       | (go_at_call 100;refine (aR.calls 200000 _ true _ HM.out).mono ?_;rintro e w1 ⟨rfl,hd1⟩)
       | (go_at_call 60;refine (bD.calls z true _ HC.out).mono ?_;rintro e w2 ⟨rfl,hd2⟩))
      go_meet
      case rel=>exact ⟨true,rfl,HZ,⟨by obtain ⟨a,ha⟩:=hd1.out;obtain ⟨b,hb⟩:=hd2.out;exact ⟨a+b,by rw [hb,ha,World.drewN_drewN]⟩⟩⟩
     have d1:(y==43)=false:=beq_eq_false_iff_ne.2 h43;by_cases h45:y=45
     ·have d2:(y==45)=true:=beq_iff_eq.2 h45
      have HZ:ah (true=(S.ni (((bytesOf a0).drop p).take r)&&S.nI ((bytesOf a0).drop (p+r)))):=⟨by rw [HE.out,decide_eq_true h45,Bool.or_true];rfl⟩;clear h43 h45;go_wp2_with (first
       | (go_at_call 100;refine (aR.calls 200000 _ true _ HM.out).mono ?_;rintro e w1 ⟨rfl,hd1⟩)
       | (go_at_call 60;refine (bD.calls z true _ HC.out).mono ?_;rintro e w2 ⟨rfl,hd2⟩))
      go_meet
      case rel=>exact ⟨true,rfl,HZ,⟨by obtain ⟨a,ha⟩:=hd1.out;obtain ⟨b,hb⟩:=hd2.out;exact ⟨a+b,by rw [hb,ha,World.drewN_drewN]⟩⟩⟩
     have d2:(y==45)=false:=beq_eq_false_iff_ne.2 h45;have HZ:ah (false=(S.ni (((bytesOf a0).drop p).take r)&&S.nI ((bytesOf a0).drop (p+r)))):=⟨by rw [HE.out,decide_eq_false h43,decide_eq_false h45];rfl⟩;clear h43 h45;go_wp2_with (go_at_call 100;refine (aR.calls 200000 _ true _ HM.out).mono ?_;rintro e w1 ⟨rfl,hd1⟩)
     go_meet
     case rel=>exact ⟨false,rfl,HZ,hd1⟩
  case rest =>
   obtain ⟨b,rfl,HBE,HD⟩:=hcut;obtain ⟨nn,rfl⟩:=HD.out;have wY:=ah.mk (aH XH.out nn);have HB2:=ah.mk (ak HB1.out nn);clear HD HB1 XH;generalize W1.drewN nn=W2 at *;have hsl:S.dH ((bytesOf a0).drop p)=if b=true then r+1+S.run S.kH ((bytesOf a0).drop (p+r+1)) else r:=by
    unfold S.dH;rw [HRN.out,HBE.out,show ((bytesOf a0).drop p).drop r=(bytesOf a0).drop (p+r) from List.drop_drop,show ((bytesOf a0).drop p).drop (r+1)=(bytesOf a0).drop (p+r+1) from List.drop_drop];by_cases hq:S.ni (((bytesOf a0).drop p).take r)=true/\S.nI ((bytesOf a0).drop (p+r))=true
    ·rw [if_pos hq,hq.1,hq.2];rfl
    ·rw [if_neg hq,if_neg (by rw [Bool.and_eq_true];exact hq)]
   have HSL:=ah.mk hsl;have hb1:b=true->p+r+1 < a0.size:=fun hb=>by
    have:=HBE.out;rw [hb] at this;have h2:S.nI ((bytesOf a0).drop (p+r))=true:=by
     have h3:=this.symm;rw [Bool.and_eq_true] at h3;exact h3.2
    refine Classical.byContradiction fun hn=>?_
    have hl:((bytesOf a0).drop (p+r)).length<=1:=by have:=XI.out;rw [List.length_drop];omega
    revert h2 hl
    rcases (bytesOf a0).drop (p+r) with _ | ⟨c,_ | ⟨d,t⟩⟩
    ·intro h2;cases h2
    ·intro h2;cases h2
    ·intro _ hl;simp at hl
   have HBL:=ah.mk hb1;clear hsl hb1;go_upto_if 51 with (fail)
   go_cut [7] (fun v7 wc=>∃ x2:Int,v7=.int .i64 x2/\ah (x2=((p+S.dH ((bytesOf a0).drop p):Nat):Int)/\p+S.dH ((bytesOf a0).drop p)<=a0.size)/\aG W2 wc)
   case first =>
    cases b with
    | false =>
     go_wp2;go_meet
     case rel=>exact ⟨x,rfl,⟨by have:=HSL.out;rw [if_neg Bool.false_ne_true] at this;rw [this];have h2:=HX.out;have h3:=HF.out;exact ⟨h2,h3.2.1⟩⟩,aG.refl _⟩
    | true =>
     have hw1:IntKind.i64.wrap (x+1)=x+1:=(dK _).trans (by have:=HF.out;have:=HX.out;unfold wrap64;omega);have HB7:=ah.mk (HBL.out rfl);have HS7:ah (S.dH ((bytesOf a0).drop p)=r+1+S.run S.kH ((bytesOf a0).drop (p+r+1))):=⟨by have:=HSL.out;rw [if_pos rfl] at this;exact this⟩;go_wp2;go_loopg [7] (a0.size+1) (fun gg v7 wr=>∃ (i:Nat) (x:Int),v7=.int .i64 x/\ah (x=(i:Int)/\i<=a0.size/\p+S.dH ((bytesOf a0).drop p)=i+S.run S.kH ((bytesOf a0).drop i))/\a0.size - i<=gg/\aG W2 wr)
     case atStart=>exact ⟨p+r+1,x+1,rfl,⟨by have:=HX.out;omega,by have:=HB7.out;omega,by rw [HS7.out];omega⟩,by omega,aG.refl _⟩
     case round =>
      obtain ⟨i,x2,rfl,QK,hg,HD⟩:=hrel;have hxe:=QK.out;have hw1:IntKind.i64.wrap (x2+1)=x2+1:=(dK _).trans (by have:=HF.out;unfold wrap64;omega);by_cases hi:i < a0.size
      rotate_left
      ·have l1:decide (x2 < (a0.size:Int))=false:=decide_eq_false (by omega)
       have Oc:ah (x2=((p+S.dH ((bytesOf a0).drop p):Nat):Int)/\p+S.dH ((bytesOf a0).drop p)<=a0.size):=⟨by
        have h4:=hxe.2.2;rw [show (bytesOf a0).drop i=[] from List.drop_of_length_le (by have:=XI.out;omega),S.run] at h4;exact ⟨by omega,by omega⟩⟩
       clear hxe hi;go_wp2;go_meet
       case rel=>exact ⟨x2,rfl,Oc,HD⟩
      have l1:decide (x2 < (a0.size:Int))=true:=decide_eq_true (by omega);have px:(0<=x2)=True:=eq_true (by omega);have qx:(x2 < (a0.size:Int))=True:=eq_true (by omega);have hbx:=dJ a0 x2;have hd:=fB a0 (i:=i) hi;obtain ⟨y,hy⟩:∃ y,bt a0 x2=y:=⟨_,rfl⟩;rw [hy] at hbx;rw [<- hxe.1,hy] at hd;cases hs:S.kH y with
      | true =>
       have HC:ah (bD.f y=some true):=⟨by rw [vR,hs]⟩;have Oc:ah (x2+1=((i+1:Nat):Int)/\i+1<=a0.size/\p+S.dH ((bytesOf a0).drop p)=i+1+S.run S.kH ((bytesOf a0).drop (i+1))):=⟨by
        have h4:=hxe.2.2;rw [hd,S.run,if_pos hs] at h4;exact ⟨by omega,by omega,by omega⟩⟩
       have HI:=ah.mk hi;clear hd hy hs hxe hi;go_wp2_with (go_at_call 60;refine (bD.calls y true _ HC.out).mono ?_;rintro e w1 ⟨rfl,hd1⟩)
       go_roundg (a0.size - (i+1))
       case measure=>have:=HI.out;omega
       case rel=>exact ⟨i+1,x2+1,rfl,Oc,Nat.le_refl _,⟨by obtain ⟨a,ha⟩:=HD.out;obtain ⟨b,hb⟩:=hd1.out;exact ⟨a+b,by rw [hb,ha,World.drewN_drewN]⟩⟩⟩
      | false =>
       have HC:ah (bD.f y=some false):=⟨by rw [vR,hs]⟩;have Oc:ah (x2=((p+S.dH ((bytesOf a0).drop p):Nat):Int)/\p+S.dH ((bytesOf a0).drop p)<=a0.size):=⟨by
        have h4:=hxe.2.2;rw [hd,S.run,if_neg (by rw [hs];decide)] at h4;exact ⟨by omega,by omega⟩⟩
       clear hd hy hs hxe hi;go_wp2_with (go_at_call 60;refine (bD.calls y false _ HC.out).mono ?_;rintro e w1 ⟨rfl,hd1⟩)
       go_meet
       case rel=>exact ⟨x2,rfl,Oc,⟨by obtain ⟨a,ha⟩:=HD.out;obtain ⟨b,hb⟩:=hd1.out;exact ⟨a+b,by rw [hb,ha,World.drewN_drewN]⟩⟩⟩
   case rest =>
    obtain ⟨x2,rfl,Oc,HD⟩:=hcut;obtain ⟨nn,rfl⟩:=HD.out;have XJ:=ah.mk (aH wY.out nn);have HB3:=ah.mk (ak HB2.out nn);clear HD;generalize W2.drewN nn=W3 at *;have hf:=HF.out;have hx2:=Oc.out;have hR:=HH.out;unfold abL at hR;generalize p+S.dH ((bytesOf a0).drop p)=n at hx2 hR;have hnp:p<=n:=by
     have h1:=Oc.out.1;omega
    have hw1:IntKind.i64.wrap (x2 - a1)=x2 - a1:=(dK _).trans (by unfold wrap64;omega);have s1:decide (0<=a1)=true:=decide_eq_true (by omega);have s2:decide (a1<=x2)=true:=decide_eq_true (by omega);have s3:decide (x2<=(a0.size:Int))=true:=decide_eq_true (by omega);have s4:(0<=a1)=True:=eq_true (by omega);have s5:(a1<=x2)=True:=eq_true (by omega);have s6:(x2<=(a0.size:Int))=True:=eq_true (by omega);obtain ⟨b0,b1,b2,b3,b4,b5,b6,b7,b8,b9⟩:=yN XJ.out;by_cases hl:40 < n - p
    ·have z1:decide (40 < x2 - a1)=true:=decide_eq_true (by omega)
     rw [if_pos hl] at hR;have HR2:=ah.mk hR;clear hR hl hnp hx2 hf;go_wp2;refine bI.out _ _ _ _ _ HR2.out _ _ ?_ HB3.out XJ.out;rfl
    have z1:decide (40 < x2 - a1)=false:=decide_eq_false (by omega);rw [if_neg hl,<- hx2.1] at hR;have hex:a0.extract a1.toNat x2.toNat=a0.extract p n:=by rw [show a1.toNat=p by omega,show x2.toNat=n by omega]
    rw [<- hex] at hR;have HR2:=ah.mk hR;have HU:ah (iA.f (a0.extract a1.toNat x2.toNat)=some (ZU (a0.extract a1.toNat x2.toNat))):=⟨by unfold iA.f;rw [if_pos (by rw [ByteArray.size_extract];omega)]⟩;clear hR hl hnp hx2 hf hex b0 b1 b2 b3 b4 b5 b6 b7 b8 b9;go_wp2_with (go_at_call 101;refine (iA.calls _ _ _ HU.out).mono ?_;rintro e w5 ⟨rfl,hb5⟩;have sD:=ah.mk (fF XJ.out hb5);have IY:=ah.mk (HB3.out.trans (hb5.mono (Nat.le_of_lt (kV XJ.out))));obtain ⟨b0,b1,b2,b3,b4,b5,b6,b7,b8,b9⟩:=yN sD.out)
    refine bI.out _ _ _ _ _ HR2.out _ _ ?_ IY.out sD.out;rfl
end Go.Proofs.YtkkpjonfaflkmaaGreatDoor.T
namespace Go.Proofs.YtkkpjonfaflkmaaGreatDoor.S
theorem pU (cur:List Tk) (a b c:Nat):(emit cur a b c).flatten.length<=cur.length+1:=by
 unfold emit;split
 ·simp
 ·simp
theorem Ma (cur:List Tk):(cut cur).length<=cur.length:=by
 unfold cut;split
 ·simp
 ·exact Nat.le_refl _
theorem vS (l:List (List Tk)) (o:Out):(o.pre l).cl.flatten.length=l.flatten.length+o.cl.flatten.length:=by
 unfold Out.pre;simp only [List.flatten_append,List.length_append]
theorem lC:∀ (f:Nat) (xs:List Int) (i line:Nat) (cur:List Tk) (gap:Bool),(∀ x∈xs,0<=x/\x < 256)->(go f xs i line cur gap).cl.flatten.length<=cur.length+2*xs.length+1
 | 0,xs,i,line,cur,gap,_=>by simp [go]
 | f+1,xs,i,line,cur,gap,hb=>by
  have hd:∀ n,∀ x∈xs.drop n,0<=x/\x < 256:=fun n x hx=>hb x (List.mem_of_mem_drop hx)
  rw [go];cases hs:step xs with
  | fin =>
   have h1:=pU (cut cur) i i line;have h2:=Ma cur;simp only;omega
  | line =>
   have hx:1<=xs.length:=qm (by rw [hs];intro e;cases e);simp only;split
   ·have:=lC f (xs.drop 1) (i+1) (line+1) cur.dropLast true (hd 1)
    rw [List.length_drop,List.length_dropLast] at this;omega
   ·have:=lC f (xs.drop 1) (i+1) (line+1) [] false (hd 1)
    have h1:=pU cur i (i+1) line;rw [List.length_drop,List.length_nil] at this;rw [vS];omega
  | blank =>
   have:=lC f (xs.drop 1) (i+1) line cur true (hd 1);rw [List.length_drop] at this;simp only;omega
  | jD n dl =>
   have:=lC f (xs.drop n) (i+n) (line+dl) cur gap (hd n);rw [List.length_drop] at this;simp only;omega
  | tok k t n =>
   obtain ⟨h1,h2,-⟩:=kR hb hs;simp only;split
   ·have:=lC f (xs.drop n) (i+n) line [] false (hd n)
    have h3:=pU cur i (i+n) line;rw [List.length_drop,List.length_nil] at this;rw [vS];omega
   ·split
    ·have:=lC f (xs.drop n) (i+n) line [] false (hd n)
     have h3:=pU (cur++[⟨k,t,gap&&!decide (cur=[]),line,i,i+n⟩]) (i+n) (i+n) line;rw [List.length_append,List.length_singleton] at h3;rw [List.length_drop,List.length_nil] at this;rw [vS];omega
    ·have:=lC f (xs.drop n) (i+n) line (cur++[⟨k,t,gap&&!decide (cur=[]),line,i,i+n⟩]) false (hd n)
     rw [List.length_drop,List.length_append,List.length_singleton] at this;omega
  | err c dl =>
   simp only;split
   ·simp
   ·simp only [List.flatten_cons,List.flatten_nil,List.append_nil];omega
theorem qh {xs:List Int} (hb:∀ x∈xs,0<=x/\x < 256):(tokens xs).length<=2*xs.length+1:=by
 have:=lC (xs.length+1) xs 0 1 [] false hb;unfold tokens scan;simpa using this
theorem Mc:∀ p∈signs,(10:Int) ∉ p:=by decide
def blank (c:Int):Bool:=decide (c=32)||decide (c=10)||decide (c=44)||decide (c=59)
def idle:List Int->Nat->Bool
 | [],d=>decide (d=0)
 | [c],d=>blank c&&decide (d=0)
 | c::e::t,d =>
  if c=47/\e=42 then idle t (d+1)
  else if 0 < d/\c=42/\e=47 then idle t (d - 1)
  else if 0 < d\/blank c=true then idle (e::t) d else false
theorem wZ:∀ (xs:List Int) (i d l b i' l' b':Nat),jD xs i d l b=.done i' l' b'->(1<=d\/dQ xs=true)->idle (xs.take (i' - i)) d=true/\l'=l+(xs.take (i' - i)).count 10
 | [],_,_,_,_,_,_,_,h,_=>by cases h
 | [_],_,_,_,_,_,_,_,h,_=>by cases h
 | c::e::t,i,d,l,b,i',l',b',h,hd=>by
  have hbd:=eH _ _ _ _ _ _ _ _ h;rw [jD] at h;by_cases h1:c=47/\e=42
  ·rw [if_pos h1] at h
   have hb2:=eH _ _ _ _ _ _ _ _ h;obtain ⟨g1,g2⟩:=wZ t (i+2) (d+1) l b i' l' b' h (.inl (by omega));rw [show i' - i=(i' - (i+2))+1+1 by omega,List.take_succ_cons,List.take_succ_cons,idle,if_pos h1];refine ⟨g1,?_⟩;obtain ⟨rfl,rfl⟩:=h1;rw [List.count_cons,List.count_cons,if_neg (by decide),if_neg (by decide)];omega
  rw [if_neg h1] at h;have hd1:1<=d:=by
   rcases hd with hd | hd
   ·exact hd
   ·simp only [dQ,Bool.and_eq_true,decide_eq_true_eq] at hd
    exact absurd hd h1
  by_cases h2:c=42/\e=47
  ·rw [if_pos h2] at h
   obtain ⟨rfl,rfl⟩:=h2;by_cases h3:d=1
   ·rw [if_pos h3] at h
    cases h
    subst h3;rw [show i+2 - i=0+1+1 by omega,List.take_succ_cons,List.take_succ_cons,List.take_zero];exact ⟨rfl,rfl⟩
   rw [if_neg h3] at h;have hb2:=eH _ _ _ _ _ _ _ _ h;obtain ⟨g1,g2⟩:=wZ t (i+2) (d - 1) l b i' l' b' h (.inl (by omega));rw [show i' - i=(i' - (i+2))+1+1 by omega,List.take_succ_cons,List.take_succ_cons,idle,if_neg h1,if_pos ⟨by omega,rfl,rfl⟩];refine ⟨g1,?_⟩;rw [List.count_cons,List.count_cons,if_neg (by decide),if_neg (by decide)];omega
  rw [if_neg h2] at h;have hb2:=eH _ _ _ _ _ _ _ _ h;obtain ⟨g1,g2⟩:=wZ (e::t) (i+1) d _ _ i' l' b' h (.inl hd1);obtain ⟨m,hm⟩:∃ m,i' - (i+1)=m+1:=⟨i' - (i+1) - 1,by omega⟩;rw [hm] at g1 g2;rw [List.take_succ_cons] at g1 g2;rw [show i' - i=m+1+1 by omega,List.take_succ_cons,List.take_succ_cons,idle,if_neg h1,if_neg (fun q=>h2 q.2),if_pos (.inl (by omega))];refine ⟨g1,?_⟩;rw [List.count_cons];rw [g2];by_cases h10:c=10
  ·rw [if_pos h10,if_pos (by simpa using h10)];omega
  ·rw [if_neg h10,if_neg (by simpa using h10)];omega
theorem BQ (q:Int) (hq:q≠10):∀ (xs:List Int) (i:Nat) (acc v:List Int) (j:Nat),lit q xs i acc=some (v,j)->(10:Int) ∉ xs.take (j - i)
 | [],_,_,_,_=>fun h=>by cases h
 | [c],i,acc,v,j=>fun h=>by
  rw [lit] at h;by_cases h1:c=10
  ·rw [if_pos h1] at h;cases h
  rw [if_neg h1] at h;by_cases h2:c=q
  ·rw [if_pos h2] at h;cases h;simp
  ·rw [if_neg h2] at h;cases h
 | c::d::t,i,acc,v,j=>fun h=>by
  rw [lit] at h;by_cases h1:c=10
  ·rw [if_pos h1] at h;cases h
  rw [if_neg h1] at h;by_cases h2:c=q
  ·rw [if_pos h2] at h
   by_cases h3:d=q
   rotate_left
   ·rw [if_neg h3] at h;cases h;simp
   rw [if_pos h3] at h;have hb:=(oO q (fun _=>True) trivial t (i+2) _ v j h (fun _ _=>trivial) (fun _ _=>trivial)).1;have:=BQ q hq t (i+2) (acc++[q]) v j h;rw [show j - i=(j - (i+2))+1+1 by omega,List.take_succ_cons,List.take_succ_cons];intro hm
   rcases List.mem_cons.1 hm with e | e
   ·exact h1 e.symm
   ·rcases List.mem_cons.1 e with e | e
    ·rw [h3] at e;exact hq e.symm
    ·exact this e
  rw [if_neg h2] at h;have hb:=(oO q (fun _=>True) trivial (d::t) (i+1) _ v j h (fun _ _=>trivial) (fun _ _=>trivial)).1;have:=BQ q hq (d::t) (i+1) (acc++[c]) v j h;rw [show j - i=(j - (i+1))+1 by omega,List.take_succ_cons];intro hm
  rcases List.mem_cons.1 hm with e | e
  ·exact h1 e.symm
  ·exact this e
theorem TN {a:Int} {t:List Int} (h:sfx (a::t)≠0):a≠10:=by
 intro e;subst e
 exact h (TG rfl)
theorem TP {xs t:List Int} {k n:Nat} (h:step xs=.tok k t n):(10:Int) ∉ xs.take n/\(k=3->xs.take n=t):=by
 rcases xs with _ | ⟨a,r⟩
 ·cases h
 simp only [step] at h;by_cases h1:a=10
 ·rw [if_pos h1] at h;cases h
 rw [if_neg h1] at h;by_cases h2:a=32
 ·rw [if_pos h2] at h;cases h
 rw [if_neg h2] at h;by_cases h3:dQ (a::r)=true
 ·rw [if_pos h3] at h;exact (vL h).elim
 rw [if_neg h3] at h;by_cases h4:a=39\/a=34
 ·rw [if_pos h4] at h
  obtain ⟨rfl,hr⟩:=iM h;refine ⟨?_,fun e=>by cases e⟩;have TQ:a≠10:=h1;obtain ⟨v,U,R,e1,e2,e3,e4⟩:=wX hr;have hU:(10:Int) ∉ U:=by
   have:=BQ a TQ (U++a::R) 1 [] v (U.length+1) (e3 R e2);rw [Nat.add_sub_cancel,List.take_left] at this;exact this
  subst e1;rcases e4 with ⟨hs,rfl⟩ | ⟨hs,rfl⟩
  ·have:(a::(U++a::R)).take (U.length+2)=a::(U++[a]):=by
    rw [List.take_succ_cons,show U++a::R=(U++[a])++R by simp,List.take_left' (by simp)]
   rw [this];intro hm
   simp only [List.mem_cons,List.mem_append,List.not_mem_nil,or_false] at hm;rcases hm with e | e | e
   ·exact TQ e.symm
   ·exact hU e
   ·exact TQ e.symm
  ·rcases R with _ | ⟨b,R⟩
   ·exact absurd rfl hs
   ·have:(a::(U++a::b::R)).take (U.length+3)=a::(U++[a,b]):=by
     rw [List.take_succ_cons,show U++a::b::R=(U++[a,b])++R by simp,List.take_left' (by simp)]
    rw [this];have XK:=TN hs;intro hm
    simp only [List.mem_cons,List.mem_append,List.not_mem_nil,or_false] at hm;rcases hm with e | e | e | e
    ·exact TQ e.symm
    ·exact hU e
    ·exact TQ e.symm
    ·exact XK e.symm
 rw [if_neg h4] at h;by_cases h5:sym a=true
 ·rw [if_pos h5] at h
  obtain ⟨rfl,hr⟩:=iM h;refine ⟨?_,fun e=>by cases e⟩;have hn:n=dH (a::r):=by
   unfold iH at hr;split at hr
   ·cases hr
   ·simp only [TR.ok.injEq] at hr;exact hr.2.symm
  obtain ⟨M,R,e1,hM,hR,hor⟩:=qR (a::r);have aeK:(10:Int) ∉ M:=fun e=>by have:=hM 10 e;cases this
  rw [hn];rcases hor with ⟨hl,_⟩ | ⟨g,D,S,hRS,hm,hg,hD,hd,hS,hl⟩
  ·rw [hl,e1,List.take_left];exact aeK
  ·have:(a::r).take (dH (a::r))=M++g::D:=by
    rw [hl,e1,hRS,show M++g::(D++S)=(M++g::D)++S by simp,List.take_left' (by simp;omega)]
   rw [this];intro hm
   simp only [List.mem_cons,List.mem_append] at hm;rcases hm with e | e | e
   ·exact aeK e
   ·rcases hg with rfl | rfl<;>cases e
   ·have:=hd 10 e;cases this
 rw [if_neg h5] at h;obtain ⟨rfl,hr⟩:=iM h;unfold gJ at hr;cases hf:signs.find? (fun x=>x.isPrefixOf (a::r)) with
 | none=>rw [hf] at hr;cases hr
 | some l =>
  rw [hf] at hr;simp only [TR.ok.injEq] at hr;obtain ⟨rfl,rfl⟩:=hr;have hp:l.isPrefixOf (a::r)=true:=by simpa using List.find?_some hf
  have he:=oG _ _ hp;have:(a::r).take l.length=l:=by conv=>{ lhs;rw [he] };exact List.take_left
  rw [this];exact ⟨Mc l (List.mem_of_find?_eq_some hf),fun _=>rfl⟩
def seg (L:List Int) (a b:Nat):List Int:=(L.drop a).take (b - a)
structure akg (L:List Int) (e ln:Nat) (t:Tk):Prop where
 h1:e<=t.at_
 h2:t.at_<=t.to
 h3:t.to<=L.length
 h4:ln<=t.line
 h5:t.kind≠4->t.at_ < t.to
 h6:idle (seg L e t.at_) 0=true
 h7:t.line=1+(L.take t.at_).count 10
 h8:t.kind=3->seg L t.at_ t.to=t.text
theorem DZ {xs:List Int} (h:step xs=.line):∃ t,xs=10::t:=by
 rcases xs with _ | ⟨a,t⟩
 ·cases h
 simp only [step] at h;by_cases h1:a=10
 ·exact ⟨t,by rw [h1]⟩
 exfalso
 rw [if_neg h1] at h;by_cases h2:a=32
 ·rw [if_pos h2] at h;cases h
 rw [if_neg h2] at h;by_cases h3:dQ (a::t)=true
 ·rw [if_pos h3] at h
  cases hc:jD (a::t) 0 0 1 0 with
  | eof=>rw [hc] at h;cases h
  | done i l b=>rw [hc] at h;simp only [gX] at h;split at h<;>cases h
 rw [if_neg h3] at h;have key:∀ k r,gK k r≠.line:=fun k r e=>by cases r<;>cases e
 by_cases h4:a=39\/a=34
 ·rw [if_pos h4] at h;exact key _ _ h
 rw [if_neg h4] at h;by_cases h5:sym a=true
 ·rw [if_pos h5] at h;exact key _ _ h
 ·rw [if_neg h5] at h;exact key _ _ h
theorem Md {xs:List Int} (h:step xs=.blank):∃ t,xs=32::t:=by
 rcases xs with _ | ⟨a,t⟩
 ·cases h
 simp only [step] at h;by_cases h1:a=10
 ·rw [if_pos h1] at h;cases h
 rw [if_neg h1] at h;by_cases h2:a=32
 ·exact ⟨t,by rw [h2]⟩
 exfalso
 rw [if_neg h2] at h;by_cases h3:dQ (a::t)=true
 ·rw [if_pos h3] at h
  cases hc:jD (a::t) 0 0 1 0 with
  | eof=>rw [hc] at h;cases h
  | done i l b=>rw [hc] at h;simp only [gX] at h;split at h<;>cases h
 rw [if_neg h3] at h;have key:∀ k r,gK k r≠.blank:=fun k r e=>by cases r<;>cases e
 by_cases h4:a=39\/a=34
 ·rw [if_pos h4] at h;exact key _ _ h
 rw [if_neg h4] at h;by_cases h5:sym a=true
 ·rw [if_pos h5] at h;exact key _ _ h
 ·rw [if_neg h5] at h;exact key _ _ h
def key (t:Tk):Nat × List Int × Bool:=(t.kind,t.text,t.gap)

end Go.Proofs.YtkkpjonfaflkmaaGreatDoor.S
