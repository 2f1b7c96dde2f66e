/- A part of the proof of ScanWrites. -/
import Derived.Test.YtkkpjonfaflkmaaGreatDoorCScanWrites26
import Derived.Test.YtkkpjonfaflkmaaGreatDoorCScanWrites24
set_option linter.all false
namespace Go.Proofs.YtkkpjonfaflkmaaGreatDoor.T
open Go.RowKit Go.Maps Go.Proofs.aj.aI Go.Proofs.aj.aY Go.Proofs.aj.bq
theorem Zl {W:World} {g:Nat} {cs:Array Value} {c:List S.Tk} (hg:W.heap[g]?=some (.cells cs 53 (0,0))) (ht:cs.toList.take (c.length*6)=dG c) (hl:c.length<=300000):Kd.C jP W (some ⟨g,0,none⟩) (c.map toS).length (c.map toS):=by
 refine ⟨rfl,by rw [List.length_map];omega,fun _=>⟨_,rfl,fun j p hj=>?_⟩⟩;rw [List.getElem?_map] at hj;cases hc:c[j]? with
 | none=>rw [hc] at hj;cases hj
 | some t =>
  rw [hc] at hj;simp only [Option.map_some,Option.some.injEq] at hj;subst hj;have hjl:j < c.length:=(List.getElem?_eq_some_iff.1 hc).1;refine ⟨Db t,rfl,KO W (toS t),fun i u hu=>?_⟩;have hi:i < 6:=(List.getElem?_eq_some_iff.1 hu).1;have e1:(dG c)[j*6+i]?=some u:=by
   rw [<- FE c j t hc,List.getElem?_take_of_lt hi,List.getElem?_drop] at hu;exact hu
  rw [<- ht,List.getElem?_take_of_lt (by omega)] at e1;show W.cell? ((⟨g,0,none⟩:Addr).add (j*6+i))=some u
  rw [add_plain,au hg];simpa using e1
theorem acX {G:Nat->Prop} {W:World} {base:Nat} {v:Value} {hs:List Value} {cls:List (List S.Tk)} (ho:W.ownsRow base 24 1 v hs.length hs) (h:MO G W hs cls) (hG:∀ g,G g->base<=g/\v.ownBlock≠some g) :
  Kd.N (Kd.slice 53 jP) 24 W base (fun k=>base<=k) v (cls.map (List.map toS)):=by
 have hone:∀ (j:Nat) (u:Value),hs[j]?=some u->u.oneCell'=true:=fun j u hu=>by
  have hj:j < cls.length:=by rw [<- h.1];exact (List.getElem?_eq_some_iff.1 hu).1
  obtain ⟨g,cs,e1,_⟩:=h.2 j u _ hu (List.getElem?_eq_getElem hj);rw [e1];rfl
 refine ⟨fun k hk=>(ho.lt k hk).1,hs.map (fun u=>[u]),by rw [List.length_map,List.length_map,h.1],⟨fun k hk=>hk.symm,hs,by rw [List.length_map];exact ho,by rw [List.length_map];exact (Nat.mul_one _).symm,fun j p hj=>?_⟩,fun j x c hx hc=>?_⟩
 ·rw [List.getElem?_map] at hj
  cases hu:hs[j]? with
  | none=>rw [hu] at hj;cases hj
  | some u =>
   rw [hu] at hj;simp only [Option.map_some,Option.some.injEq] at hj;subst hj;have hjl:j < hs.length:=(List.getElem?_eq_some_iff.1 hu).1;have e:(hs.drop (j*1)).take 1=[u]:=by
    rw [Nat.mul_one,List.drop_eq_getElem_cons hjl];rw [List.getElem?_eq_getElem hjl] at hu;simp only [Option.some.injEq] at hu;simp [hu]
   show (hs.drop (j*1)).take 1=[u]/\((hs.drop (j*1)).take 1).length=1/\∀ u'∈(hs.drop (j*1)).take 1,u'.oneCell'=true
   exact ⟨e,by rw [e];rfl,fun u' hu'=>by rw [e] at hu';rw [List.mem_singleton.1 hu'];exact hone j u hu⟩
 ·rw [List.getElem?_map] at hc hx
  cases hu:hs[j]? with
  | none=>rw [hu] at hc;cases hc
  | some u =>
   cases hcl:cls[j]? with
   | none=>rw [hcl] at hx;cases hx
   | some cl =>
    rw [hu] at hc;rw [hcl] at hx;simp only [Option.map_some,Option.some.injEq] at hc hx;subst hc hx;obtain ⟨g,cs,e1,e2,e3,e4,e5⟩:=h.2 j u cl hu hcl;intro W' hW
    have hg':W'.heap[g]?=some (.cells cs 53 (0,0)):=(hW g ⟨(hG g e2).1,fun e=>(hG g e2).2 e.symm⟩ (Array.getElem?_eq_some_iff.1 e3).1).trans e3;exact ⟨_,_,by rw [e1,List.length_map],by rw [List.length_map];exact Nat.le_refl _,Zl hg' e4 e5⟩
def jw.f (a0:ByteArray):Option (List (List dh) × Int × Int × Int) :=
 if a0.size<=20000 then
  (match (S.scan (bytesOf a0)).err with
  | none=>some ((S.scan (bytesOf a0)).cl.map fun c=>c.dropLast.map toS,0,0,0)
  | some p=>some ([],p.1,p.2,7))
 else some ([],0,0,3)
set_option maxRecDepth 100000 in
set_option maxHeartbeats 4000000 in
theorem jw.calls (a0:ByteArray) (r1:List (List dh)) (r2 r3 r4:Int) (w:World) (hT:dR w) (h:jw.f a0=some (r1,r2,r3,r4)) :
  Calls Tryz.prog 19 #[.string a0] w fun e w'=>∃ v0:Value,e=.returned (.tuple #[v0,.int .i64 r2,.int .i64 r3,.int .i64 r4])/\Kd.N (Kd.slice 53 jP) 24 w' w.heap.size (fun k=>w.heap.size<=k) v0 r1/\Below w.heap.size w w':=by
 unfold jw.f at h;by_cases hs:a0.size<=20000
 ·rw [if_pos hs] at h
  refine (Cu.calls a0 w hs hT (fun c ln he=>S.wW he)).mono ?_;rintro e w' ⟨hb,hp⟩
  unfold Hr at hp;cases he:(S.scan (bytesOf a0)).err with
  | none =>
   rw [he] at h hp;simp only [Option.some.injEq,Prod.mk.injEq] at h;obtain ⟨rfl,rfl,rfl,rfl⟩:=h;obtain ⟨v,hss,G,rfl,ho,hh,hG⟩:=hp;have:=acX ho hh hG;rw [List.map_map] at this;exact ⟨v,rfl,this,hb⟩
  | some p =>
   rw [he] at h hp;simp only [Option.some.injEq,Prod.mk.injEq] at h;obtain ⟨rfl,rfl,rfl,rfl⟩:=h;exact ⟨_,hp,Kd.pJ _ _ _ _ _,hb⟩
 rw [if_neg hs] at h;simp only [Option.some.injEq,Prod.mk.injEq] at h;obtain ⟨rfl,rfl,rfl,rfl⟩:=h;have HLM:=Lib.hid (gu.calls a0 3 w (by unfold gu.f;rw [if_pos (by omega)]));clear hT;refine (callsIn_wide (n:=8)).1 ?_;refine callsIn_of_wp_marks Tryz.func19 rfl trivial ?_ rfl;simp only [Tryz.ntmps19,List.size_toArray,List.length_cons,List.length_nil,Nat.reduceAdd,Nat.reduceSub,Array.replicate_succ,Array.replicate_zero,List.push_toArray,List.append_toArray,List.nil_append,List.cons_append];have hwf:∀ f,Fence.wide.fn f:=fun _=>trivial
 gi_wp2_with (gi_at_call 50;refine (callsIn_wide.2 HLM.out).mono ?_;rintro e w' ⟨rfl,⟨⟨q,rfl⟩⟩⟩)
 refine ⟨_,kr rfl _ _ _,?_⟩;exact ⟨_,rfl,Kd.pJ _ _ _ _ _,ak (Below.refl _ _) _⟩
end Go.Proofs.YtkkpjonfaflkmaaGreatDoor.T
namespace Go.Proofs.YtkkpjonfaflkmaaGreatDoor.T
open Go.RowKit Go.Proofs.aj.aI Go.Proofs.aj.aY Go.Proofs.aj.bq
attribute [local go_sem] eY eZ gH gI dV dW fq fu
def bX.l0:Nat->List (xY)->List (List (dh))->Int->Int->Option ((List (xY)) × Int × Int × Int)
 | 0,_,_,_,_=>none
 | k+1,x10,x25,x26,x27=>if x27 < x26 then (if 0<=x27 then (if x27 < (x25.length:Int) then ((jU.f (dX x25 x27)).bind fun Zm=>(if Zm=true then (if 0 < ((dX x25 x27).length:Int) then (if x10.length < 5864062014805 then (bX.l0 k (x10++[(⟨(aC (dX x25 x27) 0).f1,(aC (dX x25 x27) 0).f3⟩:xY)]) x25 x26 (wrap64 (x27+1))) else (none)) else (none)) else (bX.l0 k x10 x25 x26 (wrap64 (x27+1))))) else (none)) else (none)) else (some (x10,0,0,0))
def bX.f (k:Nat) (a0:ByteArray):Option ((List (xY)) × Int × Int × Int):=(jw.f a0).bind fun qB=>(if qB.2.2.2=0 then (bX.l0 k ([]:List (xY)) qB.1 (qB.1.length:Int) 0) else (some (([]:List (xY)),qB.2.1,qB.2.2.1,qB.2.2.2)))
def bX.T9:Bool × List (List Nat × List Nat):=(true,[([],[]),([],[]),([1],[1]),([2],[2]),([3],[3]),([],[]),([5],[5]),([6],[6]),([7],[7]),([4,8],[4,8]),([9],[9]),([0,10],[0,10]),([11,11,0,1,2,3,4,5,6,7,8,9,10,11],[0,11])])
def bX.B9:List Nat:=[0,0,2,6,14,0,32,96,224,510,1022,2047,4095]
theorem bX.ajR:oh .any (opsOf Tryz.f20 9)=bX.T9:=by kernel_rfl
theorem bX.afT:uj bX.T9.2 bX.B9=true:=by kernel_rfl
set_option maxHeartbeats 8000000 in
set_option maxRecDepth 100000 in
theorem bX.calls (k:Nat) (a0:ByteArray) (r1:List (xY)) (r2:Int) (r3:Int) (r4:Int) (w:World) (hT:dR w) (h:bX.f k a0=some (r1,r2,r3,r4)) :
  Calls Tryz.prog 20 #[.string a0] w fun e w'=>∃ v0_:Value,e=.returned (.tuple #[v0_,.int .i64 r2,.int .i64 r3,.int .i64 r4])/\Kd.R ZQ 73 w' w.heap.size (fun _=>True) v0_ r1/\Below w.heap.size w w':=by
 have amx:=Tryz.underlying73;have HB:=ah.mk (Below.refl w.heap.size w);have H:((jw.f a0).bind fun qB=>(if qB.2.2.2=0 then (bX.l0 k ([]:List (xY)) qB.1 (qB.1.length:Int) 0) else (some (([]:List (xY)),qB.2.1,qB.2.2.1,qB.2.2.2))))=some (r1,r2,r3,r4):=h;clear h;replace H:=Option.bind_eq_some_iff.mp H;obtain ⟨⟨t105,acY,t107,Ht⟩,EY,H⟩:=H;replace H:(if Ht=0 then (bX.l0 k ([]:List (xY)) t105 (t105.length:Int) 0) else (some (([]:List (xY)),acY,t107,Ht)))=some (r1,r2,r3,r4):=H;have A2:=ah.mk EY;clear EY;by_cases c3:Ht=0
 rotate_left
 ·rw [if_neg c3] at H
  have nH:(Ht==0)=false:=beq_eq_false_iff_ne.mpr c3;have zN:(Ht != 0)=true:=bne_iff_ne.mpr c3;simp only [Option.some.injEq,Prod.mk.injEq] at H;obtain ⟨rfl,rfl,rfl,rfl⟩:=H;go_enter Tryz.func20,Tryz.ntmps20
  go_wp2_with (first | ((with_reducible refine aQ (f:=19) rfl ?_);refine bL (some 15) rfl rfl Tryz.func19 (by kernel_rfl) rfl #[.string a0] rfl (by (try simp only [List.map_toArray,List.map_cons,List.map_nil]);first | done | rfl) ?_;(with_reducible refine (jw.calls a0 t105 acY t107 Ht _ (dR.of_below hT (by with_reducible repeat (first | exact HB.out | apply av | apply ak | apply ay))) A2.out).mono ?_);rintro e w15 ⟨v109,rfl,ho0,hb⟩;refine ⟨_,rfl,?_⟩;have bY:=ah.mk (Kd.Nf (Kd.yt (ok':=fun k_=>True) ho0 (fun k_ hk_=>trivial)) (bG (by with_reducible repeat (first | exact HB.out | apply av | apply ak | apply ay))));have dO:=ah.mk (aX (by with_reducible repeat (first | exact HB.out | apply av | apply ak | apply ay)) hb);clear HB;have Vf:=bY;have HB:=dO;clear bY dO;(try clear hb);(try clear hb2);(try clear hk);(try clear hi);(try clear ho0)))
  refine bodyPost_ret (wu (rs:=[.tmp 2,.tmp 3,.tmp 4,.tmp 5]) rfl (by simp) (.tmp (.tmp (.tmp (.tmp .nil))))) rfl ?_;exact ⟨_,by first | rfl | (simp [aJ,aK]<;>rfl) | (simp [*,aJ,aK]<;>rfl),by first | exact Kd.nG _ _ _ _ _ | exact Kd.pJ _ _ _ _ _ | exact Kd.rX _ _ _ _ _ | exact Kd.rU _ _ _ _ _ | exact Kd.rW _ _ _ _ _,by with_reducible repeat (first | exact HB.out | apply av | apply ak | apply ay)⟩
 rw [if_pos c3] at H;have nH:(Ht==0)=true:=beq_iff_eq.mpr c3;have zN:(Ht != 0)=false:=bne_eq_false_iff_eq.mpr c3;clear c3;have H':=ah.mk H;clear H;go_enter Tryz.func20,Tryz.ntmps20
 go_wp2_with (first | ((with_reducible refine aQ (f:=19) rfl ?_);refine bL (some 15) rfl rfl Tryz.func19 (by kernel_rfl) rfl #[.string a0] rfl (by (try simp only [List.map_toArray,List.map_cons,List.map_nil]);first | done | rfl) ?_;(with_reducible refine (jw.calls a0 t105 acY t107 Ht _ (dR.of_below hT (by with_reducible repeat (first | exact HB.out | apply av | apply ak | apply ay))) A2.out).mono ?_);rintro e w4 ⟨v109,rfl,ho0,hb⟩;refine ⟨_,rfl,?_⟩;have bY:=ah.mk (Kd.Nf (Kd.yt (ok':=fun k_=>True) ho0 (fun k_ hk_=>trivial)) (bG (by with_reducible repeat (first | exact HB.out | apply av | apply ak | apply ay))));have dO:=ah.mk (aX (by with_reducible repeat (first | exact HB.out | apply av | apply ak | apply ay)) hb);clear HB;have Vf:=bY;have HB:=dO;clear bY dO;(try clear hb);(try clear hb2);(try clear hk);(try clear hi);(try clear ho0);obtain ⟨Ao5,co5,eo5⟩:=Kd.Wn Vf.out;subst eo5))
 go_loopg [10,27] k (fun kq v10 v27 w'=>∃ (nX:List (xY)) (dD:Int),v27=.int .i64 dD/\ah (bX.l0 kq nX t105 (t105.length:Int) dD=some (r1,r2,r3,r4))/\ah (kq<=k)/\ah (Kd.R ZQ 73 w' w.heap.size (fun _=>True) v10 nX)/\ah (Kd.N (Kd.slice 53 jP) 24 w' w.heap.size (fun k_=>some k_≠(v10:Value).ownBlock) (.slice Ao5 t105.length co5) t105)/\ah (Below w.heap.size w w'))
 case atStart=>exact ⟨(([]:List (xY))),(0),(by first | rfl | (simp;done) | (simp [*];done)),H',⟨Nat.le_refl _⟩,⟨by first | exact Kd.nG _ _ _ _ _ | exact Kd.pJ _ _ _ _ _ | exact Kd.rX _ _ _ _ _ | exact Kd.rU _ _ _ _ _ | exact Kd.rW _ _ _ _ _⟩,⟨by (with_reducible repeat (first | apply Kd.wD | apply Kd.wE | apply Kd.yu));exact Kd.yt Vf.out (fun _ hk=>(by simp [Value.ownBlock]))⟩,⟨by with_reducible repeat (first | exact HB.out | apply av | apply ak | apply ay)⟩⟩
 case round =>
  clear H';obtain ⟨nX,dD,rfl,HA,jY,tV,ng,HB⟩:=hrel;cases gk with
  | zero=>exact absurd HA.out (by simp [bX.l0])
  | succ k1 =>
   have H:=HA.out;clear HA;simp only [bX.l0] at H;by_cases c6:dD < (t105.length:Int)
   rotate_left
   ·rw [if_neg c6] at H
    have lJ:decide (dD < (t105.length:Int))=false:=decide_eq_false c6;clear c6;simp only [Option.some.injEq,Prod.mk.injEq] at H;obtain ⟨rfl,rfl,rfl,rfl⟩:=H;go_wp2;refine bodyPost_ret (wu (rs:=[.tmp 2,.tmp 3,.tmp 4,.tmp 5]) rfl (by simp) (.tmp (.tmp (.tmp (.tmp .nil))))) rfl ?_;exact ⟨_,by first | rfl | (simp [aJ,aK]<;>rfl) | (simp [*,aJ,aK]<;>rfl),by (with_reducible repeat (first | apply Kd.cO | apply Kd.cB | apply Kd.dF));exact tV.out,by with_reducible repeat (first | exact HB.out | apply av | apply ak | apply ay)⟩
   rw [if_pos c6] at H;have lJ:decide (dD < (t105.length:Int))=true:=decide_eq_true c6;clear c6;by_cases c7:0<=dD
   rotate_left
   ·rw [if_neg c7] at H
    exact absurd H (by simp)
   rw [if_pos c7] at H;have sJ:decide (0<=dD)=true:=decide_eq_true c7;clear c7;by_cases c8:dD < (t105.length:Int)
   rotate_left
   ·rw [if_neg c8] at H
    exact absurd H (by simp)
   rw [if_pos c8] at H;have zO:decide (dD < (t105.length:Int))=true:=decide_eq_true c8;clear c8;replace H:=Option.bind_eq_some_iff.mp H;obtain ⟨Zm,RF,H⟩:=H;replace H:(if Zm=true then (if 0 < ((dX t105 dD).length:Int) then (if nX.length < 5864062014805 then (bX.l0 k1 (nX++[(⟨(aC (dX t105 dD) 0).f1,(aC (dX t105 dD) 0).f3⟩:xY)]) t105 (t105.length:Int) (wrap64 (dD+1))) else (none)) else (none)) else (bX.l0 k1 nX t105 (t105.length:Int) (wrap64 (dD+1))))=some (r1,r2,r3,r4):=H;have A9:=ah.mk RF;clear RF;by_cases c10:Zm=true
   rotate_left
   ·replace c10:=Bool.eq_false_iff.mpr c10
    subst c10;rw [if_neg (show ¬ (false=true) by decide)] at H;have H':=ah.mk H;clear H;have Hu:0<=(dD:Int):=of_decide_eq_true (by with_reducible assumption);have Hw:dD < (t105.length:Int):=of_decide_eq_true (by with_reducible assumption);obtain ⟨OI,Cv,Hy,acZ,Hz,xH,xI⟩:=ZP (Kd.wF ng.out).2.2 dD Hu Hw;cases acZ
    obtain ⟨afU,MP,MQ,Cw⟩:=Kd.ZO ng.out [] dD Hu (by first | exact Hw | exact of_decide_eq_true (by with_reducible assumption) | (have e_:=(Kd.wF ng.out).1;omega));obtain ⟨Zn,Zo,rfl,rQ,rR⟩:=Kd.uP MQ;have ow:=Cw 0 _ rfl;rw [Nat.add_zero,show ((Kd.slice 53 jP)).sz=1 from rfl,Nat.mul_one] at ow;replace ow:=Option.some.inj (ow.symm.trans Hz);injection ow with Vg ada Vh
    rw [Vg] at rR;rw [Vh] at rQ;have mR:=ah.mk (show Kd.V jP 53 _ w.heap.size _ _ (dX t105 dD) from Kd.adG rQ rR);clear Vg ada Vh rR rQ;clear Cw MP;have iQ:=ah.mk xI;have Ia:=ah.mk xH;clear xI xH;replace Hu:=eq_true Hu;replace Hw:=eq_true Hw;go_wp2_with (first | ((with_reducible refine aQ (f:=54) rfl ?_);refine bL (some 32) rfl rfl Tryz.func54 (by kernel_rfl) rfl #[.slice Cv (dX t105 dD).length Hy] rfl (by (try simp only [List.map_toArray,List.map_cons,List.map_nil]);first | done | rfl) ?_;(with_reducible refine (jU.calls _ _ (dX t105 dD) false _ ?gT ?gU A9.out).mono ?_);(case gT=>repeat (first | exact (by repeat (first | (with_reducible exact iQ.out) | (with_reducible refine Kd.eT ?_ _) | (with_reducible refine Kd.fA ?_ _) | (with_reducible refine Kd.gN ?_) | exact iQ.out)) | (with_reducible refine Kd.eT ?_ _) | (with_reducible refine Kd.fA ?_ _) | (with_reducible refine Kd.gN ?_)));(case gU=>exact Ia.out);rintro e w' ⟨rfl,⟨nd,rfl⟩⟩;refine ⟨_,rfl,?_⟩))
    go_roundg k1
    case measure=>have:=jY.out;omega
    case rel=>exact ⟨(nX),(wrap64 (dD+1)),(by first | rfl | (simp;done) | (simp [*];done)),H',⟨by have:=jY.out;omega⟩,⟨by (with_reducible repeat (first | apply Kd.cO | apply Kd.cB | apply Kd.dF));exact tV.out⟩,⟨by (with_reducible repeat (first | apply Kd.wD | apply Kd.wE | apply Kd.yu));exact ng.out⟩,⟨by with_reducible repeat (first | exact HB.out | apply av | apply ak | apply ay)⟩⟩
   subst c10;rw [if_pos rfl] at H;by_cases c11:0 < ((dX t105 dD).length:Int)
   rotate_left
   ·rw [if_neg c11] at H
    exact absurd H (by simp)
   rw [if_pos c11] at H;have Bg:decide (0 < ((dX t105 dD).length:Int))=true:=decide_eq_true c11;have Sg:decide (0 < (dX t105 dD).length)=true:=decide_eq_true (by omega);clear c11;by_cases c12:nX.length < 5864062014805
   rotate_left
   ·rw [if_neg c12] at H
    exact absurd H (by simp)
   rw [if_pos c12] at H;have afV:=ah.mk c12;clear c12;obtain ⟨y115,hy115⟩:∃ y_:List (xY),y_=(nX++[(⟨(aC (dX t105 dD) 0).f1,(aC (dX t105 dD) 0).f3⟩:xY)]):=⟨_,rfl⟩;replace H:(bX.l0 k1 y115 t105 (t105.length:Int) (wrap64 (dD+1)))=some (r1,r2,r3,r4):=by first | (rw [hy115];with_reducible exact H) | (have qQ:=(Option.bind_some _ _).symm.trans H;rw [hy115];with_reducible exact qQ) | (have qQ:=(Option.bind_some _ _).symm.trans H;with_reducible exact qQ) | with_reducible exact H | (rw [hy115];exact H) | exact H
   have afW:=ah.mk hy115;clear hy115;have H':=ah.mk H;clear H;have Hu:0<=(dD:Int):=of_decide_eq_true (by with_reducible assumption);have Hw:dD < (t105.length:Int):=of_decide_eq_true (by with_reducible assumption);obtain ⟨OI,Cv,Hy,acZ,Hz,xH,xI⟩:=ZP (Kd.wF ng.out).2.2 dD Hu Hw;cases acZ
   obtain ⟨afU,MP,MQ,Cw⟩:=Kd.ZO ng.out [] dD Hu (by first | exact Hw | exact of_decide_eq_true (by with_reducible assumption) | (have e_:=(Kd.wF ng.out).1;omega));obtain ⟨Zn,Zo,rfl,rQ,rR⟩:=Kd.uP MQ;have ow:=Cw 0 _ rfl;rw [Nat.add_zero,show ((Kd.slice 53 jP)).sz=1 from rfl,Nat.mul_one] at ow;replace ow:=Option.some.inj (ow.symm.trans Hz);injection ow with Vg ada Vh
   rw [Vg] at rR;rw [Vh] at rQ;have mR:=ah.mk (show Kd.V jP 53 _ w.heap.size _ _ (dX t105 dD) from Kd.adG rQ rR);clear Vg ada Vh rR rQ;clear Cw MP;have iQ:=ah.mk xI;have Ia:=ah.mk xH;clear xI xH;replace Hu:=eq_true Hu;replace Hw:=eq_true Hw;try go_wp2_with (first | ((with_reducible refine aQ (f:=54) rfl ?_);refine bL (some 32) rfl rfl Tryz.func54 (by kernel_rfl) rfl #[.slice Cv (dX t105 dD).length Hy] rfl (by (try simp only [List.map_toArray,List.map_cons,List.map_nil]);first | done | rfl) ?_;(with_reducible refine (jU.calls _ _ (dX t105 dD) true _ ?gT ?gU A9.out).mono ?_);(case gT=>repeat (first | exact (by repeat (first | (with_reducible exact iQ.out) | (with_reducible refine Kd.eT ?_ _) | (with_reducible refine Kd.fA ?_ _) | (with_reducible refine Kd.gN ?_) | exact iQ.out)) | (with_reducible refine Kd.eT ?_ _) | (with_reducible refine Kd.fA ?_ _) | (with_reducible refine Kd.gN ?_)));(case gU=>exact Ia.out);rintro e w' ⟨rfl,⟨nd,rfl⟩⟩;refine ⟨_,rfl,?_⟩))
   (try (rw [kW wr];generalize vP:World.drewN wr _=wr;have bY:ah (Kd.V jP 53 wr w.heap.size (fun k_=>some k_≠(u10:Value).ownBlock/\some k_≠(.slice (some OI) t105.length co5:Value).ownBlock) (.slice Cv (dX t105 dD).length Hy) (dX t105 dD)):=⟨by rw [<- vP];exact (by (with_reducible repeat (first | apply Kd.Ng | apply Kd.Nh | apply Kd.KN));exact mR.out)⟩;have dO:ah (Kd.R ZQ 73 wr w.heap.size (fun _=>True) u10 nX):=⟨by rw [<- vP];exact (by (with_reducible repeat (first | apply Kd.cO | apply Kd.cB | apply Kd.dF));exact tV.out)⟩;have jA:ah (Kd.N (Kd.slice 53 jP) 24 wr w.heap.size (fun k_=>some k_≠(u10:Value).ownBlock) (.slice (some OI) t105.length co5) t105):=⟨by rw [<- vP];exact (by (with_reducible repeat (first | apply Kd.wD | apply Kd.wE | apply Kd.yu));exact ng.out)⟩;have mW:ah (Below w.heap.size w wr):=⟨by rw [<- vP];exact (by with_reducible repeat (first | exact HB.out | apply av | apply ak | apply ay))⟩;have zy:ah (Kd.C jP wr Cv (dX t105 dD).length (dX t105 dD)):=⟨by rw [<- vP];exact (by repeat (first | (with_reducible exact iQ.out) | (with_reducible refine Kd.eT ?_ _) | (with_reducible refine Kd.fA ?_ _) | (with_reducible refine Kd.gN ?_) | exact iQ.out))⟩;clear mR tV ng HB iQ vP;have mR:=bY;have tV:=dO;have ng:=jA;have HB:=mW;have iQ:=zy;clear bY dO jA mW zy))
   have bY:=ah.mk (Kd.dF tV.out);have dO:=ah.mk (Kd.yu ng.out);have jA:=ah.mk (Kd.KN mR.out);have mW:=ah.mk (Kd.gN iQ.out);have zy:=ah.mk (ay HB.out);clear tV;clear ng;clear mR;clear iQ;clear HB;have tV:=bY;have ng:=dO;have mR:=jA;have iQ:=mW;have HB:=zy;clear bY dO jA mW zy;have adb:0<=(0:Int):=(by omega);have ade:0 < ((dX t105 dD).length:Int):=of_decide_eq_true (by with_reducible assumption);obtain ⟨jW,ajS,xJ,xK,xL,xM,xO,xP⟩:=bQ (by repeat (first | (with_reducible exact iQ.out) | (with_reducible refine Kd.eT ?_ _) | (with_reducible refine Kd.fA ?_ _) | (with_reducible refine Kd.gN ?_) | exact iQ.out)) 0 adb ade;cases ajS
   have alc:(0 < (dX t105 dD).length)=True:=eq_true (by omega)
   (try rw [show ((0:Int)).toNat=0 from rfl] at xJ)
   (try rw [show 0*6=0 from rfl] at xJ)
   (try rw [Addr.add_zero'] at xJ)
   (try rw [show ((0:Int)).toNat=0 from rfl] at xK)
   (try rw [show 0*6=0 from rfl] at xK)
   (try rw [Addr.add_zero'] at xK)
   (try rw [show ((0:Int)).toNat=0 from rfl] at xL)
   (try rw [show 0*6=0 from rfl] at xL)
   (try rw [Addr.add_zero'] at xL)
   (try rw [show ((0:Int)).toNat=0 from rfl] at xM)
   (try rw [show 0*6=0 from rfl] at xM)
   (try rw [Addr.add_zero'] at xM)
   (try rw [show ((0:Int)).toNat=0 from rfl] at xO)
   (try rw [show 0*6=0 from rfl] at xO)
   (try rw [Addr.add_zero'] at xO)
   (try rw [show ((0:Int)).toNat=0 from rfl] at xP)
   (try rw [show 0*6=0 from rfl] at xP)
   (try rw [Addr.add_zero'] at xP)
   replace adb:=eq_true adb;replace ade:=eq_true ade;have adf:0<=(0:Int):=(by omega);have adg:0 < ((dX t105 dD).length:Int):=of_decide_eq_true (by with_reducible assumption);obtain ⟨afX,ajT,xQ,xR,xS,xU,xV,xW⟩:=bQ (by repeat (first | (with_reducible exact iQ.out) | (with_reducible refine Kd.eT ?_ _) | (with_reducible refine Kd.fA ?_ _) | (with_reducible refine Kd.gN ?_) | exact iQ.out)) 0 adf adg;obtain rfl:jW=afX:=(by injection ajT);have ald:(0 < (dX t105 dD).length)=True:=eq_true (by omega)
   (try rw [show ((0:Int)).toNat=0 from rfl] at xQ)
   (try rw [show 0*6=0 from rfl] at xQ)
   (try rw [Addr.add_zero'] at xQ)
   (try rw [show ((0:Int)).toNat=0 from rfl] at xR)
   (try rw [show 0*6=0 from rfl] at xR)
   (try rw [Addr.add_zero'] at xR)
   (try rw [show ((0:Int)).toNat=0 from rfl] at xS)
   (try rw [show 0*6=0 from rfl] at xS)
   (try rw [Addr.add_zero'] at xS)
   (try rw [show ((0:Int)).toNat=0 from rfl] at xU)
   (try rw [show 0*6=0 from rfl] at xU)
   (try rw [Addr.add_zero'] at xU)
   (try rw [show ((0:Int)).toNat=0 from rfl] at xV)
   (try rw [show 0*6=0 from rfl] at xV)
   (try rw [Addr.add_zero'] at xV)
   (try rw [show ((0:Int)).toNat=0 from rfl] at xW)
   (try rw [show 0*6=0 from rfl] at xW)
   (try rw [Addr.add_zero'] at xW)
   replace adf:=eq_true adf;replace adg:=eq_true adg;refine Ra (n:=13) (S:=fun w'=>w'.cell? jW=some (.int .i64 ((aC (dX t105 dD) 0).f0))/\w'.cell? ⟨jW.block,jW.off+1,none⟩=some (.string ((aC (dX t105 dD) 0).f1))/\w'.cell? ⟨jW.block,jW.off+2,none⟩=some (.bool ((aC (dX t105 dD) 0).f2))/\w'.cell? ⟨jW.block,jW.off+3,none⟩=some (.int .i64 ((aC (dX t105 dD) 0).f3))/\w'.cell? ⟨jW.block,jW.off+4,none⟩=some (.int .i64 ((aC (dX t105 dD) 0).f4))/\w'.cell? ⟨jW.block,jW.off+5,none⟩=some (.int .i64 ((aC (dX t105 dD) 0).f5))/\w'.cell? jW=some (.int .i64 ((aC (dX t105 dD) 0).f0))/\w'.cell? ⟨jW.block,jW.off+1,none⟩=some (.string ((aC (dX t105 dD) 0).f1))/\w'.cell? ⟨jW.block,jW.off+2,none⟩=some (.bool ((aC (dX t105 dD) 0).f2))/\w'.cell? ⟨jW.block,jW.off+3,none⟩=some (.int .i64 ((aC (dX t105 dD) 0).f3))/\w'.cell? ⟨jW.block,jW.off+4,none⟩=some (.int .i64 ((aC (dX t105 dD) 0).f4))/\w'.cell? ⟨jW.block,jW.off+5,none⟩=some (.int .i64 ((aC (dX t105 dD) 0).f5))) (ds:=[10,11]) #[false,false,false,false,false,false,false,false,false,false,false,false,false] (by kernel_rfl) rfl rfl ⟨xJ,xK,xL,xM,xO,xP,xQ,xR,xS,xU,xV,xW⟩ (fun hHeld=>?_);refine Dy bX.ajR bX.afT (fun xk HW_=>?_);generalize wr.drew=VA at tV ng mR iQ HB xJ xK xL xM xO xP xQ xR xS xU xV xW hHeld |-
   refine lI (i:=0) (N:=some 33) (v:=?_) (a':=?_) #[true,false,false,false,false,false,false,false,false,false,false,false,false] rfl rfl (jo xk.out (by kernel_rfl)) (fun _ _ _ h=>h) (Or.inl ⟨by rfl,?_⟩) ?_ ?_;rotate_left
   ·intro w'
    go_simp;with_reducible rfl
   rotate_left
   ·simp only [Act.put,sArr,sZer,sSuc,dK,fM]
    rfl
   refine lI (i:=1) (N:=some 34) (v:=?_) (a':=?_) #[true,true,false,false,false,false,false,false,false,false,false,false,false] rfl rfl (jo xk.out (by kernel_rfl)) (fun _ _ _ h=>h) (Or.inl ⟨by rfl,?_⟩) ?_ ?_;rotate_left
   ·intro w'
    go_simp;with_reducible rfl
   rotate_left
   ·simp only [Act.put,sArr,sZer,sSuc,dK,fM]
    rfl
   refine lI (i:=2) (N:=some 35) (v:=?_) (a':=?_) #[true,true,true,false,false,false,false,false,false,false,false,false,false] rfl rfl (jo xk.out (by kernel_rfl)) (fun _ _ _ h=>h) (Or.inl ⟨by rfl,?_⟩) ?_ ?_;rotate_left
   ·intro w'
    go_simp;with_reducible rfl
   rotate_left
   ·simp only [Act.put,sArr,sZer,sSuc,dK,fM]
    rfl
   refine lI (i:=3) (N:=some 36) (v:=?_) (a':=?_) #[true,true,true,true,false,false,false,false,false,false,false,false,false] rfl rfl (jo xk.out (by kernel_rfl)) (fun _ _ _ h=>h) (Or.inl ⟨by rfl,?_⟩) ?_ ?_;rotate_left
   ·intro w'
    go_simp;with_reducible rfl
   rotate_left
   ·simp only [Act.put,sArr,sZer,sSuc,dK,fM]
    rfl
   refine lI (i:=5) (N:=some 38) (v:=?_) (a':=?_) #[true,true,true,true,false,true,false,false,false,false,false,false,false] rfl rfl (jo xk.out (by kernel_rfl)) (fun _ _ _ h=>h) (Or.inl ⟨by rfl,?_⟩) ?_ ?_;rotate_left
   ·intro w'
    go_simp;with_reducible rfl
   rotate_left
   ·simp only [Act.put,sArr,sZer,sSuc,dK,fM]
    rfl
   refine lI (i:=6) (N:=some 39) (v:=?_) (a':=?_) #[true,true,true,true,false,true,true,false,false,false,false,false,false] rfl rfl (jo xk.out (by kernel_rfl)) (fun _ _ _ h=>h) (Or.inl ⟨by rfl,?_⟩) ?_ ?_;rotate_left
   ·intro w'
    go_simp;with_reducible rfl
   rotate_left
   ·simp only [Act.put,sArr,sZer,sSuc,dK,fM]
    rfl
   refine lI (i:=7) (N:=some 40) (v:=?_) (a':=?_) #[true,true,true,true,false,true,true,true,false,false,false,false,false] rfl rfl (jo xk.out (by kernel_rfl)) (fun _ _ _ h=>h) (Or.inl ⟨by rfl,?_⟩) ?_ ?_;rotate_left
   ·intro w'
    go_simp;with_reducible rfl
   rotate_left
   ·simp only [Act.put,sArr,sZer,sSuc,dK,fM]
    rfl
   refine Dp (i:=4) (N:=some 37) (v:=?_) (a':=?_) #[true,true,true,true,true,true,true,true,false,false,false,false,false] rfl rfl (wC xk.out HW_.out (by kernel_rfl)) (fun _ _ _ h=>h) (Or.inl ⟨by rfl,?_⟩) hHeld ?_ ?_;rotate_left
   ·rintro w' ⟨s0,s1,s2,s3,s4,s5,s6,s7,s8,s9,s10,s11⟩
    go_simp;with_reducible rfl
   rotate_left
   ·simp only [Act.put,sArr,sZer,sSuc,dK,fM]
    rfl
   refine Dp (i:=8) (N:=some 41) (v:=?_) (a':=?_) #[true,true,true,true,true,true,true,true,true,false,false,false,false] rfl rfl (wC xk.out HW_.out (by kernel_rfl)) (fun _ _ _ h=>h) (Or.inl ⟨by rfl,?_⟩) hHeld ?_ ?_;rotate_left
   ·rintro w' ⟨s0,s1,s2,s3,s4,s5,s6,s7,s8,s9,s10,s11⟩
    go_simp;with_reducible rfl
   rotate_left
   ·simp only [Act.put,sArr,sZer,sSuc,dK,fM]
    rfl
   refine lI (i:=9) (N:=some 42) (v:=?_) (a':=?_) #[true,true,true,true,true,true,true,true,true,true,false,false,false] rfl rfl (jo xk.out (by kernel_rfl)) (fun _ _ _ h=>h) (Or.inl ⟨by rfl,?_⟩) ?_ ?_;rotate_left
   ·intro w'
    go_simp;with_reducible rfl
   rotate_left
   ·simp only [Act.put,sArr,sZer,sSuc,dK,fM]
    rfl
   refine ZJ (i:=10) (N:=some 43) #[true,true,true,true,true,true,true,true,true,true,true,false,false] rfl rfl (KL xk.out (by kernel_rfl)) (by decide) (fun K hK=>?_);refine aaN (w1:=?_) (v:=?_) (by rfl) rfl ?_ ?_;rotate_left 2
   ·go_simp
    constructor
    ·rfl
    ·rfl
   refine hK.out _ _ ?_;clear hK K;refine ZL (a':=?_) ?_ ?_;rotate_left
   ·show Act.put _ (some 43) _=_
    simp only [Act.put,sArr,sZer,sSuc,dK,fM];rfl
   refine ZJ (i:=11) (N:=some 44) #[true,true,true,true,true,true,true,true,true,true,true,true,false] rfl rfl (KL xk.out (by kernel_rfl)) (by decide) (fun K hK=>?_);refine Kd.CQ ZQ (w0:=w) w.heap.size (by rfl) (.tmp 33) (.tmp 43) 34 73 (.agg #[(.string ⟨#[]⟩),(.int .i64 0)]) 24 rfl Tryz.underlying34 aaU rfl (by decide) (by omega) u10 nX (⟨(aC (dX t105 dD) 0).f1,(aC (dX t105 dD) 0).f3⟩:xY) [.string ((aC (dX t105 dD) 0).f1),.int .i64 ((aC (dX t105 dD) 0).f3)] (fun _=>True) (fun _=>False) rfl rfl ?aP (fun _ hk=>hk.elim) ?aF ?aO ?aB ?aS ?aL ?_
   (case aP=>exact Wp _ _ _ (⟨(aC (dX t105 dD) 0).f1,(aC (dX t105 dD) 0).f3⟩:xY))
   (case aB=>exact (by with_reducible repeat (first | exact HB.out | apply av | apply ak | apply ay)))
   (case aF=>exact (fun _ _=>trivial))
   (case aO=>exact (by (with_reducible repeat (first | apply Kd.cO | apply Kd.cB | apply Kd.dF));exact tV.out))
   (case aS=>exact (bG (by with_reducible repeat (first | exact HB.out | apply av | apply ak | apply ay))))
   (case aL=>have:=afV.out;omega)
   intro amy WO ho hb hg hat
   rw [<- afW.out] at ho;have bY:=ah.mk (Kd.Ro (ok:=(fun _=>True)) (by (with_reducible repeat (first | apply Kd.wD | apply Kd.wE | apply Kd.yu));exact Kd.yt ng.out (fun _ hk=>⟨trivial,hk⟩)) hg hat);have dO:=ah.mk (Kd.Rn (ok:=(fun k_=>some k_≠(.slice (some OI) t105.length co5:Value).ownBlock)) (by (with_reducible repeat (first | apply Kd.Ng | apply Kd.Nh | apply Kd.KN));exact Kd.aaT mR.out (fun _ hk=>⟨hk.2,hk.1⟩)) hg hat);have jA:=ah.mk (hb);have mW:=ah.mk (ho);clear ng;clear mR;clear HB;clear tV;have ng:=bY;have mR:=dO;have HB:=jA;have afY:=mW;clear bY dO jA mW;clear ho hb hg hat;refine hK.out _ _ ?_;clear hK K;refine ZL (a':=?_) ?_ ?_;rotate_left
   ·show Act.put _ (some 44) _=_
    simp only [Act.put,sArr,sZer,sSuc,dK,fM];rfl
   refine lI (i:=12) (N:=some 10) (v:=?_) (a':=?_) #[true,true,true,true,true,true,true,true,true,true,true,true,true] rfl rfl (jo xk.out (by kernel_rfl)) (fun _ _ _ h=>h) (Or.inl ⟨by rfl,?_⟩) ?_ ?_;rotate_left
   ·intro w'
    go_simp;with_reducible rfl
   rotate_left
   ·simp only [Act.put,sArr,sZer,sSuc,dK,fM]
    rfl
   refine ZK (Nb xk.out (by kernel_rfl)) ?_;try go_wp2
   go_roundg k1
   case measure=>have:=jY.out;omega
   case rel=>exact ⟨(y115),(wrap64 (dD+1)),(by first | rfl | (simp;done) | (simp [*];done)),H',⟨by have:=jY.out;omega⟩,⟨by (with_reducible repeat (first | apply Kd.cO | apply Kd.cB | apply Kd.dF));exact afY.out⟩,⟨by (with_reducible repeat (first | apply Kd.wD | apply Kd.wE | apply Kd.yu));exact Kd.yt ng.out (fun _ hk=>hk.2)⟩,⟨by with_reducible repeat (first | exact HB.out | apply av | apply ak | apply ay)⟩⟩
theorem afZ (d:Nat) (w:World) (x0 y0:ByteArray) (x1 y1:Int) :
  (Op.equalIn (d+2) 73 (.agg #[.string x0,.int .i64 x1]) (.agg #[.string y0,.int .i64 y1])).run Tryz.prog w=.ok (x0.toList==y0.toList&&(x1==y1)) w:=by
 refine aaS Tryz.underlying73 (by kernel_rfl) ?_;refine Rm (by rfl) (by go_simp;rfl) (by go_simp;rfl) (by go_simp) ?_;exact Rl (by rfl) (by go_simp;rfl) (by go_simp;rfl) (by go_simp)
end Go.Proofs.YtkkpjonfaflkmaaGreatDoor.T
namespace Go.Proofs.YtkkpjonfaflkmaaGreatDoor.T
open Go.RowKit Go.Maps Go.Proofs.aj.aI Go.Proofs.aj.aY Go.Proofs.aj.bq
attribute [local go_sem] Oper.semAt_some
def Zp:ByteArray:=⟨#[115,97,121,32,49,32,43,32,97,46,98,32,45,45,32,47,42,32,120,32,42,47,32,39,105,116,39,39,115,39]⟩
def Zq:ByteArray:=⟨#[49,101,43,53,120]⟩
def Zr:ByteArray:=⟨#[102,40,97,44,32,10,98,41]⟩
def Zt:ByteArray:=⟨#[120,58,32,121,58,32,115,97,121,32,49,59,32,59,32,115,97,121,32,50]⟩
def Zu:ByteArray:=⟨#[97,10,39,98]⟩
def Zv:ByteArray:=⟨#[97,32,47,42,32,98,32,47,42,32,99,32,42,47,10,100]⟩
def aga:List dh:=[⟨1,⟨#[65]⟩,false,0,0,0⟩,⟨1,⟨#[66]⟩,false,0,0,0⟩,⟨4,⟨#[]⟩,false,0,0,0⟩]
def tX (s:ByteArray):List dh:=(S.tokens (bytesOf s)).map toS
theorem oU (s:ByteArray) (n:Nat) (c l e:Int) (hf:dP.f s=some (tX s,c,l,e)) (hn:(tX s).length=n) (h0:0 < n) (w:World) (hT:dR w) :
  Calls Tryz.prog 17 #[.string s] w fun e' w'=>∃ ad cp,e'=.returned (.tuple #[.slice (some ad) n cp,.int .i64 c,.int .i64 l,.int .i64 e])/\Kd.C jP w' (some ad) n (tX s)/\Below w.heap.size w w':=by
 refine (dP.calls s _ _ _ _ w hT hf).mono ?_;rintro e' w' ⟨v0,rfl,hR,hb⟩
 obtain ⟨A,cp,rfl,hc,hC⟩:=Kd.qE hR;rw [hn] at hC |-
 obtain ⟨ad,rfl⟩:∃ ad,A=some ad:=by
  obtain ⟨h1,h2,h3⟩:=hC;obtain ⟨ad,e,_⟩:=h3 h0;exact ⟨ad,e⟩
 exact ⟨ad,cp,rfl,hC,hb⟩
theorem adh:dP.f Zp=some (tX Zp,0,0,0):=by
 have h1:(S.scan (bytesOf Zp)).err=none:=by decide +kernel
 unfold dP.f;rw [if_pos (by decide),h1];rfl
theorem adi:dP.f Zq=some (tX Zq,0,0,0):=by
 have h1:(S.scan (bytesOf Zq)).err=none:=by decide +kernel
 unfold dP.f;rw [if_pos (by decide),h1];rfl
theorem adj:dP.f Zr=some (tX Zr,0,0,0):=by
 have h1:(S.scan (bytesOf Zr)).err=none:=by decide +kernel
 unfold dP.f;rw [if_pos (by decide),h1];rfl
theorem adk:dP.f Zu=some (tX Zu,6,2,7):=by
 have h1:(S.scan (bytesOf Zu)).err=some (6,2):=by decide +kernel
 unfold dP.f;rw [if_pos (by decide),h1];rfl
theorem adl:dP.f Zv=some (tX Zv,6,1,7):=by
 have h1:(S.scan (bytesOf Zv)).err=some (6,1):=by decide +kernel
 unfold dP.f;rw [if_pos (by decide),h1];rfl
theorem adn:jv.f aga=some (⟨#[65,47,42,42,47,66,10]⟩,0):=by decide +kernel
theorem Qv:rP.f ⟨#[97,46,98,46]⟩=some (⟨#[65,46]⟩,[⟨#[66]⟩,⟨#[]⟩],0):=by decide +kernel
theorem Zw:oQ.f ⟨#[39,52,97,52,66,39,120]⟩=some (⟨#[74,75]⟩,0,0):=by decide +kernel
theorem Zx:iO.f ⟨#[105,116,39,115]⟩=some (⟨#[34,105,116,39,115,34]⟩,0):=by decide +kernel
def Zy:List xY:=[⟨⟨#[88]⟩,1⟩,⟨⟨#[89]⟩,1⟩]
theorem Qw:∀ l:List xY,l.map (fun x=>(x.f0,x.f1))=[((⟨#[88]⟩:ByteArray),(1:Int)),(⟨#[89]⟩,1)]->l=Zy
 | [],h=>by cases h
 | [_],h=>by simp at h
 | [a,b],h=>by
  obtain ⟨a0,a1⟩:=a;obtain ⟨b0,b1⟩:=b;simp only [List.map_cons,List.map_nil,List.cons.injEq,Prod.mk.injEq,and_true] at h;obtain ⟨⟨rfl,rfl⟩,rfl,rfl⟩:=h;rfl
 | _::_::_::_,h=>by simp at h
theorem MR:bX.f 10 Zt=some (Zy,0,0,0):=by
 have h:(bX.f 10 Zt).map (fun p=>(p.1.map (fun x=>(x.f0,x.f1)),p.2))=some ([((⟨#[88]⟩:ByteArray),(1:Int)),(⟨#[89]⟩,1)],0,0,0):=by decide +kernel
 obtain ⟨p,h1,h2⟩:=Option.map_eq_some_iff.1 h;obtain ⟨l,q⟩:=p;simp only [Prod.mk.injEq] at h2;rw [h1,Qw l h2.1];obtain ⟨h3,rfl,rfl,rfl⟩:=h2;rfl
theorem Ib (w:World) (hT:dR w) :
  Calls Tryz.prog 20 #[.string Zt] w fun e' w'=>∃ ad cp,e'=.returned (.tuple #[.slice (some ad) 2 cp,.int .i64 0,.int .i64 0,.int .i64 0])/\Kd.C ZQ w' (some ad) 2 Zy/\Below w.heap.size w w':=by
 refine (bX.calls 10 Zt _ _ _ _ w hT MR).mono ?_;rintro e' w' ⟨v0,rfl,hR,hb⟩
 obtain ⟨A,cp,rfl,hc,hC⟩:=Kd.qE hR;obtain ⟨ad,rfl⟩:∃ ad,A=some ad:=by
  obtain ⟨h1,h2,h3⟩:=hC;obtain ⟨ad,e,_⟩:=h3 (by decide);exact ⟨ad,e⟩
 exact ⟨ad,cp,rfl,hC,hb⟩
theorem Kh (w:World) (hT:dR w) :
  Calls Tryz.prog 27 #[.string ⟨#[97,46,98,46]⟩] w fun e' w'=>∃ ad cp,e'=.returned (.tuple #[.string ⟨#[65,46]⟩,.slice (some ad) 2 cp,.int .i64 0])/\Kd.C Kd.string w' (some ad) 2 [⟨#[66]⟩,⟨#[]⟩]/\Below w.heap.size w w':=by
 refine (rP.calls _ _ _ _ w hT Qv).mono ?_;rintro e' w' ⟨v0,rfl,hR,hb⟩
 obtain ⟨A,cp,rfl,hc,hC⟩:=Kd.qE hR;obtain ⟨ad,rfl⟩:∃ ad,A=some ad:=by
  obtain ⟨h1,h2,h3⟩:=hC;obtain ⟨ad,e,_⟩:=h3 (by decide);exact ⟨ad,e⟩
 exact ⟨ad,cp,rfl,hC,hb⟩
theorem tY {w:World} {ad:Addr} {n:Nat} {l:List dh} (h:Kd.C jP w (some ad) n l) (i:Nat) (hi:i < n) (t:dh) (ht:aC l (i:Int)=t) :
  w.cell? (ad.add (i*6))=some (.int .i64 t.f0)/\w.cell? ⟨(ad.add (i*6)).block,(ad.add (i*6)).off+1,none⟩=some (.string t.f1)/\w.cell? ⟨(ad.add (i*6)).block,(ad.add (i*6)).off+2,none⟩=some (.bool t.f2)/\w.cell? ⟨(ad.add (i*6)).block,(ad.add (i*6)).off+3,none⟩=some (.int .i64 t.f3):=by
 obtain ⟨ad',e,x0,x1,x2,x3,_⟩:=bQ h (i:Int) (by omega) (by omega);cases e
 simp only [Int.toNat_natCast] at x0 x1 x2 x3;subst ht;exact ⟨x0,x1,x2,x3⟩
theorem add_lit (ad:Addr) (n:Nat) (h:0 < n):ad.add n=⟨ad.block,ad.off+n,none⟩:=by
 unfold Addr.add;rw [if_neg (by omega)]
attribute [local go_sem high] afZ
set_option maxRecDepth 100000 in
set_option maxHeartbeats 16000000 in
theorem Qx (w:World) (hT:dR w):Calls Tryz.prog 16 #[] w fun e w'=>e=.returned (.bool true)/\Below w.heap.size w w':=by
 have HT:=ah.mk hT;have HA:=Lib.hid (fun W hW=>oU Zp 8 _ _ _ adh (by decide +kernel) (by decide) W hW);have HB:=Lib.hid (fun W hW=>oU Zq 3 _ _ _ adi (by decide +kernel) (by decide) W hW);have HC:=Lib.hid (fun W hW=>oU Zr 6 _ _ _ adj (by decide +kernel) (by decide) W hW);have HD:=Lib.hid (fun W hW=>Ib W hW);have HE:=Lib.hid (fun W hW=>oU Zu 2 _ _ _ adk (by decide +kernel) (by decide) W hW);have HF:=Lib.hid (fun W hW=>oU Zv 1 _ _ _ adl (by decide +kernel) (by decide) W hW);have HV:=Lib.hid (fun W=>oQ.calls _ _ _ _ W Zw);have HS:=Lib.hid (fun W hW=>Kh W hW);clear hT;go_enter Tryz.func16,Tryz.ntmps16
 go_upto_region 2 with (go_at_call 17;refine (HA.out _ HT.out).mono ?_;rintro e w1 ⟨adA,cpA,rfl,hCA,hb1⟩)
 have HT1:=ah.mk (HT.out.of_below hb1);go_upto_region 3 with (go_at_call 17;refine (HB.out _ HT1.out).mono ?_;rintro e w2 ⟨adB,cpB,rfl,hCB,hb2⟩)
 have HT2:=ah.mk (HT1.out.of_below hb2);go_upto_region 4 with (go_at_call 17;refine (HC.out _ HT2.out).mono ?_;rintro e w3 ⟨adC,cpC,rfl,hCC,hb3⟩)
 have HT3:=ah.mk (HT2.out.of_below hb3);go_upto_region 5 with (go_at_call 20;refine (HD.out _ HT3.out).mono ?_;rintro e w4 ⟨adD,cpD,rfl,hCD,hb4⟩)
 have HT4:=ah.mk (HT3.out.of_below hb4);go_upto_region 6 with (go_at_call 17;refine (HE.out _ HT4.out).mono ?_;rintro e w5 ⟨adE,cpE,rfl,hCE,hb5⟩)
 have HT5:=ah.mk (HT4.out.of_below hb5);go_upto_region 7 with (go_at_call 17;refine (HF.out _ HT5.out).mono ?_;rintro e w6 ⟨adF,cpF,rfl,hCF,hb6⟩)
 have HT6:=ah.mk (HT5.out.of_below hb6);go_upto_region 8 with (go_at_call 32;refine (HV.out _).mono ?_;rintro e w7 ⟨rfl,Kv⟩)
 have HT7:=ah.mk (HT6.out.of_below Kv);go_upto_region 9 with (go_at_call 27;refine (HS.out _ HT7.out).mono ?_;rintro e w8 ⟨adS,cpS,rfl,hCS,VB⟩)
 have kA:=Kd.bS (Kd.bS (Kd.bS (Kd.bS (Kd.bS (Kd.bS (Kd.bS hCA hb2) hb3) hb4) hb5) hb6) Kv) VB;have kB:=Kd.bS (Kd.bS (Kd.bS (Kd.bS (Kd.bS (Kd.bS hCB hb3) hb4) hb5) hb6) Kv) VB;have kC:=Kd.bS (Kd.bS (Kd.bS (Kd.bS (Kd.bS hCC hb4) hb5) hb6) Kv) VB;have kD:=Kd.bS (Kd.bS (Kd.bS (Kd.bS hCD hb5) hb6) Kv) VB;have hB8:Below w.heap.size w w8:=by
  have s1:=hb1.size;have s2:=hb2.size;have s3:=hb3.size;have s4:=hb4.size;have s5:=hb5.size;have s6:=hb6.size;have s7:=Kv.size;exact hb1.trans ((hb2.mono (by omega)).trans ((hb3.mono (by omega)).trans ((hb4.mono (by omega)).trans ((hb5.mono (by omega)).trans ((hb6.mono (by omega)).trans ((Kv.mono (by omega)).trans (VB.mono (by omega))))))))
 have HT8:=ah.mk (HT7.out.of_below VB);have HB8:=ah.mk hB8;have HS8:=ah.mk hCS;clear hCA hCB hCC hCD hCE hCF hb1 hb2 hb3 hb4 hb5 hb6 Kv VB hB8 hCS HT1 HT2 HT3 HT4 HT5 HT6 HT7 HT HA HB HC HD HE HF HV HS;have KA:=ah.mk kA;have KB:=ah.mk kB;have KC:=ah.mk kC;have KD:=ah.mk kD;clear kA kB kC kD;go_upto_region 11 with (fail)
 obtain ⟨p30,p31,p32,p33⟩:=tY KA.out 3 (by decide) ⟨1,⟨#[65,46,66]⟩,true,1,8,11⟩ (by kernel_rfl);rw [add_lit _ _ (by decide)] at p30 p31 p32 p33;simp only [Nat.reduceMul] at p30 p31 p32 p33;obtain ⟨p50,p51,p52,p53⟩:=tY KA.out 5 (by decide) ⟨3,⟨#[45]⟩,false,1,13,14⟩ (by kernel_rfl);rw [add_lit _ _ (by decide)] at p50 p51 p52 p53;simp only [Nat.reduceMul] at p50 p51 p52 p53;obtain ⟨p60,p61,p62,p63⟩:=tY KA.out 6 (by decide) ⟨2,⟨#[105,116,39,115]⟩,true,1,23,30⟩ (by kernel_rfl);rw [add_lit _ _ (by decide)] at p60 p61 p62 p63;simp only [Nat.reduceMul] at p60 p61 p62 p63;obtain ⟨p70,p71,p72,p73⟩:=tY KA.out 7 (by decide) ⟨4,⟨#[]⟩,false,1,30,30⟩ (by kernel_rfl);rw [add_lit _ _ (by decide)] at p70 p71 p72 p73;simp only [Nat.reduceMul] at p70 p71 p72 p73;obtain ⟨q00,q01,q02,q03⟩:=tY KB.out 0 (by decide) ⟨1,⟨#[49,69,43,53]⟩,false,1,0,4⟩ (by kernel_rfl);rw [show (0:Nat)*6=0 from rfl,Addr.add_zero'] at q00 q01 q02 q03;obtain ⟨q10,QL,q12,q13⟩:=tY KB.out 1 (by decide) ⟨1,⟨#[88]⟩,false,1,4,5⟩ (by kernel_rfl);rw [add_lit _ _ (by decide)] at q10 QL q12 q13;simp only [Nat.reduceMul] at q10 QL q12 q13;go_upto_region 12 with (fail)
 clear p30 p31 p32 p33 p50 p51 p52 p53 p60 p61 p62 p63 p70 p71 p72 p73 q00 q01 q02 q03 q10 QL q12 q13;obtain ⟨r20,r21,r22,r23⟩:=tY KC.out 2 (by decide) ⟨1,⟨#[65]⟩,false,1,2,3⟩ (by kernel_rfl);rw [add_lit _ _ (by decide)] at r20 r21 r22 r23;simp only [Nat.reduceMul] at r20 r21 r22 r23;obtain ⟨r30,r31,r32,r33⟩:=tY KC.out 3 (by decide) ⟨1,⟨#[66]⟩,true,2,6,7⟩ (by kernel_rfl);rw [add_lit _ _ (by decide)] at r30 r31 r32 r33;simp only [Nat.reduceMul] at r30 r31 r32 r33;obtain ⟨am,em,m0,m1⟩:=aaV KD.out (1:Int) (by decide) (by decide);cases em
 rw [show KP Zy (1:Int)=⟨⟨#[89]⟩,1⟩ from rfl,show (1:Int).toNat*2=2 from rfl,add_lit _ _ (by decide)] at m0 m1;have HW:=Lib.hid (fun (W:World) (g:Nat) (h:W.heap[g]?=some (.cells #[.int .i64 1,.string ⟨#[65]⟩,.bool false,.int .i64 0,.int .i64 0,.int .i64 0,.int .i64 1,.string ⟨#[66]⟩,.bool false,.int .i64 0,.int .i64 0,.int .i64 0,.int .i64 4,.string ⟨#[]⟩,.bool false,.int .i64 0,.int .i64 0,.int .i64 0] 53 (0,0))) (hW:dR W)=>jv.calls (some ⟨g,0,none⟩) 3 aga _ _ W hW (Uw h rfl (by decide)) (Nat.le_refl _) adn);go_upto_region 13 with (fail)
 clear r20 r21 r22 r23 r30 r31 r32 r33 m0 m1;have hal:Below w8.heap.size w8 (w8.alloc (.cells #[.int .i64 1,.string ⟨#[65]⟩,.bool false,.int .i64 0,.int .i64 0,.int .i64 0,.int .i64 1,.string ⟨#[66]⟩,.bool false,.int .i64 0,.int .i64 0,.int .i64 0,.int .i64 4,.string ⟨#[]⟩,.bool false,.int .i64 0,.int .i64 0,.int .i64 0] 53)):=av (Below.refl _ _) _;have HAL:=ah.mk hal;have HNW:=ah.mk (heap_alloc_new w8 (.cells #[.int .i64 1,.string ⟨#[65]⟩,.bool false,.int .i64 0,.int .i64 0,.int .i64 0,.int .i64 1,.string ⟨#[66]⟩,.bool false,.int .i64 0,.int .i64 0,.int .i64 0,.int .i64 4,.string ⟨#[]⟩,.bool false,.int .i64 0,.int .i64 0,.int .i64 0] 53));clear hal;go_upto_region 14 with (go_at_call 35;refine (HW.out _ _ HNW.out (HT8.out.of_below HAL.out)).mono ?_;rintro e w9 ⟨rfl,hb9⟩)
 have HT9:=ah.mk ((HT8.out.of_below HAL.out).of_below hb9);have HL:=Lib.hid (fun W hW=>iO.calls _ _ _ W hW Zx);go_upto_region 15 with (go_at_call 30;refine (HL.out _ HT9.out).mono ?_;rintro e Ij ⟨rfl,XK⟩)
 have hB9:Below w8.heap.size w8 Ij:=by
  have s1:=HAL.out.size;have s2:=hb9.size;exact HAL.out.trans ((hb9.mono (by omega)).trans (XK.mono (by omega)))
 have kS:=Kd.bS HS8.out hB9;obtain ⟨sa,es,s0⟩:=Kd.oD kS (0:Int) (by decide) (by decide);cases es
 obtain ⟨sa,es,s1⟩:=Kd.oD kS (1:Int) (by decide) (by decide);cases es
 rw [show (0:Int).toNat=0 from rfl,Addr.add_zero'] at s0;rw [show (1:Int).toNat=1 from rfl,add_lit _ _ (by decide)] at s1;have s0':Ij.cell? adS=some (.string ⟨#[66]⟩):=s0;have s1':Ij.cell? ⟨adS.block,adS.off+1,none⟩=some (.string ⟨#[]⟩):=s1;have Xl:=ah.mk (HB8.out.trans (hB9.mono HB8.out.size));clear s0 s1 hB9 hb9 XK kS;go_wp2_with (fail)
 refine bodyPost_ret (results_tmp rfl _ _ _) rfl ?_;exact ⟨rfl,Xl.out⟩
def dS.f:Option Bool:=some true
theorem dS.calls (r:Bool) (w:World) (hT:dR w) (h:dS.f=some r):Calls Tryz.prog 16 #[] w fun e w'=>e=.returned (.bool r)/\Below w.heap.size w w':=by
 obtain rfl:=Option.some.inj h;exact Qx w hT
end Go.Proofs.YtkkpjonfaflkmaaGreatDoor.T
