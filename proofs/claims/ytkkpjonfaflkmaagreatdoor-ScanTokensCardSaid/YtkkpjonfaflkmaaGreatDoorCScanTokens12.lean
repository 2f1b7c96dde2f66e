/- For ScanTokens: its callees return what is said of them. -/
import Derived.Test.YtkkpjonfaflkmaaGreatDoorCScanTokens11
namespace Go.Proofs.YtkkpjonfaflkmaaGreatDoor.S
set_option linter.unusedSimpArgs false
set_option linter.unusedVariables false
theorem uj {k c dl:Nat} {r:TR} (h:jF k r=.err c dl):r=.err c:=by
 cases r with
 | err c'=>cases h;rfl
 | ok t n=>cases h
theorem BL {v:List Int} {n c:Nat} (h:iR v n=.err c):c=30:=by
 unfold iR at h;by_cases hv:1000 < v.length
 ·rw [if_pos hv] at h;cases h;rfl
 ·rw [if_neg hv] at h;cases h
theorem Kl {xs:List Int} {c:Nat} (h:fZ xs=.err c):c≠0:=by
 rcases xs with _ | ⟨q,r⟩
 ·cases h;decide
 simp only [fZ] at h;cases hl:lit q r 1 [] with
 | none=>rw [hl] at h;cases h;decide
 | some p =>
  obtain ⟨v,i⟩:=p;rw [hl] at h;simp only at h;by_cases hp:v.all jP=true
  ·rw [if_pos hp] at h
   by_cases hs:sfx ((q::r).drop (i+1))=0
   ·rw [if_pos hs] at h
    rw [BL h];decide
   rw [if_neg hs] at h;cases hd:gT v (sfx ((q::r).drop (i+1))) with
   | none=>rw [hd] at h;cases h;decide
   | some u=>rw [hd] at h;rw [BL h];decide
  ·rw [if_neg hp] at h;cases h;decide
theorem Km {xs:List Int} {c:Nat} (h:jw xs=.err c):c≠0:=by
 unfold jw at h;by_cases h4:40 < gB xs
 ·rw [if_pos h4] at h;cases h;decide
 ·rw [if_neg h4] at h;cases h
theorem Hr {xs:List Int} {c:Nat} (h:iY xs=.err c):c≠0:=by
 unfold iY at h;cases hf:signs.find? (fun x=>x.isPrefixOf xs) with
 | none=>rw [hf] at h;cases h;decide
 | some l=>rw [hf] at h;cases h
theorem BM {xs:List Int} {c dl:Nat} (h:step xs=.err c dl):c≠0:=by
 rcases xs with _ | ⟨x,r⟩
 ·cases h
 simp only [step] at h;by_cases h1:x=10
 ·rw [if_pos h1] at h;cases h
 rw [if_neg h1] at h;by_cases h2:x=32
 ·rw [if_pos h2] at h;cases h
 rw [if_neg h2] at h;by_cases h3:gV (x::r)=true
 ·rw [if_pos h3] at h
  cases hR:lV (x::r) 0 0 1 0 with
  | eof=>rw [hR] at h;cases h;decide
  | done i l b =>
   rw [hR] at h;simp only [kT] at h;by_cases hb:b=0
   ·rw [if_pos hb] at h;cases h
   ·rw [if_neg hb] at h;cases h;decide
 rw [if_neg h3] at h;by_cases h4:x=39\/x=34
 ·rw [if_pos h4] at h;exact Kl (uj h)
 rw [if_neg h4] at h;by_cases h5:sym x=true
 ·rw [if_pos h5] at h;exact Km (uj h)
 rw [if_neg h5] at h;exact Hr (uj h)
theorem um:∀ (f:Nat) (xs:List Int) (i line:Nat) (cur:List Tk) (gap:Bool) (c ln:Nat),(go f xs i line cur gap).err=some (c,ln)->c≠0
 | 0,_,_,_,_,_,_,_,h=>by cases h
 | f+1,xs,i,line,cur,gap,c,ln,h=>by
  simp only [go] at h;cases hS:step xs with
  | fin=>rw [hS] at h;cases h
  | line =>
   rw [hS] at h;simp only at h;by_cases hc:comma cur=true
   ·rw [if_pos hc] at h;exact um f _ _ _ _ _ c ln h
   ·rw [if_neg hc] at h;exact um f _ _ _ _ _ c ln h
  | blank=>rw [hS] at h;exact um f _ _ _ _ _ c ln h
  | lV n dl=>rw [hS] at h;exact um f _ _ _ _ _ c ln h
  | tok k t n =>
   rw [hS] at h;simp only at h;by_cases h1:k=3/\t=[59]
   ·rw [if_pos h1] at h;exact um f _ _ _ _ _ c ln h
   rw [if_neg h1] at h;split at h
   ·exact um f _ _ _ _ _ c ln h
   ·exact um f _ _ _ _ _ c ln h
  | err c' dl =>
   rw [hS] at h;simp only [Option.some.injEq,Prod.mk.injEq] at h;rw [<- h.1];exact BM hS
theorem xH {xs:List Int} {c ln:Nat} (h:(scan xs).err=some (c,ln)):c≠0:=um _ _ _ _ _ _ c ln h
end Go.Proofs.YtkkpjonfaflkmaaGreatDoor.S
namespace Go.Proofs.YtkkpjonfaflkmaaGreatDoor.T
open Go.RowKit Go.Maps Go.Proofs.ah.aT Go.Proofs.ah.bn Go.Proofs.ah.bA
set_option linter.unusedSimpArgs false
set_option linter.unusedVariables false
theorem TT {W:World} {g:Nat} {cs:Array Value} {c:List S.Tk} (hg:W.heap[g]?=some (.cells cs 53 (0,0))) (ht:cs.toList.take (c.length*6)=dV c) (hl:c.length<=300000):Kd.C lD W (some ⟨g,0,none⟩) (c.map toS).length (c.map toS):=by
 refine ⟨rfl,by rw [List.length_map];omega,fun _=>⟨_,rfl,fun j p hj=>?_⟩⟩;rw [List.getElem?_map] at hj;cases hc:c[j]? with
 | none=>rw [hc] at hj;cases hj
 | some t =>
  rw [hc] at hj;simp only [Option.map_some,Option.some.injEq] at hj;subst hj;have hjl:j < c.length:=(List.getElem?_eq_some_iff.1 hc).1;refine ⟨Dj t,rfl,PL W (toS t),fun i u hu=>?_⟩;have hi:i < 6:=(List.getElem?_eq_some_iff.1 hu).1;have e1:(dV c)[j*6+i]?=some u:=by
   rw [<- EJ c j t hc,List.getElem?_take_of_lt hi,List.getElem?_drop] at hu;exact hu
  rw [<- ht,List.getElem?_take_of_lt (by omega)] at e1;show W.cell? ((⟨g,0,none⟩:Addr).add (j*6+i))=some u
  rw [add_plain,au hg];simpa using e1
theorem YL {G:Nat->Prop} {W:World} {base:Nat} {v:Value} {hs:List Value} {cls:List (List S.Tk)} (ho:W.ownsRow base 24 1 v hs.length hs) (h:Kk G W hs cls) (hG:∀ g,G g->base<=g/\v.ownBlock≠some g) :
  Kd.N (Kd.slice 53 lD) 24 W base (fun k=>base<=k) v (cls.map (List.map toS)):=by
 have hone:∀ (j:Nat) (u:Value),hs[j]?=some u->u.oneCell'=true:=fun j u hu=>by
  have hj:j < cls.length:=by rw [<- h.1];exact (List.getElem?_eq_some_iff.1 hu).1
  obtain ⟨g,cs,e1,_⟩:=h.2 j u _ hu (List.getElem?_eq_getElem hj);rw [e1];rfl
 refine ⟨fun k hk=>(ho.lt k hk).1,hs.map (fun u=>[u]),by rw [List.length_map,List.length_map,h.1],⟨fun k hk=>hk.symm,hs,by rw [List.length_map];exact ho,by rw [List.length_map];exact (Nat.mul_one _).symm,fun j p hj=>?_⟩,fun j x c hx hc=>?_⟩
 ·rw [List.getElem?_map] at hj
  cases hu:hs[j]? with
  | none=>rw [hu] at hj;cases hj
  | some u =>
   rw [hu] at hj;simp only [Option.map_some,Option.some.injEq] at hj;subst hj;have hjl:j < hs.length:=(List.getElem?_eq_some_iff.1 hu).1;have e:(hs.drop (j*1)).take 1=[u]:=by
    rw [Nat.mul_one,List.drop_eq_getElem_cons hjl];rw [List.getElem?_eq_getElem hjl] at hu;simp only [Option.some.injEq] at hu;simp [hu]
   show (hs.drop (j*1)).take 1=[u]/\((hs.drop (j*1)).take 1).length=1/\∀ u'∈(hs.drop (j*1)).take 1,u'.oneCell'=true
   exact ⟨e,by rw [e];rfl,fun u' hu'=>by rw [e] at hu';rw [List.mem_singleton.1 hu'];exact hone j u hu⟩
 ·rw [List.getElem?_map] at hc hx
  cases hu:hs[j]? with
  | none=>rw [hu] at hc;cases hc
  | some u =>
   cases hcl:cls[j]? with
   | none=>rw [hcl] at hx;cases hx
   | some cl =>
    rw [hu] at hc;rw [hcl] at hx;simp only [Option.map_some,Option.some.injEq] at hc hx;subst hc hx;obtain ⟨g,cs,e1,e2,e3,e4,e5⟩:=h.2 j u cl hu hcl;intro W' hW
    have hg':W'.heap[g]?=some (.cells cs 53 (0,0)):=(hW g ⟨(hG g e2).1,fun e=>(hG g e2).2 e.symm⟩ (Array.getElem?_eq_some_iff.1 e3).1).trans e3;exact ⟨_,_,by rw [e1,List.length_map],by rw [List.length_map];exact Nat.le_refl _,TT hg' e4 e5⟩
def dR.f (a0:ByteArray):Option (List (List gD) × Int × Int × Int) :=
 if a0.size<=20000 then
  (match (S.scan (bytesOf a0)).err with
  | none=>some ((S.scan (bytesOf a0)).cl.map fun c=>c.dropLast.map toS,0,0,0)
  | some p=>some ([],p.1,p.2,7))
 else some ([],0,0,3)
set_option maxRecDepth 100000 in
set_option maxHeartbeats 4000000 in
theorem dR.calls (a0:ByteArray) (r1:List (List gD)) (r2 r3 r4:Int) (w:World) (hT:eU w) (h:dR.f a0=some (r1,r2,r3,r4)) :
  Calls Tryz.prog 19 #[.string a0] w fun e w'=>∃ v0:Value,e=.returned (.tuple #[v0,.int .i64 r2,.int .i64 r3,.int .i64 r4])/\Kd.N (Kd.slice 53 lD) 24 w' w.heap.size (fun k=>w.heap.size<=k) v0 r1/\Below w.heap.size w w':=by
 unfold dR.f at h;by_cases hs:a0.size<=20000
 ·rw [if_pos hs] at h
  refine (BK.calls a0 w hs hT (fun c ln he=>S.xH he)).mono ?_;rintro e w' ⟨hb,hp⟩
  unfold EP at hp;cases he:(S.scan (bytesOf a0)).err with
  | none =>
   rw [he] at h hp;simp only [Option.some.injEq,Prod.mk.injEq] at h;obtain ⟨rfl,rfl,rfl,rfl⟩:=h;obtain ⟨v,hss,G,rfl,ho,hh,hG⟩:=hp;have:=YL ho hh hG;rw [List.map_map] at this;exact ⟨v,rfl,this,hb⟩
  | some p =>
   rw [he] at h hp;simp only [Option.some.injEq,Prod.mk.injEq] at h;obtain ⟨rfl,rfl,rfl,rfl⟩:=h;exact ⟨_,hp,Kd.tT _ _ _ _ _,hb⟩
 rw [if_neg hs] at h;simp only [Option.some.injEq,Prod.mk.injEq] at h;obtain ⟨rfl,rfl,rfl,rfl⟩:=h;have YK:=Lib.hid (iw.calls a0 3 w (by unfold iw.f;rw [if_pos (by omega)]));clear hT;refine (callsIn_wide (n:=8)).1 ?_;refine callsIn_of_wp_marks Tryz.func19 rfl trivial ?_ rfl;simp only [Tryz.ntmps19,List.size_toArray,List.length_cons,List.length_nil,Nat.reduceAdd,Nat.reduceSub,Array.replicate_succ,Array.replicate_zero,List.push_toArray,List.append_toArray,List.nil_append,List.cons_append];have hwf:∀ f,Fence.wide.fn f:=fun _=>trivial
 gi_wp2_with (gi_at_call 50;refine (callsIn_wide.2 YK.out).mono ?_;rintro e w' ⟨rfl,⟨⟨q,rfl⟩⟩⟩)
 refine ⟨_,kV rfl _ _ _,?_⟩;exact ⟨_,rfl,Kd.tT _ _ _ _ _,ak (Below.refl _ _) _⟩
end Go.Proofs.YtkkpjonfaflkmaaGreatDoor.T
namespace Go.Proofs.YtkkpjonfaflkmaaGreatDoor.T
open Go.RowKit Go.Proofs.ah.aT Go.Proofs.ah.bn Go.Proofs.ah.bA
set_option linter.unusedSimpArgs false
set_option linter.unusedVariables false
attribute [local go_sem] fB fC gI gJ eD eF fD fE   -- for this text's walks alone
def bJ.l0:Nat->List (nQ)->List (List (gD))->Int->Int->Option ((List (nQ)) × Int × Int × Int)
 | 0,_,_,_,_=>none
 | k+1,x10,x25,x26,x27=>if x27 < x26 then (if 0<=x27 then (if x27 < (x25.length:Int) then ((kN.f (bE x25 x27)).bind fun TU=>(if TU=true then (if 0 < ((bE x25 x27).length:Int) then (if x10.length < 5864062014805 then (bJ.l0 k (x10++[(⟨(aU (bE x25 x27) 0).f1,(aU (bE x25 x27) 0).f3⟩:nQ)]) x25 x26 (wrap64 (x27+1))) else (none)) else (none)) else (bJ.l0 k x10 x25 x26 (wrap64 (x27+1))))) else (none)) else (none)) else (some (x10,0,0,0))
def bJ.f (k:Nat) (a0:ByteArray):Option ((List (nQ)) × Int × Int × Int):=(dR.f a0).bind fun rO=>(if rO.2.2.2=0 then (bJ.l0 k ([]:List (nQ)) rO.1 (rO.1.length:Int) 0) else (some (([]:List (nQ)),rO.2.1,rO.2.2.1,rO.2.2.2)))
def bJ.T9:Bool × List (List Nat × List Nat):=(true,[([],[]),([],[]),([1],[1]),([2],[2]),([3],[3]),([],[]),([5],[5]),([6],[6]),([7],[7]),([4,8],[4,8]),([9],[9]),([0,10],[0,10]),([11,11,0,1,2,3,4,5,6,7,8,9,10,11],[0,11])])
def bJ.B9:List Nat:=[0,0,2,6,14,0,32,96,224,510,1022,2047,4095]
theorem bJ.aja:pz .any (opsOf Tryz.f20 9)=bJ.T9:=by kernel_rfl
theorem bJ.abv:rU bJ.T9.2 bJ.B9=true:=by kernel_rfl
set_option maxHeartbeats 8000000 in
set_option maxRecDepth 100000 in
theorem bJ.calls (k:Nat) (a0:ByteArray) (r1:List (nQ)) (r2:Int) (r3:Int) (r4:Int) (w:World) (hT:eU w) (h:bJ.f k a0=some (r1,r2,r3,r4)) :
  Calls Tryz.prog 20 #[.string a0] w fun e w'=>∃ QB:Value,e=.returned (.tuple #[QB,.int .i64 r2,.int .i64 r3,.int .i64 r4])/\Kd.R LK 73 w' w.heap.size (fun _=>True) QB r1/\Below w.heap.size w w':=by
 have abw:=Tryz.underlying73;have HB:=aj.mk (Below.refl w.heap.size w);have H:((dR.f a0).bind fun rO=>(if rO.2.2.2=0 then (bJ.l0 k ([]:List (nQ)) rO.1 (rO.1.length:Int) 0) else (some (([]:List (nQ)),rO.2.1,rO.2.2.1,rO.2.2.2))))=some (r1,r2,r3,r4):=h;clear h;replace H:=Option.bind_eq_some_iff.mp H;obtain ⟨⟨t105,YM,t107,ER⟩,CX,H⟩:=H;replace H:(if ER=0 then (bJ.l0 k ([]:List (nQ)) t105 (t105.length:Int) 0) else (some (([]:List (nQ)),YM,t107,ER)))=some (r1,r2,r3,r4):=H;have A2:=aj.mk CX;clear CX;by_cases c3:ER=0
 rotate_left
 ·rw [if_neg c3] at H
  have nU:(ER==0)=false:=beq_eq_false_iff_ne.mpr c3;have xq:(ER != 0)=true:=bne_iff_ne.mpr c3;simp only [Option.some.injEq,Prod.mk.injEq] at H;obtain ⟨rfl,rfl,rfl,rfl⟩:=H;go_enter Tryz.func20,Tryz.ntmps20
  go_wp2_with (first | ((with_reducible refine bg (f:=19) rfl ?_);refine cO (some 15) rfl rfl Tryz.func19 (by kernel_rfl) rfl #[.string a0] rfl (by (try simp only [List.map_toArray,List.map_cons,List.map_nil]);first | done | rfl | (simp only [List.length_drop,List.length_take];rfl)) ?_;(with_reducible refine (dR.calls a0 t105 YM t107 ER _ (eU.of_below hT (by repeat (first | (with_reducible first | exact HB.out | apply ay | apply ak | apply aD) | exact HB.out))) A2.out).mono ?_);rintro e w15 ⟨v109,rfl,ho0,hb⟩;refine ⟨_,rfl,?_⟩;have dW:=aj.mk (Kd.Ai (Kd.oF (ok':=fun k_=>True) ho0 (fun k_ TV=>trivial)) (bR (by repeat (first | (with_reducible first | exact HB.out | apply ay | apply ak | apply aD) | exact HB.out))));have fF:=aj.mk (bH (by repeat (first | (with_reducible first | exact HB.out | apply ay | apply ak | apply aD) | exact HB.out)) hb);clear HB;have QC:=dW;have HB:=fF;clear dW fF;(try clear hb);(try clear hb2);(try clear hk);(try clear hi);(try clear ho0)))
  refine bodyPost_ret (wU (rs:=[.tmp 2,.tmp 3,.tmp 4,.tmp 5]) rfl (by simp) (.tmp (.tmp (.tmp (.tmp .nil))))) rfl ?_;exact ⟨_,by first | rfl | (simp [aV,aW]<;>rfl) | (simp [*,aV,aW]<;>rfl),by first | exact Kd.rD _ _ _ _ _ | exact Kd.tT _ _ _ _ _ | exact Kd.xk _ _ _ _ _ | exact Kd.wS _ _ _ _ _ | exact Kd.wX _ _ _ _ _,by repeat (first | (with_reducible first | exact HB.out | apply ay | apply ak | apply aD) | exact HB.out)⟩
 rw [if_pos c3] at H;have nU:(ER==0)=true:=beq_iff_eq.mpr c3;have xq:(ER != 0)=false:=bne_eq_false_iff_eq.mpr c3;clear c3;have H':=aj.mk H;clear H;go_enter Tryz.func20,Tryz.ntmps20
 go_wp2_with (first | ((with_reducible refine bg (f:=19) rfl ?_);refine cO (some 15) rfl rfl Tryz.func19 (by kernel_rfl) rfl #[.string a0] rfl (by (try simp only [List.map_toArray,List.map_cons,List.map_nil]);first | done | rfl | (simp only [List.length_drop,List.length_take];rfl)) ?_;(with_reducible refine (dR.calls a0 t105 YM t107 ER _ (eU.of_below hT (by repeat (first | (with_reducible first | exact HB.out | apply ay | apply ak | apply aD) | exact HB.out))) A2.out).mono ?_);rintro e w4 ⟨v109,rfl,ho0,hb⟩;refine ⟨_,rfl,?_⟩;have dW:=aj.mk (Kd.Ai (Kd.oF (ok':=fun k_=>True) ho0 (fun k_ TV=>trivial)) (bR (by repeat (first | (with_reducible first | exact HB.out | apply ay | apply ak | apply aD) | exact HB.out))));have fF:=aj.mk (bH (by repeat (first | (with_reducible first | exact HB.out | apply ay | apply ak | apply aD) | exact HB.out)) hb);clear HB;have QC:=dW;have HB:=fF;clear dW fF;(try clear hb);(try clear hb2);(try clear hk);(try clear hi);(try clear ho0);obtain ⟨Ao5,co5,eo5⟩:=Kd.rW QC.out;subst eo5))
 go_loopg [10,27] k (fun kq v10 v27 w'=>∃ (aN:List (nQ)) (dQ:Int),v27=.int .i64 dQ/\aj (bJ.l0 kq aN t105 (t105.length:Int) dQ=some (r1,r2,r3,r4))/\aj (kq<=k)/\aj (Kd.R LK 73 w' w.heap.size (fun _=>True) v10 aN)/\aj (Kd.N (Kd.slice 53 lD) 24 w' w.heap.size (fun k_=>some k_≠(v10:Value).ownBlock) (.slice Ao5 t105.length co5) t105)/\aj (Below w.heap.size w w'))
 case atStart=>exact ⟨(([]:List (nQ))),(0),(by first | rfl | (simp;done) | (simp [*];done)),H',⟨Nat.le_refl _⟩,⟨by first | exact Kd.rD _ _ _ _ _ | exact Kd.tT _ _ _ _ _ | exact Kd.xk _ _ _ _ _ | exact Kd.wS _ _ _ _ _ | exact Kd.wX _ _ _ _ _⟩,⟨by (with_reducible repeat (first | apply Kd.gG | apply Kd.gH | apply Kd.iQ));exact Kd.oF QC.out (fun _ hk=>(by simp [Value.ownBlock]))⟩,⟨by repeat (first | (with_reducible first | exact HB.out | apply ay | apply ak | apply aD) | exact HB.out)⟩⟩
 case round =>
  clear H';obtain ⟨aN,dQ,rfl,HA,jQ,uo,nE,HB⟩:=hrel;cases gk with
  | zero=>exact absurd HA.out (by simp [bJ.l0])
  | succ k1 =>
   have H:=HA.out;clear HA;simp only [bJ.l0] at H;by_cases c6:dQ < (t105.length:Int)
   rotate_left
   ·rw [if_neg c6] at H
    have kP:decide (dQ < (t105.length:Int))=false:=decide_eq_false c6;clear c6;simp only [Option.some.injEq,Prod.mk.injEq] at H;obtain ⟨rfl,rfl,rfl,rfl⟩:=H;go_wp2;refine bodyPost_ret (wU (rs:=[.tmp 2,.tmp 3,.tmp 4,.tmp 5]) rfl (by simp) (.tmp (.tmp (.tmp (.tmp .nil))))) rfl ?_;exact ⟨_,by first | rfl | (simp [aV,aW]<;>rfl) | (simp [*,aV,aW]<;>rfl),by (with_reducible repeat (first | apply Kd.bW | apply Kd.bV | apply Kd.dw));exact uo.out,by repeat (first | (with_reducible first | exact HB.out | apply ay | apply ak | apply aD) | exact HB.out)⟩
   rw [if_pos c6] at H;have kP:decide (dQ < (t105.length:Int))=true:=decide_eq_true c6;clear c6;by_cases c7:0<=dQ
   rotate_left
   ·rw [if_neg c7] at H
    exact absurd H (by simp)
   rw [if_pos c7] at H;have sI:decide (0<=dQ)=true:=decide_eq_true c7;clear c7;by_cases c8:dQ < (t105.length:Int)
   rotate_left
   ·rw [if_neg c8] at H
    exact absurd H (by simp)
   rw [if_pos c8] at H;have yO:decide (dQ < (t105.length:Int))=true:=decide_eq_true c8;clear c8;replace H:=Option.bind_eq_some_iff.mp H;obtain ⟨TU,Qb,H⟩:=H;replace H:(if TU=true then (if 0 < ((bE t105 dQ).length:Int) then (if aN.length < 5864062014805 then (bJ.l0 k1 (aN++[(⟨(aU (bE t105 dQ) 0).f1,(aU (bE t105 dQ) 0).f3⟩:nQ)]) t105 (t105.length:Int) (wrap64 (dQ+1))) else (none)) else (none)) else (bJ.l0 k1 aN t105 (t105.length:Int) (wrap64 (dQ+1))))=some (r1,r2,r3,r4):=H;have A9:=aj.mk Qb;clear Qb;by_cases c10:TU=true
   rotate_left
   ·replace c10:=Bool.eq_false_iff.mpr c10
    subst c10;rw [if_neg (show ¬ (false=true) by decide)] at H;have H':=aj.mk H;clear H;have ES:0<=(dQ:Int):=of_decide_eq_true (by first | (with_reducible assumption) | assumption);have ET:dQ < (t105.length:Int):=of_decide_eq_true (by first | (with_reducible assumption) | assumption);obtain ⟨Mf,BN,EU,YN,EW,xI,xJ⟩:=lX (Kd.lJ nE.out).2.2 dQ ES ET;cases YN
    obtain ⟨abx,Kn,Ko,BO⟩:=Kd.LJ nE.out [] dQ ES (by first | exact ET | exact of_decide_eq_true (by first | (with_reducible assumption) | assumption) | (have e_:=(Kd.lJ nE.out).1;omega));obtain ⟨TW,TY,rfl,sM,sN⟩:=Kd.nP Ko;have oO:=BO 0 _ rfl;rw [Nat.add_zero,show ((Kd.slice 53 lD)).sz=1 from rfl,Nat.mul_one] at oO;replace oO:=Option.some.inj (oO.symm.trans EW);injection oO with BP Kq BQ
    rw [BP] at sN;rw [BQ] at sM;have mM:=aj.mk (show Kd.V lD 53 _ w.heap.size _ _ (bE t105 dQ) from Kd.PD sM sN);clear BP Kq BQ sN sM;clear BO Kn;have jo:=aj.mk xJ;have EX:=aj.mk xI;clear xJ xI;replace ES:=eq_true ES;replace ET:=eq_true ET;go_wp2_with (first | ((with_reducible refine bg (f:=54) rfl ?_);refine cO (some 32) rfl rfl Tryz.func54 (by kernel_rfl) rfl #[.slice BN (bE t105 dQ).length EU] rfl (by (try simp only [List.map_toArray,List.map_cons,List.map_nil]);first | done | rfl | (simp only [List.length_drop,List.length_take];rfl)) ?_;(with_reducible refine (kN.calls _ _ (bE t105 dQ) false _ ?om ?pK A9.out).mono ?_);(case om=>repeat (first | exact (by repeat (first | (with_reducible exact jo.out) | (with_reducible refine Kd.gy ?_ _) | (with_reducible refine Kd.gF ?_ _) | (with_reducible refine Kd.iP ?_) | exact jo.out)) | (with_reducible refine Kd.gy ?_ _) | (with_reducible refine Kd.gF ?_ _) | (with_reducible refine Kd.iP ?_)));(case pK=>exact EX.out);rintro e w' ⟨rfl,⟨nd,rfl⟩⟩;refine ⟨_,rfl,?_⟩))
    go_roundg k1
    case measure=>have:=jQ.out;omega
    case rel=>exact ⟨(aN),(wrap64 (dQ+1)),(by first | rfl | (simp;done) | (simp [*];done)),H',⟨by have:=jQ.out;omega⟩,⟨by (with_reducible repeat (first | apply Kd.bW | apply Kd.bV | apply Kd.dw));exact uo.out⟩,⟨by (with_reducible repeat (first | apply Kd.gG | apply Kd.gH | apply Kd.iQ));exact nE.out⟩,⟨by repeat (first | (with_reducible first | exact HB.out | apply ay | apply ak | apply aD) | exact HB.out)⟩⟩
   subst c10;rw [if_pos rfl] at H;by_cases c11:0 < ((bE t105 dQ).length:Int)
   rotate_left
   ·rw [if_neg c11] at H
    exact absurd H (by simp)
   rw [if_pos c11] at H;have Bt:decide (0 < ((bE t105 dQ).length:Int))=true:=decide_eq_true c11;have Xd:decide (0 < (bE t105 dQ).length)=true:=decide_eq_true (by omega);clear c11;by_cases c12:aN.length < 5864062014805
   rotate_left
   ·rw [if_neg c12] at H
    exact absurd H (by simp)
   rw [if_pos c12] at H;have aby:=aj.mk c12;clear c12;obtain ⟨y115,hy115⟩:∃ y_:List (nQ),y_=(aN++[(⟨(aU (bE t105 dQ) 0).f1,(aU (bE t105 dQ) 0).f3⟩:nQ)]):=⟨_,rfl⟩;replace H:(bJ.l0 k1 y115 t105 (t105.length:Int) (wrap64 (dQ+1)))=some (r1,r2,r3,r4):=by first | (rw [hy115];with_reducible exact H) | (have wC:=(Option.bind_some _ _).symm.trans H;rw [hy115];with_reducible exact wC) | (have wC:=(Option.bind_some _ _).symm.trans H;with_reducible exact wC) | with_reducible exact H | (rw [hy115];exact H) | exact H
   have abz:=aj.mk hy115;clear hy115;have H':=aj.mk H;clear H;have ES:0<=(dQ:Int):=of_decide_eq_true (by first | (with_reducible assumption) | assumption);have ET:dQ < (t105.length:Int):=of_decide_eq_true (by first | (with_reducible assumption) | assumption);obtain ⟨Mf,BN,EU,YN,EW,xI,xJ⟩:=lX (Kd.lJ nE.out).2.2 dQ ES ET;cases YN
   obtain ⟨abx,Kn,Ko,BO⟩:=Kd.LJ nE.out [] dQ ES (by first | exact ET | exact of_decide_eq_true (by first | (with_reducible assumption) | assumption) | (have e_:=(Kd.lJ nE.out).1;omega));obtain ⟨TW,TY,rfl,sM,sN⟩:=Kd.nP Ko;have oO:=BO 0 _ rfl;rw [Nat.add_zero,show ((Kd.slice 53 lD)).sz=1 from rfl,Nat.mul_one] at oO;replace oO:=Option.some.inj (oO.symm.trans EW);injection oO with BP Kq BQ
   rw [BP] at sN;rw [BQ] at sM;have mM:=aj.mk (show Kd.V lD 53 _ w.heap.size _ _ (bE t105 dQ) from Kd.PD sM sN);clear BP Kq BQ sN sM;clear BO Kn;have jo:=aj.mk xJ;have EX:=aj.mk xI;clear xJ xI;replace ES:=eq_true ES;replace ET:=eq_true ET;try go_wp2_with (first | ((with_reducible refine bg (f:=54) rfl ?_);refine cO (some 32) rfl rfl Tryz.func54 (by kernel_rfl) rfl #[.slice BN (bE t105 dQ).length EU] rfl (by (try simp only [List.map_toArray,List.map_cons,List.map_nil]);first | done | rfl | (simp only [List.length_drop,List.length_take];rfl)) ?_;(with_reducible refine (kN.calls _ _ (bE t105 dQ) true _ ?om ?pK A9.out).mono ?_);(case om=>repeat (first | exact (by repeat (first | (with_reducible exact jo.out) | (with_reducible refine Kd.gy ?_ _) | (with_reducible refine Kd.gF ?_ _) | (with_reducible refine Kd.iP ?_) | exact jo.out)) | (with_reducible refine Kd.gy ?_ _) | (with_reducible refine Kd.gF ?_ _) | (with_reducible refine Kd.iP ?_)));(case pK=>exact EX.out);rintro e w' ⟨rfl,⟨nd,rfl⟩⟩;refine ⟨_,rfl,?_⟩))
   (try (rw [nH wr];generalize yI:World.drewN wr _=wr;have dW:aj (Kd.V lD 53 wr w.heap.size (fun k_=>some k_≠(u10:Value).ownBlock/\some k_≠(.slice (some Mf) t105.length co5:Value).ownBlock) (.slice BN (bE t105 dQ).length EU) (bE t105 dQ)):=⟨by rw [<- yI];exact (by (with_reducible repeat (first | apply Kd.rX | apply Kd.rY | apply Kd.tV));exact mM.out)⟩;have fF:aj (Kd.R LK 73 wr w.heap.size (fun _=>True) u10 aN):=⟨by rw [<- yI];exact (by (with_reducible repeat (first | apply Kd.bW | apply Kd.bV | apply Kd.dw));exact uo.out)⟩;have jJ:aj (Kd.N (Kd.slice 53 lD) 24 wr w.heap.size (fun k_=>some k_≠(u10:Value).ownBlock) (.slice (some Mf) t105.length co5) t105):=⟨by rw [<- yI];exact (by (with_reducible repeat (first | apply Kd.gG | apply Kd.gH | apply Kd.iQ));exact nE.out)⟩;have lZ:aj (Below w.heap.size w wr):=⟨by rw [<- yI];exact (by repeat (first | (with_reducible first | exact HB.out | apply ay | apply ak | apply aD) | exact HB.out))⟩;have vS:aj (Kd.C lD wr BN (bE t105 dQ).length (bE t105 dQ)):=⟨by rw [<- yI];exact (by repeat (first | (with_reducible exact jo.out) | (with_reducible refine Kd.gy ?_ _) | (with_reducible refine Kd.gF ?_ _) | (with_reducible refine Kd.iP ?_) | exact jo.out))⟩;clear mM uo nE HB jo yI;have mM:=dW;have uo:=fF;have nE:=jJ;have HB:=lZ;have jo:=vS;clear dW fF jJ lZ vS))
   have dW:=aj.mk (Kd.dw uo.out);have fF:=aj.mk (Kd.iQ nE.out);have jJ:=aj.mk (Kd.tV mM.out);have lZ:=aj.mk (Kd.iP jo.out);have vS:=aj.mk (aD HB.out);clear uo;clear nE;clear mM;clear jo;clear HB;have uo:=dW;have nE:=fF;have mM:=jJ;have jo:=lZ;have HB:=vS;clear dW fF jJ lZ vS;have YP:0<=(0:Int):=(by omega);have YQ:0 < ((bE t105 dQ).length:Int):=of_decide_eq_true (by first | (with_reducible assumption) | assumption);obtain ⟨kR,ajb,xK,xL,xM,xO,xP,xQ⟩:=eY (by repeat (first | (with_reducible exact jo.out) | (with_reducible refine Kd.gy ?_ _) | (with_reducible refine Kd.gF ?_ _) | (with_reducible refine Kd.iP ?_) | exact jo.out)) 0 YP YQ;cases ajb
   have akz:(0 < (bE t105 dQ).length)=True:=eq_true (by omega)
   (try rw [show ((0:Int)).toNat=0 from rfl] at xK)
   (try rw [show 0*6=0 from rfl] at xK)
   (try rw [Addr.add_zero'] at xK)
   (try rw [show ((0:Int)).toNat=0 from rfl] at xL)
   (try rw [show 0*6=0 from rfl] at xL)
   (try rw [Addr.add_zero'] at xL)
   (try rw [show ((0:Int)).toNat=0 from rfl] at xM)
   (try rw [show 0*6=0 from rfl] at xM)
   (try rw [Addr.add_zero'] at xM)
   (try rw [show ((0:Int)).toNat=0 from rfl] at xO)
   (try rw [show 0*6=0 from rfl] at xO)
   (try rw [Addr.add_zero'] at xO)
   (try rw [show ((0:Int)).toNat=0 from rfl] at xP)
   (try rw [show 0*6=0 from rfl] at xP)
   (try rw [Addr.add_zero'] at xP)
   (try rw [show ((0:Int)).toNat=0 from rfl] at xQ)
   (try rw [show 0*6=0 from rfl] at xQ)
   (try rw [Addr.add_zero'] at xQ)
   replace YP:=eq_true YP;replace YQ:=eq_true YQ;have YR:0<=(0:Int):=(by omega);have YS:0 < ((bE t105 dQ).length:Int):=of_decide_eq_true (by first | (with_reducible assumption) | assumption);obtain ⟨abA,ajc,xR,xS,xU,xV,xW,xX⟩:=eY (by repeat (first | (with_reducible exact jo.out) | (with_reducible refine Kd.gy ?_ _) | (with_reducible refine Kd.gF ?_ _) | (with_reducible refine Kd.iP ?_) | exact jo.out)) 0 YR YS;obtain rfl:kR=abA:=(by injection ajc);have akA:(0 < (bE t105 dQ).length)=True:=eq_true (by omega)
   (try rw [show ((0:Int)).toNat=0 from rfl] at xR)
   (try rw [show 0*6=0 from rfl] at xR)
   (try rw [Addr.add_zero'] at xR)
   (try rw [show ((0:Int)).toNat=0 from rfl] at xS)
   (try rw [show 0*6=0 from rfl] at xS)
   (try rw [Addr.add_zero'] at xS)
   (try rw [show ((0:Int)).toNat=0 from rfl] at xU)
   (try rw [show 0*6=0 from rfl] at xU)
   (try rw [Addr.add_zero'] at xU)
   (try rw [show ((0:Int)).toNat=0 from rfl] at xV)
   (try rw [show 0*6=0 from rfl] at xV)
   (try rw [Addr.add_zero'] at xV)
   (try rw [show ((0:Int)).toNat=0 from rfl] at xW)
   (try rw [show 0*6=0 from rfl] at xW)
   (try rw [Addr.add_zero'] at xW)
   (try rw [show ((0:Int)).toNat=0 from rfl] at xX)
   (try rw [show 0*6=0 from rfl] at xX)
   (try rw [Addr.add_zero'] at xX)
   replace YR:=eq_true YR;replace YS:=eq_true YS;refine JF (n:=13) (S:=fun w'=>w'.cell? kR=some (.int .i64 ((aU (bE t105 dQ) 0).f0))/\w'.cell? ⟨kR.block,kR.off+1,none⟩=some (.string ((aU (bE t105 dQ) 0).f1))/\w'.cell? ⟨kR.block,kR.off+2,none⟩=some (.bool ((aU (bE t105 dQ) 0).f2))/\w'.cell? ⟨kR.block,kR.off+3,none⟩=some (.int .i64 ((aU (bE t105 dQ) 0).f3))/\w'.cell? ⟨kR.block,kR.off+4,none⟩=some (.int .i64 ((aU (bE t105 dQ) 0).f4))/\w'.cell? ⟨kR.block,kR.off+5,none⟩=some (.int .i64 ((aU (bE t105 dQ) 0).f5))/\w'.cell? kR=some (.int .i64 ((aU (bE t105 dQ) 0).f0))/\w'.cell? ⟨kR.block,kR.off+1,none⟩=some (.string ((aU (bE t105 dQ) 0).f1))/\w'.cell? ⟨kR.block,kR.off+2,none⟩=some (.bool ((aU (bE t105 dQ) 0).f2))/\w'.cell? ⟨kR.block,kR.off+3,none⟩=some (.int .i64 ((aU (bE t105 dQ) 0).f3))/\w'.cell? ⟨kR.block,kR.off+4,none⟩=some (.int .i64 ((aU (bE t105 dQ) 0).f4))/\w'.cell? ⟨kR.block,kR.off+5,none⟩=some (.int .i64 ((aU (bE t105 dQ) 0).f5))) (ds:=[10,11]) #[false,false,false,false,false,false,false,false,false,false,false,false,false] (by kernel_rfl) rfl rfl ⟨xK,xL,xM,xO,xP,xQ,xR,xS,xU,xV,xW,xX⟩ (fun hHeld=>?_);refine yN bJ.aja bJ.abv (fun oK Sz=>?_);generalize wr.drew=WT at uo nE mM jo HB xK xL xM xO xP xQ xR xS xU xV xW xX hHeld |-
   refine je (i:=0) (N:=some 33) (v:=?_) (a':=?_) #[true,false,false,false,false,false,false,false,false,false,false,false,false] rfl rfl (fV oK.out (by kernel_rfl)) (fun _ _ _ h=>h) (Or.inl ⟨by rfl,?_⟩) ?_ ?_;rotate_left
   ·intro w'
    go_simp;with_reducible rfl
   rotate_left
   ·simp only [Act.put,List.setIfInBounds_toArray,List.set_cons_zero,List.set_cons_succ,dx,dK]
    rfl
   refine je (i:=1) (N:=some 34) (v:=?_) (a':=?_) #[true,true,false,false,false,false,false,false,false,false,false,false,false] rfl rfl (fV oK.out (by kernel_rfl)) (fun _ _ _ h=>h) (Or.inl ⟨by rfl,?_⟩) ?_ ?_;rotate_left
   ·intro w'
    go_simp;with_reducible rfl
   rotate_left
   ·simp only [Act.put,List.setIfInBounds_toArray,List.set_cons_zero,List.set_cons_succ,dx,dK]
    rfl
   refine je (i:=2) (N:=some 35) (v:=?_) (a':=?_) #[true,true,true,false,false,false,false,false,false,false,false,false,false] rfl rfl (fV oK.out (by kernel_rfl)) (fun _ _ _ h=>h) (Or.inl ⟨by rfl,?_⟩) ?_ ?_;rotate_left
   ·intro w'
    go_simp;with_reducible rfl
   rotate_left
   ·simp only [Act.put,List.setIfInBounds_toArray,List.set_cons_zero,List.set_cons_succ,dx,dK]
    rfl
   refine je (i:=3) (N:=some 36) (v:=?_) (a':=?_) #[true,true,true,true,false,false,false,false,false,false,false,false,false] rfl rfl (fV oK.out (by kernel_rfl)) (fun _ _ _ h=>h) (Or.inl ⟨by rfl,?_⟩) ?_ ?_;rotate_left
   ·intro w'
    go_simp;with_reducible rfl
   rotate_left
   ·simp only [Act.put,List.setIfInBounds_toArray,List.set_cons_zero,List.set_cons_succ,dx,dK]
    rfl
   refine je (i:=5) (N:=some 38) (v:=?_) (a':=?_) #[true,true,true,true,false,true,false,false,false,false,false,false,false] rfl rfl (fV oK.out (by kernel_rfl)) (fun _ _ _ h=>h) (Or.inl ⟨by rfl,?_⟩) ?_ ?_;rotate_left
   ·intro w'
    go_simp;with_reducible rfl
   rotate_left
   ·simp only [Act.put,List.setIfInBounds_toArray,List.set_cons_zero,List.set_cons_succ,dx,dK]
    rfl
   refine je (i:=6) (N:=some 39) (v:=?_) (a':=?_) #[true,true,true,true,false,true,true,false,false,false,false,false,false] rfl rfl (fV oK.out (by kernel_rfl)) (fun _ _ _ h=>h) (Or.inl ⟨by rfl,?_⟩) ?_ ?_;rotate_left
   ·intro w'
    go_simp;with_reducible rfl
   rotate_left
   ·simp only [Act.put,List.setIfInBounds_toArray,List.set_cons_zero,List.set_cons_succ,dx,dK]
    rfl
   refine je (i:=7) (N:=some 40) (v:=?_) (a':=?_) #[true,true,true,true,false,true,true,true,false,false,false,false,false] rfl rfl (fV oK.out (by kernel_rfl)) (fun _ _ _ h=>h) (Or.inl ⟨by rfl,?_⟩) ?_ ?_;rotate_left
   ·intro w'
    go_simp;with_reducible rfl
   rotate_left
   ·simp only [Act.put,List.setIfInBounds_toArray,List.set_cons_zero,List.set_cons_succ,dx,dK]
    rfl
   refine vK (i:=4) (N:=some 37) (v:=?_) (a':=?_) #[true,true,true,true,true,true,true,true,false,false,false,false,false] rfl rfl (nT oK.out Sz.out (by kernel_rfl)) (fun _ _ _ h=>h) (Or.inl ⟨by rfl,?_⟩) hHeld ?_ ?_;rotate_left
   ·rintro w' ⟨s0,s1,s2,s3,s4,s5,s6,s7,s8,s9,s10,s11⟩
    go_simp;with_reducible rfl
   rotate_left
   ·simp only [Act.put,List.setIfInBounds_toArray,List.set_cons_zero,List.set_cons_succ,dx,dK]
    rfl
   refine vK (i:=8) (N:=some 41) (v:=?_) (a':=?_) #[true,true,true,true,true,true,true,true,true,false,false,false,false] rfl rfl (nT oK.out Sz.out (by kernel_rfl)) (fun _ _ _ h=>h) (Or.inl ⟨by rfl,?_⟩) hHeld ?_ ?_;rotate_left
   ·rintro w' ⟨s0,s1,s2,s3,s4,s5,s6,s7,s8,s9,s10,s11⟩
    go_simp;with_reducible rfl
   rotate_left
   ·simp only [Act.put,List.setIfInBounds_toArray,List.set_cons_zero,List.set_cons_succ,dx,dK]
    rfl
   refine je (i:=9) (N:=some 42) (v:=?_) (a':=?_) #[true,true,true,true,true,true,true,true,true,true,false,false,false] rfl rfl (fV oK.out (by kernel_rfl)) (fun _ _ _ h=>h) (Or.inl ⟨by rfl,?_⟩) ?_ ?_;rotate_left
   ·intro w'
    go_simp;with_reducible rfl
   rotate_left
   ·simp only [Act.put,List.setIfInBounds_toArray,List.set_cons_zero,List.set_cons_succ,dx,dK]
    rfl
   refine WL (i:=10) (N:=some 43) #[true,true,true,true,true,true,true,true,true,true,true,false,false] rfl rfl (Ba oK.out (by kernel_rfl)) (by decide) (fun K hK=>?_);refine Pq (w1:=?_) (v:=?_) (by rfl) rfl ?_ ?_;rotate_left 2
   ·go_simp
    constructor
    ·rfl
    ·rfl
   refine hK.out _ _ ?_;clear hK K;refine LB (a':=?_) ?_ ?_;rotate_left
   ·show Act.put _ (some 43) _=_
    simp only [Act.put,List.setIfInBounds_toArray,List.set_cons_zero,List.set_cons_succ,dx,dK];rfl
   refine WL (i:=11) (N:=some 44) #[true,true,true,true,true,true,true,true,true,true,true,true,false] rfl rfl (Ba oK.out (by kernel_rfl)) (by decide) (fun K hK=>?_);refine Kd.vL LK (w0:=w) w.heap.size (by rfl) (.tmp 33) (.tmp 43) 34 73 (.agg #[(.string ⟨#[]⟩),(.int .i64 0)]) 24 rfl Tryz.underlying34 PI rfl (by decide) (by omega) u10 aN (⟨(aU (bE t105 dQ) 0).f1,(aU (bE t105 dQ) 0).f3⟩:nQ) [.string ((aU (bE t105 dQ) 0).f1),.int .i64 ((aU (bE t105 dQ) 0).f3)] (fun _=>True) (fun _=>False) rfl rfl ?aP (fun _ hk=>hk.elim) ?aF ?aO ?aB ?aS ?aL ?_
   (case aP=>exact LM _ _ _ (⟨(aU (bE t105 dQ) 0).f1,(aU (bE t105 dQ) 0).f3⟩:nQ))
   (case aB=>exact (by repeat (first | (with_reducible first | exact HB.out | apply ay | apply ak | apply aD) | exact HB.out)))
   (case aF=>exact (fun _ _=>trivial))
   (case aO=>exact (by (with_reducible repeat (first | apply Kd.bW | apply Kd.bV | apply Kd.dw));exact uo.out))
   (case aS=>exact (bR (by repeat (first | (with_reducible first | exact HB.out | apply ay | apply ak | apply aD) | exact HB.out))))
   (case aL=>have:=aby.out;omega)
   intro alS w14 ho hb hg hat
   rw [<- abz.out] at ho;have dW:=aj.mk (Kd.PG (ok:=(fun _=>True)) (by (with_reducible repeat (first | apply Kd.gG | apply Kd.gH | apply Kd.iQ));exact Kd.oF nE.out (fun _ hk=>⟨trivial,hk⟩)) hg hat);have fF:=aj.mk (Kd.Bd (ok:=(fun k_=>some k_≠(.slice (some Mf) t105.length co5:Value).ownBlock)) (by (with_reducible repeat (first | apply Kd.rX | apply Kd.rY | apply Kd.tV));exact Kd.Bc mM.out (fun _ hk=>⟨hk.2,hk.1⟩)) hg hat);have jJ:=aj.mk (hb);have lZ:=aj.mk (ho);clear nE;clear mM;clear HB;clear uo;have nE:=dW;have mM:=fF;have HB:=jJ;have abB:=lZ;clear dW fF jJ lZ;clear ho hb hg hat;refine hK.out _ _ ?_;clear hK K;refine LB (a':=?_) ?_ ?_;rotate_left
   ·show Act.put _ (some 44) _=_
    simp only [Act.put,List.setIfInBounds_toArray,List.set_cons_zero,List.set_cons_succ,dx,dK];rfl
   refine je (i:=12) (N:=some 10) (v:=?_) (a':=?_) #[true,true,true,true,true,true,true,true,true,true,true,true,true] rfl rfl (fV oK.out (by kernel_rfl)) (fun _ _ _ h=>h) (Or.inl ⟨by rfl,?_⟩) ?_ ?_;rotate_left
   ·intro w'
    go_simp;with_reducible rfl
   rotate_left
   ·simp only [Act.put,List.setIfInBounds_toArray,List.set_cons_zero,List.set_cons_succ,dx,dK]
    rfl
   refine Pp (Ep oK.out (by kernel_rfl)) ?_;try go_wp2
   go_roundg k1
   case measure=>have:=jQ.out;omega
   case rel=>exact ⟨(y115),(wrap64 (dQ+1)),(by first | rfl | (simp;done) | (simp [*];done)),H',⟨by have:=jQ.out;omega⟩,⟨by (with_reducible repeat (first | apply Kd.bW | apply Kd.bV | apply Kd.dw));exact abB.out⟩,⟨by (with_reducible repeat (first | apply Kd.gG | apply Kd.gH | apply Kd.iQ));exact Kd.oF nE.out (fun _ hk=>hk.2)⟩,⟨by repeat (first | (with_reducible first | exact HB.out | apply ay | apply ak | apply aD) | exact HB.out)⟩⟩
theorem abC (d:Nat) (w:World) (x0 y0:Int) (x1 y1:ByteArray) (x2 y2:Bool) (x3 y3:Int) (x4 y4:Int) (x5 y5:Int) :
  (Op.equalIn (d+2) 53 (.agg #[.int .i64 x0,.string x1,.bool x2,.int .i64 x3,.int .i64 x4,.int .i64 x5]) (.agg #[.int .i64 y0,.string y1,.bool y2,.int .i64 y3,.int .i64 y4,.int .i64 y5])).run Tryz.prog w=.ok (x0==y0&&(x1.toList==y1.toList&&(x2==y2&&(x3==y3&&(x4==y4&&(x5==y5)))))) w:=by
 refine Py Tryz.underlying53 (by kernel_rfl) ?_;refine rE (by rfl) (by go_simp;rfl) (by go_simp;rfl) (by go_simp) ?_;refine rE (by rfl) (by go_simp;rfl) (by go_simp;rfl) (by go_simp) ?_;refine rE (by rfl) (by go_simp;rfl) (by go_simp;rfl) (by go_simp) ?_;refine rE (by rfl) (by go_simp;rfl) (by go_simp;rfl) (by go_simp) ?_;refine rE (by rfl) (by go_simp;rfl) (by go_simp;rfl) (by go_simp) ?_;exact Gz (by rfl) (by go_simp;rfl) (by go_simp;rfl) (by go_simp)
end Go.Proofs.YtkkpjonfaflkmaaGreatDoor.T
namespace Go.Proofs.YtkkpjonfaflkmaaGreatDoor.T
open Go.RowKit Go.Proofs.ah.aT Go.Proofs.ah.bn Go.Proofs.ah.bA
set_option linter.unusedSimpArgs false
set_option linter.unusedVariables false
attribute [local go_sem high] abC
attribute [local go_sem] fB fC gI gJ eD eF fD fE   -- for this text's walks alone
def bL.l0:Nat->List (gD)->List (gD)->Int->Option (Bool)
 | 0,_,_,_=>none
 | k+1,x0,x1,x5=>if x5 < (x0.length:Int) then (if 0<=x5 then (if x5 < (x1.length:Int) then (if (!(((aU x0 x5).f0)==((aU x1 x5).f0))||(!((((aU x0 x5).f1).toList)==(((aU x1 x5).f1).toList))||(!(((aU x0 x5).f2)==((aU x1 x5).f2))||(!(((aU x0 x5).f3)==((aU x1 x5).f3))||(!(((aU x0 x5).f4)==((aU x1 x5).f4))||(!(((aU x0 x5).f5)==((aU x1 x5).f5))))))))=true then (some false) else (bL.l0 k x0 x1 (wrap64 (x5+1)))) else (none)) else (none)) else (some true)
def bL.f (k:Nat) (l0:List (gD)) (l1:List (gD)):Option (Bool):=if (l0.length:Int)=(l1.length:Int) then (bL.l0 k l0 l1 0) else (some false)
set_option maxHeartbeats 8000000 in
set_option maxRecDepth 100000 in
theorem bL.calls (k:Nat) (A0:Option Addr) (c0:Nat) (l0:List (gD)) (A1:Option Addr) (c1:Nat) (l1:List (gD)) (r:Bool) (w:World) (hr0:Kd.C lD w A0 l0.length l0) (hc0:l0.length<=c0) (hr1:Kd.C lD w A1 l1.length l1) (hc1:l1.length<=c1) (h:bL.f k l0 l1=some r) :
  Calls Tryz.prog 21 #[.slice A0 l0.length c0,.slice A1 l1.length c1] w fun e w'=>e=.returned (.bool r)/\aM w w':=by
 have Ka:=Tryz.underlying53;have mE:=aj.mk hr0;have HC0:=aj.mk hc0;clear hr0 hc0;have HR1:=aj.mk hr1;have Ju:=aj.mk hc1;clear hr1 hc1;have H:(if (l0.length:Int)=(l1.length:Int) then (bL.l0 k l0 l1 0) else (some false))=some r:=h;clear h;by_cases c3:(l0.length:Int)=(l1.length:Int)
 rotate_left
 ·rw [if_neg c3] at H
  have nU:((l0.length:Int)==(l1.length:Int))=false:=beq_eq_false_iff_ne.mpr c3;have xq:((l0.length:Int) != (l1.length:Int))=true:=bne_iff_ne.mpr c3;have YT:(l0.length==l1.length)=false:=by first | simpa using c3 | (simp at c3 |-;omega)
  obtain rfl:=Option.some.inj H;go_enter Tryz.func21,Tryz.ntmps21
  go_wp2;repeat (go_quiet (fail);try go_wp2)
  go_ret;exact ⟨by first | rfl | (simp;done) | (simp [*];done),by repeat (first | exact aM.refl _ | apply aM.step)⟩
 rw [if_pos c3] at H;have nU:((l0.length:Int)==(l1.length:Int))=true:=beq_iff_eq.mpr c3;have xq:((l0.length:Int) != (l1.length:Int))=false:=bne_eq_false_iff_eq.mpr c3;have YT:(l0.length==l1.length)=true:=by first | simpa using c3 | (simp at c3 |-;omega)
 clear c3;have H':=aj.mk H;clear H;go_enter Tryz.func21,Tryz.ntmps21
 go_wp2;repeat (go_quiet (fail);try go_wp2)
 go_loopg [5] k (fun kq v5 w'=>∃ (bZ:Int),v5=.int .i64 bZ/\aj (bL.l0 kq l0 l1 bZ=some r)/\aj (kq<=k)/\aM w w')
 case atStart=>exact ⟨(0),(by first | rfl | (simp;done) | (simp [*];done)),H',⟨Nat.le_refl _⟩,by repeat (first | exact aM.refl _ | apply aM.step)⟩
 case round =>
  clear H';obtain ⟨bZ,rfl,HA,jQ,⟨m1,rfl⟩⟩:=hrel;cases gk with
  | zero=>exact absurd HA.out (by simp [bL.l0])
  | succ k1 =>
   have H:=HA.out;clear HA;simp only [bL.l0] at H;by_cases c4:bZ < (l0.length:Int)
   rotate_left
   ·rw [if_neg c4] at H
    have pF:decide (bZ < (l0.length:Int))=false:=decide_eq_false c4;clear c4;obtain rfl:=Option.some.inj H;go_wp2;repeat (go_quiet (fail);try go_wp2)
    go_ret;exact ⟨by first | rfl | (simp;done) | (simp [*];done),by repeat (first | exact aM.refl _ | apply aM.step)⟩
   rw [if_pos c4] at H;have pF:decide (bZ < (l0.length:Int))=true:=decide_eq_true c4;clear c4;by_cases c5:0<=bZ
   rotate_left
   ·rw [if_neg c5] at H
    exact absurd H (by simp)
   rw [if_pos c5] at H;have nV:decide (0<=bZ)=true:=decide_eq_true c5;clear c5;by_cases c6:bZ < (l1.length:Int)
   rotate_left
   ·rw [if_neg c6] at H
    exact absurd H (by simp)
   rw [if_pos c6] at H;have kP:decide (bZ < (l1.length:Int))=true:=decide_eq_true c6;clear c6;by_cases c7:(!(((aU l0 bZ).f0)==((aU l1 bZ).f0))||(!((((aU l0 bZ).f1).toList)==(((aU l1 bZ).f1).toList))||(!(((aU l0 bZ).f2)==((aU l1 bZ).f2))||(!(((aU l0 bZ).f3)==((aU l1 bZ).f3))||(!(((aU l0 bZ).f4)==((aU l1 bZ).f4))||(!(((aU l0 bZ).f5)==((aU l1 bZ).f5))))))))=true
   ·rw [if_pos c7] at H
    have sI:(!(((aU l0 bZ).f0)==((aU l1 bZ).f0))||(!((((aU l0 bZ).f1).toList)==(((aU l1 bZ).f1).toList))||(!(((aU l0 bZ).f2)==((aU l1 bZ).f2))||(!(((aU l0 bZ).f3)==((aU l1 bZ).f3))||(!(((aU l0 bZ).f4)==((aU l1 bZ).f4))||(!(((aU l0 bZ).f5)==((aU l1 bZ).f5))))))))=true:=c7;clear c7;obtain rfl:=Option.some.inj H;have Kr:0<=(bZ:Int):=of_decide_eq_true (by first | (with_reducible assumption) | assumption);have Kt:bZ < (l0.length:Int):=of_decide_eq_true (by first | (with_reducible assumption) | assumption);obtain ⟨abD,e214,Ua,Ub,Uc,Ud,Ue,Uf⟩:=eY mE.out bZ Kr Kt;cases e214
    replace Kr:=eq_true Kr;replace Kt:=eq_true Kt;have Ku:0<=(bZ:Int):=of_decide_eq_true (by first | (with_reducible assumption) | assumption);have Kv:bZ < (l1.length:Int):=of_decide_eq_true (by first | (with_reducible assumption) | assumption);obtain ⟨abE,e215,Ug,Uh,Ui,Uj,Uk,Ul⟩:=eY HR1.out bZ Ku Kv;cases e215
    replace Ku:=eq_true Ku;replace Kv:=eq_true Kv;go_wp2;repeat (go_quiet (fail);try go_wp2)
    go_ret;exact ⟨by first | rfl | (simp;done) | (simp [*];done),by repeat (first | exact aM.refl _ | apply aM.step)⟩
   rw [if_neg c7] at H;have sI:(!(((aU l0 bZ).f0)==((aU l1 bZ).f0))||(!((((aU l0 bZ).f1).toList)==(((aU l1 bZ).f1).toList))||(!(((aU l0 bZ).f2)==((aU l1 bZ).f2))||(!(((aU l0 bZ).f3)==((aU l1 bZ).f3))||(!(((aU l0 bZ).f4)==((aU l1 bZ).f4))||(!(((aU l0 bZ).f5)==((aU l1 bZ).f5))))))))=false:=by simpa using c7
   clear c7;have H':=aj.mk H;clear H;have Kr:0<=(bZ:Int):=of_decide_eq_true (by first | (with_reducible assumption) | assumption);have Kt:bZ < (l0.length:Int):=of_decide_eq_true (by first | (with_reducible assumption) | assumption);obtain ⟨abD,e214,Ua,Ub,Uc,Ud,Ue,Uf⟩:=eY mE.out bZ Kr Kt;cases e214
   replace Kr:=eq_true Kr;replace Kt:=eq_true Kt;have Ku:0<=(bZ:Int):=of_decide_eq_true (by first | (with_reducible assumption) | assumption);have Kv:bZ < (l1.length:Int):=of_decide_eq_true (by first | (with_reducible assumption) | assumption);obtain ⟨abE,e215,Ug,Uh,Ui,Uj,Uk,Ul⟩:=eY HR1.out bZ Ku Kv;cases e215
   replace Ku:=eq_true Ku;replace Kv:=eq_true Kv;go_wp2;repeat (go_quiet (fail);try go_wp2)
   go_roundg k1
   case measure=>have:=jQ.out;omega
   case rel=>exact ⟨(wrap64 (bZ+1)),(by first | rfl | (simp;done) | (simp [*];done)),H',⟨by have:=jQ.out;omega⟩,by repeat (first | exact aM.refl _ | apply aM.step)⟩
end Go.Proofs.YtkkpjonfaflkmaaGreatDoor.T
namespace Go.Proofs.YtkkpjonfaflkmaaGreatDoor.T
open Go.RowKit Go.Proofs.ah.aT Go.Proofs.ah.bn Go.Proofs.ah.bA
set_option linter.unusedSimpArgs false
set_option linter.unusedVariables false
attribute [local go_sem] fB fC gI gJ eD eF fD fE   -- for this text's walks alone
def bP.l0:Nat->List (gD)->List (List (gD))->Int->Int->Option ((List (List (gD))))
 | 0,_,_,_,_=>none
 | k+1,x0,x3,x4,x5=>if x5 < (x0.length:Int) then (if 0<=x5 then (if ((aU x0 x5).f0)=4 then (if 0<=x4 then (if x4<=x5 then (if x5<=(x0.length:Int) then (if x3.length < 5864062014805 then (bP.l0 k x0 (x3++[((x0.take (x5:Int).toNat).drop (x4:Int).toNat)]) (wrap64 (x5+1)) (wrap64 (x5+1))) else (none)) else (none)) else (none)) else (none)) else (bP.l0 k x0 x3 x4 (wrap64 (x5+1)))) else (none)) else (some x3)
def bP.f (k:Nat) (l0:List (gD)):Option ((List (List (gD)))):=bP.l0 k l0 ([]:List (List (gD))) 0 0
set_option maxHeartbeats 8000000 in
set_option maxRecDepth 100000 in
theorem bP.calls (k:Nat) (QD:Nat->Prop) (A0:Option Addr) (c0:Nat) (l0:List (gD)) (r:List (List (gD))) (w:World) (hs0:Kd.V lD 53 w w.heap.size (fun k_=>QD k_) (.slice A0 l0.length c0) l0) (h:bP.f k l0=some r) :
  Calls Tryz.prog 22 #[.slice A0 l0.length c0] w fun e w'=>∃ QB:Value,e=.returned (QB)/\Kd.N (Kd.slice 53 lD) 24 w' w.heap.size (fun k_=>(QD k_\/w.heap.size<=k_)) QB r/\Below w.heap.size w w':=by
 have HO0:=aj.mk (show Kd.V lD 53 w w.heap.size (fun k_=>(QD k_\/w.heap.size<=k_)) (.slice A0 l0.length c0) l0 from Kd.Bc hs0 (fun k_ hk=>.inl hk));have HB:=aj.mk (Below.refl w.heap.size w);have H:(bP.l0 k l0 ([]:List (List (gD))) 0 0)=some r:=h;clear h;have H':=aj.mk H;clear H;go_enter Tryz.func22,Tryz.ntmps22
 go_wp2;go_loopg [3,4,5] k (fun kq v3 v4 v5 w'=>∃ (gU:List (List (gD))) (bN:Int) (bZ:Int),v4=.int .i64 bN/\v5=.int .i64 bZ/\aj (bP.l0 kq l0 gU bN bZ=some r)/\aj (kq<=k)/\aj (Kd.V lD 53 w' w.heap.size (fun k_=>(QD k_\/w.heap.size<=k_)/\some k_≠(v3:Value).ownBlock) (.slice A0 l0.length c0) l0)/\aj (Kd.N (Kd.slice 53 lD) 24 w' w.heap.size (fun k_=>(QD k_\/w.heap.size<=k_)) v3 gU)/\aj (Below w.heap.size w w'))
 case atStart=>exact ⟨(([]:List (List (gD)))),(0),(0),(by first | rfl | (simp;done) | (simp [*];done)),(by first | rfl | (simp;done) | (simp [*];done)),H',⟨Nat.le_refl _⟩,⟨by (with_reducible repeat (first | apply Kd.rX | apply Kd.rY | apply Kd.tV));exact Kd.Bc HO0.out (fun _ hk=>⟨hk,(by simp [Value.ownBlock])⟩)⟩,⟨by first | exact Kd.wX _ _ _ _ _ | exact Kd.tT _ _ _ _ _ | exact Kd.xk _ _ _ _ _ | exact Kd.wS _ _ _ _ _ | exact Kd.rD _ _ _ _ _⟩,⟨by repeat (first | (with_reducible first | exact HB.out | apply ay | apply ak | apply aD) | exact HB.out)⟩⟩
 case round =>
  clear H';obtain ⟨gU,bN,bZ,rfl,rfl,HA,jQ,EY,vG,HB⟩:=hrel;cases gk with
  | zero=>exact absurd HA.out (by simp [bP.l0])
  | succ k1 =>
   have H:=HA.out;clear HA;simp only [bP.l0] at H;by_cases c2:bZ < (l0.length:Int)
   rotate_left
   ·rw [if_neg c2] at H
    have oG:decide (bZ < (l0.length:Int))=false:=decide_eq_false c2;clear c2;obtain rfl:=Option.some.inj H;go_wp2;go_ret;exact ⟨_,by first | rfl | (simp [aV,aW]<;>rfl) | (simp [*,aV,aW]<;>rfl),by (with_reducible repeat (first | apply Kd.gG | apply Kd.gH | apply Kd.iQ));exact vG.out,by repeat (first | (with_reducible first | exact HB.out | apply ay | apply ak | apply aD) | exact HB.out)⟩
   rw [if_pos c2] at H;have oG:decide (bZ < (l0.length:Int))=true:=decide_eq_true c2;clear c2;by_cases c3:0<=bZ
   rotate_left
   ·rw [if_neg c3] at H
    exact absurd H (by simp)
   rw [if_pos c3] at H;have nU:decide (0<=bZ)=true:=decide_eq_true c3;clear c3;by_cases c4:((aU l0 bZ).f0)=4
   rotate_left
   ·rw [if_neg c4] at H
    have pF:(((aU l0 bZ).f0)==4)=false:=beq_eq_false_iff_ne.mpr c4;have Et:(((aU l0 bZ).f0) != 4)=true:=bne_iff_ne.mpr c4;have H':=aj.mk H;clear H;have Kw:0<=(bZ:Int):=of_decide_eq_true (by first | (with_reducible assumption) | assumption);have Ky:bZ < (l0.length:Int):=of_decide_eq_true (by first | (with_reducible assumption) | assumption);obtain ⟨Ht,e216,Um,Un,Uo,Uq,Ur,Us⟩:=eY (Kd.xg EY.out).2.2 bZ Kw Ky;cases e216
    replace Kw:=eq_true Kw;replace Ky:=eq_true Ky;go_wp2;go_roundg k1
    case measure=>have:=jQ.out;omega
    case rel=>exact ⟨(gU),(bN),(wrap64 (bZ+1)),(by first | rfl | (simp;done) | (simp [*];done)),(by first | rfl | (simp;done) | (simp [*];done)),H',⟨by have:=jQ.out;omega⟩,⟨by (with_reducible repeat (first | apply Kd.rX | apply Kd.rY | apply Kd.tV));exact EY.out⟩,⟨by (with_reducible repeat (first | apply Kd.gG | apply Kd.gH | apply Kd.iQ));exact vG.out⟩,⟨by repeat (first | (with_reducible first | exact HB.out | apply ay | apply ak | apply aD) | exact HB.out)⟩⟩
   rw [if_pos c4] at H;have pF:(((aU l0 bZ).f0)==4)=true:=beq_iff_eq.mpr c4;have Et:(((aU l0 bZ).f0) != 4)=false:=bne_eq_false_iff_eq.mpr c4;clear c4;by_cases c5:0<=bN
   rotate_left
   ·rw [if_neg c5] at H
    exact absurd H (by simp)
   rw [if_pos c5] at H;have nV:=eq_true c5;have JK:decide (0<=bN)=true:=decide_eq_true c5;clear c5;by_cases c6:bN<=bZ
   rotate_left
   ·rw [if_neg c6] at H
    exact absurd H (by simp)
   rw [if_pos c6] at H;have kP:=eq_true c6;have Bj:decide (bN<=bZ)=true:=decide_eq_true c6;clear c6;by_cases c7:bZ<=(l0.length:Int)
   rotate_left
   ·rw [if_neg c7] at H
    exact absurd H (by simp)
   rw [if_pos c7] at H;have sI:=eq_true c7;have Ut:decide (bZ<=(l0.length:Int))=true:=decide_eq_true c7;clear c7;obtain ⟨BR,Hu⟩:∃ y_:List (gD),y_=((l0.take (bZ:Int).toNat).drop (bN:Int).toNat):=⟨_,rfl⟩;replace H:(if gU.length < 5864062014805 then (bP.l0 k1 l0 (gU++[BR]) (wrap64 (bZ+1)) (wrap64 (bZ+1))) else (none))=some r:=by first | (rw [Hu];with_reducible exact H) | (have wC:=(Option.bind_some _ _).symm.trans H;rw [Hu];with_reducible exact wC) | (have wC:=(Option.bind_some _ _).symm.trans H;with_reducible exact wC) | with_reducible exact H | (rw [Hu];exact H) | exact H
   have Xe:=aj.mk Hu;clear Hu;by_cases c8:gU.length < 5864062014805
   rotate_left
   ·rw [if_neg c8] at H
    exact absurd H (by simp)
   rw [if_pos c8] at H;have ajd:=aj.mk c8;clear c8;obtain ⟨abF,Hw⟩:∃ y_:List (List (gD)),y_=(gU++[BR]):=⟨_,rfl⟩;replace H:(bP.l0 k1 l0 abF (wrap64 (bZ+1)) (wrap64 (bZ+1)))=some r:=by first | (rw [Hw];with_reducible exact H) | (have wC:=(Option.bind_some _ _).symm.trans H;rw [Hw];with_reducible exact wC) | (have wC:=(Option.bind_some _ _).symm.trans H;with_reducible exact wC) | with_reducible exact H | (rw [Hw];exact H) | exact H
   have abG:=aj.mk Hw;clear Hw;have H':=aj.mk H;clear H;have Kw:0<=(bZ:Int):=of_decide_eq_true (by first | (with_reducible assumption) | assumption);have Ky:bZ < (l0.length:Int):=of_decide_eq_true (by first | (with_reducible assumption) | assumption);obtain ⟨Ht,e216,Um,Un,Uo,Uq,Ur,Us⟩:=eY (Kd.xg EY.out).2.2 bZ Kw Ky;cases e216
   replace Kw:=eq_true Kw;replace Ky:=eq_true Ky;have q9:(bZ:Int)<=((l0.length:Int):Int):=of_decide_eq_true (by first | (with_reducible assumption) | assumption);obtain ⟨i09,abH,_,abI,_⟩:=info_parts Yb;have BS:l0.length<=c0:=(Kd.xg EY.out).2.1;have hC9:Kd.F lD _ _ (some Ht) l0.length l0:=(Kd.PE (base:=w.heap.size) EY.out).2.2;have ql9:(bN:Int)<=(bZ:Int):=of_decide_eq_true (by first | (with_reducible assumption) | assumption);have q09:(0:Int)<=(bN:Int):=of_decide_eq_true (by first | (with_reducible assumption) | assumption);have abJ:=SS (P:=Tryz.prog) 24 53 .i64 .i64 Tryz.underlying24 abH 6 abI (some Ht) l0.length c0 bN bZ q09 ql9 q9 BS;have hr9:=Kd.aaO (lo:=(bN:Int).toNat) (hi:=(bZ:Int).toNat) (c:=c0) hC9 (by omega) (by omega) BS;obtain ⟨A9,hA9⟩:∃ A1,A1=(if c0=(bN:Int).toNat then (some Ht) else ((some Ht):Option Addr).map (·.add ((bN:Int).toNat*6))):=⟨_,rfl⟩;obtain ⟨c9,hc9⟩:∃ c1,c1=c0 - (bN:Int).toNat:=⟨_,rfl⟩;have hy9:BR.length=(bZ:Int).toNat - (bN:Int).toNat:=(by rw [Xe.out,List.length_drop,List.length_take]<;>omega);rw [show ((l0).take (bZ:Int).toNat).drop (bN:Int).toNat=BR from Xe.out.symm] at hr9;replace hr9:Kd.F lD _ _ A9 BR.length BR:=(by rw [hA9];exact hr9);rw [<- hy9,<- hA9,<- hc9] at abJ;have Hy:=aj.mk (show Kd.V lD 53 _ w.heap.size _ (.slice A9 BR.length c9) BR from Kd.PD (by rw [hy9,hc9];exact Nat.sub_le_sub_right (Nat.le_trans (by omega) BS) _) hr9);have akB:=aj.mk (show BR.length<=c9 from by rw [hy9,hc9];exact Nat.sub_le_sub_right (Nat.le_trans (by omega) BS) _);clear hr9 hC9 BS abH abI hc9;have KY9:=aj.mk hy9;have KA9:=aj.mk hA9;clear hy9 hA9;replace q9:=eq_true q9;go_wp2_with (first | ((with_reducible refine oM (b:=.append) (xs:=#[.tmp 18,.tmp 23]) rfl ?_);at_builtin;refine Kd.Pz (Kd.slice 53 lD) (w0:=w) w.heap.size rfl (.tmp 18) (.tmp 23) 31 24 (.slice none 0 0) 24 rfl Tryz.underlying31 Ya rfl (by decide) (by omega) u3 gU BR [.slice A9 BR.length c9] (fun k_=>(QD k_\/w.heap.size<=k_)) (fun k_=>((fun k_=>(QD k_\/w.heap.size<=k_))) k_/\some k_≠(u3:Value).ownBlock) rfl rfl ?aP (fun _ hk=>hk) ?aF ?aO ?aB ?aS ?aL ?_;(case aP=>exact (Kd.GD (Kd.xg (Kd.Bc (ok':=(fun k_=>((fun k_=>(QD k_\/w.heap.size<=k_))) k_/\some k_≠(u3:Value).ownBlock)) (Hy.out) (fun k_ hk=>⟨hk.1,hk.2⟩))).2.1 (Kd.V_F (Kd.Bc (ok':=(fun k_=>((fun k_=>(QD k_\/w.heap.size<=k_))) k_/\some k_≠(u3:Value).ownBlock)) (Hy.out) (fun k_ hk=>⟨hk.1,hk.2⟩)))));(case aB=>exact (by repeat (first | (with_reducible first | exact HB.out | apply ay | apply ak | apply aD) | exact HB.out)));(case aF=>exact (fun k_ hk=>(.inr (Nat.le_trans (bR (by repeat (first | (with_reducible first | exact HB.out | apply ay | apply ak | apply aD) | exact HB.out))) hk))));(case aO=>exact (by (with_reducible repeat (first | apply Kd.gG | apply Kd.gH | apply Kd.iQ));exact vG.out));(case aS=>exact (bR (by repeat (first | (with_reducible first | exact HB.out | apply ay | apply ak | apply aD) | exact HB.out))));(case aL=>have:=ajd.out;omega);intro alT DC ho hb hg hat;rw [<- abG.out] at ho;have dW:=aj.mk (Kd.Bd (ok:=(fun k_=>(QD k_\/w.heap.size<=k_))) (by (with_reducible repeat (first | apply Kd.rX | apply Kd.rY | apply Kd.tV));exact EY.out) hg hat);have fF:=aj.mk (Kd.Bd (ok:=(fun k_=>(QD k_\/w.heap.size<=k_))) (by (with_reducible repeat (first | apply Kd.rX | apply Kd.rY | apply Kd.tV));exact Hy.out) hg hat);have jJ:=aj.mk (hb);have lZ:=aj.mk (ho);clear EY;clear Hy;clear HB;clear vG;have EY:=dW;have Hy:=fF;have HB:=jJ;have abK:=lZ;clear dW fF jJ lZ;clear ho hb hg hat))
   go_roundg k1
   case measure=>have:=jQ.out;omega
   case rel=>exact ⟨(abF),(wrap64 (bZ+1)),(wrap64 (bZ+1)),(by first | rfl | (simp;done) | (simp [*];done)),(by first | rfl | (simp;done) | (simp [*];done)),H',⟨by have:=jQ.out;omega⟩,⟨by (with_reducible repeat (first | apply Kd.rX | apply Kd.rY | apply Kd.tV));exact EY.out⟩,⟨by (with_reducible repeat (first | apply Kd.gG | apply Kd.gH | apply Kd.iQ));exact abK.out⟩,⟨by repeat (first | (with_reducible first | exact HB.out | apply ay | apply ak | apply aD) | exact HB.out)⟩⟩
theorem Xf (d:Nat) (w:World) (x0 y0:ByteArray) (x1 y1:Int) :
  (Op.equalIn (d+2) 73 (.agg #[.string x0,.int .i64 x1]) (.agg #[.string y0,.int .i64 y1])).run Tryz.prog w=.ok (x0.toList==y0.toList&&(x1==y1)) w:=by
 refine Py Tryz.underlying73 (by kernel_rfl) ?_;refine rE (by rfl) (by go_simp;rfl) (by go_simp;rfl) (by go_simp) ?_;exact Gz (by rfl) (by go_simp;rfl) (by go_simp;rfl) (by go_simp)
end Go.Proofs.YtkkpjonfaflkmaaGreatDoor.T
