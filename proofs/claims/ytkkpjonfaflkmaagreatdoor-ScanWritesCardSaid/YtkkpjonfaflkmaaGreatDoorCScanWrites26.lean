/- A part of the proof of ScanWrites. -/
import Derived.Test.YtkkpjonfaflkmaaGreatDoorCScanWrites25
set_option linter.all false
namespace Go.Proofs.YtkkpjonfaflkmaaGreatDoor.T
open Go.RowKit Go.Maps Go.Proofs.aj.aI Go.Proofs.aj.aY Go.Proofs.aj.bq
attribute [local go_sem] Oper.semAt_some
theorem bA {F:Fence} {n:Nat} {P:Program} {ops:Array Oper} {o:Oper} {a:Act} {w w':World} {K:Act->World->Prop} {Q:Exit->Act->World->Prop} {E:Prop} (hgd:o.guard=none) (s x:Operand) (t:TypeId)
  (ho:o.op=.call { callee:=.builtin .append,args:=#[s,x],argTypes:=#[t,t] }) (v u v':Value) (hs:a.eval s=v) (hx:a.eval x=u)
  (hr:(Builtin.append_ #[t,t] o.type #[v,u]).run P w=.ok v' w') (hK:K (a.put o.dst v') w'):if Region.wanted o (yielded ops a.tmps)=true then Oper.wpIn F n P o a w K Q else E:=by
 have hw:Region.wanted o (yielded ops a.tmps)=true:=by simp [Region.wanted,hgd]
 rw [if_pos hw];unfold Oper.wpIn;refine ⟨by simp [Oper.about,ho,resolve,Target.leads,Sem.run_pure],?_⟩;rw [Oper.semAt_plain F _ _ (by rw [ho];intro c hc';cases hc')];unfold execOp;simp only [ho,resolve,invoke,builtin,Sem.run_bind,Sem.run_pure,Result.andThen_ok,List.map_toArray,List.map_cons,List.map_nil,hs,hx,hr];exact hK
def Hr (H:Nat) (o:S.Out) (e:Ending) (w':World):Prop:=match o.err with
 | some p=>e=.returned (.tuple #[.slice none 0 0,.int .i64 p.1,.int .i64 p.2,.int .i64 7])
 | none=>∃ v hs G,e=.returned (.tuple #[v,.int .i64 0,.int .i64 0,.int .i64 0])/\w'.ownsRow H 24 1 v hs.length hs/\MO G w' hs (o.cl.map List.dropLast)/\∀ g,G g->H<=g/\v.ownBlock≠some g
set_option maxRecDepth 100000 in
set_option maxHeartbeats 8000000 in
theorem Cu.calls (src:ByteArray) (w:World) (hsz:src.size<=20000) (hT:dR w) (hne:∀ c ln,(S.scan (bytesOf src)).err=some (c,ln)->c≠0) :
  Calls Tryz.prog 19 #[.string src] w fun e w'=>Below w.heap.size w w'/\Hr w.heap.size (S.scan (bytesOf src)) e w':=by
 have hwf:∀ f,Fence.wide.fn f:=fun _=>trivial
 have HT:=ah.mk hT;have HNE:=ah.mk hne;clear hT hne;obtain ⟨H,hH⟩:∃ H,w.heap.size=H:=⟨_,rfl⟩;have HH:=ah.mk hH;have zT:=Lib.hid (fun W=>clauses.calls src ⟨H+1,0,none⟩ W);have HLM:=Lib.hid (gu.calls src 0 w (by unfold gu.f;rw [if_neg (by omega)]));refine (callsIn_wide (n:=8)).1 ?_;refine callsIn_of_wp_marks Tryz.func19 rfl trivial ?_ rfl;simp only [Tryz.ntmps19,List.size_toArray,List.length_cons,List.length_nil,Nat.reduceAdd,Nat.reduceSub,Array.replicate_succ,Array.replicate_zero,List.push_toArray,List.append_toArray,List.nil_append,List.cons_append];gi_wp2_with (first | (gi_at_call 50;refine (callsIn_wide.2 HLM.out).mono ?_;rintro e w' ⟨rfl,⟨⟨q,rfl⟩⟩⟩) | (gi_at_call 53;refine (callsIn_wide.2 (zT.out _)).mono ?_;rintro e w' ⟨rfl,rfl⟩))
 generalize hU:((((w.drewN q).alloc _).alloc _).alloc _).alloc _=U;have hq:(w.drewN q).heap.size=H:=hH;have ZY:U.heap.size=H+4:=by rw [<- hU,<- hH];simp
 have WR:Below H w U:=by rw [<- hU,<- hH];exact av (av (av (av (ak (Below.refl _ _) q) _) _) _) _
 have u0:U.heap[H]?=some (.cells #[.slice none 0 0] 31 (0,0)):=by
  rw [<- hU,<- hH];exact (Below.heap_alloc _ _ _ (by simp<;>omega)).trans ((Below.heap_alloc _ _ _ (by simp<;>omega)).trans ((Below.heap_alloc _ _ _ (by simp)).trans (heap_alloc_new (w.drewN q) _)))
 have u1:U.heap[H+1]?=some (.cells #[.int .i64 0,.int .i64 0] 76 (0,0)):=by
  rw [<- hU,<- hH];refine (Below.heap_alloc _ _ _ (by simp<;>omega)).trans ((Below.heap_alloc _ _ _ (by simp)).trans ?_);have:=heap_alloc_new ((w.drewN q).alloc (.cells #[.slice none 0 0] 31)) (.cells #[.int .i64 0,.int .i64 0] 76);rw [World.size_alloc] at this;exact this
 have u2:U.heap[H+2]?=some (.cells #[.string src] 9 (0,0)):=by
  rw [<- hU,<- hH];refine (Below.heap_alloc _ _ _ (by simp)).trans ?_;have:=heap_alloc_new (((w.drewN q).alloc (.cells #[.slice none 0 0] 31)).alloc (.cells #[.int .i64 0,.int .i64 0] 76)) (.cells #[.string src] 9);rw [World.size_alloc,World.size_alloc] at this;exact this
 have u3:U.heap[H+3]?=some (.cells #[.pointer (some ⟨H+1,0,none⟩)] 88 (0,0)):=by
  have:=heap_alloc_new ((((w.drewN q).alloc (.cells #[.slice none 0 0] 31)).alloc (.cells #[.int .i64 0,.int .i64 0] 76)).alloc (.cells #[.string src] 9)) (.cells #[.pointer (some ⟨H+1,0,none⟩)] 88);rw [World.size_alloc,World.size_alloc,World.size_alloc,hq] at this;rw [<- hU];exact this
 have hTU:dR U:=HT.out.of_below (WR.mono (by omega));clear hU;refine Bo (F:=Fence.wide) (n:=8) (gf:=87) rfl (by omega) rfl trivial zD
  (fun Z=>∃ v hs G,Z.heap[H]?=some (.cells #[v] 31 (0,0))/\Z.heap[H+4]?=some (.deferred (some []))/\Z.ownsRow (H+6) 24 1 v hs.length hs/\MO G Z hs ((S.scan (bytesOf src)).cl.map List.dropLast)/\(∀ g,G g->H<=g/\v.ownBlock≠some g/\g≠H+4/\g≠H+5)/\Below H w Z/\Z.heap[H+1]?=some (.cells (Qc (S.scan (bytesOf src)).err) 76 (0,0)))
  (fun _=>False) ?hcall ?vJ ?hdone
 case hdone=>rintro Z r _ h;exact h.elim
 case hcall =>
  intro fn rd X hfn hrd WS Lj x7 x8
  rw [ZY] at WS Lj x7 x8 |-
  have hkx:∀ k,k < H+4->X.heap[k]?=U.heap[k]?:=fun k hk=>Lj.block k (by omega)
  have hJ0:ClJ w H rd [] (oZ H (.slice none 0 0) (fun _=>False)) X:=⟨_,[],_,rfl,(hkx _ (by omega)).trans u0,x7,x8,World.ownsRow_nil _ _ _ _,⟨rfl,fun j u c hu _=>by simp at hu⟩,by simp,Nat.le_refl _,fun g e=>e.elim,WR.trans (Lj.mono (by omega))⟩;have C:Client (H+5) 5 (ClJ w H rd):=by
   refine ⟨?_,?_,?_⟩
   ·rintro pre F W W' ⟨v,hs,G,rfl,hI⟩ hb
    exact ⟨v,hs,G,rfl,hI.keep hb⟩
   ·rintro pre F W ⟨v,hs,G,rfl,hI⟩ k hk
    have VE:=hI.lw;rcases hk with e | e | e | e | e | e
    ·omega
    ·omega
    ·omega
    ·omega
    ·exact (hI.own.lt k e).2
    ·exact (hI.gs k e).2.1
   ·rintro pre F W base v cl ⟨vo,hs,G,rfl,hI⟩ hown hne FJ hlen
    obtain ⟨g2,c2,rfl⟩:∃ g2 c2,v=.slice (some ⟨g2,0,none⟩) cl.length c2:=by
     rcases hown.2 with ⟨_,e2⟩ | ⟨g,cap,cs,e,_⟩
     ·exact absurd (List.length_eq_zero_iff.1 e2) hne
     ·exact ⟨_,_,e⟩
    have hd2:∀ k,oZ H vo G k->k≠g2:=fun k hk e=>FJ k hk (by rw [e];rfl)
    have hcap:=(uU hown).2.1;obtain ⟨cn,hcn⟩:∃ cn,cl.length=cn+1:=⟨cl.length - 1,by have:=List.length_pos_iff.2 hne;omega⟩;have hnx:=fun (Y w1:World) (v':Value) (rb:Loop)=>hI.next (rb:=rb) (X:=Y) (w1:=w1) (v':=v') hne hown hd2 (by omega)
    rw [hcn] at hcap hlen;simp only [hcn,Nat.add_sub_cancel] at hnx;have hhl:hs.length<=300000:=by
     have h1:=hI.els.1;rw [List.length_map] at h1;have:=hI.pne;omega
    rw [hcn];refine Bp (l:=H+5) hrd trivial hI.lop rfl ?_;have Fb:=ah.mk hrd;clear hrd;gi_wp2
    refine ⟨hI.lop,?_⟩;have HRF:ah (∀ r2:Loop,r2={ rd with state:=LoopState.busy }->({ r2 with state:=.ready,pending:=none }:Loop)=rd):=⟨fun r2 e=>by rw [e,Fb.out];rfl⟩;generalize hrb:({ rd with state:=LoopState.busy }:Loop)=rb;have jh:=ah.mk (HRF.out rb hrb.symm);have hbB:But (fun k=>k=H+5) W (W.putObj (H+5) (.loop rb)):=(But.refl (fun k=>k=H+5) W).putObj _ _ rfl;have hge:∀ k,vo.ownBlock=some k->H+6<=k:=fun k e=>(hI.own.lt k e).1
    have hoB:=qA hI.own hbB (fun k e e2=>by have:=hge k e2;omega);have hoc:(W.putObj (H+5) (.loop rb)).heap[H]?=some (.cells #[vo] 31 (0,0)):=(hbB.block H (by have:=hI.lw;omega) (by omega)).trans hI.out;have hps:(W.putObj (H+5) (.loop rb)).heap.size=W.heap.size:=World.putObj_size;have VE:=hI.lw;have HNX:=ah.mk (fun (Y w1:World) (v':Value)=>hnx Y w1 v' rb);have amw:=ah.mk hI.one;generalize W.putObj (H+5) (.loop rb)=WB at *;obtain ⟨hl,afS⟩:∃ hl,hs.length=hl:=⟨_,rfl⟩;rw [afS] at hoB hhl;obtain ⟨i1,hi0,hz0,hz1,hz2⟩:=info_parts (show (Tryz.prog.info? 24).map (fun i=>(i.zero,i.size,i.bytes))=some (some (.slice none 0 0),1,24) by kernel_rfl);obtain ⟨Xh,hXh⟩:∃ Xh,WB.heap.size=Xh:=⟨_,rfl⟩;obtain ⟨Y,hY⟩:∃ Y,WB.drew.alloc (.cells #[.slice (some ⟨g2,0,none⟩) cn cn] 24)=Y:=⟨_,rfl⟩;have hYb:But (fun _=>False) WB Y:=by rw [<- hY];exact ((But.refl _ WB).drew).alloc _
    have hYs:Y.heap.size=Xh+1:=by rw [<- hY,<- hXh];exact World.size_alloc _ _
    have hYn:Y.heap[Xh]?=some (.cells #[.slice (some ⟨g2,0,none⟩) cn cn] 24 (0,0)):=by rw [<- hY,<- hXh];exact heap_alloc_new WB.drew _
    have hYo:=qA hoB hYb (fun k e=>e.elim);obtain ⟨g',cap',w1,hrun,hown1,hgrow,hat,hlt⟩:=run_append_lies (P:=Tryz.prog) Y 31 31 (H+6) 24 i1 (.slice none 0 0) 1 24 Tryz.underlying31 hi0 hz0 hz1 hz2 rfl (by decide) vo hl hs hYo
     ⟨Xh,0,none⟩ 1 1 [.slice (some ⟨g2,0,none⟩) cn cn] rfl (fun j u hu=>by
      rw [add_plain,au hYn j];simpa using hu) (by simp [Value.oneCell']) (by decide) (by unfold maxLen;omega) (by omega) (by omega) (Xh+1) hYs
    have c0:WB.cell? ⟨H,0,none⟩=some vo:=(au hoc 0).trans rfl;have hYc:=(hYb.block H (by omega) (fun e=>e)).trans hoc;have cY:Y.cell? ⟨H,0,none⟩=some vo:=(au hYc 0).trans rfl;have hwc:=Zk hgrow hYc (fun k e=>by have:=hge k e;omega);have e1:=au hwc 0;have q1:=aA hwc 0;have bI:=ah.mk (HNX.out Y w1 (.slice (some ⟨g',0,none⟩) (hl+1) cap') hYb (by rw [afS];exact hown1) hgrow (by
     rcases hat with e | e
     ·exact .inl e.symm
     ·exact .inr (by rw [e,hYs];rfl)))
    have hw1:IntKind.i64.wrap (((cn+1:Nat):Int) - 1)=(cn:Int):=(uq _ (by omega) (by omega)).trans (by omega);have hw3:IntKind.i64.wrap ((cn:Int)+1 - 1)=(cn:Int):=(uq _ (by omega) (by omega)).trans (by omega);have hw4:(cn:Int)+1 - 1=(cn:Int):=by omega
    have hle:cn<=c2:=by omega
    clear hrb hI HRF Fb hbB hoB hoc hnx hown hd2 HNX hYo hYn hown1 hgrow hat hwc hYc hlt hYb hps;gi_upto_region 9 with (fail)
    refine wpIn_region_any (by kernel_rfl) ?_;change wpAnyIn _ _ _ _ _ _ _ _ _ (World.drew WB)
    refine wpAnyIn_ready (rs:=[0,1,2,3]) (by kernel_rfl) (by simp) ?_;refine AllReadyIn.cons rfl (fun K hK=>?_) (AllReadyIn.cons rfl (fun K hK=>?_) (AllReadyIn.cons rfl (fun K hK=>?_) (AllReadyIn.cons rfl (fun K hK=>?_) AllReadyIn.nil)))
    ·go_simp;refine hK _ _ ?_;clear hK K
     refine wpAnyIn_ready (rs:=[1,2,3]) (by kernel_rfl) (by simp) ?_;refine AllReadyIn.cons rfl (fun K hK=>?_) (AllReadyIn.cons rfl (fun K hK=>?_) (AllReadyIn.cons rfl (fun K hK=>?_) AllReadyIn.nil))
     ·go_simp;refine hK _ _ ?_;clear hK K
      refine wpAnyIn_ready (rs:=[2,3]) (by kernel_rfl) (by simp) ?_;refine AllReadyIn.cons rfl (fun K hK=>?_) (AllReadyIn.cons rfl (fun K hK=>?_) AllReadyIn.nil)
      ·go_simp;refine hK _ _ ?_;clear hK K
       refine wpAnyIn_ready (rs:=[3]) (by kernel_rfl) (by simp) ?_;refine AllReadyIn.cons rfl (fun K hK=>?_) AllReadyIn.nil;go_simp;refine hK _ _ ?_;clear hK K;refine wpAnyIn_ready (rs:=[4]) (by kernel_rfl) (by simp) ?_;refine AllReadyIn.cons rfl (fun K hK=>?_) AllReadyIn.nil;go_simp;refine hK _ _ ?_;clear hK K;refine wpAnyIn_ready (rs:=[5]) (by kernel_rfl) (by simp) ?_;refine AllReadyIn.cons rfl (fun K hK=>?_) AllReadyIn.nil;go_simp;refine hK _ _ ?_;clear hK K;refine wpAnyIn_ready (rs:=[6]) (by kernel_rfl) (by simp) ?_;refine AllReadyIn.cons rfl (fun K hK=>?_) AllReadyIn.nil;refine bA rfl (.tmp 22) (.tmp 27) _ rfl _ _ _ rfl rfl hrun ?_;(try go_simp);refine hK _ _ ?_;clear hK K;refine wpAnyIn_ready (rs:=[7]) (by kernel_rfl) (by simp) ?_;refine AllReadyIn.cons rfl (fun K hK=>?_) AllReadyIn.nil;go_simp;refine hK _ _ ?_;clear hK K;refine wpAnyIn_done (by kernel_rfl) ?_ _
       (try gi_wp2)
       refine ⟨rb,bI.out.1,rfl,oZ H (.slice (some ⟨g',0,none⟩) (hl+1) cap') (fun k=>G k\/k=g2),?_,?_,fun k hk=>?_⟩
       ·rw [jh.out];exact bI.out.2.1
       ·rw [jh.out];exact bI.out.2.2.1
       ·rcases bI.out.2.2.2 k hk with e | e | e
        ·exact .inl e
        ·exact .inr (.inl e)
        ·exact .inr (.inr (by rw [e];rfl))
      ·go_simp;refine hK _ _ ?_;clear hK K
       refine wpAnyIn_ready (rs:=[2]) (by kernel_rfl) (by simp) ?_;refine AllReadyIn.cons rfl (fun K hK=>?_) AllReadyIn.nil;go_simp;refine hK _ _ ?_;clear hK K;refine wpAnyIn_ready (rs:=[4]) (by kernel_rfl) (by simp) ?_;refine AllReadyIn.cons rfl (fun K hK=>?_) AllReadyIn.nil;go_simp;refine hK _ _ ?_;clear hK K;refine wpAnyIn_ready (rs:=[5]) (by kernel_rfl) (by simp) ?_;refine AllReadyIn.cons rfl (fun K hK=>?_) AllReadyIn.nil;go_simp;refine hK _ _ ?_;clear hK K;refine wpAnyIn_ready (rs:=[6]) (by kernel_rfl) (by simp) ?_;refine AllReadyIn.cons rfl (fun K hK=>?_) AllReadyIn.nil;refine bA rfl (.tmp 22) (.tmp 27) _ rfl _ _ _ rfl rfl hrun ?_;(try go_simp);refine hK _ _ ?_;clear hK K;refine wpAnyIn_ready (rs:=[7]) (by kernel_rfl) (by simp) ?_;refine AllReadyIn.cons rfl (fun K hK=>?_) AllReadyIn.nil;go_simp;refine hK _ _ ?_;clear hK K;refine wpAnyIn_done (by kernel_rfl) ?_ _
       (try gi_wp2)
       refine ⟨rb,bI.out.1,rfl,oZ H (.slice (some ⟨g',0,none⟩) (hl+1) cap') (fun k=>G k\/k=g2),?_,?_,fun k hk=>?_⟩
       ·rw [jh.out];exact bI.out.2.1
       ·rw [jh.out];exact bI.out.2.2.1
       ·rcases bI.out.2.2.2 k hk with e | e | e
        ·exact .inl e
        ·exact .inr (.inl e)
        ·exact .inr (.inr (by rw [e];rfl))
     ·go_simp;refine hK _ _ ?_;clear hK K
      refine wpAnyIn_ready (rs:=[1,3]) (by kernel_rfl) (by simp) ?_;refine AllReadyIn.cons rfl (fun K hK=>?_) (AllReadyIn.cons rfl (fun K hK=>?_) AllReadyIn.nil)
      ·go_simp;refine hK _ _ ?_;clear hK K
       refine wpAnyIn_ready (rs:=[3]) (by kernel_rfl) (by simp) ?_;refine AllReadyIn.cons rfl (fun K hK=>?_) AllReadyIn.nil;go_simp;refine hK _ _ ?_;clear hK K;refine wpAnyIn_ready (rs:=[4]) (by kernel_rfl) (by simp) ?_;refine AllReadyIn.cons rfl (fun K hK=>?_) AllReadyIn.nil;go_simp;refine hK _ _ ?_;clear hK K;refine wpAnyIn_ready (rs:=[5]) (by kernel_rfl) (by simp) ?_;refine AllReadyIn.cons rfl (fun K hK=>?_) AllReadyIn.nil;go_simp;refine hK _ _ ?_;clear hK K;refine wpAnyIn_ready (rs:=[6]) (by kernel_rfl) (by simp) ?_;refine AllReadyIn.cons rfl (fun K hK=>?_) AllReadyIn.nil;refine bA rfl (.tmp 22) (.tmp 27) _ rfl _ _ _ rfl rfl hrun ?_;(try go_simp);refine hK _ _ ?_;clear hK K;refine wpAnyIn_ready (rs:=[7]) (by kernel_rfl) (by simp) ?_;refine AllReadyIn.cons rfl (fun K hK=>?_) AllReadyIn.nil;go_simp;refine hK _ _ ?_;clear hK K;refine wpAnyIn_done (by kernel_rfl) ?_ _
       (try gi_wp2)
       refine ⟨rb,bI.out.1,rfl,oZ H (.slice (some ⟨g',0,none⟩) (hl+1) cap') (fun k=>G k\/k=g2),?_,?_,fun k hk=>?_⟩
       ·rw [jh.out];exact bI.out.2.1
       ·rw [jh.out];exact bI.out.2.2.1
       ·rcases bI.out.2.2.2 k hk with e | e | e
        ·exact .inl e
        ·exact .inr (.inl e)
        ·exact .inr (.inr (by rw [e];rfl))
      ·go_simp;refine hK _ _ ?_;clear hK K
       refine wpAnyIn_ready (rs:=[1]) (by kernel_rfl) (by simp) ?_;refine AllReadyIn.cons rfl (fun K hK=>?_) AllReadyIn.nil;go_simp;refine hK _ _ ?_;clear hK K;refine wpAnyIn_ready (rs:=[4]) (by kernel_rfl) (by simp) ?_;refine AllReadyIn.cons rfl (fun K hK=>?_) AllReadyIn.nil;go_simp;refine hK _ _ ?_;clear hK K;refine wpAnyIn_ready (rs:=[5]) (by kernel_rfl) (by simp) ?_;refine AllReadyIn.cons rfl (fun K hK=>?_) AllReadyIn.nil;go_simp;refine hK _ _ ?_;clear hK K;refine wpAnyIn_ready (rs:=[6]) (by kernel_rfl) (by simp) ?_;refine AllReadyIn.cons rfl (fun K hK=>?_) AllReadyIn.nil;refine bA rfl (.tmp 22) (.tmp 27) _ rfl _ _ _ rfl rfl hrun ?_;(try go_simp);refine hK _ _ ?_;clear hK K;refine wpAnyIn_ready (rs:=[7]) (by kernel_rfl) (by simp) ?_;refine AllReadyIn.cons rfl (fun K hK=>?_) AllReadyIn.nil;go_simp;refine hK _ _ ?_;clear hK K;refine wpAnyIn_done (by kernel_rfl) ?_ _
       (try gi_wp2)
       refine ⟨rb,bI.out.1,rfl,oZ H (.slice (some ⟨g',0,none⟩) (hl+1) cap') (fun k=>G k\/k=g2),?_,?_,fun k hk=>?_⟩
       ·rw [jh.out];exact bI.out.2.1
       ·rw [jh.out];exact bI.out.2.2.1
       ·rcases bI.out.2.2.2 k hk with e | e | e
        ·exact .inl e
        ·exact .inr (.inl e)
        ·exact .inr (.inr (by rw [e];rfl))
     ·go_simp;refine hK _ _ ?_;clear hK K
      refine wpAnyIn_ready (rs:=[1,2]) (by kernel_rfl) (by simp) ?_;refine AllReadyIn.cons rfl (fun K hK=>?_) (AllReadyIn.cons rfl (fun K hK=>?_) AllReadyIn.nil)
      ·go_simp;refine hK _ _ ?_;clear hK K
       refine wpAnyIn_ready (rs:=[2]) (by kernel_rfl) (by simp) ?_;refine AllReadyIn.cons rfl (fun K hK=>?_) AllReadyIn.nil;go_simp;refine hK _ _ ?_;clear hK K;refine wpAnyIn_ready (rs:=[4]) (by kernel_rfl) (by simp) ?_;refine AllReadyIn.cons rfl (fun K hK=>?_) AllReadyIn.nil;go_simp;refine hK _ _ ?_;clear hK K;refine wpAnyIn_ready (rs:=[5]) (by kernel_rfl) (by simp) ?_;refine AllReadyIn.cons rfl (fun K hK=>?_) AllReadyIn.nil;go_simp;refine hK _ _ ?_;clear hK K;refine wpAnyIn_ready (rs:=[6]) (by kernel_rfl) (by simp) ?_;refine AllReadyIn.cons rfl (fun K hK=>?_) AllReadyIn.nil;refine bA rfl (.tmp 22) (.tmp 27) _ rfl _ _ _ rfl rfl hrun ?_;(try go_simp);refine hK _ _ ?_;clear hK K;refine wpAnyIn_ready (rs:=[7]) (by kernel_rfl) (by simp) ?_;refine AllReadyIn.cons rfl (fun K hK=>?_) AllReadyIn.nil;go_simp;refine hK _ _ ?_;clear hK K;refine wpAnyIn_done (by kernel_rfl) ?_ _
       (try gi_wp2)
       refine ⟨rb,bI.out.1,rfl,oZ H (.slice (some ⟨g',0,none⟩) (hl+1) cap') (fun k=>G k\/k=g2),?_,?_,fun k hk=>?_⟩
       ·rw [jh.out];exact bI.out.2.1
       ·rw [jh.out];exact bI.out.2.2.1
       ·rcases bI.out.2.2.2 k hk with e | e | e
        ·exact .inl e
        ·exact .inr (.inl e)
        ·exact .inr (.inr (by rw [e];rfl))
      ·go_simp;refine hK _ _ ?_;clear hK K
       refine wpAnyIn_ready (rs:=[1]) (by kernel_rfl) (by simp) ?_;refine AllReadyIn.cons rfl (fun K hK=>?_) AllReadyIn.nil;go_simp;refine hK _ _ ?_;clear hK K;refine wpAnyIn_ready (rs:=[4]) (by kernel_rfl) (by simp) ?_;refine AllReadyIn.cons rfl (fun K hK=>?_) AllReadyIn.nil;go_simp;refine hK _ _ ?_;clear hK K;refine wpAnyIn_ready (rs:=[5]) (by kernel_rfl) (by simp) ?_;refine AllReadyIn.cons rfl (fun K hK=>?_) AllReadyIn.nil;go_simp;refine hK _ _ ?_;clear hK K;refine wpAnyIn_ready (rs:=[6]) (by kernel_rfl) (by simp) ?_;refine AllReadyIn.cons rfl (fun K hK=>?_) AllReadyIn.nil;refine bA rfl (.tmp 22) (.tmp 27) _ rfl _ _ _ rfl rfl hrun ?_;(try go_simp);refine hK _ _ ?_;clear hK K;refine wpAnyIn_ready (rs:=[7]) (by kernel_rfl) (by simp) ?_;refine AllReadyIn.cons rfl (fun K hK=>?_) AllReadyIn.nil;go_simp;refine hK _ _ ?_;clear hK K;refine wpAnyIn_done (by kernel_rfl) ?_ _
       (try gi_wp2)
       refine ⟨rb,bI.out.1,rfl,oZ H (.slice (some ⟨g',0,none⟩) (hl+1) cap') (fun k=>G k\/k=g2),?_,?_,fun k hk=>?_⟩
       ·rw [jh.out];exact bI.out.2.1
       ·rw [jh.out];exact bI.out.2.2.1
       ·rcases bI.out.2.2.2 k hk with e | e | e
        ·exact .inl e
        ·exact .inr (.inl e)
        ·exact .inr (.inr (by rw [e];rfl))
    ·go_simp;refine hK _ _ ?_;clear hK K
     refine wpAnyIn_ready (rs:=[0,2,3]) (by kernel_rfl) (by simp) ?_;refine AllReadyIn.cons rfl (fun K hK=>?_) (AllReadyIn.cons rfl (fun K hK=>?_) (AllReadyIn.cons rfl (fun K hK=>?_) AllReadyIn.nil))
     ·go_simp;refine hK _ _ ?_;clear hK K
      refine wpAnyIn_ready (rs:=[2,3]) (by kernel_rfl) (by simp) ?_;refine AllReadyIn.cons rfl (fun K hK=>?_) (AllReadyIn.cons rfl (fun K hK=>?_) AllReadyIn.nil)
      ·go_simp;refine hK _ _ ?_;clear hK K
       refine wpAnyIn_ready (rs:=[3]) (by kernel_rfl) (by simp) ?_;refine AllReadyIn.cons rfl (fun K hK=>?_) AllReadyIn.nil;go_simp;refine hK _ _ ?_;clear hK K;refine wpAnyIn_ready (rs:=[4]) (by kernel_rfl) (by simp) ?_;refine AllReadyIn.cons rfl (fun K hK=>?_) AllReadyIn.nil;go_simp;refine hK _ _ ?_;clear hK K;refine wpAnyIn_ready (rs:=[5]) (by kernel_rfl) (by simp) ?_;refine AllReadyIn.cons rfl (fun K hK=>?_) AllReadyIn.nil;go_simp;refine hK _ _ ?_;clear hK K;refine wpAnyIn_ready (rs:=[6]) (by kernel_rfl) (by simp) ?_;refine AllReadyIn.cons rfl (fun K hK=>?_) AllReadyIn.nil;refine bA rfl (.tmp 22) (.tmp 27) _ rfl _ _ _ rfl rfl hrun ?_;(try go_simp);refine hK _ _ ?_;clear hK K;refine wpAnyIn_ready (rs:=[7]) (by kernel_rfl) (by simp) ?_;refine AllReadyIn.cons rfl (fun K hK=>?_) AllReadyIn.nil;go_simp;refine hK _ _ ?_;clear hK K;refine wpAnyIn_done (by kernel_rfl) ?_ _
       (try gi_wp2)
       refine ⟨rb,bI.out.1,rfl,oZ H (.slice (some ⟨g',0,none⟩) (hl+1) cap') (fun k=>G k\/k=g2),?_,?_,fun k hk=>?_⟩
       ·rw [jh.out];exact bI.out.2.1
       ·rw [jh.out];exact bI.out.2.2.1
       ·rcases bI.out.2.2.2 k hk with e | e | e
        ·exact .inl e
        ·exact .inr (.inl e)
        ·exact .inr (.inr (by rw [e];rfl))
      ·go_simp;refine hK _ _ ?_;clear hK K
       refine wpAnyIn_ready (rs:=[2]) (by kernel_rfl) (by simp) ?_;refine AllReadyIn.cons rfl (fun K hK=>?_) AllReadyIn.nil;go_simp;refine hK _ _ ?_;clear hK K;refine wpAnyIn_ready (rs:=[4]) (by kernel_rfl) (by simp) ?_;refine AllReadyIn.cons rfl (fun K hK=>?_) AllReadyIn.nil;go_simp;refine hK _ _ ?_;clear hK K;refine wpAnyIn_ready (rs:=[5]) (by kernel_rfl) (by simp) ?_;refine AllReadyIn.cons rfl (fun K hK=>?_) AllReadyIn.nil;go_simp;refine hK _ _ ?_;clear hK K;refine wpAnyIn_ready (rs:=[6]) (by kernel_rfl) (by simp) ?_;refine AllReadyIn.cons rfl (fun K hK=>?_) AllReadyIn.nil;refine bA rfl (.tmp 22) (.tmp 27) _ rfl _ _ _ rfl rfl hrun ?_;(try go_simp);refine hK _ _ ?_;clear hK K;refine wpAnyIn_ready (rs:=[7]) (by kernel_rfl) (by simp) ?_;refine AllReadyIn.cons rfl (fun K hK=>?_) AllReadyIn.nil;go_simp;refine hK _ _ ?_;clear hK K;refine wpAnyIn_done (by kernel_rfl) ?_ _
       (try gi_wp2)
       refine ⟨rb,bI.out.1,rfl,oZ H (.slice (some ⟨g',0,none⟩) (hl+1) cap') (fun k=>G k\/k=g2),?_,?_,fun k hk=>?_⟩
       ·rw [jh.out];exact bI.out.2.1
       ·rw [jh.out];exact bI.out.2.2.1
       ·rcases bI.out.2.2.2 k hk with e | e | e
        ·exact .inl e
        ·exact .inr (.inl e)
        ·exact .inr (.inr (by rw [e];rfl))
     ·go_simp;refine hK _ _ ?_;clear hK K
      refine wpAnyIn_ready (rs:=[0,3]) (by kernel_rfl) (by simp) ?_;refine AllReadyIn.cons rfl (fun K hK=>?_) (AllReadyIn.cons rfl (fun K hK=>?_) AllReadyIn.nil)
      ·go_simp;refine hK _ _ ?_;clear hK K
       refine wpAnyIn_ready (rs:=[3]) (by kernel_rfl) (by simp) ?_;refine AllReadyIn.cons rfl (fun K hK=>?_) AllReadyIn.nil;go_simp;refine hK _ _ ?_;clear hK K;refine wpAnyIn_ready (rs:=[4]) (by kernel_rfl) (by simp) ?_;refine AllReadyIn.cons rfl (fun K hK=>?_) AllReadyIn.nil;go_simp;refine hK _ _ ?_;clear hK K;refine wpAnyIn_ready (rs:=[5]) (by kernel_rfl) (by simp) ?_;refine AllReadyIn.cons rfl (fun K hK=>?_) AllReadyIn.nil;go_simp;refine hK _ _ ?_;clear hK K;refine wpAnyIn_ready (rs:=[6]) (by kernel_rfl) (by simp) ?_;refine AllReadyIn.cons rfl (fun K hK=>?_) AllReadyIn.nil;refine bA rfl (.tmp 22) (.tmp 27) _ rfl _ _ _ rfl rfl hrun ?_;(try go_simp);refine hK _ _ ?_;clear hK K;refine wpAnyIn_ready (rs:=[7]) (by kernel_rfl) (by simp) ?_;refine AllReadyIn.cons rfl (fun K hK=>?_) AllReadyIn.nil;go_simp;refine hK _ _ ?_;clear hK K;refine wpAnyIn_done (by kernel_rfl) ?_ _
       (try gi_wp2)
       refine ⟨rb,bI.out.1,rfl,oZ H (.slice (some ⟨g',0,none⟩) (hl+1) cap') (fun k=>G k\/k=g2),?_,?_,fun k hk=>?_⟩
       ·rw [jh.out];exact bI.out.2.1
       ·rw [jh.out];exact bI.out.2.2.1
       ·rcases bI.out.2.2.2 k hk with e | e | e
        ·exact .inl e
        ·exact .inr (.inl e)
        ·exact .inr (.inr (by rw [e];rfl))
      ·go_simp;refine hK _ _ ?_;clear hK K
       refine wpAnyIn_ready (rs:=[0,4]) (by kernel_rfl) (by simp) ?_;refine AllReadyIn.cons rfl (fun K hK=>?_) (AllReadyIn.cons rfl (fun K hK=>?_) AllReadyIn.nil)
       ·go_simp;refine hK _ _ ?_;clear hK K
        refine wpAnyIn_ready (rs:=[4]) (by kernel_rfl) (by simp) ?_;refine AllReadyIn.cons rfl (fun K hK=>?_) AllReadyIn.nil;go_simp;refine hK _ _ ?_;clear hK K;refine wpAnyIn_ready (rs:=[5]) (by kernel_rfl) (by simp) ?_;refine AllReadyIn.cons rfl (fun K hK=>?_) AllReadyIn.nil;go_simp;refine hK _ _ ?_;clear hK K;refine wpAnyIn_ready (rs:=[6]) (by kernel_rfl) (by simp) ?_;refine AllReadyIn.cons rfl (fun K hK=>?_) AllReadyIn.nil;refine bA rfl (.tmp 22) (.tmp 27) _ rfl _ _ _ rfl rfl hrun ?_;(try go_simp);refine hK _ _ ?_;clear hK K;refine wpAnyIn_ready (rs:=[7]) (by kernel_rfl) (by simp) ?_;refine AllReadyIn.cons rfl (fun K hK=>?_) AllReadyIn.nil;go_simp;refine hK _ _ ?_;clear hK K;refine wpAnyIn_done (by kernel_rfl) ?_ _
        (try gi_wp2)
        refine ⟨rb,bI.out.1,rfl,oZ H (.slice (some ⟨g',0,none⟩) (hl+1) cap') (fun k=>G k\/k=g2),?_,?_,fun k hk=>?_⟩
        ·rw [jh.out];exact bI.out.2.1
        ·rw [jh.out];exact bI.out.2.2.1
        ·rcases bI.out.2.2.2 k hk with e | e | e
         ·exact .inl e
         ·exact .inr (.inl e)
         ·exact .inr (.inr (by rw [e];rfl))
       ·go_simp;refine hK _ _ ?_;clear hK K
        refine wpAnyIn_ready (rs:=[0,5]) (by kernel_rfl) (by simp) ?_;refine AllReadyIn.cons rfl (fun K hK=>?_) (AllReadyIn.cons rfl (fun K hK=>?_) AllReadyIn.nil)
        ·go_simp;refine hK _ _ ?_;clear hK K
         refine wpAnyIn_ready (rs:=[5]) (by kernel_rfl) (by simp) ?_;refine AllReadyIn.cons rfl (fun K hK=>?_) AllReadyIn.nil;go_simp;refine hK _ _ ?_;clear hK K;refine wpAnyIn_ready (rs:=[6]) (by kernel_rfl) (by simp) ?_;refine AllReadyIn.cons rfl (fun K hK=>?_) AllReadyIn.nil;refine bA rfl (.tmp 22) (.tmp 27) _ rfl _ _ _ rfl rfl hrun ?_;(try go_simp);refine hK _ _ ?_;clear hK K;refine wpAnyIn_ready (rs:=[7]) (by kernel_rfl) (by simp) ?_;refine AllReadyIn.cons rfl (fun K hK=>?_) AllReadyIn.nil;go_simp;refine hK _ _ ?_;clear hK K;refine wpAnyIn_done (by kernel_rfl) ?_ _
         (try gi_wp2)
         refine ⟨rb,bI.out.1,rfl,oZ H (.slice (some ⟨g',0,none⟩) (hl+1) cap') (fun k=>G k\/k=g2),?_,?_,fun k hk=>?_⟩
         ·rw [jh.out];exact bI.out.2.1
         ·rw [jh.out];exact bI.out.2.2.1
         ·rcases bI.out.2.2.2 k hk with e | e | e
          ·exact .inl e
          ·exact .inr (.inl e)
          ·exact .inr (.inr (by rw [e];rfl))
        ·go_simp;refine hK _ _ ?_;clear hK K
         refine wpAnyIn_ready (rs:=[0]) (by kernel_rfl) (by simp) ?_;refine AllReadyIn.cons rfl (fun K hK=>?_) AllReadyIn.nil;go_simp;refine hK _ _ ?_;clear hK K;refine wpAnyIn_ready (rs:=[6]) (by kernel_rfl) (by simp) ?_;refine AllReadyIn.cons rfl (fun K hK=>?_) AllReadyIn.nil;refine bA rfl (.tmp 22) (.tmp 27) _ rfl _ _ _ rfl rfl hrun ?_;(try go_simp);refine hK _ _ ?_;clear hK K;refine wpAnyIn_ready (rs:=[7]) (by kernel_rfl) (by simp) ?_;refine AllReadyIn.cons rfl (fun K hK=>?_) AllReadyIn.nil;go_simp;refine hK _ _ ?_;clear hK K;refine wpAnyIn_done (by kernel_rfl) ?_ _
         (try gi_wp2)
         refine ⟨rb,bI.out.1,rfl,oZ H (.slice (some ⟨g',0,none⟩) (hl+1) cap') (fun k=>G k\/k=g2),?_,?_,fun k hk=>?_⟩
         ·rw [jh.out];exact bI.out.2.1
         ·rw [jh.out];exact bI.out.2.2.1
         ·rcases bI.out.2.2.2 k hk with e | e | e
          ·exact .inl e
          ·exact .inr (.inl e)
          ·exact .inr (.inr (by rw [e];rfl))
     ·go_simp;refine hK _ _ ?_;clear hK K
      refine wpAnyIn_ready (rs:=[0,2]) (by kernel_rfl) (by simp) ?_;refine AllReadyIn.cons rfl (fun K hK=>?_) (AllReadyIn.cons rfl (fun K hK=>?_) AllReadyIn.nil)
      ·go_simp;refine hK _ _ ?_;clear hK K
       refine wpAnyIn_ready (rs:=[2]) (by kernel_rfl) (by simp) ?_;refine AllReadyIn.cons rfl (fun K hK=>?_) AllReadyIn.nil;go_simp;refine hK _ _ ?_;clear hK K;refine wpAnyIn_ready (rs:=[4]) (by kernel_rfl) (by simp) ?_;refine AllReadyIn.cons rfl (fun K hK=>?_) AllReadyIn.nil;go_simp;refine hK _ _ ?_;clear hK K;refine wpAnyIn_ready (rs:=[5]) (by kernel_rfl) (by simp) ?_;refine AllReadyIn.cons rfl (fun K hK=>?_) AllReadyIn.nil;go_simp;refine hK _ _ ?_;clear hK K;refine wpAnyIn_ready (rs:=[6]) (by kernel_rfl) (by simp) ?_;refine AllReadyIn.cons rfl (fun K hK=>?_) AllReadyIn.nil;refine bA rfl (.tmp 22) (.tmp 27) _ rfl _ _ _ rfl rfl hrun ?_;(try go_simp);refine hK _ _ ?_;clear hK K;refine wpAnyIn_ready (rs:=[7]) (by kernel_rfl) (by simp) ?_;refine AllReadyIn.cons rfl (fun K hK=>?_) AllReadyIn.nil;go_simp;refine hK _ _ ?_;clear hK K;refine wpAnyIn_done (by kernel_rfl) ?_ _
       (try gi_wp2)
       refine ⟨rb,bI.out.1,rfl,oZ H (.slice (some ⟨g',0,none⟩) (hl+1) cap') (fun k=>G k\/k=g2),?_,?_,fun k hk=>?_⟩
       ·rw [jh.out];exact bI.out.2.1
       ·rw [jh.out];exact bI.out.2.2.1
       ·rcases bI.out.2.2.2 k hk with e | e | e
        ·exact .inl e
        ·exact .inr (.inl e)
        ·exact .inr (.inr (by rw [e];rfl))
      ·go_simp;refine hK _ _ ?_;clear hK K
       refine wpAnyIn_ready (rs:=[0,4]) (by kernel_rfl) (by simp) ?_;refine AllReadyIn.cons rfl (fun K hK=>?_) (AllReadyIn.cons rfl (fun K hK=>?_) AllReadyIn.nil)
       ·go_simp;refine hK _ _ ?_;clear hK K
        refine wpAnyIn_ready (rs:=[4]) (by kernel_rfl) (by simp) ?_;refine AllReadyIn.cons rfl (fun K hK=>?_) AllReadyIn.nil;go_simp;refine hK _ _ ?_;clear hK K;refine wpAnyIn_ready (rs:=[5]) (by kernel_rfl) (by simp) ?_;refine AllReadyIn.cons rfl (fun K hK=>?_) AllReadyIn.nil;go_simp;refine hK _ _ ?_;clear hK K;refine wpAnyIn_ready (rs:=[6]) (by kernel_rfl) (by simp) ?_;refine AllReadyIn.cons rfl (fun K hK=>?_) AllReadyIn.nil;refine bA rfl (.tmp 22) (.tmp 27) _ rfl _ _ _ rfl rfl hrun ?_;(try go_simp);refine hK _ _ ?_;clear hK K;refine wpAnyIn_ready (rs:=[7]) (by kernel_rfl) (by simp) ?_;refine AllReadyIn.cons rfl (fun K hK=>?_) AllReadyIn.nil;go_simp;refine hK _ _ ?_;clear hK K;refine wpAnyIn_done (by kernel_rfl) ?_ _
        (try gi_wp2)
        refine ⟨rb,bI.out.1,rfl,oZ H (.slice (some ⟨g',0,none⟩) (hl+1) cap') (fun k=>G k\/k=g2),?_,?_,fun k hk=>?_⟩
        ·rw [jh.out];exact bI.out.2.1
        ·rw [jh.out];exact bI.out.2.2.1
        ·rcases bI.out.2.2.2 k hk with e | e | e
         ·exact .inl e
         ·exact .inr (.inl e)
         ·exact .inr (.inr (by rw [e];rfl))
       ·go_simp;refine hK _ _ ?_;clear hK K
        refine wpAnyIn_ready (rs:=[0,5]) (by kernel_rfl) (by simp) ?_;refine AllReadyIn.cons rfl (fun K hK=>?_) (AllReadyIn.cons rfl (fun K hK=>?_) AllReadyIn.nil)
        ·go_simp;refine hK _ _ ?_;clear hK K
         refine wpAnyIn_ready (rs:=[5]) (by kernel_rfl) (by simp) ?_;refine AllReadyIn.cons rfl (fun K hK=>?_) AllReadyIn.nil;go_simp;refine hK _ _ ?_;clear hK K;refine wpAnyIn_ready (rs:=[6]) (by kernel_rfl) (by simp) ?_;refine AllReadyIn.cons rfl (fun K hK=>?_) AllReadyIn.nil;refine bA rfl (.tmp 22) (.tmp 27) _ rfl _ _ _ rfl rfl hrun ?_;(try go_simp);refine hK _ _ ?_;clear hK K;refine wpAnyIn_ready (rs:=[7]) (by kernel_rfl) (by simp) ?_;refine AllReadyIn.cons rfl (fun K hK=>?_) AllReadyIn.nil;go_simp;refine hK _ _ ?_;clear hK K;refine wpAnyIn_done (by kernel_rfl) ?_ _
         (try gi_wp2)
         refine ⟨rb,bI.out.1,rfl,oZ H (.slice (some ⟨g',0,none⟩) (hl+1) cap') (fun k=>G k\/k=g2),?_,?_,fun k hk=>?_⟩
         ·rw [jh.out];exact bI.out.2.1
         ·rw [jh.out];exact bI.out.2.2.1
         ·rcases bI.out.2.2.2 k hk with e | e | e
          ·exact .inl e
          ·exact .inr (.inl e)
          ·exact .inr (.inr (by rw [e];rfl))
        ·go_simp;refine hK _ _ ?_;clear hK K
         refine wpAnyIn_ready (rs:=[0]) (by kernel_rfl) (by simp) ?_;refine AllReadyIn.cons rfl (fun K hK=>?_) AllReadyIn.nil;go_simp;refine hK _ _ ?_;clear hK K;refine wpAnyIn_ready (rs:=[6]) (by kernel_rfl) (by simp) ?_;refine AllReadyIn.cons rfl (fun K hK=>?_) AllReadyIn.nil;refine bA rfl (.tmp 22) (.tmp 27) _ rfl _ _ _ rfl rfl hrun ?_;(try go_simp);refine hK _ _ ?_;clear hK K;refine wpAnyIn_ready (rs:=[7]) (by kernel_rfl) (by simp) ?_;refine AllReadyIn.cons rfl (fun K hK=>?_) AllReadyIn.nil;go_simp;refine hK _ _ ?_;clear hK K;refine wpAnyIn_done (by kernel_rfl) ?_ _
         (try gi_wp2)
         refine ⟨rb,bI.out.1,rfl,oZ H (.slice (some ⟨g',0,none⟩) (hl+1) cap') (fun k=>G k\/k=g2),?_,?_,fun k hk=>?_⟩
         ·rw [jh.out];exact bI.out.2.1
         ·rw [jh.out];exact bI.out.2.2.1
         ·rcases bI.out.2.2.2 k hk with e | e | e
          ·exact .inl e
          ·exact .inr (.inl e)
          ·exact .inr (.inr (by rw [e];rfl))
    ·go_simp;refine hK _ _ ?_;clear hK K
     refine wpAnyIn_ready (rs:=[0,1,3]) (by kernel_rfl) (by simp) ?_;refine AllReadyIn.cons rfl (fun K hK=>?_) (AllReadyIn.cons rfl (fun K hK=>?_) (AllReadyIn.cons rfl (fun K hK=>?_) AllReadyIn.nil))
     ·go_simp;refine hK _ _ ?_;clear hK K
      refine wpAnyIn_ready (rs:=[1,3]) (by kernel_rfl) (by simp) ?_;refine AllReadyIn.cons rfl (fun K hK=>?_) (AllReadyIn.cons rfl (fun K hK=>?_) AllReadyIn.nil)
      ·go_simp;refine hK _ _ ?_;clear hK K
       refine wpAnyIn_ready (rs:=[3]) (by kernel_rfl) (by simp) ?_;refine AllReadyIn.cons rfl (fun K hK=>?_) AllReadyIn.nil;go_simp;refine hK _ _ ?_;clear hK K;refine wpAnyIn_ready (rs:=[4]) (by kernel_rfl) (by simp) ?_;refine AllReadyIn.cons rfl (fun K hK=>?_) AllReadyIn.nil;go_simp;refine hK _ _ ?_;clear hK K;refine wpAnyIn_ready (rs:=[5]) (by kernel_rfl) (by simp) ?_;refine AllReadyIn.cons rfl (fun K hK=>?_) AllReadyIn.nil;go_simp;refine hK _ _ ?_;clear hK K;refine wpAnyIn_ready (rs:=[6]) (by kernel_rfl) (by simp) ?_;refine AllReadyIn.cons rfl (fun K hK=>?_) AllReadyIn.nil;refine bA rfl (.tmp 22) (.tmp 27) _ rfl _ _ _ rfl rfl hrun ?_;(try go_simp);refine hK _ _ ?_;clear hK K;refine wpAnyIn_ready (rs:=[7]) (by kernel_rfl) (by simp) ?_;refine AllReadyIn.cons rfl (fun K hK=>?_) AllReadyIn.nil;go_simp;refine hK _ _ ?_;clear hK K;refine wpAnyIn_done (by kernel_rfl) ?_ _
       (try gi_wp2)
       refine ⟨rb,bI.out.1,rfl,oZ H (.slice (some ⟨g',0,none⟩) (hl+1) cap') (fun k=>G k\/k=g2),?_,?_,fun k hk=>?_⟩
       ·rw [jh.out];exact bI.out.2.1
       ·rw [jh.out];exact bI.out.2.2.1
       ·rcases bI.out.2.2.2 k hk with e | e | e
        ·exact .inl e
        ·exact .inr (.inl e)
        ·exact .inr (.inr (by rw [e];rfl))
      ·go_simp;refine hK _ _ ?_;clear hK K
       refine wpAnyIn_ready (rs:=[1]) (by kernel_rfl) (by simp) ?_;refine AllReadyIn.cons rfl (fun K hK=>?_) AllReadyIn.nil;go_simp;refine hK _ _ ?_;clear hK K;refine wpAnyIn_ready (rs:=[4]) (by kernel_rfl) (by simp) ?_;refine AllReadyIn.cons rfl (fun K hK=>?_) AllReadyIn.nil;go_simp;refine hK _ _ ?_;clear hK K;refine wpAnyIn_ready (rs:=[5]) (by kernel_rfl) (by simp) ?_;refine AllReadyIn.cons rfl (fun K hK=>?_) AllReadyIn.nil;go_simp;refine hK _ _ ?_;clear hK K;refine wpAnyIn_ready (rs:=[6]) (by kernel_rfl) (by simp) ?_;refine AllReadyIn.cons rfl (fun K hK=>?_) AllReadyIn.nil;refine bA rfl (.tmp 22) (.tmp 27) _ rfl _ _ _ rfl rfl hrun ?_;(try go_simp);refine hK _ _ ?_;clear hK K;refine wpAnyIn_ready (rs:=[7]) (by kernel_rfl) (by simp) ?_;refine AllReadyIn.cons rfl (fun K hK=>?_) AllReadyIn.nil;go_simp;refine hK _ _ ?_;clear hK K;refine wpAnyIn_done (by kernel_rfl) ?_ _
       (try gi_wp2)
       refine ⟨rb,bI.out.1,rfl,oZ H (.slice (some ⟨g',0,none⟩) (hl+1) cap') (fun k=>G k\/k=g2),?_,?_,fun k hk=>?_⟩
       ·rw [jh.out];exact bI.out.2.1
       ·rw [jh.out];exact bI.out.2.2.1
       ·rcases bI.out.2.2.2 k hk with e | e | e
        ·exact .inl e
        ·exact .inr (.inl e)
        ·exact .inr (.inr (by rw [e];rfl))
     ·go_simp;refine hK _ _ ?_;clear hK K
      refine wpAnyIn_ready (rs:=[0,3]) (by kernel_rfl) (by simp) ?_;refine AllReadyIn.cons rfl (fun K hK=>?_) (AllReadyIn.cons rfl (fun K hK=>?_) AllReadyIn.nil)
      ·go_simp;refine hK _ _ ?_;clear hK K
       refine wpAnyIn_ready (rs:=[3]) (by kernel_rfl) (by simp) ?_;refine AllReadyIn.cons rfl (fun K hK=>?_) AllReadyIn.nil;go_simp;refine hK _ _ ?_;clear hK K;refine wpAnyIn_ready (rs:=[4]) (by kernel_rfl) (by simp) ?_;refine AllReadyIn.cons rfl (fun K hK=>?_) AllReadyIn.nil;go_simp;refine hK _ _ ?_;clear hK K;refine wpAnyIn_ready (rs:=[5]) (by kernel_rfl) (by simp) ?_;refine AllReadyIn.cons rfl (fun K hK=>?_) AllReadyIn.nil;go_simp;refine hK _ _ ?_;clear hK K;refine wpAnyIn_ready (rs:=[6]) (by kernel_rfl) (by simp) ?_;refine AllReadyIn.cons rfl (fun K hK=>?_) AllReadyIn.nil;refine bA rfl (.tmp 22) (.tmp 27) _ rfl _ _ _ rfl rfl hrun ?_;(try go_simp);refine hK _ _ ?_;clear hK K;refine wpAnyIn_ready (rs:=[7]) (by kernel_rfl) (by simp) ?_;refine AllReadyIn.cons rfl (fun K hK=>?_) AllReadyIn.nil;go_simp;refine hK _ _ ?_;clear hK K;refine wpAnyIn_done (by kernel_rfl) ?_ _
       (try gi_wp2)
       refine ⟨rb,bI.out.1,rfl,oZ H (.slice (some ⟨g',0,none⟩) (hl+1) cap') (fun k=>G k\/k=g2),?_,?_,fun k hk=>?_⟩
       ·rw [jh.out];exact bI.out.2.1
       ·rw [jh.out];exact bI.out.2.2.1
       ·rcases bI.out.2.2.2 k hk with e | e | e
        ·exact .inl e
        ·exact .inr (.inl e)
        ·exact .inr (.inr (by rw [e];rfl))
      ·go_simp;refine hK _ _ ?_;clear hK K
       refine wpAnyIn_ready (rs:=[0,4]) (by kernel_rfl) (by simp) ?_;refine AllReadyIn.cons rfl (fun K hK=>?_) (AllReadyIn.cons rfl (fun K hK=>?_) AllReadyIn.nil)
       ·go_simp;refine hK _ _ ?_;clear hK K
        refine wpAnyIn_ready (rs:=[4]) (by kernel_rfl) (by simp) ?_;refine AllReadyIn.cons rfl (fun K hK=>?_) AllReadyIn.nil;go_simp;refine hK _ _ ?_;clear hK K;refine wpAnyIn_ready (rs:=[5]) (by kernel_rfl) (by simp) ?_;refine AllReadyIn.cons rfl (fun K hK=>?_) AllReadyIn.nil;go_simp;refine hK _ _ ?_;clear hK K;refine wpAnyIn_ready (rs:=[6]) (by kernel_rfl) (by simp) ?_;refine AllReadyIn.cons rfl (fun K hK=>?_) AllReadyIn.nil;refine bA rfl (.tmp 22) (.tmp 27) _ rfl _ _ _ rfl rfl hrun ?_;(try go_simp);refine hK _ _ ?_;clear hK K;refine wpAnyIn_ready (rs:=[7]) (by kernel_rfl) (by simp) ?_;refine AllReadyIn.cons rfl (fun K hK=>?_) AllReadyIn.nil;go_simp;refine hK _ _ ?_;clear hK K;refine wpAnyIn_done (by kernel_rfl) ?_ _
        (try gi_wp2)
        refine ⟨rb,bI.out.1,rfl,oZ H (.slice (some ⟨g',0,none⟩) (hl+1) cap') (fun k=>G k\/k=g2),?_,?_,fun k hk=>?_⟩
        ·rw [jh.out];exact bI.out.2.1
        ·rw [jh.out];exact bI.out.2.2.1
        ·rcases bI.out.2.2.2 k hk with e | e | e
         ·exact .inl e
         ·exact .inr (.inl e)
         ·exact .inr (.inr (by rw [e];rfl))
       ·go_simp;refine hK _ _ ?_;clear hK K
        refine wpAnyIn_ready (rs:=[0,5]) (by kernel_rfl) (by simp) ?_;refine AllReadyIn.cons rfl (fun K hK=>?_) (AllReadyIn.cons rfl (fun K hK=>?_) AllReadyIn.nil)
        ·go_simp;refine hK _ _ ?_;clear hK K
         refine wpAnyIn_ready (rs:=[5]) (by kernel_rfl) (by simp) ?_;refine AllReadyIn.cons rfl (fun K hK=>?_) AllReadyIn.nil;go_simp;refine hK _ _ ?_;clear hK K;refine wpAnyIn_ready (rs:=[6]) (by kernel_rfl) (by simp) ?_;refine AllReadyIn.cons rfl (fun K hK=>?_) AllReadyIn.nil;refine bA rfl (.tmp 22) (.tmp 27) _ rfl _ _ _ rfl rfl hrun ?_;(try go_simp);refine hK _ _ ?_;clear hK K;refine wpAnyIn_ready (rs:=[7]) (by kernel_rfl) (by simp) ?_;refine AllReadyIn.cons rfl (fun K hK=>?_) AllReadyIn.nil;go_simp;refine hK _ _ ?_;clear hK K;refine wpAnyIn_done (by kernel_rfl) ?_ _
         (try gi_wp2)
         refine ⟨rb,bI.out.1,rfl,oZ H (.slice (some ⟨g',0,none⟩) (hl+1) cap') (fun k=>G k\/k=g2),?_,?_,fun k hk=>?_⟩
         ·rw [jh.out];exact bI.out.2.1
         ·rw [jh.out];exact bI.out.2.2.1
         ·rcases bI.out.2.2.2 k hk with e | e | e
          ·exact .inl e
          ·exact .inr (.inl e)
          ·exact .inr (.inr (by rw [e];rfl))
        ·go_simp;refine hK _ _ ?_;clear hK K
         refine wpAnyIn_ready (rs:=[0]) (by kernel_rfl) (by simp) ?_;refine AllReadyIn.cons rfl (fun K hK=>?_) AllReadyIn.nil;go_simp;refine hK _ _ ?_;clear hK K;refine wpAnyIn_ready (rs:=[6]) (by kernel_rfl) (by simp) ?_;refine AllReadyIn.cons rfl (fun K hK=>?_) AllReadyIn.nil;refine bA rfl (.tmp 22) (.tmp 27) _ rfl _ _ _ rfl rfl hrun ?_;(try go_simp);refine hK _ _ ?_;clear hK K;refine wpAnyIn_ready (rs:=[7]) (by kernel_rfl) (by simp) ?_;refine AllReadyIn.cons rfl (fun K hK=>?_) AllReadyIn.nil;go_simp;refine hK _ _ ?_;clear hK K;refine wpAnyIn_done (by kernel_rfl) ?_ _
         (try gi_wp2)
         refine ⟨rb,bI.out.1,rfl,oZ H (.slice (some ⟨g',0,none⟩) (hl+1) cap') (fun k=>G k\/k=g2),?_,?_,fun k hk=>?_⟩
         ·rw [jh.out];exact bI.out.2.1
         ·rw [jh.out];exact bI.out.2.2.1
         ·rcases bI.out.2.2.2 k hk with e | e | e
          ·exact .inl e
          ·exact .inr (.inl e)
          ·exact .inr (.inr (by rw [e];rfl))
     ·go_simp;refine hK _ _ ?_;clear hK K
      refine wpAnyIn_ready (rs:=[0,1]) (by kernel_rfl) (by simp) ?_;refine AllReadyIn.cons rfl (fun K hK=>?_) (AllReadyIn.cons rfl (fun K hK=>?_) AllReadyIn.nil)
      ·go_simp;refine hK _ _ ?_;clear hK K
       refine wpAnyIn_ready (rs:=[1]) (by kernel_rfl) (by simp) ?_;refine AllReadyIn.cons rfl (fun K hK=>?_) AllReadyIn.nil;go_simp;refine hK _ _ ?_;clear hK K;refine wpAnyIn_ready (rs:=[4]) (by kernel_rfl) (by simp) ?_;refine AllReadyIn.cons rfl (fun K hK=>?_) AllReadyIn.nil;go_simp;refine hK _ _ ?_;clear hK K;refine wpAnyIn_ready (rs:=[5]) (by kernel_rfl) (by simp) ?_;refine AllReadyIn.cons rfl (fun K hK=>?_) AllReadyIn.nil;go_simp;refine hK _ _ ?_;clear hK K;refine wpAnyIn_ready (rs:=[6]) (by kernel_rfl) (by simp) ?_;refine AllReadyIn.cons rfl (fun K hK=>?_) AllReadyIn.nil;refine bA rfl (.tmp 22) (.tmp 27) _ rfl _ _ _ rfl rfl hrun ?_;(try go_simp);refine hK _ _ ?_;clear hK K;refine wpAnyIn_ready (rs:=[7]) (by kernel_rfl) (by simp) ?_;refine AllReadyIn.cons rfl (fun K hK=>?_) AllReadyIn.nil;go_simp;refine hK _ _ ?_;clear hK K;refine wpAnyIn_done (by kernel_rfl) ?_ _
       (try gi_wp2)
       refine ⟨rb,bI.out.1,rfl,oZ H (.slice (some ⟨g',0,none⟩) (hl+1) cap') (fun k=>G k\/k=g2),?_,?_,fun k hk=>?_⟩
       ·rw [jh.out];exact bI.out.2.1
       ·rw [jh.out];exact bI.out.2.2.1
       ·rcases bI.out.2.2.2 k hk with e | e | e
        ·exact .inl e
        ·exact .inr (.inl e)
        ·exact .inr (.inr (by rw [e];rfl))
      ·go_simp;refine hK _ _ ?_;clear hK K
       refine wpAnyIn_ready (rs:=[0,4]) (by kernel_rfl) (by simp) ?_;refine AllReadyIn.cons rfl (fun K hK=>?_) (AllReadyIn.cons rfl (fun K hK=>?_) AllReadyIn.nil)
       ·go_simp;refine hK _ _ ?_;clear hK K
        refine wpAnyIn_ready (rs:=[4]) (by kernel_rfl) (by simp) ?_;refine AllReadyIn.cons rfl (fun K hK=>?_) AllReadyIn.nil;go_simp;refine hK _ _ ?_;clear hK K;refine wpAnyIn_ready (rs:=[5]) (by kernel_rfl) (by simp) ?_;refine AllReadyIn.cons rfl (fun K hK=>?_) AllReadyIn.nil;go_simp;refine hK _ _ ?_;clear hK K;refine wpAnyIn_ready (rs:=[6]) (by kernel_rfl) (by simp) ?_;refine AllReadyIn.cons rfl (fun K hK=>?_) AllReadyIn.nil;refine bA rfl (.tmp 22) (.tmp 27) _ rfl _ _ _ rfl rfl hrun ?_;(try go_simp);refine hK _ _ ?_;clear hK K;refine wpAnyIn_ready (rs:=[7]) (by kernel_rfl) (by simp) ?_;refine AllReadyIn.cons rfl (fun K hK=>?_) AllReadyIn.nil;go_simp;refine hK _ _ ?_;clear hK K;refine wpAnyIn_done (by kernel_rfl) ?_ _
        (try gi_wp2)
        refine ⟨rb,bI.out.1,rfl,oZ H (.slice (some ⟨g',0,none⟩) (hl+1) cap') (fun k=>G k\/k=g2),?_,?_,fun k hk=>?_⟩
        ·rw [jh.out];exact bI.out.2.1
        ·rw [jh.out];exact bI.out.2.2.1
        ·rcases bI.out.2.2.2 k hk with e | e | e
         ·exact .inl e
         ·exact .inr (.inl e)
         ·exact .inr (.inr (by rw [e];rfl))
       ·go_simp;refine hK _ _ ?_;clear hK K
        refine wpAnyIn_ready (rs:=[0,5]) (by kernel_rfl) (by simp) ?_;refine AllReadyIn.cons rfl (fun K hK=>?_) (AllReadyIn.cons rfl (fun K hK=>?_) AllReadyIn.nil)
        ·go_simp;refine hK _ _ ?_;clear hK K
         refine wpAnyIn_ready (rs:=[5]) (by kernel_rfl) (by simp) ?_;refine AllReadyIn.cons rfl (fun K hK=>?_) AllReadyIn.nil;go_simp;refine hK _ _ ?_;clear hK K;refine wpAnyIn_ready (rs:=[6]) (by kernel_rfl) (by simp) ?_;refine AllReadyIn.cons rfl (fun K hK=>?_) AllReadyIn.nil;refine bA rfl (.tmp 22) (.tmp 27) _ rfl _ _ _ rfl rfl hrun ?_;(try go_simp);refine hK _ _ ?_;clear hK K;refine wpAnyIn_ready (rs:=[7]) (by kernel_rfl) (by simp) ?_;refine AllReadyIn.cons rfl (fun K hK=>?_) AllReadyIn.nil;go_simp;refine hK _ _ ?_;clear hK K;refine wpAnyIn_done (by kernel_rfl) ?_ _
         (try gi_wp2)
         refine ⟨rb,bI.out.1,rfl,oZ H (.slice (some ⟨g',0,none⟩) (hl+1) cap') (fun k=>G k\/k=g2),?_,?_,fun k hk=>?_⟩
         ·rw [jh.out];exact bI.out.2.1
         ·rw [jh.out];exact bI.out.2.2.1
         ·rcases bI.out.2.2.2 k hk with e | e | e
          ·exact .inl e
          ·exact .inr (.inl e)
          ·exact .inr (.inr (by rw [e];rfl))
        ·go_simp;refine hK _ _ ?_;clear hK K
         refine wpAnyIn_ready (rs:=[0]) (by kernel_rfl) (by simp) ?_;refine AllReadyIn.cons rfl (fun K hK=>?_) AllReadyIn.nil;go_simp;refine hK _ _ ?_;clear hK K;refine wpAnyIn_ready (rs:=[6]) (by kernel_rfl) (by simp) ?_;refine AllReadyIn.cons rfl (fun K hK=>?_) AllReadyIn.nil;refine bA rfl (.tmp 22) (.tmp 27) _ rfl _ _ _ rfl rfl hrun ?_;(try go_simp);refine hK _ _ ?_;clear hK K;refine wpAnyIn_ready (rs:=[7]) (by kernel_rfl) (by simp) ?_;refine AllReadyIn.cons rfl (fun K hK=>?_) AllReadyIn.nil;go_simp;refine hK _ _ ?_;clear hK K;refine wpAnyIn_done (by kernel_rfl) ?_ _
         (try gi_wp2)
         refine ⟨rb,bI.out.1,rfl,oZ H (.slice (some ⟨g',0,none⟩) (hl+1) cap') (fun k=>G k\/k=g2),?_,?_,fun k hk=>?_⟩
         ·rw [jh.out];exact bI.out.2.1
         ·rw [jh.out];exact bI.out.2.2.1
         ·rcases bI.out.2.2.2 k hk with e | e | e
          ·exact .inl e
          ·exact .inr (.inl e)
          ·exact .inr (.inr (by rw [e];rfl))
    ·go_simp;refine hK _ _ ?_;clear hK K
     refine wpAnyIn_ready (rs:=[0,1,2]) (by kernel_rfl) (by simp) ?_;refine AllReadyIn.cons rfl (fun K hK=>?_) (AllReadyIn.cons rfl (fun K hK=>?_) (AllReadyIn.cons rfl (fun K hK=>?_) AllReadyIn.nil))
     ·go_simp;refine hK _ _ ?_;clear hK K
      refine wpAnyIn_ready (rs:=[1,2]) (by kernel_rfl) (by simp) ?_;refine AllReadyIn.cons rfl (fun K hK=>?_) (AllReadyIn.cons rfl (fun K hK=>?_) AllReadyIn.nil)
      ·go_simp;refine hK _ _ ?_;clear hK K
       refine wpAnyIn_ready (rs:=[2]) (by kernel_rfl) (by simp) ?_;refine AllReadyIn.cons rfl (fun K hK=>?_) AllReadyIn.nil;go_simp;refine hK _ _ ?_;clear hK K;refine wpAnyIn_ready (rs:=[4]) (by kernel_rfl) (by simp) ?_;refine AllReadyIn.cons rfl (fun K hK=>?_) AllReadyIn.nil;go_simp;refine hK _ _ ?_;clear hK K;refine wpAnyIn_ready (rs:=[5]) (by kernel_rfl) (by simp) ?_;refine AllReadyIn.cons rfl (fun K hK=>?_) AllReadyIn.nil;go_simp;refine hK _ _ ?_;clear hK K;refine wpAnyIn_ready (rs:=[6]) (by kernel_rfl) (by simp) ?_;refine AllReadyIn.cons rfl (fun K hK=>?_) AllReadyIn.nil;refine bA rfl (.tmp 22) (.tmp 27) _ rfl _ _ _ rfl rfl hrun ?_;(try go_simp);refine hK _ _ ?_;clear hK K;refine wpAnyIn_ready (rs:=[7]) (by kernel_rfl) (by simp) ?_;refine AllReadyIn.cons rfl (fun K hK=>?_) AllReadyIn.nil;go_simp;refine hK _ _ ?_;clear hK K;refine wpAnyIn_done (by kernel_rfl) ?_ _
       (try gi_wp2)
       refine ⟨rb,bI.out.1,rfl,oZ H (.slice (some ⟨g',0,none⟩) (hl+1) cap') (fun k=>G k\/k=g2),?_,?_,fun k hk=>?_⟩
       ·rw [jh.out];exact bI.out.2.1
       ·rw [jh.out];exact bI.out.2.2.1
       ·rcases bI.out.2.2.2 k hk with e | e | e
        ·exact .inl e
        ·exact .inr (.inl e)
        ·exact .inr (.inr (by rw [e];rfl))
      ·go_simp;refine hK _ _ ?_;clear hK K
       refine wpAnyIn_ready (rs:=[1]) (by kernel_rfl) (by simp) ?_;refine AllReadyIn.cons rfl (fun K hK=>?_) AllReadyIn.nil;go_simp;refine hK _ _ ?_;clear hK K;refine wpAnyIn_ready (rs:=[4]) (by kernel_rfl) (by simp) ?_;refine AllReadyIn.cons rfl (fun K hK=>?_) AllReadyIn.nil;go_simp;refine hK _ _ ?_;clear hK K;refine wpAnyIn_ready (rs:=[5]) (by kernel_rfl) (by simp) ?_;refine AllReadyIn.cons rfl (fun K hK=>?_) AllReadyIn.nil;go_simp;refine hK _ _ ?_;clear hK K;refine wpAnyIn_ready (rs:=[6]) (by kernel_rfl) (by simp) ?_;refine AllReadyIn.cons rfl (fun K hK=>?_) AllReadyIn.nil;refine bA rfl (.tmp 22) (.tmp 27) _ rfl _ _ _ rfl rfl hrun ?_;(try go_simp);refine hK _ _ ?_;clear hK K;refine wpAnyIn_ready (rs:=[7]) (by kernel_rfl) (by simp) ?_;refine AllReadyIn.cons rfl (fun K hK=>?_) AllReadyIn.nil;go_simp;refine hK _ _ ?_;clear hK K;refine wpAnyIn_done (by kernel_rfl) ?_ _
       (try gi_wp2)
       refine ⟨rb,bI.out.1,rfl,oZ H (.slice (some ⟨g',0,none⟩) (hl+1) cap') (fun k=>G k\/k=g2),?_,?_,fun k hk=>?_⟩
       ·rw [jh.out];exact bI.out.2.1
       ·rw [jh.out];exact bI.out.2.2.1
       ·rcases bI.out.2.2.2 k hk with e | e | e
        ·exact .inl e
        ·exact .inr (.inl e)
        ·exact .inr (.inr (by rw [e];rfl))
     ·go_simp;refine hK _ _ ?_;clear hK K
      refine wpAnyIn_ready (rs:=[0,2]) (by kernel_rfl) (by simp) ?_;refine AllReadyIn.cons rfl (fun K hK=>?_) (AllReadyIn.cons rfl (fun K hK=>?_) AllReadyIn.nil)
      ·go_simp;refine hK _ _ ?_;clear hK K
       refine wpAnyIn_ready (rs:=[2]) (by kernel_rfl) (by simp) ?_;refine AllReadyIn.cons rfl (fun K hK=>?_) AllReadyIn.nil;go_simp;refine hK _ _ ?_;clear hK K;refine wpAnyIn_ready (rs:=[4]) (by kernel_rfl) (by simp) ?_;refine AllReadyIn.cons rfl (fun K hK=>?_) AllReadyIn.nil;go_simp;refine hK _ _ ?_;clear hK K;refine wpAnyIn_ready (rs:=[5]) (by kernel_rfl) (by simp) ?_;refine AllReadyIn.cons rfl (fun K hK=>?_) AllReadyIn.nil;go_simp;refine hK _ _ ?_;clear hK K;refine wpAnyIn_ready (rs:=[6]) (by kernel_rfl) (by simp) ?_;refine AllReadyIn.cons rfl (fun K hK=>?_) AllReadyIn.nil;refine bA rfl (.tmp 22) (.tmp 27) _ rfl _ _ _ rfl rfl hrun ?_;(try go_simp);refine hK _ _ ?_;clear hK K;refine wpAnyIn_ready (rs:=[7]) (by kernel_rfl) (by simp) ?_;refine AllReadyIn.cons rfl (fun K hK=>?_) AllReadyIn.nil;go_simp;refine hK _ _ ?_;clear hK K;refine wpAnyIn_done (by kernel_rfl) ?_ _
       (try gi_wp2)
       refine ⟨rb,bI.out.1,rfl,oZ H (.slice (some ⟨g',0,none⟩) (hl+1) cap') (fun k=>G k\/k=g2),?_,?_,fun k hk=>?_⟩
       ·rw [jh.out];exact bI.out.2.1
       ·rw [jh.out];exact bI.out.2.2.1
       ·rcases bI.out.2.2.2 k hk with e | e | e
        ·exact .inl e
        ·exact .inr (.inl e)
        ·exact .inr (.inr (by rw [e];rfl))
      ·go_simp;refine hK _ _ ?_;clear hK K
       refine wpAnyIn_ready (rs:=[0,4]) (by kernel_rfl) (by simp) ?_;refine AllReadyIn.cons rfl (fun K hK=>?_) (AllReadyIn.cons rfl (fun K hK=>?_) AllReadyIn.nil)
       ·go_simp;refine hK _ _ ?_;clear hK K
        refine wpAnyIn_ready (rs:=[4]) (by kernel_rfl) (by simp) ?_;refine AllReadyIn.cons rfl (fun K hK=>?_) AllReadyIn.nil;go_simp;refine hK _ _ ?_;clear hK K;refine wpAnyIn_ready (rs:=[5]) (by kernel_rfl) (by simp) ?_;refine AllReadyIn.cons rfl (fun K hK=>?_) AllReadyIn.nil;go_simp;refine hK _ _ ?_;clear hK K;refine wpAnyIn_ready (rs:=[6]) (by kernel_rfl) (by simp) ?_;refine AllReadyIn.cons rfl (fun K hK=>?_) AllReadyIn.nil;refine bA rfl (.tmp 22) (.tmp 27) _ rfl _ _ _ rfl rfl hrun ?_;(try go_simp);refine hK _ _ ?_;clear hK K;refine wpAnyIn_ready (rs:=[7]) (by kernel_rfl) (by simp) ?_;refine AllReadyIn.cons rfl (fun K hK=>?_) AllReadyIn.nil;go_simp;refine hK _ _ ?_;clear hK K;refine wpAnyIn_done (by kernel_rfl) ?_ _
        (try gi_wp2)
        refine ⟨rb,bI.out.1,rfl,oZ H (.slice (some ⟨g',0,none⟩) (hl+1) cap') (fun k=>G k\/k=g2),?_,?_,fun k hk=>?_⟩
        ·rw [jh.out];exact bI.out.2.1
        ·rw [jh.out];exact bI.out.2.2.1
        ·rcases bI.out.2.2.2 k hk with e | e | e
         ·exact .inl e
         ·exact .inr (.inl e)
         ·exact .inr (.inr (by rw [e];rfl))
       ·go_simp;refine hK _ _ ?_;clear hK K
        refine wpAnyIn_ready (rs:=[0,5]) (by kernel_rfl) (by simp) ?_;refine AllReadyIn.cons rfl (fun K hK=>?_) (AllReadyIn.cons rfl (fun K hK=>?_) AllReadyIn.nil)
        ·go_simp;refine hK _ _ ?_;clear hK K
         refine wpAnyIn_ready (rs:=[5]) (by kernel_rfl) (by simp) ?_;refine AllReadyIn.cons rfl (fun K hK=>?_) AllReadyIn.nil;go_simp;refine hK _ _ ?_;clear hK K;refine wpAnyIn_ready (rs:=[6]) (by kernel_rfl) (by simp) ?_;refine AllReadyIn.cons rfl (fun K hK=>?_) AllReadyIn.nil;refine bA rfl (.tmp 22) (.tmp 27) _ rfl _ _ _ rfl rfl hrun ?_;(try go_simp);refine hK _ _ ?_;clear hK K;refine wpAnyIn_ready (rs:=[7]) (by kernel_rfl) (by simp) ?_;refine AllReadyIn.cons rfl (fun K hK=>?_) AllReadyIn.nil;go_simp;refine hK _ _ ?_;clear hK K;refine wpAnyIn_done (by kernel_rfl) ?_ _
         (try gi_wp2)
         refine ⟨rb,bI.out.1,rfl,oZ H (.slice (some ⟨g',0,none⟩) (hl+1) cap') (fun k=>G k\/k=g2),?_,?_,fun k hk=>?_⟩
         ·rw [jh.out];exact bI.out.2.1
         ·rw [jh.out];exact bI.out.2.2.1
         ·rcases bI.out.2.2.2 k hk with e | e | e
          ·exact .inl e
          ·exact .inr (.inl e)
          ·exact .inr (.inr (by rw [e];rfl))
        ·go_simp;refine hK _ _ ?_;clear hK K
         refine wpAnyIn_ready (rs:=[0]) (by kernel_rfl) (by simp) ?_;refine AllReadyIn.cons rfl (fun K hK=>?_) AllReadyIn.nil;go_simp;refine hK _ _ ?_;clear hK K;refine wpAnyIn_ready (rs:=[6]) (by kernel_rfl) (by simp) ?_;refine AllReadyIn.cons rfl (fun K hK=>?_) AllReadyIn.nil;refine bA rfl (.tmp 22) (.tmp 27) _ rfl _ _ _ rfl rfl hrun ?_;(try go_simp);refine hK _ _ ?_;clear hK K;refine wpAnyIn_ready (rs:=[7]) (by kernel_rfl) (by simp) ?_;refine AllReadyIn.cons rfl (fun K hK=>?_) AllReadyIn.nil;go_simp;refine hK _ _ ?_;clear hK K;refine wpAnyIn_done (by kernel_rfl) ?_ _
         (try gi_wp2)
         refine ⟨rb,bI.out.1,rfl,oZ H (.slice (some ⟨g',0,none⟩) (hl+1) cap') (fun k=>G k\/k=g2),?_,?_,fun k hk=>?_⟩
         ·rw [jh.out];exact bI.out.2.1
         ·rw [jh.out];exact bI.out.2.2.1
         ·rcases bI.out.2.2.2 k hk with e | e | e
          ·exact .inl e
          ·exact .inr (.inl e)
          ·exact .inr (.inr (by rw [e];rfl))
     ·go_simp;refine hK _ _ ?_;clear hK K
      refine wpAnyIn_ready (rs:=[0,1]) (by kernel_rfl) (by simp) ?_;refine AllReadyIn.cons rfl (fun K hK=>?_) (AllReadyIn.cons rfl (fun K hK=>?_) AllReadyIn.nil)
      ·go_simp;refine hK _ _ ?_;clear hK K
       refine wpAnyIn_ready (rs:=[1]) (by kernel_rfl) (by simp) ?_;refine AllReadyIn.cons rfl (fun K hK=>?_) AllReadyIn.nil;go_simp;refine hK _ _ ?_;clear hK K;refine wpAnyIn_ready (rs:=[4]) (by kernel_rfl) (by simp) ?_;refine AllReadyIn.cons rfl (fun K hK=>?_) AllReadyIn.nil;go_simp;refine hK _ _ ?_;clear hK K;refine wpAnyIn_ready (rs:=[5]) (by kernel_rfl) (by simp) ?_;refine AllReadyIn.cons rfl (fun K hK=>?_) AllReadyIn.nil;go_simp;refine hK _ _ ?_;clear hK K;refine wpAnyIn_ready (rs:=[6]) (by kernel_rfl) (by simp) ?_;refine AllReadyIn.cons rfl (fun K hK=>?_) AllReadyIn.nil;refine bA rfl (.tmp 22) (.tmp 27) _ rfl _ _ _ rfl rfl hrun ?_;(try go_simp);refine hK _ _ ?_;clear hK K;refine wpAnyIn_ready (rs:=[7]) (by kernel_rfl) (by simp) ?_;refine AllReadyIn.cons rfl (fun K hK=>?_) AllReadyIn.nil;go_simp;refine hK _ _ ?_;clear hK K;refine wpAnyIn_done (by kernel_rfl) ?_ _
       (try gi_wp2)
       refine ⟨rb,bI.out.1,rfl,oZ H (.slice (some ⟨g',0,none⟩) (hl+1) cap') (fun k=>G k\/k=g2),?_,?_,fun k hk=>?_⟩
       ·rw [jh.out];exact bI.out.2.1
       ·rw [jh.out];exact bI.out.2.2.1
       ·rcases bI.out.2.2.2 k hk with e | e | e
        ·exact .inl e
        ·exact .inr (.inl e)
        ·exact .inr (.inr (by rw [e];rfl))
      ·go_simp;refine hK _ _ ?_;clear hK K
       refine wpAnyIn_ready (rs:=[0,4]) (by kernel_rfl) (by simp) ?_;refine AllReadyIn.cons rfl (fun K hK=>?_) (AllReadyIn.cons rfl (fun K hK=>?_) AllReadyIn.nil)
       ·go_simp;refine hK _ _ ?_;clear hK K
        refine wpAnyIn_ready (rs:=[4]) (by kernel_rfl) (by simp) ?_;refine AllReadyIn.cons rfl (fun K hK=>?_) AllReadyIn.nil;go_simp;refine hK _ _ ?_;clear hK K;refine wpAnyIn_ready (rs:=[5]) (by kernel_rfl) (by simp) ?_;refine AllReadyIn.cons rfl (fun K hK=>?_) AllReadyIn.nil;go_simp;refine hK _ _ ?_;clear hK K;refine wpAnyIn_ready (rs:=[6]) (by kernel_rfl) (by simp) ?_;refine AllReadyIn.cons rfl (fun K hK=>?_) AllReadyIn.nil;refine bA rfl (.tmp 22) (.tmp 27) _ rfl _ _ _ rfl rfl hrun ?_;(try go_simp);refine hK _ _ ?_;clear hK K;refine wpAnyIn_ready (rs:=[7]) (by kernel_rfl) (by simp) ?_;refine AllReadyIn.cons rfl (fun K hK=>?_) AllReadyIn.nil;go_simp;refine hK _ _ ?_;clear hK K;refine wpAnyIn_done (by kernel_rfl) ?_ _
        (try gi_wp2)
        refine ⟨rb,bI.out.1,rfl,oZ H (.slice (some ⟨g',0,none⟩) (hl+1) cap') (fun k=>G k\/k=g2),?_,?_,fun k hk=>?_⟩
        ·rw [jh.out];exact bI.out.2.1
        ·rw [jh.out];exact bI.out.2.2.1
        ·rcases bI.out.2.2.2 k hk with e | e | e
         ·exact .inl e
         ·exact .inr (.inl e)
         ·exact .inr (.inr (by rw [e];rfl))
       ·go_simp;refine hK _ _ ?_;clear hK K
        refine wpAnyIn_ready (rs:=[0,5]) (by kernel_rfl) (by simp) ?_;refine AllReadyIn.cons rfl (fun K hK=>?_) (AllReadyIn.cons rfl (fun K hK=>?_) AllReadyIn.nil)
        ·go_simp;refine hK _ _ ?_;clear hK K
         refine wpAnyIn_ready (rs:=[5]) (by kernel_rfl) (by simp) ?_;refine AllReadyIn.cons rfl (fun K hK=>?_) AllReadyIn.nil;go_simp;refine hK _ _ ?_;clear hK K;refine wpAnyIn_ready (rs:=[6]) (by kernel_rfl) (by simp) ?_;refine AllReadyIn.cons rfl (fun K hK=>?_) AllReadyIn.nil;refine bA rfl (.tmp 22) (.tmp 27) _ rfl _ _ _ rfl rfl hrun ?_;(try go_simp);refine hK _ _ ?_;clear hK K;refine wpAnyIn_ready (rs:=[7]) (by kernel_rfl) (by simp) ?_;refine AllReadyIn.cons rfl (fun K hK=>?_) AllReadyIn.nil;go_simp;refine hK _ _ ?_;clear hK K;refine wpAnyIn_done (by kernel_rfl) ?_ _
         (try gi_wp2)
         refine ⟨rb,bI.out.1,rfl,oZ H (.slice (some ⟨g',0,none⟩) (hl+1) cap') (fun k=>G k\/k=g2),?_,?_,fun k hk=>?_⟩
         ·rw [jh.out];exact bI.out.2.1
         ·rw [jh.out];exact bI.out.2.2.1
         ·rcases bI.out.2.2.2 k hk with e | e | e
          ·exact .inl e
          ·exact .inr (.inl e)
          ·exact .inr (.inr (by rw [e];rfl))
        ·go_simp;refine hK _ _ ?_;clear hK K
         refine wpAnyIn_ready (rs:=[0]) (by kernel_rfl) (by simp) ?_;refine AllReadyIn.cons rfl (fun K hK=>?_) AllReadyIn.nil;go_simp;refine hK _ _ ?_;clear hK K;refine wpAnyIn_ready (rs:=[6]) (by kernel_rfl) (by simp) ?_;refine AllReadyIn.cons rfl (fun K hK=>?_) AllReadyIn.nil;refine bA rfl (.tmp 22) (.tmp 27) _ rfl _ _ _ rfl rfl hrun ?_;(try go_simp);refine hK _ _ ?_;clear hK K;refine wpAnyIn_ready (rs:=[7]) (by kernel_rfl) (by simp) ?_;refine AllReadyIn.cons rfl (fun K hK=>?_) AllReadyIn.nil;go_simp;refine hK _ _ ?_;clear hK K;refine wpAnyIn_done (by kernel_rfl) ?_ _
         (try gi_wp2)
         refine ⟨rb,bI.out.1,rfl,oZ H (.slice (some ⟨g',0,none⟩) (hl+1) cap') (fun k=>G k\/k=g2),?_,?_,fun k hk=>?_⟩
         ·rw [jh.out];exact bI.out.2.1
         ·rw [jh.out];exact bI.out.2.2.1
         ·rcases bI.out.2.2.2 k hk with e | e | e
          ·exact .inl e
          ·exact .inr (.inl e)
          ·exact .inr (.inr (by rw [e];rfl))
  have hit:=NR 5 (l:=H+5) (B0:=H+2) (FB:=H+3) (fp:=H+1) (src:=src) C X (by omega) (hTU.of_below (Lj.mono (by omega))) hJ0 (fun k hk=>by
   rcases hk with e | e | e | e | e | e
   ·omega
   ·omega
   ·omega
   ·omega
   ·simp [Value.ownBlock] at e
   ·exact e.elim) ((hkx _ (by omega)).trans u2) ((hkx _ (by omega)).trans u3) ((hkx _ (by omega)).trans u1)
  refine hit.mono ?_;rintro e Z ⟨hv,F',⟨v,hs,G,rfl,hI⟩,hp⟩
  exact ⟨hv,.inl ⟨hI.lop,v,hs,G,hI.out,hI.dfr,hI.own,hI.els,fun g hg=>by obtain ⟨a,b,c,d,e,f⟩:=hI.gs g hg;exact ⟨a,c,e,f⟩,hI.below,hp⟩⟩
 case vJ =>
  rintro Z r hlt ⟨v,hs,G,z0,z4,zo,ze,zg,zb,z1⟩
  rw [ZY] at hlt |-
  have hb:=grownBy_putObj' Z (H+4+1) (.loop r);have hk:∀ k,k≠H+5->(Z.putObj (H+4+1) (.loop r)).heap[k]?=Z.heap[k]?:=fun k hk=>World.putObj_heap_other (by omega)
  have y0:=(hk H (by omega)).trans z0;have y1:=(hk (H+1) (by omega)).trans z1;have y4:=(hk (H+4) (by omega)).trans z4;have yo:=qA zo ((But.refl (fun k=>k=H+4+1) Z).putObj (H+4+1) (.loop r) rfl) (fun k e e2=>by have:=(zo.lt k e2).1;omega);have ye:=ze.keep (W':=Z.putObj (H+4+1) (.loop r)) (fun g hg _=>hk g (zg g hg).2.2.2);have yb:Below H w (Z.putObj (H+4+1) (.loop r)):=zb.grown hb (by omega) (fun k e=>by cases e;omega);clear hb hk z0 z1 z4 zo ze zb u0 u1 u2 u3 WR hTU;generalize Z.putObj (H+4+1) (.loop r)=Y at *;have hl4:H+4 < Y.heap.size:=(Array.getElem?_eq_some_iff.1 y4).1;have hp5:But (fun k=>k=H+4) Y (Y.putObj (H+4) (.deferred none)):=(But.refl (fun k=>k=H+4) Y).putObj _ _ rfl;have HFO:=ah.mk (qA yo hp5 (fun k e e2=>by have:=(yo.lt k e2).1;omega));have HFE:=ah.mk (ye.keep (W':=Y.putObj (H+4) (.deferred none)) (fun g hg hl=>World.putObj_heap_other (zg g hg).2.2.1));have Xl:=ah.mk (yb.trans (hp5.jS (by omega) (fun k hk=>by omega)));have HZG:=ah.mk zg;have Y4:=ah.mk y4;have c1:Y.cell? ⟨H,0,none⟩=some v:=(au y0 0).trans rfl;have Xm:=Tryz.underlying76;cases he:(S.scan (bytesOf src)).err with
  | none =>
   rw [he] at y1;have d0:Y.cell? ⟨H+1,0,none⟩=some (.int .i64 0):=(au y1 0).trans rfl;have d1:Y.cell? ⟨H+1,1,none⟩=some (.int .i64 0):=(au y1 1).trans rfl;have HE:=ah.mk he;clear y0 y1 y4 yo ye yb hlt hp5 zg;gi_wp2
   refine ⟨by simp,.inl ⟨_,_,rfl,run_takeDeferred Y4.out,?_⟩⟩;refine ⟨_,kr rfl _ _ _,by rw [hH];exact Xl.out,?_⟩;unfold Hr;rw [HE.out];refine ⟨v,hs,G,rfl,?_,HFE.out,fun g hg=>?_⟩
   ·rw [hH]
    obtain ⟨o1,o2⟩:=HFO.out;refine ⟨o1,o2.imp id ?_⟩;rintro ⟨g,cap,cur,hv,hg,rest⟩
    exact ⟨g,cap,cur,hv,by omega,rest⟩
   ·rw [hH];exact ⟨(HZG.out g hg).1,(HZG.out g hg).2.1⟩
  | some p =>
   obtain ⟨c,ln⟩:=p;have hc0:=HNE.out c ln he;rw [he] at y1;have d0:Y.cell? ⟨H+1,0,none⟩=some (.int .i64 c):=(au y1 0).trans rfl;have d1:Y.cell? ⟨H+1,1,none⟩=some (.int .i64 ln):=(au y1 1).trans rfl;have g0:((c:Int) != 0)=true:=bne_iff_ne.2 (by omega);have HE:=ah.mk he;clear y0 y1 y4 yo ye yb hlt hp5 zg;gi_upto_region 11 with (fail)
   gi_region
   all_goals
    gi_wp2
    refine ⟨by simp,.inl ⟨_,_,rfl,run_takeDeferred (show (World.heap _)[_]?=_ from Y4.out),?_⟩⟩;refine ⟨_,kr rfl _ _ _,?_,?_⟩
    ·rw [hH];exact Xl.out.trans (jl (Below.refl _ _))
    ·unfold Hr;rw [HE.out];rfl
end Go.Proofs.YtkkpjonfaflkmaaGreatDoor.T
