/- For ScanTokens: its callees return what is said of them. -/
import Derived.Test.YtkkpjonfaflkmaaGreatDoorCScanTokens7
import Derived.Sort.CutIn
import Derived.RecoverIn
namespace Go.Proofs.YtkkpjonfaflkmaaGreatDoor.T
open Go.RowKit Go.Proofs.ah.aT Go.Proofs.ah.bn Go.Proofs.ah.bA
set_option linter.unusedSimpArgs false
set_option linter.unusedVariables false
attribute [local go_sem] Oper.semAt_some
def Dj (t:S.Tk):List Value:=[.int .i64 t.kind,.string (strOfNums t.text),.bool t.gap,.int .i64 t.line,.int .i64 t.at_,.int .i64 t.to]
def dV (l:List S.Tk):List Value:=(l.map Dj).flatten
theorem nZ:∀ l:List S.Tk,(dV l).length=l.length*6
 | []=>rfl
 | t::l=>by
  have:=nZ l;simp only [dV,List.map_cons,List.flatten_cons,List.length_append,List.length_cons] at this |-
  rw [this];show 6+_=_
  omega
theorem uf (a b:List S.Tk):dV (a++b)=dV a++dV b:=by simp [dV]
theorem DL (l:List S.Tk) (n:Nat):(dV l).take (n*6)=dV (l.take n):=by
 induction l generalizing n with
 | nil=>simp [dV]
 | cons t l ih =>
  cases n with
  | zero=>simp [dV]
  | succ n =>
   have:=ih n;simp only [dV,List.take_succ_cons,List.map_cons,List.flatten_cons] at this |-
   rw [<- this,List.take_append];rw [List.take_of_length_le (by show 6<=_;omega)];congr 2
   show (n+1)*6 - 6=n*6
   omega
theorem uV (t:S.Tk):∀ u∈Dj t,u.oneCell'=true:=by
 intro u hu
 simp [Dj] at hu
 rcases hu with rfl | rfl | rfl | rfl | rfl | rfl<;>rfl
structure Client (l n:Nat) (J:List (List S.Tk)->(Nat->Prop)->World->Prop):Prop where
 stable:∀ {pre F W W'},J pre F W->But (fun k=>¬ F k) W W'->J pre F W'
 lt:∀ {pre F W},J pre F W->∀ k,F k->k < W.heap.size
 yield:∀ {pre F W base v cl},J pre F W->W.ownsRow base 53 6 v cl.length (dV cl)->cl≠[]->(∀ k,F k->v.ownBlock≠some k)->pre.flatten.length+cl.length<=300000 ->
  YieldAt Fence.wide n Tryz.prog l #[v] W fun e W'=>e=.returned (.bool true)/\∃ F',J (pre++[cl]) F' W'/\But F W W'/\∀ k,F' k->F k\/W.heap.size<=k\/v.ownBlock=some k
structure OT (CB GB YB l base:Nat) (v:Value) (cur:List S.Tk) (gap:Bool) (W:World):Prop where
 cb:W.heap[CB]?=some (.cells #[v] 24 (0,0))
 gb:W.heap[GB]?=some (.cells #[.bool gap] 4 (0,0))
 yb:W.heap[YB]?=some (.cells #[.func (.yield l) #[] #[]] 55 (0,0))
 own:W.ownsRow base 53 6 v cur.length (dV cur)
 l1:CB < base
 l2:GB < base
 l3:YB < base
 n1:CB≠GB
 n2:CB≠YB
 n3:GB≠YB
 lw:base<=W.heap.size
theorem dn {W W':World} {base n:Nat} {v:Value} {xs:List Value} {A:Nat->Prop} (h:W.ownsRow base 53 6 v n xs) (hb:But A W W') (hA:∀ k,A k->v.ownBlock≠some k):W'.ownsRow base 53 6 v n xs:=by
 obtain ⟨h1,h2⟩:=h;refine ⟨h1,h2.imp id ?_⟩;rintro ⟨g,cap,cur,hv,hbg,hg,rest⟩
 have hlt:g < W.heap.size:=(Array.getElem?_eq_some_iff.1 hg).1;exact ⟨g,cap,cur,hv,hbg,(hb.block g hlt (fun e=>hA g e (by rw [hv];rfl))).trans hg,rest⟩
theorem OT.but {CB GB YB l base:Nat} {v:Value} {cur:List S.Tk} {gap:Bool} {W W':World} {A:Nat->Prop} (h:OT CB GB YB l base v cur gap W) (hb:But A W W') (hA:∀ k,A k->k≠CB/\k≠GB/\k≠YB/\v.ownBlock≠some k):OT CB GB YB l base v cur gap W':=by
 have hl:=h.lw;have ha:=h.l1;have hbb:=h.l2;have hc:=h.l3;refine ⟨(hb.block CB (by omega) (fun e=>(hA _ e).1 rfl)).trans h.cb,(hb.block GB (by omega) (fun e=>(hA _ e).2.1 rfl)).trans h.gb,(hb.block YB (by omega) (fun e=>(hA _ e).2.2.1 rfl)).trans h.yb,dn h.own hb (fun k e=>(hA k e).2.2.2),ha,hbb,hc,h.n1,h.n2,h.n3,Nat.le_trans hl hb.size⟩
theorem ru {n:Nat} {P:Program} {ops:Array Oper} {o:Oper} {a:Act} {w w':World} {K:Act->World->Prop} {Q:Exit->Act->World->Prop} {E:Prop} (hgd:o.guard=none) (s x:Operand) (t:TypeId)
  (ho:o.op=.call { callee:=.builtin .append,args:=#[s,x],argTypes:=#[t,t] }) (v u v':Value) (hs:a.eval s=v) (hx:a.eval x=u)
  (hr:(Builtin.append_ #[t,t] o.type #[v,u]).run P w=.ok v' w') (hK:K (a.put o.dst v') w'):if Region.wanted o (yielded ops a.tmps)=true then Oper.wpIn Fence.wide n P o a w K Q else E:=by
 have hw:Region.wanted o (yielded ops a.tmps)=true:=by simp [Region.wanted,hgd]
 rw [if_pos hw];unfold Oper.wpIn;refine ⟨fun f _=>trivial,?_⟩;rw [show Fence.wide.round=none from rfl,Oper.semAt_none];unfold execOp;simp only [ho,resolve,invoke,builtin,Sem.run_bind,Sem.run_pure,Result.andThen_ok,List.map_toArray,List.map_cons,List.map_nil,hs,hx,hr];exact hK
set_option maxRecDepth 100000 in
set_option maxHeartbeats 4000000 in
theorem YA (n:Nat) (hn:1<=n) {l CB GB YB base:Nat} {J:List (List S.Tk)->(Nat->Prop)->World->Prop} (C:Client l (n - 1) J) (i ti line:Nat) {v:Value} {cur:List S.Tk} {gap:Bool} {pre:List (List S.Tk)} {F:Nat->Prop} (W:World)
  (hC:OT CB GB YB l base v cur gap W) (hJ:J pre F W) (hF:∀ k,F k->k≠CB/\k≠GB/\k≠YB/\v.ownBlock≠some k) (hlen:pre.flatten.length+cur.length+1<=300000) :
  CallsIn Fence.wide n Tryz.prog 90 #[.int .i64 i,.int .i64 ti,.int .i64 line,.pointer (some ⟨CB,0,none⟩),.pointer (some ⟨GB,0,none⟩),.pointer (some ⟨YB,0,none⟩)] W fun e W' =>
   e=.returned (.bool true)/\∃ F',J (pre++S.emit cur i ti line) F' W'/\OT CB GB YB l base (.slice none 0 0) [] false W'/\But (fun k=>F k\/k=CB\/k=GB\/v.ownBlock=some k) W W'/\∀ k,F' k->F k\/W.heap.size<=k\/v.ownBlock=some k:=by
 have HC:=aj.mk hC;have HJ:=aj.mk hJ;have HF:=aj.mk hF;obtain ⟨A,cn,cap,hv,hcn⟩:∃ A cn cap,v=.slice A cn cap/\cur.length=cn:=by
  rcases hC.own.2 with ⟨rfl,e2⟩ | ⟨g,cap,cs,rfl,_⟩
  ·exact ⟨_,_,_,rfl,e2⟩
  ·exact ⟨_,_,_,rfl,rfl⟩
 subst hv;have c1:W.cell? ⟨CB,0,none⟩=some (.slice A cn cap):=(au hC.cb 0).trans rfl;have c2:W.cell? ⟨GB,0,none⟩=some (.bool gap):=(au hC.gb 0).trans rfl;have c3:W.cell? ⟨YB,0,none⟩=some (.func (.yield l) #[] #[]):=(au hC.yb 0).trans rfl;have f1:=aA hC.cb 0;have f2:=aA hC.gb 0;have n1:=hC.n1;have n2:=hC.n2;have n3:=hC.n3;have zK:=aj.mk hcn;clear hC hJ hF hcn;refine callsIn_of_wp Tryz.func90 rfl trivial ?_ rfl;simp only [Tryz.ntmps90,List.size_toArray,List.length_cons,List.length_nil,Nat.reduceAdd,Nat.reduceSub,Array.replicate_succ,Array.replicate_zero,List.push_toArray,List.append_toArray,List.nil_append,List.cons_append];have hb2:But (fun k=>k=CB\/k=GB) W ((W.setCell ⟨CB,0,none⟩ (.slice none 0 0)).setCell ⟨GB,0,none⟩ (.bool false)) :=
  ((But.refl _ W).set ⟨CB,0,none⟩ _ (.inl rfl)).set ⟨GB,0,none⟩ _ (.inr rfl)
 have hj2:J pre F ((W.setCell ⟨CB,0,none⟩ (.slice none 0 0)).setCell ⟨GB,0,none⟩ (.bool false)) :=
  C.stable HJ.out (hb2.mono (fun k _ hk hf=>by rcases hk with rfl | rfl;exact (HF.out _ hf).1 rfl;exact (HF.out _ hf).2.1 rfl))
 have WZ:OT CB GB YB l base (.slice none 0 0) [] false ((W.setCell ⟨CB,0,none⟩ (.slice none 0 0)).setCell ⟨GB,0,none⟩ (.bool false)):=by
  refine ⟨(Below.heap_setCell _ ⟨GB,0,none⟩ _ CB n1).trans (aR (cs:=#[_]) HC.out.cb 0 _ rfl),aR (cs:=#[_]) ((Below.heap_setCell _ ⟨CB,0,none⟩ _ GB (fun e=>n1 e.symm)).trans HC.out.gb) 0 _ rfl,
   (Below.heap_setCell _ ⟨GB,0,none⟩ _ YB (fun e=>n3 e.symm)).trans ((Below.heap_setCell _ ⟨CB,0,none⟩ _ YB (fun e=>n2 e.symm)).trans HC.out.yb),World.ownsRow_nil _ _ _ _,HC.out.l1,HC.out.l2,HC.out.l3,n1,n2,n3,Nat.le_trans HC.out.lw hb2.size⟩
 have hown2:((W.setCell ⟨CB,0,none⟩ (.slice none 0 0)).setCell ⟨GB,0,none⟩ (.bool false)).ownsRow base 53 6 (.slice A cn cap) cur.length (dV cur):=by
  refine dn HC.out.own hb2 (fun k hk e=>?_);have:=(HC.out.own.lt k e).1;have:=HC.out.l1;have:=HC.out.l2;rcases hk with rfl | rfl<;>omega
 have HB2:=aj.mk hb2;have HJ2:=aj.mk hj2;have zY:=aj.mk WZ;have abk:=aj.mk hown2;clear hb2 hj2 WZ hown2;by_cases h0:cn=0
 ·subst h0
  gi_wp2
  go_ret;have hnil:cur=[]:=List.length_eq_zero_iff.1 zK.out;refine ⟨rfl,F,?_,zY.out,HB2.out.mono (fun k _ hk=>by rcases hk with rfl | rfl;exact .inr (.inl rfl);exact .inr (.inr (.inl rfl))),fun k hk=>.inl hk⟩;rw [hnil];simpa [S.emit] using HJ2.out
 have g0:((cn:Int)==0)=false:=beq_eq_false_iff_ne.2 (by omega);gi_upto_region 5 with (fail)
 obtain ⟨g,rfl,hg0⟩:∃ g,A=some ⟨g,0,none⟩/\base<=g:=by
  rcases abk.out.2 with ⟨e,e2⟩ | ⟨g,cap',cs,e,hb,_⟩
  ·rw [zK.out] at e2;omega
  ·simp only [Value.slice.injEq] at e
   exact ⟨g,e.1,hb⟩
 have c4:((W.setCell ⟨CB,0,none⟩ (.slice none 0 0)).setCell ⟨GB,0,none⟩ (.bool false)).cell? ⟨YB,0,none⟩=some (.func (.yield l) #[] #[]):=(au zY.out.yb 0).trans rfl;generalize (W.setCell ⟨CB,0,none⟩ (.slice none 0 0)).setCell ⟨GB,0,none⟩ (.bool false)=W2 at *;clear c1 c2 c3 f1 f2;obtain ⟨H,hH⟩:∃ H,W2.heap.size=H:=⟨_,rfl⟩;obtain ⟨X,hX⟩:∃ X,W2.drew.alloc (.cells #[.int .i64 4,.string ⟨#[]⟩,.bool false,.int .i64 line,.int .i64 i,.int .i64 ti] 53)=X:=⟨_,rfl⟩;obtain ⟨i0,hi,hz0,hz1,hz2⟩:=info_parts (show (Tryz.prog.info? 53).map (fun i=>(i.zero,i.size,i.bytes))=some (some (.agg DK),6,56) by kernel_rfl);have OU:But (fun _=>False) W2 X:=by rw [<- hX];exact ((But.refl _ W2).drew).alloc _
 have Tx:X.heap.size=H+1:=by rw [<- hX,<- hH];exact World.size_alloc _ _
 have hXn:X.heap[H]?=some (.cells #[.int .i64 4,.string ⟨#[]⟩,.bool false,.int .i64 line,.int .i64 i,.int .i64 ti] 53 (0,0)):=by
  rw [<- hX,<- hH];exact heap_alloc_new W2.drew _
 have hXo:X.ownsRow base 53 6 (.slice (some ⟨g,0,none⟩) cn cap) cn (dV cur):=by
  have:=dn abk.out OU (fun k e=>e.elim);rwa [zK.out] at this
 have Sy:=zY.out.lw;obtain ⟨g',cap',w1,hrun,hown1,hgrow,hat,hlt⟩:=run_append_lies (P:=Tryz.prog) X 24 24 base 53 i0 (.agg DK) 6 56 Tryz.underlying24 hi hz0 hz1 hz2 rfl (by decide) _ cn _ hXo
  ⟨H,0,none⟩ 1 1 (Dj (S.qp i ti line)) rfl (fun j u hu=>by
   rw [add_plain,au hXn j];have e:(#[.int .i64 4,.string ⟨#[]⟩,.bool false,.int .i64 line,.int .i64 i,.int .i64 ti]:Array Value)=(Dj (S.qp i ti line)).toArray:=rfl;rw [e];simpa using hu) (uV _) (by decide) (by unfold maxLen;have:=zK.out;omega) (by have:=zK.out;omega) (by omega) (H+1) Tx
 have hbX:But (fun k=>k=g) X w1:=⟨hgrow.os,hgrow.tape,hgrow.output,hgrow.size,fun k hk hn=>hgrow.block k hk (by intro e;simp [Value.ownBlock] at e;exact hn e)⟩;have NR:But (fun k=>k=g) W2 w1:=OU.trans hbX (fun k _ e=>e.elim) (fun k _ e=>e);have hj1:J pre F w1:=C.stable HJ2.out (NR.mono (fun k _ e hf=>(HF.out k hf).2.2.2 (by rw [e];rfl)));have hcl:(cur++[S.qp i ti line]).length=cn+1:=by rw [List.length_append,zK.out];rfl
 have hown2:w1.ownsRow base 53 6 (.slice (some ⟨g',0,none⟩) (cn+1) cap') (cur++[S.qp i ti line]).length (dV (cur++[S.qp i ti line])):=by
  rw [hcl,uf];have:dV [S.qp i ti line]=Dj (S.qp i ti line):=by simp [dV]
  rw [this];exact hown1
 have hg':∀ k,F k->(Value.slice (some ⟨g',0,none⟩) (cn+1) cap').ownBlock≠some k:=fun k hk e=>by
  have e':g'=k:=by simpa [Value.ownBlock] using e
  rcases hat with h | h
  ·exact (HF.out k hk).2.2.2 (by rw [h,e'])
  ·have:=C.lt HJ2.out k hk
   omega
 have hY:=C.yield hj1 hown2 (by simp) hg' (by rw [hcl];have:=zK.out;omega);obtain ⟨fn,tmps,assign,body,hy,hR⟩:=hY;have HR:=Lib.hid hR;have bS:aj (∀ F' W3,J (pre++[cur++[S.qp i ti line]]) F' W3->But F w1 W3->(∀ k,F' k->F k\/w1.heap.size<=k\/(Value.slice (some ⟨g',0,none⟩) (cn+1) cap').ownBlock=some k) ->
   ∃ F',J (pre++S.emit cur i ti line) F' W3/\OT CB GB YB l base (.slice none 0 0) [] false W3/\But (fun k=>F k\/k=CB\/k=GB\/(Value.slice (some ⟨g,0,none⟩) cn cap).ownBlock=some k) W W3/\∀ k,F' k->F k\/W.heap.size<=k\/(Value.slice (some ⟨g,0,none⟩) cn cap).ownBlock=some k):=⟨fun F' W3 hj3 hb3 hf3=>by
  have hne:cur≠[]:=fun e=>by rw [e] at zK;have:=zK.out;simp at this;omega
  have he:S.emit cur i ti line=[cur++[S.qp i ti line]]:=by unfold S.emit;rw [if_neg hne]
  have hl1:=zY.out.l1;have hl2:=zY.out.l2;have hl3:=zY.out.l3;refine ⟨F',by rw [he];exact hj3,?_,?_,?_⟩
  ·refine zY.out.but (NR.trans hb3 (C:=fun k=>k=g\/F k) (fun k _ e=>.inl e) (fun k _ e=>.inr e)) (fun k hk=>?_)
   rcases hk with rfl | hk
   ·exact ⟨by omega,by omega,by omega,by simp [Value.ownBlock]⟩
   ·obtain ⟨q1,q2,q3,_⟩:=HF.out k hk
    exact ⟨q1,q2,q3,by simp [Value.ownBlock]⟩
  ·refine HB2.out.trans (NR.trans hb3 (C:=fun k=>k=g\/F k) (fun k _ e=>.inl e) (fun k _ e=>.inr e)) (fun k _ hk=>?_) (fun k _ hk=>?_)
   ·rcases hk with rfl | rfl
    ·exact .inr (.inl rfl)
    ·exact .inr (.inr (.inl rfl))
   ·rcases hk with rfl | hk
    ·exact .inr (.inr (.inr rfl))
    ·exact .inl hk
  ·intro k hk
   have hs2:=HB2.out.size;have hs1:=NR.size;rcases hf3 k hk with h | h | h
   ·exact .inl h
   ·exact .inr (.inl (by omega))
   ·have e':g'=k:=by simpa [Value.ownBlock] using h
    rcases hat with h | h
    ·exact .inr (.inr (by rw [h,e']))
    ·exact .inr (.inl (by omega))⟩
 have HAT:=aj.mk hat;have aiU:=aj.mk NR;have pU:=aj.mk hH;clear hR hown1 hown2 hgrow hbX NR hj1 hat hg' hXn hXo;have hyX:X.cell? ⟨YB,0,none⟩=some (.func (.yield l) #[] #[]):=(au ((OU.block YB (by have:=zY.out.l3;omega) (fun e=>e)).trans zY.out.yb) 0).trans rfl;have hyw:w1.cell? ⟨YB,0,none⟩=some (.func (.yield l) #[] #[]):=(au ((aiU.out.block YB (by have:=zY.out.l3;omega) (fun e=>by have:=zY.out.l3;omega)).trans zY.out.yb) 0).trans rfl;clear OU;refine wpIn_region_any (by kernel_rfl) ?_;change wpAnyIn _ _ _ _ _ _ _ _ _ (World.drew W2)
 refine wpAnyIn_take (i:=1) (v:=(.slice (some ⟨g,0,none⟩) cn cap)) rfl rfl (by kernel_rfl) (by kernel_rfl) (by kernel_rfl) (fun _ _ _ h=>h) ⟨Or.inl ⟨by rfl,by intro w;go_simp⟩,fun _=>rfl⟩ ?_;refine wpAnyIn_take (i:=2) (v:=(.int .i64 line)) rfl rfl (by kernel_rfl) (by kernel_rfl) (by kernel_rfl) (fun _ _ _ h=>h) ⟨Or.inl ⟨by rfl,by intro w;go_simp⟩,fun _=>rfl⟩ ?_;refine wpAnyIn_take (i:=3) (v:=(.int .i64 i)) rfl rfl (by kernel_rfl) (by kernel_rfl) (by kernel_rfl) (fun _ _ _ h=>h) ⟨Or.inl ⟨by rfl,by intro w;go_simp⟩,fun _=>rfl⟩ ?_;refine wpAnyIn_take (i:=4) (v:=(.int .i64 ti)) rfl rfl (by kernel_rfl) (by kernel_rfl) (by kernel_rfl) (fun _ _ _ h=>h) ⟨Or.inl ⟨by rfl,by intro w;go_simp⟩,fun _=>rfl⟩ ?_;refine wpAnyIn_take (i:=5) (v:=(.agg #[.int .i64 4,.string ⟨#[]⟩,.bool false,.int .i64 line,.int .i64 i,.int .i64 ti])) rfl rfl (by kernel_rfl) (by kernel_rfl) (by kernel_rfl) (fun _ _ _ h=>h) ⟨Or.inl ⟨by rfl,by intro w;go_simp⟩,fun _=>rfl⟩ ?_;refine wpAnyIn_ready (rs:=[0,6]) (by kernel_rfl) (by simp) ?_;refine AllReadyIn.cons rfl (fun K hK=>?_) (AllReadyIn.cons rfl (fun K hK=>?_) AllReadyIn.nil)
 ·go_simp
  refine hK _ _ ?_;clear hK K;refine wpAnyIn_ready (rs:=[6]) (by kernel_rfl) (by simp) ?_;refine AllReadyIn.cons rfl (fun K hK=>?_) AllReadyIn.nil;go_simp;refine hK _ _ ?_;clear hK K;refine wpAnyIn_ready (rs:=[7]) (by kernel_rfl) (by simp) ?_;refine AllReadyIn.cons rfl (fun K hK=>?_) AllReadyIn.nil;refine ru rfl (.tmp 16) (.tmp 21) _ rfl _ _ _ rfl rfl hrun ?_;try go_simp
  refine hK _ _ ?_;clear hK K;refine wpAnyIn_ready (rs:=[8]) (by kernel_rfl) (by simp) ?_;refine AllReadyIn.cons rfl (fun K hK=>?_) AllReadyIn.nil;go_simp;refine HR.out.mono ?_;rintro e W3 ⟨rfl,F',hj3,hb3,hf3⟩
  refine hK _ _ ?_;clear hK K;refine wpAnyIn_ready (rs:=[9]) (by kernel_rfl) (by simp) ?_;refine AllReadyIn.cons rfl (fun K hK=>?_) AllReadyIn.nil;go_simp;refine hK _ _ ?_;clear hK K;refine wpAnyIn_done (by kernel_rfl) ?_ _;gi_wp2
  go_ret;exact ⟨rfl,bS.out F' W3 hj3 hb3 hf3⟩
 ·go_simp
  refine hK _ _ ?_;clear hK K;refine wpAnyIn_ready (rs:=[0,7]) (by kernel_rfl) (by simp) ?_;refine AllReadyIn.cons rfl (fun K hK=>?_) (AllReadyIn.cons rfl (fun K hK=>?_) AllReadyIn.nil)
  ·go_simp
   refine hK _ _ ?_;clear hK K;refine wpAnyIn_ready (rs:=[7]) (by kernel_rfl) (by simp) ?_;refine AllReadyIn.cons rfl (fun K hK=>?_) AllReadyIn.nil;refine ru rfl (.tmp 16) (.tmp 21) _ rfl _ _ _ rfl rfl hrun ?_;try go_simp
   refine hK _ _ ?_;clear hK K;refine wpAnyIn_ready (rs:=[8]) (by kernel_rfl) (by simp) ?_;refine AllReadyIn.cons rfl (fun K hK=>?_) AllReadyIn.nil;go_simp;refine HR.out.mono ?_;rintro e W3 ⟨rfl,F',hj3,hb3,hf3⟩
   refine hK _ _ ?_;clear hK K;refine wpAnyIn_ready (rs:=[9]) (by kernel_rfl) (by simp) ?_;refine AllReadyIn.cons rfl (fun K hK=>?_) AllReadyIn.nil;go_simp;refine hK _ _ ?_;clear hK K;refine wpAnyIn_done (by kernel_rfl) ?_ _;gi_wp2
   go_ret;exact ⟨rfl,bS.out F' W3 hj3 hb3 hf3⟩
  ·refine ru rfl (.tmp 16) (.tmp 21) _ rfl _ _ _ rfl rfl hrun ?_
   try go_simp
   refine hK _ _ ?_;clear hK K;refine wpAnyIn_ready (rs:=[0]) (by kernel_rfl) (by simp) ?_;refine AllReadyIn.cons rfl (fun K hK=>?_) AllReadyIn.nil;go_simp;refine hK _ _ ?_;clear hK K;refine wpAnyIn_ready (rs:=[8]) (by kernel_rfl) (by simp) ?_;refine AllReadyIn.cons rfl (fun K hK=>?_) AllReadyIn.nil;go_simp;refine HR.out.mono ?_;rintro e W3 ⟨rfl,F',hj3,hb3,hf3⟩
   refine hK _ _ ?_;clear hK K;refine wpAnyIn_ready (rs:=[9]) (by kernel_rfl) (by simp) ?_;refine AllReadyIn.cons rfl (fun K hK=>?_) AllReadyIn.nil;go_simp;refine hK _ _ ?_;clear hK K;refine wpAnyIn_done (by kernel_rfl) ?_ _;gi_wp2
   go_ret;exact ⟨rfl,bS.out F' W3 hj3 hb3 hf3⟩
set_option maxRecDepth 100000 in
set_option maxHeartbeats 400000 in
theorem vR (n:Nat) (p q r:Value) (W:World) :
  CallsDIn Fence.wide n Tryz.prog 89 #[p,q,r] .returning W fun e u' W'=>e=.returned (.tuple #[])/\u'=.returning/\W'=W:=by
 refine callsDIn_of_wpSIn Tryz.func89 rfl trivial fun c₀ cs hu=>?_
 have hwf:∀ f,Fence.wide.fn f:=fun _=>trivial
 simp only [Tryz.ntmps89,List.size_toArray,List.length_cons,List.length_nil,Nat.reduceAdd,Nat.reduceSub,Array.replicate_succ,Array.replicate_zero,List.push_toArray,List.append_toArray,List.nil_append,List.cons_append];apply wpSIn_seq
 apply wpSIn_region
 simp [wpOpsSIn,go_sem,recoverD,hu,Tryz.ntmps89,Exit.thenS,hwf]
 refine wpSIn_of_wpIn rfl ?_;generalize hQ:(fun (e:Exit) (a':Act) (w':World)=>_)=Q;gi_wp2
 rw [<- hQ];refine ⟨rfl,.returning,?_,_,results_none rfl _ _ _,rfl,rfl,rfl⟩;rw [<- hu]
def xD (cur:List S.Tk):List (List S.Tk):=if cur=[] then [] else [cur]
set_option maxRecDepth 100000 in
set_option maxHeartbeats 4000000 in
theorem BG (n:Nat) (hn:1<=n) {l CB GB YB FB fp base:Nat} {J:List (List S.Tk)->(Nat->Prop)->World->Prop} (C:Client l (n - 1) J) (c ln a b:Int) {v:Value} {cur:List S.Tk} {gap:Bool} {pre:List (List S.Tk)} {F:Nat->Prop} (W:World)
  (hC:OT CB GB YB l base v cur gap W) (hJ:J pre F W) (hF:∀ k,F k->k≠CB/\k≠GB/\k≠YB/\v.ownBlock≠some k) (hFp:∀ k,F k->k≠fp) (hfp:W.heap[fp]?=some (.cells #[.int .i64 a,.int .i64 b] 76 (0,0)))
  (yR:W.heap[FB]?=some (.cells #[.pointer (some ⟨fp,0,none⟩)] 88 (0,0))) (hne:fp≠CB/\fp≠YB/\fp < base) (hgb:fp≠GB) (hlen:pre.flatten.length+cur.length<=300000) :
  CallsDIn Fence.wide n Tryz.prog 89 #[.pointer (some ⟨FB,0,none⟩),.pointer (some ⟨CB,0,none⟩),.pointer (some ⟨YB,0,none⟩)] (.panicking [{ v:=fl c ln,recovered:=false }]) W fun e u' W' =>
   e=.returned (.tuple #[])/\u'=.panicking [{ v:=fl c ln,recovered:=true }]/\(∃ F',J (pre++xD cur) F' W')/\W'.heap[fp]?=some (.cells #[.int .i64 c,.int .i64 ln] 76 (0,0)):=by
 obtain ⟨A,cn,cap,hv,hcn⟩:∃ A cn cap,v=.slice A cn cap/\cur.length=cn:=by
  rcases hC.own.2 with ⟨rfl,e2⟩ | ⟨g,cap,cs,rfl,_⟩
  ·exact ⟨_,_,_,rfl,e2⟩
  ·exact ⟨_,_,_,rfl,rfl⟩
 subst hv;have HC:=aj.mk hC;have HJ:=aj.mk hJ;have HF:=aj.mk hF;have HFP:=aj.mk hFp;have HP:=aj.mk hfp;have zK:=aj.mk hcn;have TB:=aj.mk yR;have c1:W.cell? ⟨CB,0,none⟩=some (.slice A cn cap):=(au hC.cb 0).trans rfl;have c3:W.cell? ⟨YB,0,none⟩=some (.func (.yield l) #[] #[]):=(au hC.yb 0).trans rfl;have c4:W.cell? ⟨FB,0,none⟩=some (.pointer (some ⟨fp,0,none⟩)):=(au yR 0).trans rfl;have p0:W.cell? ⟨fp,0,none⟩=some (.int .i64 a):=(au hfp 0).trans rfl;have p1:W.cell? ⟨fp,1,none⟩=some (.int .i64 b):=(au hfp 1).trans rfl;have q0:=aA hfp 0;have q1:=aA hfp 1;have hta:∀ X:World,(Instr.typeAssert (.iface 76 (.agg #[.int .i64 c,.int .i64 ln])) 20 76 true).run Tryz.prog X=.ok (.tuple #[.agg #[.int .i64 c,.int .i64 ln],.bool true]) X:=fun X=>by kernel_rfl
 have TD:=Tryz.underlying76;clear hC hJ hF hFp hfp hcn yR;refine callsDIn_of_wpSIn Tryz.func89 rfl trivial fun c₀ cs hu=>?_
 have hwf:∀ f,Fence.wide.fn f:=fun _=>trivial
 simp only [Tryz.ntmps89,List.size_toArray,List.length_cons,List.length_nil,Nat.reduceAdd,Nat.reduceSub,Array.replicate_succ,Array.replicate_zero,List.push_toArray,List.append_toArray,List.nil_append,List.cons_append];apply wpSIn_seq
 apply wpSIn_region
 simp [wpOpsSIn,go_sem,recoverD,hu,Tryz.ntmps89,Exit.thenS,hwf,fl]
 refine wpSIn_of_wpIn rfl ?_;generalize hQ:(fun (e:Exit) (a':Act) (w':World)=>_)=Q;gi_upto_region 5 with (fail)
 have hb1:But (fun _=>False) W (W.alloc (.cells #[.int .i64 c,.int .i64 ln] 76)):=(But.refl _ W).alloc _;have hn1:=heap_alloc_new W (.cells #[.int .i64 c,.int .i64 ln] 76);have hf1:∀ (k:Nat) (o:Obj),W.heap[k]?=some o->(W.alloc (.cells #[.int .i64 c,.int .i64 ln] 76)).heap[k]?=some o:=fun k o h=>(hb1.block k (Array.getElem?_eq_some_iff.1 h).1 (fun e=>e)).trans h
 have abl:=hf1 _ _ TB.out;have NS:=hf1 _ _ HP.out;have hj1:=C.stable HJ.out (hb1.mono (B:=fun k=>¬ F k) (fun _ _ e=>e.elim));have hc1:=HC.out.but hb1 (fun _ e=>e.elim);obtain ⟨H,hH⟩:∃ H,W.heap.size=H:=⟨_,rfl⟩;rw [hH] at hn1 |-
 have hlt:fp≠H/\FB≠H:=by
  have h1:=(Array.getElem?_eq_some_iff.1 HP.out).1;have h2:=(Array.getElem?_eq_some_iff.1 TB.out).1;omega
 clear c1 c3 c4 p0 p1 q0 q1 hf1 hta hH;generalize W.alloc (.cells #[.int .i64 c,.int .i64 ln] 76)=W1 at *;have c4:W1.cell? ⟨FB,0,none⟩=some (.pointer (some ⟨fp,0,none⟩)):=(au abl 0).trans rfl;have e0:W1.cell? ⟨H,0,none⟩=some (.int .i64 c):=(au hn1 0).trans rfl;have e1:W1.cell? ⟨H,1,none⟩=some (.int .i64 ln):=(au hn1 1).trans rfl;have p0:W1.cell? ⟨fp,0,none⟩=some (.int .i64 a):=(au NS 0).trans rfl;have p1:W1.cell? ⟨fp,1,none⟩=some (.int .i64 b):=(au NS 1).trans rfl;have q0:=aA NS 0;have q1:=aA NS 1;obtain ⟨n1,n2,n3⟩:=hne;have hb2:But (fun k=>k=fp) W1 ((W1.setCell ⟨fp,0,none⟩ (.int .i64 c)).setCell ⟨fp,1,none⟩ (.int .i64 ln)):=((But.refl (fun k=>k=fp) W1).set ⟨fp,0,none⟩ _ rfl).set ⟨fp,1,none⟩ _ rfl;have abm:((W1.setCell ⟨fp,0,none⟩ (.int .i64 c)).setCell ⟨fp,1,none⟩ (.int .i64 ln)).heap[fp]?=some (.cells #[.int .i64 c,.int .i64 ln] 76 (0,0)):=aR (aR NS 0 _ rfl) 1 _ rfl;have hj2:=C.stable hj1 (hb2.mono (B:=fun k=>¬ F k) (fun k _ e hf=>HFP.out k hf e));have hc2:=hc1.but hb2 (fun k e=>by
  have hg:=hc1.n1;refine ⟨by omega,?_,by omega,fun h=>?_⟩
  ·rw [e];exact hgb
  ·have:=(hc1.own.lt k h).1
   omega)
 have HJ2:=aj.mk hj2;have tL:=aj.mk hc2;have YC:=aj.mk abm;clear hb1 hb2 hj1 hj2 hc1 hc2 NS abm abl hn1;gi_upto_region 6 with (fail)
 generalize (W1.setCell ⟨fp,0,none⟩ (.int .i64 c)).setCell ⟨fp,1,none⟩ (.int .i64 ln)=W2 at *;clear c4 e0 e1 p0 p1 q0 q1;have c1:W2.cell? ⟨CB,0,none⟩=some (.slice A cn cap):=(au tL.out.cb 0).trans rfl;have c3:W2.cell? ⟨YB,0,none⟩=some (.func (.yield l) #[] #[]):=(au tL.out.yb 0).trans rfl;by_cases h0:cn=0
 ·subst h0
  have hnil:cur=[]:=List.length_eq_zero_iff.1 zK.out;gi_wp2
  rw [<- hQ];refine ⟨rfl,_,rfl,_,results_none rfl _ _ _,rfl,by first | rfl | (simp [fl];done),⟨F,?_⟩,YC.out⟩;rw [hnil];simpa [xD] using HJ2.out
 have g0:decide ((0:Int) < (cn:Int))=true:=decide_eq_true (by omega);have g1:decide (0 < cn)=true:=decide_eq_true (by omega);have hY:=C.yield HJ2.out tL.out.own (fun e=>by rw [e] at zK;have:=zK.out;simp at this;omega) (fun k hk=>(HF.out k hk).2.2.2) hlen;obtain ⟨fn,tmps,assign,body,hy,hR⟩:=hY;have HR:=Lib.hid hR;clear hR;gi_wp2
 refine HR.out.mono ?_;rintro e W3 ⟨rfl,F',hj3,hb3,hf3⟩
 gi_wp2
 rw [<- hQ];refine ⟨rfl,_,rfl,_,results_none rfl _ _ _,rfl,by first | rfl | (simp [fl];done),⟨F',?_⟩,?_⟩
 ·have:xD cur=[cur]:=by
   unfold xD;rw [if_neg (fun e=>by rw [e] at zK;have:=zK.out;simp at this;omega)]
  rw [this];exact hj3
 ·exact (hb3.block fp (Array.getElem?_eq_some_iff.1 YC.out).1 (fun hf=>HFP.out fp hf rfl)).trans YC.out
end Go.Proofs.YtkkpjonfaflkmaaGreatDoor.T
namespace Go.Proofs.YtkkpjonfaflkmaaGreatDoor.S
set_option linter.unusedSimpArgs false
set_option linter.unusedVariables false
theorem iV:∀ (xs:List Int) (i d l b i' l' b':Nat),lV xs i d l b=.done i' l' b'->i < i'/\i'<=i+xs.length/\l<=l'/\l'+i<=l+i'
 | [],_,_,_,_,_,_,_=>fun h=>by cases h
 | [_],_,_,_,_,_,_,_=>fun h=>by cases h
 | c::e::t,i,d,l,b,i',l',b'=>fun h=>by
  rw [lV] at h;by_cases h1:c=47/\e=42
  ·rw [if_pos h1] at h
   have:=iV t _ _ _ _ _ _ _ h;simp only [List.length_cons];omega
  rw [if_neg h1] at h;by_cases h2:c=42/\e=47
  ·rw [if_pos h2] at h
   by_cases h3:d=1
   ·rw [if_pos h3] at h;cases h;simp only [List.length_cons];omega
   rw [if_neg h3] at h;have:=iV t _ _ _ _ _ _ _ h;simp only [List.length_cons];omega
  rw [if_neg h2] at h;have:=iV (e::t) _ _ _ _ _ _ _ h;simp only [List.length_cons] at this |-
  by_cases hc:c=10
  ·simp only [hc,if_true] at this;omega
  ·simp only [hc,if_false] at this;omega
 termination_by xs=>xs.length
theorem wu (q:Int) (P:Int->Prop) (hq:P q):∀ (xs:List Int) (i:Nat) (acc v:List Int) (j:Nat),lit q xs i acc=some (v,j)->(∀ x∈acc,P x)->(∀ x∈xs,P x)->i<=j/\j < i+xs.length/\∀ x∈v,P x
 | [],i,acc,v,j=>fun h _ _=>by cases h
 | [c],i,acc,v,j=>fun h ha _=>by
  rw [lit] at h;by_cases h1:c=10
  ·rw [if_pos h1] at h;cases h
  rw [if_neg h1] at h;by_cases h2:c=q
  ·rw [if_pos h2] at h;cases h;exact ⟨Nat.le_refl _,by simp,ha⟩
  ·rw [if_neg h2] at h;cases h
 | c::d::t,i,acc,v,j=>fun h ha hx=>by
  rw [lit] at h;by_cases h1:c=10
  ·rw [if_pos h1] at h;cases h
  rw [if_neg h1] at h;by_cases h2:c=q
  ·rw [if_pos h2] at h
   by_cases h3:d=q
   ·rw [if_pos h3] at h
    have:=wu q P hq t (i+2) (acc++[q]) v j h (fun x hx'=>by
     rcases List.mem_append.1 hx' with e | e
     ·exact ha x e
     ·rw [List.mem_singleton.1 e];exact hq) (fun x e=>hx x (by simp [e]))
    simp only [List.length_cons];exact ⟨by omega,by omega,this.2.2⟩
   ·rw [if_neg h3] at h;cases h;exact ⟨Nat.le_refl _,by simp only [List.length_cons];omega,ha⟩
  rw [if_neg h2] at h;have:=wu q P hq (d::t) (i+1) (acc++[c]) v j h (fun x hx'=>by
   rcases List.mem_append.1 hx' with e | e
   ·exact ha x e
   ·rw [List.mem_singleton.1 e];exact hx c (by simp)) (fun x e=>hx x (by simp only [List.mem_cons] at e |-;exact .inr e))
  simp only [List.length_cons] at this |-
  exact ⟨by omega,by omega,this.2.2⟩
 termination_by xs=>xs.length
theorem BH (base:Int) (w:Nat):∀ (k:Nat) (xs v:List Int),nW base w k xs=some v->∀ x∈v,jP x=true
 | 0,xs,v,h=>by cases h;simp
 | k+1,xs,v,h=>by
  rw [nW] at h;cases hg:tX base (xs.take w) 0 with
  | none=>rw [hg] at h;cases h
  | some n =>
   rw [hg] at h;simp only at h;by_cases hp:jP n=true
   rotate_left
   ·rw [if_neg hp] at h;cases h
   rw [if_pos hp] at h;cases hr:nW base w k (xs.drop w) with
   | none=>rw [hr] at h;cases h
   | some u =>
    rw [hr] at h;simp only [Option.map_some,Option.some.injEq] at h;subst h;intro x hx
    rcases List.mem_cons.1 hx with rfl | hx
    ·exact hp
    ·exact BH base w k _ u hr x hx
theorem Qs {x:Int} (h:jP x=true):0<=x/\x < 256:=by
 simp only [jP,Bool.and_eq_true,decide_eq_true_eq] at h;omega
theorem EI {v u:List Int} {sx:Nat} (h:gT v sx=some u):∀ x∈u,0<=x/\x < 256:=by
 have key:∀ (b:Int) (w:Nat),decode b w v=some u->∀ x∈u,0<=x/\x < 256:=by
  intro b w h x hx
  unfold decode at h;by_cases hm:v.length % w≠0
  ·rw [if_pos hm] at h;cases h
  ·rw [if_neg hm] at h;exact Qs (BH _ _ _ _ _ h x hx)
 unfold gT at h;by_cases hs:sx=4
 ·rw [if_pos hs] at h;exact key _ _ h
 ·rw [if_neg hs] at h;exact key _ _ h
theorem DN {v t:List Int} {n m:Nat} (h:iR v n=.ok t m):t=v/\m=n:=by
 unfold iR at h;by_cases hv:1000 < v.length
 ·rw [if_pos hv] at h;cases h
 ·rw [if_neg hv] at h;cases h;exact ⟨rfl,rfl⟩
theorem NT {xs t:List Int} {n:Nat} (hb:∀ x∈xs,0<=x/\x < 256) (h:fZ xs=.ok t n):1<=n/\n<=xs.length/\∀ x∈t,0<=x/\x < 256:=by
 rcases xs with _ | ⟨q,r⟩
 ·cases h
 simp only [fZ] at h;cases hl:lit q r 1 [] with
 | none=>rw [hl] at h;cases h
 | some p =>
  obtain ⟨v,i⟩:=p;rw [hl] at h;simp only at h;obtain ⟨b1,b2,b3⟩:=wu q (fun x=>0<=x/\x < 256) (hb q (by simp)) r 1 [] v i hl (by simp) (fun x e=>hb x (by simp [e]));by_cases hp:v.all jP=true
  rotate_left
  ·rw [if_neg hp] at h;cases h
  rw [if_pos hp] at h;by_cases hs:sfx ((q::r).drop (i+1))=0
  ·rw [if_pos hs] at h
   obtain ⟨rfl,rfl⟩:=DN h;exact ⟨by omega,by simp only [List.length_cons];omega,b3⟩
  rw [if_neg hs] at h;have hlen:i+2<=(q::r).length:=by
   have:0 < ((q::r).drop (i+1)).length:=by
    rcases hd:(q::r).drop (i+1) with _ | ⟨a,b⟩
    ·rw [hd] at hs;exact absurd rfl hs
    ·simp
   rw [List.length_drop] at this;omega
  cases hd:gT v (sfx ((q::r).drop (i+1))) with
  | none=>rw [hd] at h;cases h
  | some u =>
   rw [hd] at h;obtain ⟨rfl,rfl⟩:=DN h;exact ⟨by omega,hlen,EI hd⟩
theorem xE (p:Int->Bool):∀ l:List Int,run p l<=l.length
 | []=>Nat.le_refl _
 | c::t=>by
  unfold run;by_cases h:p c=true
  ·rw [if_pos h];simpa using xE p t
  ·rw [if_neg h];exact Nat.zero_le _
theorem TF {x:Int} (h:0<=x/\x < 256):0<=up x/\up x < 256:=by
 unfold up;by_cases hc:97<=x/\x<=122
 ·rw [if_pos hc];omega
 ·rw [if_neg hc];exact h
theorem NU {c:Int} {r t:List Int} {n:Nat} (hb:∀ x∈c::r,0<=x/\x < 256) (hc:sym c=true) (h:jw (c::r)=.ok t n):1<=n/\n<=(c::r).length/\∀ x∈t,0<=x/\x < 256:=by
 unfold jw at h;by_cases h4:40 < gB (c::r)
 ·rw [if_pos h4] at h;cases h
 rw [if_neg h4] at h;cases h
 have hr:=xE sym (c::r);have h1:1<=run sym (c::r):=by unfold run;rw [if_pos hc];omega
 refine ⟨?_,?_,fun x hx=>?_⟩
 ·unfold gB
  split<;>omega
 ·unfold gB
  split
  ·rename_i hm
   have hd:=xE lU ((c::r).drop (run sym (c::r)+1));rw [List.length_drop] at hd;have hx:run sym (c::r)+1<=(c::r).length:=by
    rcases hq:(c::r).drop (run sym (c::r)) with _ | ⟨a,b⟩
    ·rw [hq] at hm;exact absurd hm.2 (by simp [rF])
    ·have:((c::r).drop (run sym (c::r))).length=(a::b).length:=by rw [hq]
     rw [List.length_drop] at this;have h2:0 < (a::b).length:=by simp
     omega
   omega
  ·exact hr
 ·obtain ⟨y,hy,rfl⟩:=List.mem_map.1 hx
  exact TF (hb y (List.mem_of_mem_take hy))
theorem Qt:∀ l∈signs,1<=l.length/\∀ x∈l,0<=x/\x < 256:=by decide
theorem wz:∀ (a b:List Int),a.isPrefixOf b=true->a.length<=b.length
 | [],b,_=>Nat.zero_le _
 | _::_,[],h=>by cases h
 | x::a,y::b,h=>by
  simp only [List.isPrefixOf,Bool.and_eq_true] at h;have:=wz a b h.2;simp only [List.length_cons];omega
theorem Ke {xs t:List Int} {n:Nat} (h:iY xs=.ok t n):1<=n/\n<=xs.length/\∀ x∈t,0<=x/\x < 256:=by
 unfold iY at h;cases hf:signs.find? (fun x=>x.isPrefixOf xs) with
 | none=>rw [hf] at h;cases h
 | some l =>
  rw [hf] at h;simp only [TR.ok.injEq] at h;obtain ⟨rfl,rfl⟩:=h;obtain ⟨h1,h2⟩:=Qt l (List.mem_of_find?_eq_some hf);exact ⟨h1,wz _ _ (by simpa using List.find?_some hf),h2⟩
theorem lY {k k' n:Nat} {t:List Int} {r:TR} (h:jF k r=.tok k' t n):k'=k/\r=.ok t n:=by
 cases r with
 | err c=>cases h
 | ok t' n'=>cases h;exact ⟨rfl,rfl⟩
theorem BI {r:CR} {k n:Nat} {t:List Int} (h:kT r=.tok k t n):False:=by
 cases r with
 | eof=>cases h
 | done i l b=>unfold kT at h;by_cases hb:b=0<;>simp [hb] at h
theorem ug {xs t:List Int} {k n:Nat} (hb:∀ x∈xs,0<=x/\x < 256) (h:step xs=.tok k t n):1<=n/\n<=xs.length/\(∀ x∈t,0<=x/\x < 256)/\1<=k/\k<=3:=by
 rcases xs with _ | ⟨c,r⟩
 ·cases h
 simp only [step] at h;by_cases h1:c=10
 ·rw [if_pos h1] at h;cases h
 rw [if_neg h1] at h;by_cases h2:c=32
 ·rw [if_pos h2] at h;cases h
 rw [if_neg h2] at h;by_cases h3:gV (c::r)=true
 ·rw [if_pos h3] at h;exact (BI h).elim
 rw [if_neg h3] at h;by_cases h4:c=39\/c=34
 ·rw [if_pos h4] at h
  obtain ⟨rfl,hr⟩:=lY h;obtain ⟨a,b,d⟩:=NT hb hr;exact ⟨a,b,d,by omega,by omega⟩
 rw [if_neg h4] at h;by_cases h5:sym c=true
 ·rw [if_pos h5] at h
  obtain ⟨rfl,hr⟩:=lY h;obtain ⟨a,b,d⟩:=NU hb h5 hr;exact ⟨a,b,d,by omega,by omega⟩
 rw [if_neg h5] at h;obtain ⟨rfl,hr⟩:=lY h;obtain ⟨a,b,d⟩:=Ke hr;exact ⟨a,b,d,by omega,by omega⟩
theorem Ho {xs:List Int} {n dl:Nat} (h:step xs=.lV n dl):1<=n/\n<=xs.length/\dl<=n:=by
 rcases xs with _ | ⟨c,r⟩
 ·cases h
 simp only [step] at h;have key:∀ k R,jF k R≠.lV n dl:=fun k R e=>by cases R<;>cases e
 by_cases h1:c=10
 ·rw [if_pos h1] at h;cases h
 rw [if_neg h1] at h;by_cases h2:c=32
 ·rw [if_pos h2] at h;cases h
 rw [if_neg h2] at h;by_cases h3:gV (c::r)=true
 ·rw [if_pos h3] at h
  cases hR:lV (c::r) 0 0 1 0 with
  | eof=>rw [hR] at h;cases h
  | done i l b =>
   rw [hR] at h;simp only [kT] at h;by_cases hb:b=0
   ·rw [if_pos hb] at h
    cases h
    have:=iV _ _ _ _ _ _ _ _ hR;omega
   ·rw [if_neg hb] at h;cases h
 rw [if_neg h3] at h;by_cases h4:c=39\/c=34
 ·rw [if_pos h4] at h;exact (key _ _ h).elim
 rw [if_neg h4] at h;by_cases h5:sym c=true
 ·rw [if_pos h5] at h;exact (key _ _ h).elim
 rw [if_neg h5] at h;exact (key _ _ h).elim
theorem yS {xs:List Int} (h:step xs≠.fin):1<=xs.length:=by
 rcases xs with _ | ⟨c,r⟩
 ·exact absurd rfl h
 ·simp
end Go.Proofs.YtkkpjonfaflkmaaGreatDoor.S
namespace Go.Proofs.YtkkpjonfaflkmaaGreatDoor.T
open Go.RowKit Go.Proofs.ah.aT Go.Proofs.ah.bn Go.Proofs.ah.bA
set_option linter.unusedSimpArgs false
set_option linter.unusedVariables false
attribute [local go_sem] fB fC gI gJ eD eF fD fE   -- for this text's walks alone
def jU.f (l0:List (gD)):Option (Bool):=if (l0.length:Int) > 0 then (if 0<=(wrap64 ((l0.length:Int) - 1)) then (if (wrap64 ((l0.length:Int) - 1)) < (l0.length:Int) then (if ((aU l0 (wrap64 ((l0.length:Int) - 1))).f0)=3 then (some (((aU l0 (wrap64 ((l0.length:Int) - 1))).f1).toList==([44]:List UInt8))) else (some false)) else (none)) else (none)) else (some false)
set_option maxHeartbeats 8000000 in
set_option maxRecDepth 100000 in
theorem jU.calls (A0:Option Addr) (c0:Nat) (l0:List (gD)) (r:Bool) (w:World) (hr0:Kd.C lD w A0 l0.length l0) (hc0:l0.length<=c0) (h:jU.f l0=some r) :
  Calls Tryz.prog 92 #[.slice A0 l0.length c0] w fun e w'=>e=.returned (.bool r)/\aM w w':=by
 have mE:=aj.mk hr0;have HC0:=aj.mk hc0;clear hr0 hc0;have H:(if (l0.length:Int) > 0 then (if 0<=(wrap64 ((l0.length:Int) - 1)) then (if (wrap64 ((l0.length:Int) - 1)) < (l0.length:Int) then (if ((aU l0 (wrap64 ((l0.length:Int) - 1))).f0)=3 then (some (((aU l0 (wrap64 ((l0.length:Int) - 1))).f1).toList==([44]:List UInt8))) else (some false)) else (none)) else (none)) else (some false))=some r:=h;clear h;by_cases c2:(l0.length:Int) > 0
 rotate_left
 ·rw [if_neg c2] at H
  have oG:decide (0 < (l0.length:Int))=false:=decide_eq_false c2;have JJ:decide (0 < l0.length)=false:=decide_eq_false (by omega);clear c2;obtain rfl:=Option.some.inj H;go_enter Tryz.func92,Tryz.ntmps92
  go_wp2;go_ret;exact ⟨by first | rfl | (simp;done) | (simp [*];done),by repeat (first | exact aM.refl _ | apply aM.step)⟩
 rw [if_pos c2] at H;have oG:decide (0 < (l0.length:Int))=true:=decide_eq_true c2;have JJ:decide (0 < l0.length)=true:=decide_eq_true (by omega);clear c2;obtain ⟨BJ,Qu⟩:∃ j_:Int,(wrap64 ((l0.length:Int) - 1))=j_:=⟨_,rfl⟩;replace H:(if 0<=(BJ) then (if (BJ) < (l0.length:Int) then (if ((aU l0 (BJ)).f0)=3 then (some (((aU l0 (BJ)).f1).toList==([44]:List UInt8))) else (some false)) else (none)) else (none))=some r:=by first | (rw [Qu] at H;exact H) | (simp only [Qu] at H |-;exact H)
 have aky:(IntKind.i64.wrap ((l0.length:Int) - 1))=BJ:=(dx _).trans Qu;by_cases c4:0<=(BJ)
 rotate_left
 ·rw [if_neg c4] at H
  exact absurd H (by simp)
 rw [if_pos c4] at H;have pF:decide (0<=(BJ))=true:=decide_eq_true c4;clear c4;by_cases c5:(BJ) < (l0.length:Int)
 rotate_left
 ·rw [if_neg c5] at H
  exact absurd H (by simp)
 rw [if_pos c5] at H;have nV:decide ((BJ) < (l0.length:Int))=true:=decide_eq_true c5;clear c5;by_cases c6:((aU l0 (BJ)).f0)=3
 ·rw [if_pos c6] at H
  have kP:(((aU l0 (BJ)).f0)==3)=true:=beq_iff_eq.mpr c6;have Bj:(((aU l0 (BJ)).f0) != 3)=false:=bne_eq_false_iff_eq.mpr c6;clear c6;obtain rfl:=Option.some.inj H;have Kg:0<=((BJ):Int):=of_decide_eq_true (by first | (with_reducible assumption) | assumption);have Kh:(BJ) < (l0.length:Int):=of_decide_eq_true (by first | (with_reducible assumption) | assumption);obtain ⟨Xa,YD,TG,TH,TI,TJ,TK,TL⟩:=eY mE.out (BJ) Kg Kh;cases YD
  replace Kg:=eq_true Kg;replace Kh:=eq_true Kh;have YE:0<=((BJ):Int):=of_decide_eq_true (by first | (with_reducible assumption) | assumption);have YF:(BJ) < (l0.length:Int):=of_decide_eq_true (by first | (with_reducible assumption) | assumption);obtain ⟨abn,aiV,aew,aex,aey,aez,aeA,aeB⟩:=eY mE.out (BJ) YE YF;obtain rfl:Xa=abn:=(by injection aiV);replace YE:=eq_true YE;replace YF:=eq_true YF;go_enter Tryz.func92,Tryz.ntmps92
  go_wp2;go_ret;exact ⟨by first | rfl | (simp;done) | (simp only [<- Qu]<;>(first | rfl | simp)) | (simp [*];done),by repeat (first | exact aM.refl _ | apply aM.step)⟩
 rw [if_neg c6] at H;have kP:(((aU l0 (BJ)).f0)==3)=false:=beq_eq_false_iff_ne.mpr c6;have Bj:(((aU l0 (BJ)).f0) != 3)=true:=bne_iff_ne.mpr c6;obtain rfl:=Option.some.inj H;have Kg:0<=((BJ):Int):=of_decide_eq_true (by first | (with_reducible assumption) | assumption);have Kh:(BJ) < (l0.length:Int):=of_decide_eq_true (by first | (with_reducible assumption) | assumption);obtain ⟨Xa,YD,TG,TH,TI,TJ,TK,TL⟩:=eY mE.out (BJ) Kg Kh;cases YD
 replace Kg:=eq_true Kg;replace Kh:=eq_true Kh;go_enter Tryz.func92,Tryz.ntmps92
 go_wp2;go_ret;exact ⟨by first | rfl | (simp;done) | (simp only [<- Qu]<;>(first | rfl | simp)) | (simp [*];done),by repeat (first | exact aM.refl _ | apply aM.step)⟩
end Go.Proofs.YtkkpjonfaflkmaaGreatDoor.T
namespace Go.Proofs.YtkkpjonfaflkmaaGreatDoor.T
open Go.RowKit Go.Proofs.ah.aT Go.Proofs.ah.bn Go.Proofs.ah.bA
set_option linter.unusedSimpArgs false
set_option linter.unusedVariables false
def toS (t:S.Tk):gD:=⟨t.kind,strOfNums t.text,t.gap,t.line,t.at_,t.to⟩
theorem EJ:∀ (l:List S.Tk) (j:Nat) (t:S.Tk),l[j]?=some t->((dV l).drop (j*6)).take 6=Dj t
 | [],j,t,h=>by simp at h
 | a::l,0,t,h=>by
  simp only [List.getElem?_cons_zero,Option.some.injEq] at h;subst h;simp only [dV,List.map_cons,List.flatten_cons,Nat.zero_mul,List.drop_zero];rw [List.take_append,List.take_of_length_le (by show 6<=6;omega)];have:6 - (Dj a).length=0:=rfl;rw [this,List.take_zero,List.append_nil]
 | a::l,j+1,t,h=>by
  simp only [List.getElem?_cons_succ] at h;have:=EJ l j t h;rw [<- this];congr 1
  simp only [dV,List.map_cons,List.flatten_cons];rw [List.drop_append];rw [List.drop_eq_nil_of_le (by show 6<=_;omega),List.nil_append];congr 1
  show (j+1)*6 - 6=j*6
  omega
theorem Qv {W:World} {base:Nat} {ok:Nat->Prop} (cur:List S.Tk):dN (lD.M W base ok) 6 (cur.map toS) (dV cur):=by
 refine ⟨by rw [nZ,List.length_map],fun j p hj=>?_⟩;rw [List.getElem?_map] at hj;cases hc:cur[j]? with
 | none=>rw [hc] at hj;cases hj
 | some t =>
  rw [hc] at hj;simp only [Option.map_some,Option.some.injEq] at hj;subst hj;rw [EJ cur j t hc];exact Tp W base ok (toS t)
theorem Ma {W:World} {base:Nat} {v:Value} {cur:List S.Tk} (h:W.ownsRow base 53 6 v cur.length (dV cur)):Kd.R lD 53 W base (fun _=>True) v (cur.map toS) :=
 ⟨fun _ _=>trivial,dV cur,by rw [List.length_map];exact h,Qv cur⟩
theorem xG {W:World} {base:Nat} {A:Option Addr} {n c:Nat} {cur:List S.Tk} (h:W.ownsRow base 53 6 (.slice A n c) cur.length (dV cur)):n=cur.length/\n<=c/\Kd.C lD W A (cur.map toS).length (cur.map toS):=by
 obtain ⟨A',c',e,hc,hC⟩:=Kd.rT (Ma h);simp only [Value.slice.injEq,List.length_map] at e hc;obtain ⟨rfl,rfl,rfl⟩:=e;exact ⟨rfl,hc,hC⟩
def Bytes (t:S.Tk):Prop:=∀ x∈t.text,0<=x/\x < 256
theorem EK {t:S.Tk} (h:Bytes t) (c:UInt8):((strOfNums t.text).toList==[c])=decide (t.text=[(c.toNat:Int)]):=by
 rw [str_eq,fq _ h];rfl
theorem TM (cur:List S.Tk) (hb:∀ t∈cur,Bytes t) (hl:cur.length<=1000000):jU.f (cur.map toS)=some (S.comma cur):=by
 unfold jU.f S.comma;rcases List.eq_nil_or_concat cur with rfl | ⟨l,t,rfl⟩
 ·rfl
 ·have hlen:((List.concat l t).map toS).length=l.length+1:=by simp
  have hw:wrap64 ((((List.concat l t).map toS).length:Int) - 1)=(l.length:Int):=by
   rw [hlen];have:l.length<=1000000:=by simp at hl;omega
   unfold wrap64;omega
  rw [if_pos (by rw [hlen];omega),hw,if_pos (by omega),if_pos (by rw [hlen];omega)];have hrd:aU ((List.concat l t).map toS) (l.length:Int)=toS t:=by
   unfold aU;simp
  rw [hrd];have hlast:(List.concat l t).getLast?=some t:=by simp
  rw [hlast];have ht:Bytes t:=hb t (by simp);show (if ((t.kind:Nat):Int)=3 then some ((strOfNums t.text).toList==[44]) else some false)=some (decide (t.kind=3)&&decide (t.text=[44]))
  rw [EK ht];by_cases hk:t.kind=3
  ·rw [if_pos (by omega)];simp [hk]
  ·rw [if_neg (by omega)];simp [hk]
theorem Mc (cur:List S.Tk) (hb:∀ t∈cur,Bytes t):kN.f (cur.map toS)=some (S.label cur):=by
 unfold kN.f;rcases cur with _ | ⟨a,_ | ⟨b,_ | ⟨c,r⟩⟩⟩
 ·rfl
 ·rw [if_neg (by simp)];rfl
 ·have hlen:(([a,b]:List S.Tk).map toS).length=2:=rfl
  rw [hlen,if_pos (by omega),if_pos (by omega)];have ha:aU (([a,b]:List S.Tk).map toS) 0=toS a:=rfl;have hb':aU (([a,b]:List S.Tk).map toS) 1=toS b:=rfl;rw [ha,hb',if_pos (by omega:(1:Int) < (2:Nat))];show (if ((a.kind:Nat):Int)=1 then (if ((b.kind:Nat):Int)=3 then some ((strOfNums b.text).toList==[58]) else some false) else some false)=some (decide (a.kind=1)&&decide (b.kind=3)&&decide (b.text=[58]))
  rw [EK (hb b (by simp))];by_cases h1:a.kind=1
  ·rw [if_pos (by omega)]
   by_cases h2:b.kind=3
   ·rw [if_pos (by omega)];simp [h1,h2]
   ·rw [if_neg (by omega)];simp [h1,h2]
  ·rw [if_neg (by omega)];simp [h1]
 ·rw [if_neg (by simp only [List.map_cons,List.length_cons];omega)];rfl
end Go.Proofs.YtkkpjonfaflkmaaGreatDoor.T
namespace Go.Proofs.YtkkpjonfaflkmaaGreatDoor.T
open Go.RowKit Go.Maps Go.Proofs.ah.aT Go.Proofs.ah.bn Go.Proofs.ah.bA
set_option linter.unusedSimpArgs false
set_option linter.unusedVariables false
attribute [local go_sem] Oper.semAt_some
structure It (l H s fp FB:Nat) (src:ByteArray) (hd:Int->Value) (D:DataW Unit) (J:List (List S.Tk)->(Nat->Prop)->World->Prop) (i line:Nat) (v:Value) (cur:List S.Tk) (gap:Bool) (pre:List (List S.Tk)) (F:Nat->Prop) (W:World):Prop where
 sm:ScM s src i line (H+1) (H+1+2) hd D W
 cu:OT (s+1) (s+1+1) H l (s+3) v cur gap W
 jj:J pre F W
 ff:∀ k,F k->(k < H\/s+3<=k)/\v.ownBlock≠some k/\k≠fp/\k≠FB
 hfp:W.heap[fp]?=some (.cells #[.int .i64 0,.int .i64 0] 76 (0,0))
 yR:W.heap[FB]?=some (.cells #[.pointer (some ⟨fp,0,none⟩)] 88 (0,0))
 DR:∀ t∈cur,Bytes t
 len:pre.flatten.length+2*cur.length<=2*i
 l1:H+1 < s
 l2:fp < H
 l3:FB < H
 rows:∀ c g,(hd c).ownBlock=some g->H+1 < g/\g < s
section
variable {l n H s fp FB:Nat} {src:ByteArray} {hd:Int->Value} {D:DataW Unit} {J:List (List S.Tk)->(Nat->Prop)->World->Prop} {i line:Nat} {v:Value} {cur:List S.Tk} {gap:Bool} {pre:List (List S.Tk)} {F:Nat->Prop} {W W':World}
theorem It.uh (h:It l H s fp FB src hd D J i line v cur gap pre F W):∀ k,v.ownBlock=some k->s+3<=k:=fun k e=>(h.cu.own.lt k e).1
theorem It.step (C:Client l n J) (h:It l H s fp FB src hd D J i line v cur gap pre F W) {i' line':Nat} (hb:But (·=s) W W') (hs:Sc s src i' line' (.map (some (H+1))) W') (hi:i<=i'):It l H s fp FB src hd D J i' line' v cur gap pre F W':=by
 have h1:=h.l1;have h2:=h.l2;have h3:=h.l3;have hsm:=h.sm;refine ⟨⟨hs,hsm.sg.but hsm.nm hsm.nr hb,hsm.nm,hsm.nr⟩,h.cu.but hb (fun k e=>⟨by omega,by omega,by omega,fun e2=>by have:=h.uh k e2;omega⟩),C.stable h.jj (hb.mono (fun k _ e hf=>by have:=(h.ff k hf).1;omega)),h.ff,(hb.block fp (Array.getElem?_eq_some_iff.1 h.hfp).1 (by show ¬ fp=s;omega)).trans h.hfp,(hb.block FB (Array.getElem?_eq_some_iff.1 h.yR).1 (by show ¬ FB=s;omega)).trans h.yR,h.DR,by have:=h.len;omega,h1,h2,h3,h.rows⟩
theorem It.new (C:Client l n J) (h:It l H s fp FB src hd D J i line v cur gap pre F W) (hb:But (fun _=>False) W W'):It l H s fp FB src hd D J i line v cur gap pre F W':=by
 have hb2:But (·=s) W W':=hb.mono (fun _ _ e=>e.elim);refine h.step C hb2 ?_ (Nat.le_refl _);exact (hb.block s h.sm.sc.lt (fun e=>e)).trans h.sm.sc
theorem It.put (C:Client l n J) (h:It l H s fp FB src hd D J i line v cur gap pre F W) {v':Value} {cur':List S.Tk} {NV:Bool} (hb:But (fun k=>k=s+1\/k=s+1+1\/v.ownBlock=some k) W W') (hc:OT (s+1) (s+1+1) H l (s+3) v' cur' NV W')
  (hv:∀ k,v'.ownBlock=some k->v.ownBlock=some k\/W.heap.size<=k) (hby:∀ t∈cur',Bytes t) (hl:pre.flatten.length+2*cur'.length<=2*i):It l H s fp FB src hd D J i line v' cur' NV pre F W':=by
 have h1:=h.l1;have h2:=h.l2;have h3:=h.l3;have hsm:=h.sm;have ho:=h.uh;have hne:∀ k,k < s+1->¬ (k=s+1\/k=s+1+1\/v.ownBlock=some k):=fun k hk e=>by
  rcases e with e | e | e
  ·omega
  ·omega
  ·have:=ho k e;omega
 have hblk:∀ k,k < s+1->k < W.heap.size->W'.heap[k]?=W.heap[k]?:=fun k hk hl=>hb.block k hl (hne k hk)
 refine ⟨⟨(hblk s (by omega) hsm.sc.lt).trans hsm.sc,hsm.sg.blk (hblk _ (by omega) hsm.sg.map.lt) (fun c g hg=>hblk g (by have:=h.rows c g hg;omega) ((hsm.sg.row c).lt g hg).2),hsm.nm,hsm.nr⟩,hc,C.stable h.jj (hb.mono (fun k _ e hf=>?_)),fun k hf=>?_,
  (hblk fp (by omega) (Array.getElem?_eq_some_iff.1 h.hfp).1).trans h.hfp,(hblk FB (by omega) (Array.getElem?_eq_some_iff.1 h.yR).1).trans h.yR,hby,hl,h1,h2,h3,h.rows⟩
 ·obtain ⟨q1,q2,_⟩:=h.ff k hf
  rcases e with e | e | e
  ·omega
  ·omega
  ·exact q2 e
 ·obtain ⟨q1,q2,q3,q4⟩:=h.ff k hf
  refine ⟨q1,fun e=>?_,q3,q4⟩;rcases hv k e with e2 | e2
  ·exact q2 e2
  ·have:=C.lt h.jj k hf;omega
theorem It.ended (C:Client l n J) (h:It l H s fp FB src hd D J i line v cur gap pre F W) {pre':List (List S.Tk)} {F':Nat->Prop} (hj:J pre' F' W') (hc:OT (s+1) (s+1+1) H l (s+3) (.slice none 0 0) [] false W')
  (hb:But (fun k=>F k\/k=s+1\/k=s+1+1\/v.ownBlock=some k) W W') (hF:∀ k,F' k->F k\/W.heap.size<=k\/v.ownBlock=some k) (hl:pre'.flatten.length<=2*i):It l H s fp FB src hd D J i line (.slice none 0 0) [] false pre' F' W':=by
 have h1:=h.l1;have h2:=h.l2;have h3:=h.l3;have hsm:=h.sm;have ho:=h.uh;have hne:∀ k,H<=k->k < s+1->¬ (F k\/k=s+1\/k=s+1+1\/v.ownBlock=some k):=fun k hk hk2 e=>by
  rcases e with e | e | e | e
  ·have:=(h.ff k e).1;omega
  ·omega
  ·omega
  ·have:=ho k e;omega
 have hblk:∀ k,H<=k->k < s+1->k < W.heap.size->W'.heap[k]?=W.heap[k]?:=fun k hk hk2 hl=>hb.block k hl (hne k hk hk2)
 have yR:∀ k,(k=fp\/k=FB)->k < W.heap.size->W'.heap[k]?=W.heap[k]?:=fun k hk hl=>hb.block k hl (fun e=>by
  rcases e with e | e | e | e
  ·have:=(h.ff k e).2.2;omega
  ·omega
  ·omega
  ·have:=ho k e;omega)
 have hsz:s+3<=W.heap.size:=h.cu.lw;refine ⟨⟨(hblk s (by omega) (by omega) hsm.sc.lt).trans hsm.sc,hsm.sg.blk (hblk _ (by omega) (by omega) hsm.sg.map.lt) (fun c g hg=>hblk g (by have:=h.rows c g hg;omega) (by have:=h.rows c g hg;omega) ((hsm.sg.row c).lt g hg).2),hsm.nm,hsm.nr⟩,hc,hj,fun k hf=>?_,
  (yR fp (.inl rfl) (Array.getElem?_eq_some_iff.1 h.hfp).1).trans h.hfp,(yR FB (.inr rfl) (Array.getElem?_eq_some_iff.1 h.yR).1).trans h.yR,by simp,by simpa using hl,h1,h2,h3,h.rows⟩
 refine ⟨?_,by simp [Value.ownBlock],?_,?_⟩
 ·rcases hF k hf with e | e | e
  ·exact (h.ff k e).1
  ·omega
  ·have:=ho k e;omega
 ·rcases hF k hf with e | e | e
  ·exact (h.ff k e).2.2.1
  ·omega
  ·have:=ho k e;omega
 ·rcases hF k hf with e | e | e
  ·exact (h.ff k e).2.2.2
  ·omega
  ·have:=ho k e;omega
theorem It.drewN (C:Client l n J) (h:It l H s fp FB src hd D J i line v cur gap pre F W) (q:Nat):It l H s fp FB src hd D J i line v cur gap pre F (W.drewN q):=h.new C ((But.refl _ W).drewN q)
theorem It.Qw (C:Client l n J) (h:It l H s fp FB src hd D J i line v cur gap pre F W) (g:Bool):It l H s fp FB src hd D J i line v cur g pre F (W.setCell ⟨s+1+1,0,none⟩ (.bool g)):=by
 have hb:But (fun k=>k=s+1+1) W (W.setCell ⟨s+1+1,0,none⟩ (.bool g)):=(But.refl (fun k=>k=s+1+1) W).set ⟨s+1+1,0,none⟩ _ rfl;have h1:=h.l1;have hc:=h.cu;refine h.put C (hb.mono (fun k _ e=>.inr (.inl e))) ⟨(hb.block (s+1) (by have:=hc.lw;omega) (by omega)).trans hc.cb,aR (cs:=#[_]) hc.gb 0 _ rfl,(hb.block H (by have:=hc.lw;omega) (by omega)).trans hc.yb,dn hc.own hb (fun k e e2=>by have:=h.uh k e2;omega),hc.l1,hc.l2,hc.l3,hc.n1,hc.n2,hc.n3,Nat.le_trans hc.lw hb.size⟩ (fun k e=>.inl e) h.DR h.len
theorem It.setCur (C:Client l n J) (h:It l H s fp FB src hd D J i line v cur gap pre F W) {v':Value} {cur':List S.Tk} (ho:W.ownsRow (s+3) 53 6 v' cur'.length (dV cur')) (hv:∀ k,v'.ownBlock=some k->v.ownBlock=some k) (hby:∀ t∈cur',Bytes t) (hl:pre.flatten.length+2*cur'.length<=2*i) :
  It l H s fp FB src hd D J i line v' cur' gap pre F (W.setCell ⟨s+1,0,none⟩ v'):=by
 have hb:But (fun k=>k=s+1) W (W.setCell ⟨s+1,0,none⟩ v'):=(But.refl (fun k=>k=s+1) W).set ⟨s+1,0,none⟩ _ rfl;have h1:=h.l1;have hc:=h.cu;refine h.put C (hb.mono (fun k _ e=>.inl e)) ⟨aR (cs:=#[_]) hc.cb 0 _ rfl,(hb.block (s+1+1) (by have:=hc.lw;omega) (by omega)).trans hc.gb,(hb.block H (by have:=hc.lw;omega) (by omega)).trans hc.yb,dn ho hb (fun k e e2=>by have:=(ho.lt k e2).1;omega),hc.l1,hc.l2,hc.l3,hc.n1,hc.n2,hc.n3,Nat.le_trans hc.lw hb.size⟩ (fun k e=>.inl (hv k e)) hby hl
theorem TN {A:Option Addr} {cn cap base:Nat} (h:W.ownsRow base 53 6 (.slice A cn cap) cur.length (dV cur)) (hne:cur≠[]):W.ownsRow base 53 6 (.slice A (cn - 1) cap) cur.dropLast.length (dV cur.dropLast):=by
 refine ⟨nZ _,.inr ?_⟩;rcases h.2 with ⟨e,e2⟩ | ⟨g,cap',cs,e,hg,hb,h1,h2,h3,h4⟩
 ·exact absurd (List.length_eq_zero_iff.1 e2) hne
 ·simp only [Value.slice.injEq] at e
  obtain ⟨rfl,rfl,rfl⟩:=e;refine ⟨g,cap,cs,by rw [List.length_dropLast],hg,hb,by rw [List.length_dropLast];omega,h2,h3,?_⟩;have e1:cur.dropLast=cur.take (cur.length - 1):=List.dropLast_eq_take;rw [List.length_dropLast,e1,<- DL,<- h4,List.take_take];congr 1
  omega
theorem It.abo (C:Client l n J) {A:Option Addr} {cn cap:Nat} (h:It l H s fp FB src hd D J i line (.slice A cn cap) cur gap pre F W) (hne:cur≠[]):It l H s fp FB src hd D J i line (.slice A (cn - 1) cap) cur.dropLast gap pre F (W.setCell ⟨s+1,0,none⟩ (.slice A (cn - 1) cap)) :=
 h.setCur C (TN h.cu.own hne) (fun k e=>by cases A with | none=>simp [Value.ownBlock] at e | some a=>exact e) (fun t ht=>h.DR t ((List.dropLast_sublist _).subset ht)) (by have:=h.len;rw [List.length_dropLast];omega)
theorem It.more (C:Client l n J) {X w1:World} (h:It l H s fp FB src hd D J i line v cur gap pre F W) (hX:But (fun _=>False) W X) {v':Value} {t:S.Tk} (ho:w1.ownsRow (s+3) 53 6 v' (cur.length+1) (dV cur++Dj t)) (hg:X.grownBy w1 v.ownBlock)
  (hv:v'.ownBlock=v.ownBlock\/v'.ownBlock=some X.heap.size) (hby:Bytes t) (hl:pre.flatten.length+2*(cur.length+1)<=2*i) :
  It l H s fp FB src hd D J i line v' (cur++[t]) false pre F ((w1.setCell ⟨s+1,0,none⟩ v').setCell ⟨s+1+1,0,none⟩ (.bool false)):=by
 have hb1:But (fun k=>v.ownBlock=some k) X w1:=⟨hg.os,hg.tape,hg.output,hg.size,fun k hk hn=>hg.block k hk (fun e=>hn e.symm)⟩;have hb2:But (fun k=>k=s+1\/k=s+1+1) w1 ((w1.setCell ⟨s+1,0,none⟩ v').setCell ⟨s+1+1,0,none⟩ (.bool false)):=((But.refl (fun k=>k=s+1\/k=s+1+1) w1).set ⟨s+1,0,none⟩ _ (.inl rfl)).set ⟨s+1+1,0,none⟩ _ (.inr rfl);have h01:But (fun k=>v.ownBlock=some k) W w1:=hX.trans hb1 (fun _ _ e=>e.elim) (fun _ _ e=>e);have h02:But (fun k=>k=s+1\/k=s+1+1\/v.ownBlock=some k) W ((w1.setCell ⟨s+1,0,none⟩ v').setCell ⟨s+1+1,0,none⟩ (.bool false)) :=
  h01.trans hb2 (fun _ _ e=>.inr (.inr e)) (fun _ _ e=>e.elim .inl (fun e=>.inr (.inl e)))
 have h1:=h.l1;have hc:=h.cu;have Sy:=hc.lw;have hge:=h.uh;have hs1:=h01.size;refine h.put C h02 ⟨?_,?_,?_,?_,hc.l1,hc.l2,hc.l3,hc.n1,hc.n2,hc.n3,Nat.le_trans Sy h02.size⟩ (fun k e=>?_) (fun t' ht'=>?_) (by rw [List.length_append];exact hl)
 ·exact (Below.heap_setCell _ ⟨s+1+1,0,none⟩ _ (s+1) (by show s+1≠s+1+1;omega)).trans (aR (cs:=#[_]) ((h01.block (s+1) (by omega) (fun e=>by have:=hge _ e;omega)).trans hc.cb) 0 _ rfl)
 ·exact aR (cs:=#[_]) ((Below.heap_setCell _ ⟨s+1,0,none⟩ _ (s+1+1) (by show s+1+1≠s+1;omega)).trans ((h01.block (s+1+1) (by omega) (fun e=>by have:=hge _ e;omega)).trans hc.gb)) 0 _ rfl
 ·exact (h02.block H (by omega) (fun e=>by rcases e with e | e | e;omega;omega;have:=hge _ e;omega)).trans hc.yb
 ·rw [List.length_append,uf]
  have e:dV [t]=Dj t:=by simp [dV]
  rw [e];refine dn ho hb2 (fun k e e2=>?_);have:=(ho.lt k e2).1;omega
 ·rcases hv with hv | hv
  ·exact .inl (by rw [<- hv,e])
  ·refine .inr ?_
   rw [hv] at e;have:=hX.size;cases e
   exact this
 ·rcases List.mem_append.1 ht' with ht' | ht'
  ·exact h.DR t' ht'
  ·rw [List.mem_singleton.1 ht'];exact hby
theorem zL {A:Option Addr} {cn cap base:Nat} (h:W.ownsRow base 53 6 (.slice A cn cap) cur.length (dV cur)) (hb:∀ t∈cur,Bytes t) (hl:cur.length<=1000000) :
  Calls Tryz.prog 92 #[.slice A cn cap] W fun e w'=>e=.returned (.bool (S.comma cur))/\aM W w':=by
 obtain ⟨rfl,hc,hC⟩:=xG h;have:=jU.calls A cap (cur.map toS) (S.comma cur) W hC (by rw [List.length_map];exact hc) (TM cur hb hl);rwa [List.length_map] at this
theorem zM {A:Option Addr} {cn cap base:Nat} (h:W.ownsRow base 53 6 (.slice A cn cap) cur.length (dV cur)) (hb:∀ t∈cur,Bytes t) :
  Calls Tryz.prog 54 #[.slice A cn cap] W fun e w'=>e=.returned (.bool (S.label cur))/\aM W w':=by
 obtain ⟨rfl,hc,hC⟩:=xG h;have:=kN.calls A cap (cur.map toS) (S.label cur) W hC (by rw [List.length_map];exact hc) (Mc cur hb);rwa [List.length_map] at this
theorem It.other (C:Client l n J) (h:It l H s fp FB src hd D J i line v cur gap pre F W) {A:Nat->Prop} (hb:But A W W') (hA:∀ k,A k->s+3<=k/\¬ F k/\v.ownBlock≠some k):It l H s fp FB src hd D J i line v cur gap pre F W':=by
 have h1:=h.l1;have h2:=h.l2;have h3:=h.l3;have hsm:=h.sm;have hblk:∀ k,k < s+3->k < W.heap.size->W'.heap[k]?=W.heap[k]?:=fun k hk hl=>hb.block k hl (fun e=>by have:=(hA k e).1;omega)
 exact ⟨⟨(hblk s (by omega) hsm.sc.lt).trans hsm.sc,hsm.sg.blk (hblk _ (by omega) hsm.sg.map.lt) (fun c g hg=>hblk g (by have:=h.rows c g hg;omega) ((hsm.sg.row c).lt g hg).2),hsm.nm,hsm.nr⟩,h.cu.but hb (fun k e=>by have:=hA k e;exact ⟨by omega,by omega,by omega,this.2.2⟩),C.stable h.jj (hb.mono (fun k _ e hf=>(hA k e).2.1 hf)),h.ff,
  (hblk fp (by omega) (Array.getElem?_eq_some_iff.1 h.hfp).1).trans h.hfp,(hblk FB (by omega) (Array.getElem?_eq_some_iff.1 h.yR).1).trans h.yR,h.DR,h.len,h1,h2,h3,h.rows⟩
theorem Qx (pre:List (List S.Tk)) (cur:List S.Tk) (a b c:Nat):(pre++S.emit cur a b c).flatten.length<=pre.flatten.length+2*cur.length:=by
 unfold S.emit;by_cases h:cur=[]
 ·rw [if_pos h];simp
 rw [if_neg h];have:0 < cur.length:=List.length_pos_iff.2 h;simp only [List.flatten_append,List.flatten_cons,List.flatten_nil,List.append_nil,List.length_append,List.length_cons,List.length_nil];omega
theorem qy (a b:List (List S.Tk)) (o:S.Out):(S.Out.pre b o).pre a=o.pre (a++b):=by simp [S.Out.pre]
theorem It.NW (C:Client l n J) {cn cap:Nat} {A:Option Addr} (h:It l H s fp FB src hd D J i line (.slice A cn cap) cur gap pre F W) (hi:i<=100000) (a b c:Nat) :
  CallsIn Fence.wide (n+1) Tryz.prog 90 #[.int .i64 a,.int .i64 b,.int .i64 c,.pointer (some ⟨s+1,0,none⟩),.pointer (some ⟨s+1+1,0,none⟩),.pointer (some ⟨H,0,none⟩)] W fun e W' =>
   e=.returned (.bool true)/\∃ F',It l H s fp FB src hd D J i line (.slice none 0 0) [] false (pre++S.emit cur a b c) F' W':=by
 have h1:=h.l1;refine (YA (n+1) (by omega) (C:Client l (n+1 - 1) J) a b c W h.cu h.jj (fun k hk=>?_) (by have:=h.len;omega)).mono ?_
 ·obtain ⟨q1,q2,_⟩:=h.ff k hk
  exact ⟨by omega,by omega,by omega,q2⟩
 ·rintro e W' ⟨rfl,F',hj,hc,hb,hf⟩
  exact ⟨rfl,F',h.ended C hj hc hb hf (by have:=Qx pre cur a b c;have:=h.len;omega)⟩
theorem It.fail (C:Client l n J) (h:It l H s fp FB src hd D J i line v cur gap pre F W) (hb:But (·=s) W W'):OT (s+1) (s+1+1) H l (s+3) v cur gap W'/\J pre F W'/\(∀ k,F k->k≠s+1/\k≠s+1+1/\k≠H/\v.ownBlock≠some k)/\(∀ k,F k->k≠fp) /\
  W'.heap[fp]?=some (.cells #[.int .i64 0,.int .i64 0] 76 (0,0))/\W'.heap[FB]?=some (.cells #[.pointer (some ⟨fp,0,none⟩)] 88 (0,0)):=by
 have h1:=h.l1;have h2:=h.l2;have h3:=h.l3;refine ⟨h.cu.but hb (fun k e=>⟨by omega,by omega,by omega,fun e2=>by have:=h.uh k e2;omega⟩),C.stable h.jj (hb.mono (fun k _ e hf=>by have:=(h.ff k hf).1;omega)),fun k hk=>?_,fun k hk=>(h.ff k hk).2.2.1,(hb.block fp (Array.getElem?_eq_some_iff.1 h.hfp).1 (by show ¬ fp=s;omega)).trans h.hfp,(hb.block FB (Array.getElem?_eq_some_iff.1 h.yR).1 (by show ¬ FB=s;omega)).trans h.yR⟩;obtain ⟨q1,q2,_⟩:=h.ff k hk;exact ⟨by omega,by omega,by omega,q2⟩
end
end Go.Proofs.YtkkpjonfaflkmaaGreatDoor.T
