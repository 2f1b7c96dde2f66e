/- A part of the proof of ScanWrites. -/
import Derived.RangeFuncNested
import Derived.Test.YtkkpjonfaflkmaaGreatDoorCScanWrites4
import Derived.OwnWalkIn
import Derived.TacticsInMore
import Derived.LoopNIn
import Derived.Deep.AppendSrc
import Derived.Sort.LoopGhostIn
set_option linter.all false
namespace Go.Proofs.YtkkpjonfaflkmaaGreatDoor.T
open Go.RowKit
def Rc (fn:FuncId) (tmps:Array Value) (ps:Array Tmp) (assign body:Code) (D:Nat) (st:LoopState) (pend:Option Code):Loop :=
 { state:=st,pending:=pend,fn:=fn,tmps:=tmps,params:=ps,assign:=assign,body:=body,defers:=D }
def Af (w:World) (fn:FuncId) (tmps:Array Value) (ps:Array Tmp) (assign body:Code):World :=
 (w.alloc (.deferred (some []))).alloc (.loop (Rc fn tmps ps assign body w.heap.size .ready none))
variable {F:Fence} {n:Nat} {P:Program}
theorem Bo {g:Operand} {ps:Array Tmp} {assign body:Code} {Q:Exit->Act->World->Prop} {a:Act} {w:World}
  (hro:F.round=none) (h1:1<=n) {gf:Nat} {lb:Array Value} (hg:a.eval g=.func (.func gf) #[] lb) (hFg:F.fn gf) (eg:∀ args w,(callFunc gf args).run P w=.ok (.enter gf args) w)
  (Rdy Dn:World->Prop)
  (hcall:∀ fn rd X,F.fn fn->rd=Rc fn a.tmps ps assign body w.heap.size .ready none->X.heap.size=w.heap.size+2->Below w.heap.size w X->X.heap[w.heap.size]?=some (.deferred (some []))->X.heap[w.heap.size+1]?=some (.loop rd) ->
   CallsIn F (n - 1) P gf (#[.func (.yield (w.heap.size+1)) #[] #[]]++lb) X fun e Z=>(∃ v,e=.returned v) /\
    ((Z.heap[w.heap.size+1]?=some (.loop rd)/\Rdy Z)\/(Z.heap[w.heap.size+1]?=some (.loop { rd with state:=.done,pending:=some .ret })/\Dn Z)))
  (vJ:∀ Z r,w.heap.size+1 < Z.heap.size->Rdy Z->Q .normal { a with defers:={ target:=.collected w.heap.size,args:=#[] }::a.defers } (Z.putObj (w.heap.size+1) (.loop r)))
  (hdone:∀ Z r,w.heap.size+1 < Z.heap.size->Dn Z->Code.ret.wpIn F n P Q { a with defers:={ target:=.collected w.heap.size,args:=#[] }::a.defers } (Z.putObj (w.heap.size+1) (.loop r))) :
  (Code.rangeFunc g ps assign body).wpIn F n P Q a w:=by
 refine wpIn_rangeFunc ?_;intro fn hfn
 rw [hro];refine ⟨w.heap.size+1,[{ target:=.collected w.heap.size,args:=#[] }],Af w fn a.tmps ps assign body,{ target:=.fn (.func gf) lb,args:=#[.func (.yield (w.heap.size+1)) #[] #[]] },Af w fn a.tmps ps assign body,gf,
  #[.func (.yield (w.heap.size+1)) #[] #[]]++lb,Af w fn a.tmps ps assign body,?_,?_,?_,?_,fun _=>h1,?_⟩
 ·exact run_enterLoop_outer _ _ _ _ _
 ·simp only [resolve,hg]
  simp [go_sem]
 ·intro f' hf'
  simp [Target.leads] at hf'
  subst hf';exact hFg
 ·simp [invoke,go_sem,eg]
 refine (hcall fn _ _ hfn rfl (by simp [Af]) (((Below.refl _ w).alloc (Nat.le_refl _) _).alloc (by simp) _)
  ((Below.heap_alloc _ _ _ (by simp)).trans (World.alloc_heap_new w _)) (by have:=World.alloc_heap_new (w.alloc (.deferred (some []))) (.loop (Rc fn a.tmps ps assign body w.heap.size .ready none));rwa [World.size_alloc] at this)).mono ?_
 rintro e Z ⟨⟨v,rfl⟩,⟨hb,hR⟩ | ⟨hb,hD⟩⟩
 ·have hlt:=(Array.getElem?_eq_some_iff.1 hb).1
  exact ⟨none,_,run_endLoop (P:=P) hb (by simp [Rc]),vJ _ _ hlt hR⟩
 ·have hlt:=(Array.getElem?_eq_some_iff.1 hb).1
  exact ⟨some .ret,_,run_endLoop (P:=P) hb (by simp),hdone _ _ hlt hD⟩
def IK (l:Nat) (R:Ending->World->Prop) (e:Exit) (W:World):Prop :=
 ∃ r,W.heap[l]?=some (.loop r)/\match e with
  | .normal=>R (.returned (.bool true)) (W.putObj l (.loop { r with state:=.ready,pending:=none }))
  | .ret=>R (.returned (.bool false)) (W.putObj l (.loop { r with state:=.done,pending:=some .ret }))
  | _=>False
theorem Bp {l D:Nat} {r:Loop} {fn:FuncId} {tmps:Array Value} {ps:Array Tmp} {assign body:Code} {args:Array Value} {W:World} {R:Ending->World->Prop} (hrd:r=Rc fn tmps ps assign body D .ready none) (hF:F.fn fn) (hl:W.heap[l]?=some (.loop r)) (hs:args.size=ps.size)
  (h:assign.wpIn (F.inRound l) n P (Exit.then (fun a1 W1=>W1.heap[l]?=some (.loop r)/\body.wpIn (F.inRound l) n P (fun e _ W2=>IK l R e W2) a1 (W1.putObj l (.loop { r with state:=.busy }))) (fun _ _ _=>False))
   { tmps:=(ps.zip args).foldl (fun t (p,v)=>t.setIfInBounds p v) tmps,defers:=[] } W):YieldAt F n P l args W R:=by
 have e1:r.fn=fn:=by rw [hrd];rfl
 have e2:r.tmps=tmps:=by rw [hrd];rfl
 have e3:r.params=ps:=by rw [hrd];rfl
 have e4:r.assign=assign:=by rw [hrd];rfl
 have e5:r.body=body:=by rw [hrd];rfl
 have e6:r.state=.ready:=by rw [hrd];rfl
 clear hrd;subst e1 e2 e3 e4 e5;refine ⟨r.fn,_,r.assign,r.body,run_yield hl hs,roundIn_of_wpIn hF (wpIn_mono h ?_)⟩;intro e a1 W1 he
 cases e with
 | normal =>
  obtain ⟨h1,h2⟩:=he;refine ⟨_,run_beginRound h1 e6,wpIn_mono h2 ?_⟩;rintro e2 a2 W2 ⟨r2,h3,h4⟩
  cases e2 with
  | normal=>exact ⟨_,_,run_endRound (P:=P) none h3,h4⟩
  | ret=>exact ⟨_,_,run_endRound (P:=P) (some .ret) h3,h4⟩
  | exit id=>exact h4.elim
  | goto t=>exact h4.elim
  | panic ch=>exact h4.elim
  | outgrown=>exact h4.elim
 | exit id=>exact he.elim
 | goto t=>exact he.elim
 | ret=>exact he.elim
 | panic ch=>exact he.elim
 | outgrown=>exact he.elim
end Go.Proofs.YtkkpjonfaflkmaaGreatDoor.T
namespace Go.Proofs.YtkkpjonfaflkmaaGreatDoor.T
open Go.RowKit Go.Proofs.aj.aI Go.Proofs.aj.aY Go.Proofs.aj.bq
attribute [local go_sem] Oper.semAt_some
def abh (n:Nat) (v:Value):Nat:=n+1 - (intOf v).toNat
set_option maxRecDepth 100000 in
set_option maxHeartbeats 2000000 in
theorem PD (n:Nat) (hn:1<=n) (l B1 B2 g N c ww:Nat) (hw:0 < ww) (hN:N<=1000000) (hww:ww<=8) (hc:N<=c) (hc2:c<=9223372036854775807) (J:Nat->World->Prop) (Jx:World->Prop)
  (hJc:∀ k A,J k A->A.cell? ⟨B1,0,none⟩=some (.int .i64 ww)/\A.cell? ⟨B2,0,none⟩=some (.slice (some ⟨g,0,none⟩) N c))
  (hY:∀ k W,k < N / ww->J k W->YieldAt Fence.wide (n - 1) Tryz.prog l #[.slice (some ⟨g,k*ww,none⟩) ww ww] W fun e W'=>(e=.returned (.bool true)/\J (k+1) W')\/(e=.returned (.bool false)/\Jx W'))
  (W:World) (h0:J 0 W) :
  CallsIn Fence.wide n Tryz.prog 154 #[.func (.yield l) #[] #[],.pointer (some ⟨B1,0,none⟩),.pointer (some ⟨B2,0,none⟩)] W fun e W'=>(∃ v,e=.returned v)/\(J (N / ww) W'\/Jx W'):=by
 have HY:=ah.mk hY;have HJ0:=ah.mk h0;have HJc:=ah.mk hJc;clear hY h0 hJc;refine callsIn_of_wp Tryz.func154 rfl trivial ?_ rfl;simp only [Tryz.ntmps154,List.size_toArray,List.length_cons,List.length_nil,Nat.reduceAdd,Nat.reduceSub,Array.replicate_succ,Array.replicate_zero,List.push_toArray,List.append_toArray,List.nil_append,List.cons_append];gi_wp2
 gi_loopw [4] (fun v wr=>∃ k i:Nat,k<=N / ww/\i=k*ww/\i<=N/\v=.int .i64 i/\ah (J k wr))
  (fun v wr=>abh N v)
 case atStart=>exact ⟨0,0,Nat.zero_le _,by omega,Nat.zero_le _,rfl,HJ0⟩
 case round =>
  obtain ⟨k,i,hk,hi,hiN,rfl,HJ⟩:=hrel;obtain ⟨c1,c2⟩:=HJc.out k wr HJ.out;by_cases hlt:k < N / ww
  rotate_left
  ·have hkN:k=N / ww:=by omega
   have hbig:N < i+ww:=by
    have h1:=Nat.div_add_mod N ww;have h2:=Nat.mod_lt N hw;rw [<- hkN,Nat.mul_comm] at h1;omega
   have g1:decide ((i:Int)+(ww:Int)<=(N:Int))=false:=decide_eq_false (by omega);have hlim:i+ww<=1000010:=by omega
   clear hi;gi_wp2
   go_end0
   exact ⟨⟨_,rfl⟩,.inl (by rw [<- hkN];exact HJ.out)⟩
  have hfit:i+ww<=N:=by
   have h1:(k+1)*ww<=N:=by
    have:=Nat.mul_le_of_le_div ww (k+1) N hlt;exact this
   rw [Nat.add_mul] at h1;omega
  have g1:decide ((i:Int)+(ww:Int)<=(N:Int))=true:=decide_eq_true (by omega);have g2:(i:Int)+(ww:Int)<=(N:Int):=by omega
  have g3:(0:Int)<=(i:Int):=by omega
  have g4:(i:Int)<=(i:Int)+(ww:Int):=by omega
  have hlim:i+ww<=1000000:=by omega
  obtain ⟨fn,tmps,assign,body,hy,hR⟩:=HY.out k wr hlt HJ.out;rw [<- hi] at hy;have HR:=Lib.hid hR;have HI:=ah.mk hi;clear hR hi;gi_wp2
  refine HR.out.mono ?_;rintro e W3 (⟨rfl,hJ3⟩ | ⟨rfl,hJx3⟩)
  ·obtain ⟨c1',c2'⟩:=HJc.out _ _ hJ3
   gi_wp2
   go_roundw
   case rel=>exact ⟨k+1,i+ww,by omega,by rw [HI.out,Nat.add_mul];omega,hfit,by go_num,⟨hJ3⟩⟩
   case measure =>
    have e1:abh N (.int .i64 ((i:Int)+(ww:Int)))=N+1 - ((i:Int)+(ww:Int)).toNat:=rfl;have e2:abh N (.int .i64 (i:Int))=N+1 - (i:Int).toNat:=rfl;first | (rw [e1,e2];omega) | (show N+1 - _ < N+1 - _;omega)
  ·gi_wp2
   refine bodyPost_ret (results_none rfl _ _ _) rfl ?_;exact ⟨⟨_,rfl⟩,.inr hJx3⟩
theorem groups.calls (v:Value) (hv:∃ A N c,v=.slice A N c) (ww:Int) (w:World) :
  Calls Tryz.prog 133 #[v,.int .i64 ww] w fun e w'=>e=.returned (.func (.func 154) #[] #[.pointer (some ⟨w.heap.size+1,0,none⟩),.pointer (some ⟨w.heap.size,0,none⟩)])/\w'=(w.alloc (.cells #[v] 100)).alloc (.cells #[.int .i64 ww] 3):=by
 obtain ⟨A,N,c,rfl⟩:∃ A N c,v=.slice A N c:=hv;go_enter Tryz.func133,Tryz.ntmps133
 go_wp2;go_ret;exact ⟨rfl,rfl⟩
theorem CY:∀ args w,(callFunc 154 args).run Tryz.prog w=.ok (.enter 154 args) w:=enters_of Tryz.func154 (by kernel_rfl) rfl
end Go.Proofs.YtkkpjonfaflkmaaGreatDoor.T
namespace Go.Proofs.YtkkpjonfaflkmaaGreatDoor.T
open Go.RowKit Go.Proofs.aj.aI Go.Proofs.aj.aY Go.Proofs.aj.bq
def nu (base:Nat) (v:Value) (xs:List Int) (W:World):Prop :=
 (v=.slice none 0 0/\xs=[])\/∃ g cap,v=.slice (some ⟨g,0,none⟩) xs.length cap/\base<=g/\g < W.heap.size/\xs.length<=cap/\cap<=9223372036854775807 /\
  (∀ j,j < xs.length->W.cell? ⟨g,j,none⟩=some (.int .u8 (xs.getD j 0)))/\∀ j,j < cap->(W.cell? ⟨g,j,none⟩).isSome=true/\W.frozen? ⟨g,j,none⟩=false
theorem nu.nil (base:Nat) (W:World):nu base (.slice none 0 0) [] W:=.inl ⟨rfl,rfl⟩
theorem nu.slice {base:Nat} {v:Value} {xs:List Int} {W:World} (h:nu base v xs W):∃ A c,v=.slice A xs.length c/\xs.length<=c:=by
 rcases h with ⟨rfl,rfl⟩ | ⟨g,cap,rfl,_,_,h,_⟩
 ·exact ⟨_,_,rfl,Nat.le_refl _⟩
 ·exact ⟨_,_,rfl,h⟩
theorem nu.C {base:Nat} {A:Option Addr} {c:Nat} {xs:List Int} {W:World} (h:nu base (.slice A xs.length c) xs W):Kd.C (Kd.int .u8) W A xs.length xs:=by
 refine Kd.KG (d:=(0:Int)) (h1:=fun _=>rfl) ?_;rcases h with ⟨h1,rfl⟩ | ⟨g,cap,h1,_,_,h2,h3,h4,_⟩
 ·simp at h1
  obtain ⟨rfl,_⟩:=h1;exact ⟨rfl,by decide,fun h=>absurd h (by simp)⟩
 ·simp at h1
  obtain ⟨rfl,rfl⟩:=h1;exact ⟨rfl,by omega,fun _=>⟨_,rfl,fun j hj=>by rw [add_plain];exact h4 j hj⟩⟩
theorem nu.below {base B:Nat} {v:Value} {xs:List Int} {W W':World} (h:nu base v xs W) (hB:W.heap.size<=B) (hb:Below B W W'):nu base v xs W':=by
 rcases h with h | ⟨g,cap,h1,h2,h3,h4,h5,h6,h7⟩
 ·exact .inl h
 ·refine .inr ⟨g,cap,h1,h2,by have:=hb.size;omega,h4,h5,fun j hj=>?_,fun j hj=>?_⟩
  ·exact (hb.cell (p:=⟨g,j,none⟩) (by show g < B;omega)).trans (h6 j hj)
  ·rw [hb.cell (p:=⟨g,j,none⟩) (by show g < B;omega),hb.frozen (p:=⟨g,j,none⟩) (by show g < B;omega)]
   exact h7 j hj
theorem nu.alloc {base:Nat} {v:Value} {xs:List Int} {W:World} (h:nu base v xs W) (o:Obj):nu base v xs (W.alloc o):=h.below (Nat.le_refl _) (av (Below.refl _ _) o)
theorem nu.drewN {base:Nat} {v:Value} {xs:List Int} {W:World} (h:nu base v xs W) (n:Nat):nu base v xs (W.drewN n):=h
theorem nu.conv {base:Nat} (W:World) (s:ByteArray) (hb:base<=W.heap.size) (hs:s.size<=100000):nu base (.slice (some ⟨W.heap.size,0,none⟩) s.size (grownCap W s.size 0 5)) (bytesOf s) (Lib.bytesWorld W 5 s):=by
 have hB:=Buf.new W s;have hg:s.size<=grownCap W s.size 0 5:=grownCap_ge W s.size 0 5;have hm:grownCap W s.size 0 5<=maxLen:=grownCap_le_maxLen W s.size 0 5 (by unfold maxLen;omega);unfold maxLen at hm;have hz:(Lib.bytesCells W 5 s).size=grownCap W s.size 0 5:=by
  simp only [Lib.bytesCells,Array.size_append,Array.size_map,Array.size_replicate];have:s.data.size=s.size:=rfl;omega
 refine .inr ⟨W.heap.size,_,by rw [bytesOf_length],hb,by rw [Lib.bytesWorld_size];omega,by rw [bytesOf_length];exact hg,by omega,fun j hj=>hB.cell j hj,fun j hj=>?_⟩;have hn:=Lib.bytesWorld_at_new W 5 s;rw [hz] at hn;constructor
 ·simp only [World.cell?,hn]
  rw [Array.getElem?_eq_getElem (by rw [hz];exact hj)];rfl
 ·simp only [World.frozen?,hn]
  have:¬ grownCap W s.size 0 5<=j:=by omega
  simp [this]
theorem below_setCells {B b:Nat} (hB:B<=b):∀ (vs:List Value) (o:Nat) (W W':World),Below B W W'->Below B W (W'.setCells b o vs)
 | [],_,_,_,h=>h
 | v::vs,o,W,W',h=>below_setCells hB vs (o+1) W _ (h.setCell (p:=⟨b,o,none⟩) hB v)
theorem zu (xs:List Int) (j:Nat) (hj:j < xs.length):(xs.map (Value.int .u8))[j]?=some (.int .u8 (xs.getD j 0)):=by
 simp [List.getD_eq_getElem?_getD,List.getElem?_eq_getElem hj]
theorem RS (xs ys:List Int) (j:Nat):(xs++ys).getD j 0=if j < xs.length then xs.getD j 0 else ys.getD (j - xs.length) 0:=by
 simp only [List.getD_eq_getElem?_getD];by_cases h:j < xs.length
 ·rw [if_pos h,List.getElem?_append_left h]
 ·rw [if_neg h,List.getElem?_append_right (by omega)]
theorem Fa {P:Program} (W:World) (t tx ty e:TypeId) (i:TypeInfo) (ht:P.underlying t=some (.slice e)) (hi:P.info? e=some i) (hz:i.zero=some (.int .u8 0)) (h1:i.size=1) (h2:i.bytes=1)
  (base:Nat) (v:Value) (xs:List Int) (h:nu base v xs W) (x:Value) (news:List Int) (hs:Src P 1 tx x news.length (news.map (Value.int .u8)) W) (hl:xs.length+news.length<=1000000000) (hb:base<=W.heap.size) :
  ∃ v' w',(Builtin.append_ #[t,tx] ty #[v,x]).run P W=.ok v' w'/\nu base v' (xs++news) w'/\Below base W w':=by
 have grow:∀ (ao:Option Addr) (cap:Nat),v=.slice ao xs.length cap->cap < xs.length+news.length->(Builtin.firstCells 1 xs.length (.slice ao xs.length cap)).run P W.drew=.ok (xs.map (Value.int .u8)).toArray W.drew ->
   ∃ v' w',(Builtin.append_ #[t,tx] ty #[v,x]).run P W=.ok v' w'/\nu base v' (xs++news) w'/\Below base W w':=by
  intro ao cap hv hg hold
  have hge:=grownCap_ge W (xs.length+news.length) cap e;have hcm:=grownCap_le_maxLen W (xs.length+news.length) cap e (by unfold maxLen;omega);unfold maxLen at hcm;have hr:=run_append_grow_src (P:=P) W t tx ty e i (.int .u8 0) ht hi hz ao xs.length cap (xs.map (Value.int .u8)) (by rw [h1];exact hold) x news.length (news.map (Value.int .u8)) (by rw [h1];exact hs) hg (by omega) (by rw [h2];exact growslice_fits hg (by omega));rw [hv];have hsz:(((xs.map (Value.int .u8))++(news.map (Value.int .u8))).toArray++Builtin.zeroCells (Value.int .u8 0).cells (grownCap W (xs.length+news.length) cap e - (xs.length+news.length))).size=grownCap W (xs.length+news.length) cap e:=by
   have hz1:(Value.int IntKind.u8 0).cells.size=1:=rfl;simp only [Array.size_append,List.size_toArray,size_zeroCells,hz1,List.length_append,List.length_map];omega
  have hn:=heap_alloc_new W.drew (.cells (((xs.map (Value.int .u8))++(news.map (Value.int .u8))).toArray++Builtin.zeroCells (Value.int .u8 0).cells (grownCap W (xs.length+news.length) cap e - (xs.length+news.length))) e);refine ⟨_,_,hr,.inr ⟨W.heap.size,_,by rw [List.length_append],hb,?_,by rw [List.length_append];omega,by omega,fun j hj=>?_,fun j hj=>?_⟩,(jl (Below.refl base W)).alloc hb _⟩
  ·rw [World.size_alloc];exact Nat.lt_succ_self _
  ·rw [List.length_append] at hj
   have hn':(W.drew.alloc (.cells (((xs.map (Value.int .u8))++(news.map (Value.int .u8))).toArray++Builtin.zeroCells (Value.int .u8 0).cells (grownCap W (xs.length+news.length) cap e - (xs.length+news.length))) e)).heap[W.heap.size]?=_:=hn;simp only [World.cell?,hn'];rw [Array.getElem?_append_left (by simp;omega),List.getElem?_toArray,<- List.map_append,zu _ j (by rw [List.length_append];exact hj)];rfl
  ·have hn':(W.drew.alloc (.cells (((xs.map (Value.int .u8))++(news.map (Value.int .u8))).toArray++Builtin.zeroCells (Value.int .u8 0).cells (grownCap W (xs.length+news.length) cap e - (xs.length+news.length))) e)).heap[W.heap.size]?=_:=hn
   constructor
   ·simp only [World.cell?,hn']
    rw [Array.getElem?_eq_getElem (by rw [hsz];exact hj)];rfl
   ·simp only [World.frozen?,hn']
    simp
 rcases h with ⟨rfl,rfl⟩ | ⟨g,cap,rfl,h3,h4,h5,h6,h7,h8⟩
 ·by_cases h0:news.length=0
  ·obtain rfl:=List.length_eq_zero_iff.1 h0
   refine ⟨.slice none 0 0,W,?_,.inl ⟨rfl,rfl⟩,Below.refl _ _⟩;have hc:=hs.cells;have hl:=hs.len;simp only [List.length_nil,List.map_nil] at hc hl;rcases hs.kind with ⟨e',hk⟩ | hk<;>simp [Builtin.append_,run_underlying ht,run_underlying hk,sizeOf,typeInfo,hi,h1,hl,hc]
  ·exact grow none 0 rfl (by simp;omega) (by simpa using run_firstCells_none W.drew 1 0 0 0)
 ·by_cases hroom:xs.length+news.length<=cap
  rotate_left
  ·refine grow (some ⟨g,0,none⟩) cap rfl (by omega) ?_
   refine run_firstCells_some W.drew 1 xs.length ⟨g,0,none⟩ xs.length cap (xs.map (Value.int .u8)) (by simp) (fun j u hu=>?_);have hj:j < xs.length:=by have:=(List.getElem?_eq_some_iff.1 hu).1;simpa using this
   rw [zu xs j hj] at hu;cases hu
   rw [add_plain];exact h7 j hj
  have hr:=run_append_room_src (P:=P) W t tx ty e i ht hi g 0 xs.length cap x news.length (news.map (Value.int .u8)) (by rw [h1];exact hs) hroom
   (fun j hj=>by rw [h1];exact (h8 _ (by simp at hj;omega)).1) (fun j hj=>by rw [h1];exact (h8 _ (by simp at hj;omega)).2)
  rw [h1] at hr;simp only [Nat.zero_add,Nat.mul_one] at hr;refine ⟨_,_,hr,.inr ⟨g,cap,by rw [List.length_append],h3,?_,by rw [List.length_append];exact hroom,h6,fun j hj=>?_,fun j hj=>?_⟩,below_setCells h3 _ _ _ _ (Below.refl _ _)⟩
  ·exact Nat.lt_of_lt_of_le h4 (below_setCells (B:=base) h3 (news.map (Value.int .u8)) xs.length W W (Below.refl _ _)).size
  ·rw [List.length_append] at hj
   rw [RS];by_cases hjx:j < xs.length
   ·rw [if_pos hjx,World.cell?_setCells_out g _ _ _ _ (fun _ _=>.inl hjx)]
    exact h7 j hjx
   rw [if_neg hjx];have:=World.cell?_setCells_in g (news.map (Value.int .u8)) xs.length W (fun j' hj'=>(h8 _ (by simp at hj';omega)).1) (j - xs.length) (by simp;omega);rw [show xs.length+(j - xs.length)=j by omega] at this;rw [this];simp [List.getD_eq_getElem?_getD,List.getElem?_eq_getElem (show j - xs.length < news.length by omega)]
  ·rw [World.frozen?_setCells]
   exact ⟨World.isSome_setCells g _ _ _ _ (h8 j hj).1,(h8 j hj).2⟩
theorem rZ {P:Program} {w0 W:World} {ops:Array Oper} {rest:List Oper} {o:Oper} {a:Act} {Q:Exit->Act->World->Prop} (hgd:o.guard=none) (sl x:Operand) (t tx e:TypeId)
  (ho:o.op=.call { callee:=.builtin .append,args:=#[sl,x],argTypes:=#[t,tx] })
  (ht:P.underlying t=some (.slice e)) (hinfo:(P.info? e).map (fun i=>(i.zero,i.size,i.bytes))=some (some (.int .u8 0),1,1))
  (base:Nat) (v:Value) (xs:List Int) (hs:a.eval sl=v) (h:nu base v xs W) (xv:Value) (hx:a.eval x=xv) (news:List Int) (hsrc:Src P 1 tx xv news.length (news.map (Value.int .u8)) W)
  (hl:xs.length+news.length<=1000000000) (hb:base<=W.heap.size) (HB:Below base w0 W)
  (hK:∀ v' w',nu base v' (xs++news) w'->Below base w0 w'->wpList P ops Q rest (a.put o.dst v') w'):wpList P ops Q (o::rest) a W:=by
 refine wpList_plain hgd fun K hK'=>?_
 obtain ⟨i,hi,hz,h1,h2⟩:=info_parts hinfo;obtain ⟨v',w',hr,ho',hb'⟩:=Fa (P:=P) W t tx o.type e i ht hi hz h1 h2 base v xs h xv news hsrc hl hb;unfold Oper.wp execOp;simp only [ho,resolve,invoke,builtin,Sem.run_bind,Sem.run_pure,Result.andThen_ok,List.map_toArray,List.map_cons,List.map_nil,hs,hx,hr];exact hK' _ _ (hK v' w' ho' (HB.trans hb'))
theorem ND {P:Program} {tx e:TypeId} (W:World) (hk:P.underlying tx=some (.slice e)) (x:Int) (t:TypeId):Src P 1 tx (.slice (some ⟨W.heap.size,0,none⟩) 1 1) [x].length ([x].map (Value.int .u8)) (W.alloc (.cells #[.int .u8 x] t)):=by
 refine Src.ofSlice _ hk _ _ _ _ (by simp) (fun j u hu=>?_) (fun u hu=>?_)
 ·have hj:j < 1:=by have:=(List.getElem?_eq_some_iff.1 hu).1;simpa using this
  obtain rfl:j=0:=by omega
  simp at hu
  subst hu;rw [add_plain];exact (au (heap_alloc_new W _) 0).trans rfl
 ·simp at hu;subst hu;rfl
end Go.Proofs.YtkkpjonfaflkmaaGreatDoor.T
namespace Go.Proofs.YtkkpjonfaflkmaaGreatDoor.T
open Go.RowKit Go.Proofs.aj.aI Go.Proofs.aj.aY Go.Proofs.aj.bq
attribute [local go_sem] Oper.semAt_some
theorem oM {P:Program} {fn:Func} {p q:Tmp} {tp tq:TypeId} (h:fn.results=#[.cell p tp,.cell q tq]) (tmps:Array Value) (w:World) (a b:Addr) (u v:Value)
  (hp:tmps.getD p undef=.pointer (some a)) (hq:tmps.getD q undef=.pointer (some b)) (hu:(loadVar tp a).run P w=.ok u w) (hv:(loadVar tq b).run P w=.ok v w):(results fn tmps).run P w=.ok (.tuple #[u,v]) w:=by
 have hp':tmps[p]?.getD undef=.pointer (some a):=by simpa using hp
 have hq':tmps[q]?.getD undef=.pointer (some b):=by simpa using hq
 simp [results,h,hp',hq',asAddr,Sem.run_bind,hu,hv,Result.andThen]
def dU (sx:Nat):Int:=if sx=4 then 16 else 2
structure IL (w0:World) (H N ww sx c:Nat) (L:List Int) (r:Option Loop) (k:Nat) (v:Value) (out:List Int) (W:World):Prop where
 b0:W.heap[H]?=some (.cells #[.int .i64 sx] 3 (0,0))
 b1:W.heap[H+1]?=some (.cells #[.string ⟨#[]⟩] 9 (0,0))
 b2:W.heap[H+1+1]?=some (.cells #[.bool false] 4 (0,0))
 b3:W.heap[H+1+1+1]?=some (.cells #[v] 100 (0,0))
 b5:W.heap[H+5]?=some (.cells #[.slice (some ⟨H+1+1+1+1,0,none⟩) N c] 100 (0,0))
 b6:W.heap[H+6]?=some (.cells #[.int .i64 ww] 3 (0,0))
 b7:W.heap[H+7]?=some (.deferred (some []))
 b8:∀ r',r=some r'->W.heap[H+8]?=some (.loop r')
 buf:Buf (H+1+1+1+1) L W
 own:W.ownsRow (H+9) 5 1 v k (out.map (Value.int .u8))
 len:out.length=k
 below:Below H w0 W
 dec:S.lK (dU sx) ww (N / ww) L=(S.lK (dU sx) ww (N / ww - k) (L.drop (k*ww))).map (out++·)
theorem IL.put {w0:World} {H N ww sx c k:Nat} {L:List Int} {r:Option Loop} {v:Value} {out:List Int} {W:World} (h:IL w0 H N ww sx c L r k v out W) (hw0:w0.heap.size=H) (hb:H+8 < W.heap.size) (r':Loop):IL w0 H N ww sx c L (some r') k v out (W.putObj (H+8) (.loop r')):=by
 have ho:∀ j,j≠H+8->(W.putObj (H+8) (.loop r')).heap[j]?=W.heap[j]?:=fun j hj=>World.putObj_heap_other hj
 refine ⟨(ho _ (by omega)).trans h.b0,(ho _ (by omega)).trans h.b1,(ho _ (by omega)).trans h.b2,(ho _ (by omega)).trans h.b3,(ho _ (by omega)).trans h.b5,(ho _ (by omega)).trans h.b6,(ho _ (by omega)).trans h.b7,fun r2 e=>?_,h.buf.blk (ho _ (by omega)),?_,h.len,?_,h.dec⟩
 ·cases e;exact World.putObj_heap_same hb
 ·refine h.own.kept (grownBy_putObj' W (H+8) _) ?_
  rcases hv:v.ownBlock with _ | g
  ·exact .inl rfl
  ·have:=(h.own.lt g hv).1
   exact .inr (by intro e;cases e;omega)
 ·exact h.below.grown (grownBy_putObj' W (H+8) _) (by have:=h.below.size;omega) (fun k e=>by cases e;omega)
theorem IL.drewN {w0:World} {H N ww sx c k:Nat} {L:List Int} {r:Option Loop} {v:Value} {out:List Int} {W:World} (h:IL w0 H N ww sx c L r k v out W) (q:Nat):IL w0 H N ww sx c L r k v out (W.drewN q) :=
 ⟨h.b0,h.b1,h.b2,h.b3,h.b5,h.b6,h.b7,h.b8,h.buf,h.own,h.len,ak h.below q,h.dec⟩
theorem IL.bad {w0:World} {H N ww sx c k:Nat} {L:List Int} {r:Loop} {v:Value} {out:List Int} {W:World} (h:IL w0 H N ww sx c L (some r) k v out W) (hw0:w0.heap.size=H) :
  ((W.setCell ⟨H+1,0,none⟩ (.string ⟨#[]⟩)).setCell ⟨H+1+1,0,none⟩ (.bool false)).heap[H+8]?=some (.loop r) /\
  ((W.setCell ⟨H+1,0,none⟩ (.string ⟨#[]⟩)).setCell ⟨H+1+1,0,none⟩ (.bool false)).heap[H+1]?=some (.cells #[.string ⟨#[]⟩] 9 (0,0)) /\
  ((W.setCell ⟨H+1,0,none⟩ (.string ⟨#[]⟩)).setCell ⟨H+1+1,0,none⟩ (.bool false)).heap[H+1+1]?=some (.cells #[.bool false] 4 (0,0)) /\
  ((W.setCell ⟨H+1,0,none⟩ (.string ⟨#[]⟩)).setCell ⟨H+1+1,0,none⟩ (.bool false)).heap[H+7]?=some (.deferred (some [])) /\
  Below H w0 ((W.setCell ⟨H+1,0,none⟩ (.string ⟨#[]⟩)).setCell ⟨H+1+1,0,none⟩ (.bool false)):=by
 have o1:∀ (A:World) (b k:Nat) (u:Value),k≠b->(A.setCell ⟨b,0,none⟩ u).heap[k]?=A.heap[k]?:=fun A b k u hk=>Below.heap_setCell A ⟨b,0,none⟩ u k hk
 refine ⟨(o1 _ _ _ _ (by omega)).trans ((o1 _ _ _ _ (by omega)).trans (h.b8 _ rfl)),(o1 _ _ _ _ (by omega)).trans (aW (cs:=#[.string ⟨#[]⟩]) h.b1 0 _ rfl),
  aW (cs:=#[.bool false]) ((o1 _ _ _ _ (by omega)).trans h.b2) 0 _ rfl,(o1 _ _ _ _ (by omega)).trans ((o1 _ _ _ _ (by omega)).trans h.b7),
  (h.below.setCell (p:=⟨H+1,0,none⟩) (by show H<=H+1;omega) _).setCell (p:=⟨H+1+1,0,none⟩) (by show H<=H+1+1;omega) _⟩
theorem IL.Bq {w0:World} {H N ww sx c k:Nat} {L:List Int} {r ZX:Loop} {v:Value} {out:List Int} {W:World} {Jn:World->Prop} {p:Prop} (h:IL w0 H N ww sx c L (some r) k v out W) (hw0:w0.heap.size=H) (hp:p) (hr:({ r with state:=.done,pending:=some .ret }:Loop)=ZX) :
  IK (H+8) (fun e Z=>(e=.returned (.bool true)/\Jn Z)\/(e=.returned (.bool false)/\Z.heap[H+8]?=some (.loop ZX)/\p/\Z.heap[H+1]?=some (.cells #[.string ⟨#[]⟩] 9 (0,0))/\Z.heap[H+1+1]?=some (.cells #[.bool false] 4 (0,0))/\Z.heap[H+7]?=some (.deferred (some []))/\Below H w0 Z)) .ret
   ((W.setCell ⟨H+1,0,none⟩ (.string ⟨#[]⟩)).setCell ⟨H+1+1,0,none⟩ (.bool false)):=by
 obtain ⟨z1,z2,z3,z4,z5⟩:=h.bad hw0;refine ⟨r,z1,.inr ⟨rfl,?_⟩⟩;have zl:=(Array.getElem?_eq_some_iff.1 z1).1;exact ⟨(World.putObj_heap_same zl).trans (by rw [hr]),hp,(World.putObj_heap_other (by omega)).trans z2,(World.putObj_heap_other (by omega)).trans z3,(World.putObj_heap_other (by omega)).trans z4,
  Below.grown (row:=some (H+8)) z5 (grownBy_putObj' _ (H+8) _) (by have:=z5.size;omega) (fun k e=>by cases e;omega)⟩
theorem IL.next {w0:World} {H N ww sx c k:Nat} {L:List Int} {rb:Loop} {v v':Value} {out:List Int} {W w1:World} {x:Int} {o1:Obj} (h:IL w0 H N ww sx c L (some rb) k v out W) (hw0:w0.heap.size=H) (h8:H+8 < W.heap.size)
  (hown:w1.ownsRow (H+9) 5 1 v' (k+1) (out.map (Value.int .u8)++[.int .u8 x])) (hg:(W.alloc o1).grownBy w1 v.ownBlock)
  (hdec:S.lK (dU sx) ww (N / ww) L=(S.lK (dU sx) ww (N / ww - (k+1)) (L.drop ((k+1)*ww))).map ((out++[x])++·)) (r':Loop) :
  (w1.setCell ⟨H+1+1+1,0,none⟩ v').heap[H+8]?=some (.loop rb)/\IL w0 H N ww sx c L (some r') (k+1) v' (out++[x]) ((w1.setCell ⟨H+1+1+1,0,none⟩ v').putObj (H+8) (.loop r')):=by
 have hgb:∀ j,j < H+9->w1.heap[j]?=W.heap[j]?:=fun j hj=>by
  refine (hg.block j (by rw [World.size_alloc];omega) ?_).trans (Below.heap_alloc _ _ _ (by omega));intro e
  have:=(h.own.lt j e.symm).1;omega
 have o1:∀ (A:World) (b k:Nat) (u:Value),k≠b->(A.setCell ⟨b,0,none⟩ u).heap[k]?=A.heap[k]?:=fun A b k u hk=>Below.heap_setCell A ⟨b,0,none⟩ u k hk
 have hs1:W.heap.size < w1.heap.size:=by have:=hg.size;rw [World.size_alloc] at this;omega
 have VB:(w1.setCell ⟨H+1+1+1,0,none⟩ v').heap[H+8]?=some (.loop rb):=(o1 _ _ _ _ (by omega)).trans ((hgb _ (by omega)).trans (h.b8 _ rfl));have zl:=(Array.getElem?_eq_some_iff.1 VB).1;refine ⟨VB,?_⟩;have hk:∀ j,j < H+8->j≠H+1+1+1->((w1.setCell ⟨H+1+1+1,0,none⟩ v').putObj (H+8) (.loop r')).heap[j]?=W.heap[j]?:=fun j hj hn =>
  (World.putObj_heap_other (by omega)).trans ((o1 _ _ _ _ hn).trans (hgb j (by omega)))
 have hgs:w1.grownBy (w1.setCell ⟨H+1+1+1,0,none⟩ v') (some (H+1+1+1)):=⟨rfl,rfl,rfl,by simp [World.setCell],fun k _ hk=>o1 _ _ _ _ (fun e=>hk (by rw [e]))⟩;have hne:∀ b,b < H+9->v'.ownBlock=none\/v'.ownBlock≠some b:=fun b hb=>by
  rcases hv:v'.ownBlock with _ | g
  ·exact .inl rfl
  ·have:=(hown.lt g hv).1
   exact .inr (by intro e;cases e;omega)
 have hB1:Below H w0 w1:=(h.below.alloc (by have:=h.below.size;omega) _).grown hg (by have:=h.below.size;rw [World.size_alloc];omega) (fun k e=>by have:=(h.own.lt k e).1;omega);refine ⟨(hk _ (by omega) (by omega)).trans h.b0,(hk _ (by omega) (by omega)).trans h.b1,(hk _ (by omega) (by omega)).trans h.b2,?_,(hk _ (by omega) (by omega)).trans h.b5,(hk _ (by omega) (by omega)).trans h.b6,(hk _ (by omega) (by omega)).trans h.b7,fun r2 e=>?_,h.buf.blk (hk _ (by omega) (by omega)),?_,?_,?_,hdec⟩
 ·exact (World.putObj_heap_other (by omega)).trans (aW (cs:=#[v]) ((hgb _ (by omega)).trans h.b3) 0 _ rfl)
 ·cases e;exact World.putObj_heap_same zl
 ·rw [List.map_append]
  exact (hown.kept hgs (hne _ (by omega))).kept (grownBy_putObj' _ (H+8) _) (hne _ (by omega))
 ·rw [List.length_append,h.len];rfl
 ·refine Below.grown (row:=some (H+8)) ?_ (grownBy_putObj' _ (H+8) _) (by have:=hB1.size;simp [World.setCell];omega) (fun k e=>by cases e;omega)
  exact hB1.setCell (p:=⟨H+1+1+1,0,none⟩) (by show H<=H+1+1+1;omega) _
def dval (y:Int):Int:=Lib.indexByte [48,49,50,51,52,53,54,55,56,57,97,98,99,100,101,102] (bits .or .u8 y 32).toNat.toUInt8
theorem PE (y:Int) (h0:0<=y) (h1:y < 256):-1<=dval y/\dval y<=15/\(S.kH y=true->0<=dval y/\S.pY y=dval y)/\(S.kH y=false->y < 65->S.pY y < 0)/\(S.kH y=false->¬ y < 65->(dval y < 0->S.pY y < 0)/\(0<=dval y->S.pY y=dval y)) :=
 Bj (fun y=>-1<=dval y/\dval y<=15/\(S.kH y=true->0<=dval y/\S.pY y=dval y)/\(S.kH y=false->y < 65->S.pY y < 0)/\(S.kH y=false->¬ y < 65->(dval y < 0->S.pY y < 0)/\(0<=dval y->S.pY y=dval y))) (by decide +kernel) y h0 h1
theorem abj (y:Int):strings_IndexByte.f ⟨#[48,49,50,51,52,53,54,55,56,57,97,98,99,100,101,102]⟩ (bits .or .u8 y 32)=some (dval y):=rfl
theorem yx (L:List Int) (sx ww:Nat) (hsx:(sx=4/\ww=2)\/(sx=1/\ww=8)) (hm:L.length % ww=0):S.eU L sx=S.lK (dU sx) ww (L.length / ww) L:=by
 rcases hsx with ⟨rfl,rfl⟩ | ⟨rfl,rfl⟩<;>simp [S.eU,S.decode,dU,hm]
theorem abk (sx:Nat) (hsx:sx=4\/sx=1) (na dv:Int) (h0:0<=na) (h1:na < 256) (hd0:0<=dv) (hd1:dv < dU sx):bits .or .i64 (wrap64 (na*2 ^ sx)) dv=na*dU sx+dv:=by
 have hw:∀ n:Int,0<=n->n < 2 ^ 62->IntKind.i64.wrap n=n:=fun n h0 h1=>uq n (by omega) (by omega)
 rcases hsx with rfl | rfl
 ·have e1:wrap64 (na*2 ^ 4)=na*16:=by unfold wrap64;omega
  have e2:dU 4=16:=rfl;rw [e2] at hd1;rw [e1,e2];exact bits_join .i64 62 (by decide) hw 4 (na*16) dv (by omega) (by omega) (by omega) hd0 (by omega) (by omega)
 ·have e1:wrap64 (na*2 ^ 1)=na*2:=by unfold wrap64;omega
  have e2:dU 1=2:=rfl;rw [e2] at hd1;rw [e1,e2];exact bits_join .i64 62 (by decide) hw 1 (na*2) dv (by omega) (by omega) (by omega) hd0 (by omega) (by omega)
set_option maxRecDepth 100000 in
set_option maxHeartbeats 4000000 in
theorem zw.calls (a0:ByteArray) (sx ww:Nat) (hsx:(sx=4/\ww=2)\/(sx=1/\ww=8)) (ha:a0.size<=100000) (w:World) :
  Calls Tryz.prog 109 #[.string a0,.int .i64 sx] w fun e w'=>e=.returned (.tuple #[.string (strOfNums ((S.eU (bytesOf a0) sx).getD [])),.bool (S.eU (bytesOf a0) sx).isSome])/\Below w.heap.size w w':=by
 obtain ⟨n,hn⟩:∃ n,a0.size=n:=⟨_,rfl⟩;have hq:Int.tdiv 8 (sx:Int)=(ww:Int):=by rcases hsx with ⟨rfl,rfl⟩ | ⟨rfl,rfl⟩<;>rfl
 have hs0:((sx:Int)==0)=false:=by rcases hsx with ⟨rfl,rfl⟩ | ⟨rfl,rfl⟩<;>rfl
 have hm:Int.tmod (n:Int) (ww:Int)=((n % ww:Nat):Int):=rfl;by_cases hmod:n % ww=0
 rotate_left
 ·have g1:(((n % ww:Nat):Int) != 0)=true:=bne_iff_ne.2 (by omega)
  have g2:((ww:Int)==0)=false:=by rcases hsx with ⟨rfl,rfl⟩ | ⟨rfl,rfl⟩<;>rfl
  have hl:S.eU (bytesOf a0) sx=none:=by
   have hln:(bytesOf a0).length=n:=by rw [bytesOf_length];exact hn
   rcases hsx with ⟨rfl,rfl⟩ | ⟨rfl,rfl⟩<;>simp [S.eU,S.decode,hln,hmod]
  rw [hl];refine (callsIn_wide (n:=8)).1 ?_;refine callsIn_of_wp_marks Tryz.func109 rfl trivial ?_ rfl;simp only [Tryz.ntmps109,List.size_toArray,List.length_cons,List.length_nil,Nat.reduceAdd,Nat.reduceSub,Array.replicate_succ,Array.replicate_zero,List.push_toArray,List.append_toArray,List.nil_append,List.cons_append];gi_wp2
  have q1:(((w.alloc (.cells #[.int .i64 sx] 3)).alloc (.cells #[.string ⟨#[]⟩] 9)).alloc (.cells #[.bool false] 4)).heap[w.heap.size+1]?=some (.cells #[.string ⟨#[]⟩] 9 (0,0)):=by
   refine (Below.heap_alloc _ _ _ (by simp)).trans ?_;have:=heap_alloc_new (w.alloc (.cells #[.int .i64 sx] 3)) (.cells #[.string ⟨#[]⟩] 9);rwa [World.size_alloc] at this
  have q2:(((w.alloc (.cells #[.int .i64 sx] 3)).alloc (.cells #[.string ⟨#[]⟩] 9)).alloc (.cells #[.bool false] 4)).heap[w.heap.size+1+1]?=some (.cells #[.bool false] 4 (0,0)):=by
   have:=heap_alloc_new ((w.alloc (.cells #[.int .i64 sx] 3)).alloc (.cells #[.string ⟨#[]⟩] 9)) (.cells #[.bool false] 4);rwa [World.size_alloc,World.size_alloc] at this
  have qb:Below w.heap.size w (((w.alloc (.cells #[.int .i64 sx] 3)).alloc (.cells #[.string ⟨#[]⟩] 9)).alloc (.cells #[.bool false] 4)):=av (av (av (Below.refl _ _) _) _) _;have g3:=(au q1 0);have g4:=(au q2 0);generalize ((w.alloc (.cells #[.int .i64 sx] 3)).alloc (.cells #[.string ⟨#[]⟩] 9)).alloc (.cells #[.bool false] 4)=Z at *;refine ⟨_,oM (fn:=Tryz.f109) rfl _ _ _ _ (.string ⟨#[]⟩) (.bool false) rfl rfl (by simp [go_sem,g3]) (by simp [go_sem,g4]),rfl,qb⟩
 have g1:(((n % ww:Nat):Int) != 0)=false:=by rw [hmod];rfl
 have g2:((ww:Int)==0)=false:=by rcases hsx with ⟨rfl,rfl⟩ | ⟨rfl,rfl⟩<;>rfl
 have kb:=fun W=>nE (P:=Tryz.prog) 9 100 5 Tryz.underlying9 Tryz.underlying100 Tryz.underlying5 a0 W
 rw [hn] at kb;have HG:=Lib.hid (fun v hv W=>groups.calls v hv ww W);refine (callsIn_wide (n:=8)).1 ?_;refine callsIn_of_wp_marks Tryz.func109 rfl trivial ?_ rfl;simp only [Tryz.ntmps109,List.size_toArray,List.length_cons,List.length_nil,Nat.reduceAdd,Nat.reduceSub,Array.replicate_succ,Array.replicate_zero,List.push_toArray,List.append_toArray,List.nil_append,List.cons_append];have hf1:Fence.wide.fn 133:=trivial;gi_wp2_with (gi_at_call 133;refine (callsIn_wide.2 (HG.out _ ⟨_,_,_,rfl⟩ _)).mono ?_;rintro e w' ⟨rfl,rfl⟩)
 generalize hU:(((w.alloc _).alloc _).alloc _).alloc _=U;have ZY:U.heap.size=w.heap.size+1+1+1+1:=by rw [<- hU];simp
 have WR:Below w.heap.size w U:=by rw [<- hU];exact av (av (av (av (Below.refl _ _) _) _) _) _
 have u0:U.heap[w.heap.size]?=some (.cells #[.int .i64 sx] 3 (0,0)):=by
  rw [<- hU];exact (Below.heap_alloc _ _ _ (by simp<;>omega)).trans ((Below.heap_alloc _ _ _ (by simp<;>omega)).trans ((Below.heap_alloc _ _ _ (by simp)).trans (heap_alloc_new w _)))
 have u1:U.heap[w.heap.size+1]?=some (.cells #[.string ⟨#[]⟩] 9 (0,0)):=by
  rw [<- hU];refine (Below.heap_alloc _ _ _ (by simp<;>omega)).trans ((Below.heap_alloc _ _ _ (by simp)).trans ?_);have:=heap_alloc_new (w.alloc (.cells #[.int .i64 sx] 3)) (.cells #[.string ⟨#[]⟩] 9);rwa [World.size_alloc] at this
 have u2:U.heap[w.heap.size+1+1]?=some (.cells #[.bool false] 4 (0,0)):=by
  rw [<- hU];refine (Below.heap_alloc _ _ _ (by simp)).trans ?_;have:=heap_alloc_new ((w.alloc (.cells #[.int .i64 sx] 3)).alloc (.cells #[.string ⟨#[]⟩] 9)) (.cells #[.bool false] 4);rwa [World.size_alloc,World.size_alloc] at this
 have u3:U.heap[w.heap.size+1+1+1]?=some (.cells #[.slice none 0 0] 100 (0,0)):=by
  rw [<- hU];have:=heap_alloc_new (((w.alloc (.cells #[.int .i64 sx] 3)).alloc (.cells #[.string ⟨#[]⟩] 9)).alloc (.cells #[.bool false] 4)) (.cells #[.slice none 0 0] 100);rwa [World.size_alloc,World.size_alloc,World.size_alloc] at this
 clear hU;generalize hc:grownCap U n 0 5=c;have hcn:n<=c:=by rw [<- hc];exact grownCap_ge U n 0 5
 have hcm:c<=9223372036854775807:=by
  have hm:=grownCap_le_maxLen U n 0 5 (by unfold maxLen;omega);unfold maxLen at hm;omega
 have hbw:Below U.heap.size U (Lib.bytesWorld U 5 a0):=pE (Below.refl _ _) (Nat.le_refl _) 5 a0;have hbuf:=Buf.new U a0;have RU:(Lib.bytesWorld U 5 a0).heap.size=w.heap.size+5:=by rw [Lib.bytesWorld_size,ZY]
 rw [ZY] at hbuf;rw [RU];generalize Lib.bytesWorld U 5 a0=BW at *;obtain ⟨V,hV⟩:∃ V,(BW.alloc (.cells #[.slice (some ⟨w.heap.size+1+1+1+1,0,none⟩) n c] 100)).alloc (.cells #[.int .i64 ww] 3)=V:=⟨_,rfl⟩;rw [hV];have hVs:V.heap.size=w.heap.size+7:=by rw [<- hV];simp [RU]
 have hVB:Below (w.heap.size+5) BW V:=by rw [<- hV,<- RU];exact av (av (Below.refl _ _) _) _
 have v5:V.heap[w.heap.size+5]?=some (.cells #[.slice (some ⟨w.heap.size+1+1+1+1,0,none⟩) n c] 100 (0,0)):=by
  rw [<- hV,<- RU];exact (Below.heap_alloc _ _ _ (by simp)).trans (heap_alloc_new BW _)
 have v6:V.heap[w.heap.size+6]?=some (.cells #[.int .i64 ww] 3 (0,0)):=by
  rw [<- hV];have:=heap_alloc_new (BW.alloc (.cells #[.slice (some ⟨w.heap.size+1+1+1+1,0,none⟩) n c] 100)) (.cells #[.int .i64 ww] 3);rw [World.size_alloc,RU] at this;exact this
 clear hV;generalize hH:w.heap.size=H at *;obtain ⟨N,hN⟩:∃ N,n / ww=N:=⟨_,rfl⟩;refine Bo (F:=Fence.wide) (n:=8) (gf:=154) rfl (by omega) rfl trivial CY
  (fun Z=>∃ v out,IL w H n ww sx c (bytesOf a0) none (n / ww) v out Z) (fun Z=>S.eU (bytesOf a0) sx=none/\Z.heap[H+1]?=some (.cells #[.string ⟨#[]⟩] 9 (0,0))/\Z.heap[H+1+1]?=some (.cells #[.bool false] 4 (0,0))/\Z.heap[H+7]?=some (.deferred (some []))/\Below H w Z)
  ?hcall ?vJ ?hdone
 case hcall =>
  intro fn rd X hfn hrd WS Lj x7 x8
  rw [hVs] at *;have hX0:Below H w X:=((WR.trans (hbw.mono (by omega))).trans (hVB.mono (by omega))).trans (Lj.mono (by omega));have hUX:Below (H+4) U X:=((hbw.mono (by omega)).trans (hVB.mono (by omega))).trans (Lj.mono (by omega));have hI0:IL w H n ww sx c (bytesOf a0) (some rd) 0 (.slice none 0 0) [] X :=
   ⟨(hUX.block _ (by omega)).trans u0,(hUX.block _ (by omega)).trans u1,(hUX.block _ (by omega)).trans u2,(hUX.block _ (by omega)).trans u3,
    (Lj.block _ (by omega)).trans v5,(Lj.block _ (by omega)).trans v6,x7,fun r' e=>by cases e;exact x8,
    (hbuf.blk (((hVB.mono (by omega:H+5<=H+5)).trans (Lj.mono (by omega))).block (H+1+1+1+1) (by omega))),World.ownsRow_nil _ _ _ _,rfl,hX0,by simp⟩
  have HW2:0 < ww/\ww<=8:=by rcases hsx with ⟨_,rfl⟩ | ⟨_,rfl⟩<;>omega
  have hgr:=PD 7 (by omega) (H+8) (H+6) (H+5) (H+1+1+1+1) n c ww HW2.1 (by omega) HW2.2 hcn hcm
   (fun k W=>∃ v out,IL w H n ww sx c (bytesOf a0) (some rd) k v out W)
   (fun Z=>Z.heap[H+8]?=some (.loop { rd with state:=.done,pending:=some .ret })/\S.eU (bytesOf a0) sx=none/\Z.heap[H+1]?=some (.cells #[.string ⟨#[]⟩] 9 (0,0))/\Z.heap[H+1+1]?=some (.cells #[.bool false] 4 (0,0))/\Z.heap[H+7]?=some (.deferred (some []))/\Below H w Z)
   (fun k A ⟨v,out,hd⟩=>⟨(au hd.b6 0).trans rfl,(au hd.b5 0).trans rfl⟩) ?hY X ⟨_,_,hI0⟩
  case hY =>
   rintro k W hk ⟨v,out,hd⟩
   refine Bp (l:=H+8) hrd trivial (hd.b8 _ rfl) rfl ?_;have Fb:=ah.mk hrd;clear hrd;gi_wp2
   refine ⟨hd.b8 _ rfl,?_⟩;have aiA:H+8 < W.heap.size:=(Array.getElem?_eq_some_iff.1 (hd.b8 _ rfl)).1;have HRF:ah (∀ r2:Loop,r2={ rd with state:=LoopState.busy }->({ r2 with state:=.ready,pending:=none }:Loop)=rd/\({ r2 with state:=.done,pending:=some .ret }:Loop)={ rd with state:=.done,pending:=some .ret }):=⟨fun r2 e=>by rw [e,Fb.out];exact ⟨rfl,rfl⟩⟩;generalize hrb:({ rd with state:=LoopState.busy }:Loop)=rb;have jh:=ah.mk (HRF.out rb hrb.symm);have CZ:=ah.mk (hd.put hH aiA rb);generalize W.putObj (H+8) (.loop rb)=WB at *;clear hrb hd HRF Fb;obtain ⟨o,ho⟩:∃ o,k*ww=o:=⟨_,rfl⟩;have HO:=ah.mk ho;have hfit:o+ww<=n:=by
    have:=Nat.mul_le_of_le_div ww (k+1) n hk;rw [Nat.add_mul] at this;omega
   rw [ho];clear ho;have hc0:WB.cell? ⟨H,0,none⟩=some (.int .i64 sx):=(au CZ.out.b0 0).trans rfl;obtain ⟨uw,adN⟩:∃ uw,((bytesOf a0).drop o).take ww=uw:=⟨_,rfl⟩;have HG2:=ah.mk adN;clear adN;have HBAD:ah (S.su (dU sx) uw 0=none->S.eU (bytesOf a0) sx=none):=⟨fun hnone=>by
    rw [yx _ sx ww hsx (by rw [bytesOf_length,hn];exact hmod),bytesOf_length,hn,CZ.out.dec];obtain ⟨m,hm⟩:∃ m,n / ww - k=m+1:=⟨n / ww - k - 1,by omega⟩;rw [hm,HO.out];unfold S.lK;rw [HG2.out,hnone];rfl⟩
   gi_wp2
   gi_loopg [9,11,12,27] ww (fun gg s9 _ _ s27 wr=>∃ (j:Nat) (na:Int),j<=ww/\ww - j<=gg/\s27=.int .i64 j/\s9=.int .i64 na/\ah (aG WB wr)/\ah (0<=na/\na < (dU sx) ^ j)/\ah (S.su (dU sx) (uw.drop j) na=S.su (dU sx) uw 0))
   case atStart=>exact ⟨0,0,Nat.zero_le _,by omega,rfl,rfl,⟨.refl _⟩,⟨Int.le_refl _,by simp⟩,⟨rfl⟩⟩
   case round =>
    obtain ⟨j,na,hj,hg,rfl,rfl,HW,HNA,HA⟩:=hrel;obtain ⟨⟨q,hq2⟩⟩:=HW.out;subst hq2;have s1:WB.cell? ⟨H+1,0,none⟩=some (.string ⟨#[]⟩):=(au CZ.out.b1 0).trans rfl;have s2:WB.cell? ⟨H+1+1,0,none⟩=some (.bool false):=(au CZ.out.b2 0).trans rfl;have t1:WB.frozen? ⟨H+1,0,none⟩=false:=aA CZ.out.b1 0;have t2:WB.frozen? ⟨H+1+1,0,none⟩=false:=aA CZ.out.b2 0;by_cases hlt:j < ww
    rotate_left
    ·have hjw:j=ww:=by omega
     have hna:0<=na/\na < 256:=by
      have h1:=HNA.out;have:(dU sx) ^ j=256:=by
       rw [hjw];rcases hsx with ⟨rfl,rfl⟩ | ⟨rfl,rfl⟩<;>decide
      omega
     have abl:ah (S.su (dU sx) uw 0=some na):=⟨by
      rw [<- HA.out,List.drop_eq_nil_of_le (by rw [<- HG2.out,List.length_take];omega)];rfl⟩
     have hcv:IntKind.u8.wrap na=na:=EZ na hna.1 hna.2;have hltz:¬ (j:Int) < (ww:Int):=by omega
     have hPR:=fun W=>gB.calls na (S.iT na) W (Ny na)
     have DF:S.lK (dU sx) ww (n / ww - k) ((bytesOf a0).drop o)=if S.iT na=true then (S.lK (dU sx) ww (n / ww - (k+1)) ((bytesOf a0).drop (o+ww))).map (na::·) else none:=by
      obtain ⟨m,hm⟩:∃ m,n / ww - k=m+1:=⟨n / ww - k - 1,by omega⟩;rw [hm,show n / ww - (k+1)=m by omega];conv=>{ lhs;unfold S.lK }
      rw [HG2.out,abl.out,List.drop_drop]
     by_cases hpr:S.iT na=true
     rotate_left
     ·have WT:S.iT na=false:=by simpa using hpr
      rw [WT] at hPR;have HPR:=Lib.hid hPR;rw [if_neg hpr] at DF;have HNO:ah (S.eU (bytesOf a0) sx=none):=⟨by
       rw [yx _ sx ww hsx (by rw [bytesOf_length,hn];exact hmod),bytesOf_length,hn,CZ.out.dec,HO.out,DF];rfl⟩
      clear DF hPR;gi_wp2_with (refine ⟨trivial,?_⟩;gi_at_call 65;refine (CallsIn.inRound (H+8) (callsIn_wide.2 (HPR.out _))).mono ?_;rintro e' w' ⟨rfl,⟨⟨q1,rfl⟩⟩⟩)
      exact (CZ.out.drewN (q+q1)).Bq hH HNO.out jh.out.2
     rw [hpr] at hPR;have HPR:=Lib.hid hPR;rw [if_pos hpr] at DF;have abm:ah (S.lK (dU sx) ww (n / ww) (bytesOf a0)=(S.lK (dU sx) ww (n / ww - (k+1)) ((bytesOf a0).drop ((k+1)*ww))).map ((out++[na])++·)):=⟨by
      rw [CZ.out.dec,HO.out,DF,Nat.add_mul,HO.out,Nat.one_mul,Option.map_map];congr 1
      funext x
      simp⟩
     obtain ⟨i0,hi,hz0,hz1,hz2⟩:=info_parts (show (Tryz.prog.info? 5).map (fun i=>(i.zero,i.size,i.bytes))=some (some (.int .u8 0),1,1) by kernel_rfl);have s3:WB.cell? ⟨H+1+1+1,0,none⟩=some v:=(au CZ.out.b3 0).trans rfl;have hkn:k < 1000000:=by
      have:=Nat.div_le_self n ww;omega
     have hWs:H+9<=WB.heap.size:=by
      have:=CZ.out.b8 _ rfl;have:=(Array.getElem?_eq_some_iff.1 this).1;omega
     clear DF hPR;gi_wp2_with (first | (refine ⟨trivial,?_⟩;gi_at_call 65;refine (CallsIn.inRound (H+8) (callsIn_wide.2 (HPR.out _))).mono ?_;rintro e' w' ⟨rfl,⟨⟨q1,rfl⟩⟩⟩) | (gi_at_builtin;refine wpListIn_append_own _ rfl _ _ 100 rfl (H+9) 5 i0 (.int .u8 0) 1 1 Tryz.underlying100 hi hz0 hz1 hz2 rfl (by decide) _ k _ rfl ((CZ.out.drewN _).own.alloc _) ⟨WB.heap.size,0,none⟩ 1 1 [.int .u8 na] rfl rfl (cell_one_new _ _ _) (by simp [Value.oneCell']) (by unfold maxLen;omega) (by omega) (by simp;omega) ?_;intro v' w1 hown' hgrow _;obtain ⟨g',cap',rfl⟩:=ownsRow_succ hown';have hcb:w1.heap[H+1+1+1]?=WB.heap[H+1+1+1]?:=(hgrow.block _ (by simp;omega) (by intro e;have:=(CZ.out.own.lt _ e.symm).1;omega)).trans (Below.heap_alloc _ _ _ (by simp;omega));have c3:w1.cell? ⟨H+1+1+1,0,none⟩=some v:=(au (hcb.trans CZ.out.b3) 0).trans rfl;have f3:=aA (hcb.trans CZ.out.b3) 0))
     obtain ⟨z1,z2⟩:=IL.next (x:=na) (CZ.out.drewN (q+q1)) hH (by show H+8 < WB.heap.size;omega) hown' hgrow abm.out rd
     exact ⟨rb,z1,.inl ⟨rfl,_,out++[na],by rw [jh.out.1];exact z2⟩⟩
    have hltz:(j:Int) < (ww:Int):=by omega
    obtain ⟨y,hy⟩:∃ y,(bytesOf a0).getD (o+j) 0=y:=⟨_,rfl⟩;have hcell:WB.cell? ⟨H+1+1+1+1,o+j,none⟩=some (.int .u8 y):=by
     rw [<- hy];exact CZ.out.buf.cell (o+j) (by rw [bytesOf_length];omega)
    have hyr:0<=y/\y < 256:=by rw [<- hy];exact eG a0 _ (kQ _ _ (by rw [bytesOf_length];omega))
    have HD2:ah (uw.drop j=y::uw.drop (j+1)):=⟨by
     have hl:j < uw.length:=by rw [<- HG2.out,List.length_take,List.length_drop,bytesOf_length];omega
     rw [drop_at uw j hl];congr 1
     rw [<- hy,<- HG2.out];simp only [List.getD_eq_getElem?_getD];rw [List.getElem?_take_of_lt hlt,List.getElem?_drop]⟩
    have HIX:=Lib.hid (fun W=>strings_IndexByte.calls ⟨#[48,49,50,51,52,53,54,55,56,57,97,98,99,100,101,102]⟩ _ _ W (abj y));have hDG:=fun W=>gQ.calls y (S.kH y) W (RL y)
    obtain ⟨p1,p2,p3,p4,p5⟩:=PE y hyr.1 hyr.2;have HST:ah (S.su (dU sx) uw 0=if S.pY y < 0\/dU sx<=S.pY y then none else S.su (dU sx) (uw.drop (j+1)) (na*dU sx+S.pY y)):=⟨by rw [<- HA.out,HD2.out];rfl⟩;have hbs:wrap64 (2 ^ sx)=dU sx:=by rcases hsx with ⟨rfl,_⟩ | ⟨rfl,_⟩<;>simp [wrap64,dU]
    have abn:sx=4\/sx=1:=by rcases hsx with ⟨h,_⟩ | ⟨h,_⟩<;>simp [h]
    have hna:na < 256:=by
     have h1:=HNA.out.2;have:(dU sx) ^ j<=256:=by
      rcases hsx with ⟨rfl,rfl⟩ | ⟨rfl,rfl⟩
      ·have:j=0\/j=1:=by omega
       rcases this with rfl | rfl<;>decide
      ·have:j=0\/j=1\/j=2\/j=3\/j=4\/j=5\/j=6\/j=7:=by omega
       rcases this with rfl | rfl | rfl | rfl | rfl | rfl | rfl | rfl<;>decide
     omega
    have HNX:ah (∀ dv,0<=dv->dv < dU sx->bits .or .i64 (wrap64 (na*2 ^ sx)) dv=na*dU sx+dv/\0<=na*dU sx+dv/\na*dU sx+dv < (dU sx) ^ (j+1)):=⟨fun dv h0 h1=>⟨abk sx abn na dv HNA.out.1 hna h0 h1,by
     have:=HNA.out;have hb0:0<=dU sx:=by rcases abn with rfl | rfl<;>decide
     have:=Int.mul_nonneg HNA.out.1 hb0;omega,by
     have h2:na+1<=(dU sx) ^ j:=HNA.out.2;have hb0:0<=dU sx:=by rcases abn with rfl | rfl<;>decide
     have h3:=Int.mul_le_mul_of_nonneg_right h2 hb0;rw [Int.add_mul,Int.one_mul] at h3;rw [Int.pow_succ];omega⟩⟩
    clear hy hyr;generalize dU sx=bs at *;obtain ⟨dv,hdv⟩:∃ dv,dval y=dv:=⟨_,rfl⟩;rw [hdv] at HIX p1 p2 p3 p5;by_cases c1:S.kH y=true
    ·rw [c1] at hDG
     have RQ:=Lib.hid hDG;obtain ⟨k1,k2⟩:=p3 c1;have g1:decide (dv < 0)=false:=decide_eq_false (by omega);by_cases c3:bs<=dv
     ·have g2:decide (bs<=dv)=true:=decide_eq_true c3
      clear hDG p1 p2 p3 p4 p5 hdv;gi_wp2_with (first | (refine ⟨trivial,?_⟩;gi_at_call 93;refine (CallsIn.inRound (H+8) (callsIn_wide.2 (HIX.out _))).mono ?_;rintro e' w' ⟨rfl,⟨⟨q1,rfl⟩⟩⟩) | (refine ⟨trivial,?_⟩;gi_at_call 96;refine (CallsIn.inRound (H+8) (callsIn_wide.2 (RQ.out _))).mono ?_;rintro e' w' ⟨rfl,⟨⟨q2,rfl⟩⟩⟩))
      exact (CZ.out.drewN (q+q1+q2)).Bq hH (HBAD.out (by rw [HST.out,if_pos (.inr (by omega))])) jh.out.2
     have g2:decide (bs<=dv)=false:=decide_eq_false c3;have HHX:=ah.mk k2;clear hDG p1 p2 p3 p4 p5 hdv;gi_wp2_with (first | (refine ⟨trivial,?_⟩;gi_at_call 93;refine (CallsIn.inRound (H+8) (callsIn_wide.2 (HIX.out _))).mono ?_;rintro e' w' ⟨rfl,⟨⟨q1,rfl⟩⟩⟩) | (refine ⟨trivial,?_⟩;gi_at_call 96;refine (CallsIn.inRound (H+8) (callsIn_wide.2 (RQ.out _))).mono ?_;rintro e' w' ⟨rfl,⟨⟨q2,rfl⟩⟩⟩))
     gi_roundg (ww - (j+1))
     case measure=>omega
     case rel =>
      obtain ⟨k3,k4,k5⟩:=HNX.out dv (by omega) (by omega);refine ⟨j+1,na*bs+dv,by omega,by omega,by go_num,by rw [k3],⟨⟨⟨q+q1+q2,rfl⟩⟩⟩,⟨⟨k4,k5⟩⟩,⟨?_⟩⟩;rw [HST.out,if_neg (by rw [HHX.out];omega),HHX.out]
    have c1':S.kH y=false:=by simpa using c1
    rw [c1'] at hDG;have RQ:=Lib.hid hDG;by_cases c2:y < 65
    ·have k2:=p4 c1' c2
     have g1:decide (y < 65)=true:=decide_eq_true c2;clear hDG p1 p2 p3 p4 p5 hdv;gi_wp2_with (first | (refine ⟨trivial,?_⟩;gi_at_call 93;refine (CallsIn.inRound (H+8) (callsIn_wide.2 (HIX.out _))).mono ?_;rintro e' w' ⟨rfl,⟨⟨q1,rfl⟩⟩⟩) | (refine ⟨trivial,?_⟩;gi_at_call 96;refine (CallsIn.inRound (H+8) (callsIn_wide.2 (RQ.out _))).mono ?_;rintro e' w' ⟨rfl,⟨⟨q2,rfl⟩⟩⟩))
     exact (CZ.out.drewN (q+q1+q2)).Bq hH (HBAD.out (by rw [HST.out,if_pos (.inl k2)])) jh.out.2
    have g1:decide (y < 65)=false:=decide_eq_false c2;obtain ⟨k2,k3⟩:=p5 c1' c2;by_cases c4:dv < 0
    ·have g2:decide (dv < 0)=true:=decide_eq_true c4
     have k2:=k2 c4;clear hDG p1 p2 p3 p4 p5 hdv;gi_wp2_with (first | (refine ⟨trivial,?_⟩;gi_at_call 93;refine (CallsIn.inRound (H+8) (callsIn_wide.2 (HIX.out _))).mono ?_;rintro e' w' ⟨rfl,⟨⟨q1,rfl⟩⟩⟩) | (refine ⟨trivial,?_⟩;gi_at_call 96;refine (CallsIn.inRound (H+8) (callsIn_wide.2 (RQ.out _))).mono ?_;rintro e' w' ⟨rfl,⟨⟨q2,rfl⟩⟩⟩))
     exact (CZ.out.drewN (q+q1+q2)).Bq hH (HBAD.out (by rw [HST.out,if_pos (.inl k2)])) jh.out.2
    have g2:decide (dv < 0)=false:=decide_eq_false c4;have k2:=k3 (by omega);have HHX:=ah.mk k2;by_cases c3:bs<=dv
    ·have g3:decide (bs<=dv)=true:=decide_eq_true c3
     clear hDG p1 p2 p3 p4 p5 hdv;gi_wp2_with (first | (refine ⟨trivial,?_⟩;gi_at_call 93;refine (CallsIn.inRound (H+8) (callsIn_wide.2 (HIX.out _))).mono ?_;rintro e' w' ⟨rfl,⟨⟨q1,rfl⟩⟩⟩) | (refine ⟨trivial,?_⟩;gi_at_call 96;refine (CallsIn.inRound (H+8) (callsIn_wide.2 (RQ.out _))).mono ?_;rintro e' w' ⟨rfl,⟨⟨q2,rfl⟩⟩⟩))
     exact (CZ.out.drewN (q+q1+q2)).Bq hH (HBAD.out (by rw [HST.out,if_pos (.inr (by omega))])) jh.out.2
    have g3:decide (bs<=dv)=false:=decide_eq_false c3;clear hDG p1 p2 p3 p4 p5 hdv;gi_wp2_with (first | (refine ⟨trivial,?_⟩;gi_at_call 93;refine (CallsIn.inRound (H+8) (callsIn_wide.2 (HIX.out _))).mono ?_;rintro e' w' ⟨rfl,⟨⟨q1,rfl⟩⟩⟩) | (refine ⟨trivial,?_⟩;gi_at_call 96;refine (CallsIn.inRound (H+8) (callsIn_wide.2 (RQ.out _))).mono ?_;rintro e' w' ⟨rfl,⟨⟨q2,rfl⟩⟩⟩))
    gi_roundg (ww - (j+1))
    case measure=>omega
    case rel =>
     obtain ⟨k3,k4,k5⟩:=HNX.out dv (by omega) (by omega);refine ⟨j+1,na*bs+dv,by omega,by omega,by go_num,by rw [k3],⟨⟨⟨q+q1+q2,rfl⟩⟩⟩,⟨⟨k4,k5⟩⟩,⟨?_⟩⟩;rw [HST.out,if_neg (by rw [HHX.out];omega),HHX.out]
  refine hgr.mono ?_;rintro e Z ⟨hv,⟨v,out,hd⟩ | ⟨j1,j2,j3,j4,j5,j6⟩⟩
  ·exact ⟨hv,.inl ⟨hd.b8 _ rfl,v,out,⟨hd.b0,hd.b1,hd.b2,hd.b3,hd.b5,hd.b6,hd.b7,fun r' e=>(by cases e),hd.buf,hd.own,hd.len,hd.below,hd.dec⟩⟩⟩
  ·exact ⟨hv,.inr ⟨j1,j2,j3,j4,j5,j6⟩⟩
 case vJ =>
  rintro Z r hlt ⟨v,out,hd⟩
  rw [hVs] at hlt |-
  have hl:S.eU (bytesOf a0) sx=some out:=by
   rw [yx _ sx ww hsx (by rw [bytesOf_length,hn];exact hmod),bytesOf_length,hn,hd.dec,Nat.sub_self];simp [S.lK]
  have hk:=hd.put hH hlt r;generalize Z.putObj (H+8) (.loop r)=Z1 at *;have c3:Z1.cell? ⟨H+1+1+1,0,none⟩=some v:=(au hk.b3 0).trans rfl;have HK:=ah.mk hk;have aiB:(convert 100 9 v).run Tryz.prog Z1=.ok (.string (strOfNums out)) Z1:=vw (P:=Tryz.prog) Tryz.underlying100 Tryz.underlying5 Tryz.underlying9 hk.own;have s1:Z1.cell? ⟨H+1,0,none⟩=some (.string ⟨#[]⟩):=(au hk.b1 0).trans rfl;have s2:Z1.cell? ⟨H+1+1,0,none⟩=some (.bool false):=(au hk.b2 0).trans rfl;have t1:Z1.frozen? ⟨H+1,0,none⟩=false:=aA hk.b1 0;have t2:Z1.frozen? ⟨H+1+1,0,none⟩=false:=aA hk.b2 0;gi_wp2
  have o1:∀ (A:World) (b k:Nat) (u:Value),k≠b->(A.setCell ⟨b,0,none⟩ u).heap[k]?=A.heap[k]?:=fun A b k u hk=>Below.heap_setCell A ⟨b,0,none⟩ u k hk
  have f1:((Z1.setCell ⟨H+1,0,none⟩ (.string (strOfNums out))).setCell ⟨H+1+1,0,none⟩ (.bool true)).heap[H+1]?=some (.cells #[.string (strOfNums out)] 9 (0,0)):=(o1 _ _ _ _ (by omega)).trans (aW (cs:=#[.string ⟨#[]⟩]) HK.out.b1 0 _ rfl);have f2:((Z1.setCell ⟨H+1,0,none⟩ (.string (strOfNums out))).setCell ⟨H+1+1,0,none⟩ (.bool true)).heap[H+1+1]?=some (.cells #[.bool true] 4 (0,0)):=aW (cs:=#[.bool false]) ((o1 _ _ _ _ (by omega)).trans HK.out.b2) 0 _ rfl;have f7:((Z1.setCell ⟨H+1,0,none⟩ (.string (strOfNums out))).setCell ⟨H+1+1,0,none⟩ (.bool true)).heap[H+7]?=some (.deferred (some [])):=(o1 _ _ _ _ (by omega)).trans ((o1 _ _ _ _ (by omega)).trans HK.out.b7);have fb:Below H w ((Z1.setCell ⟨H+1,0,none⟩ (.string (strOfNums out))).setCell ⟨H+1+1,0,none⟩ (.bool true)):=(HK.out.below.setCell (p:=⟨H+1,0,none⟩) (by show H<=H+1;omega) _).setCell (p:=⟨H+1+1,0,none⟩) (by show H<=H+1+1;omega) _;generalize (Z1.setCell ⟨H+1,0,none⟩ (.string (strOfNums out))).setCell ⟨H+1+1,0,none⟩ (.bool true)=Z2 at *;refine ⟨by simp,.inl ⟨_,_,rfl,run_takeDeferred f7,?_⟩⟩;have g1:(Z2.putObj (H+7) (.deferred none)).cell? ⟨H+1,0,none⟩=some (.string (strOfNums out)):=(au ((World.putObj_heap_other (by omega)).trans f1) 0).trans rfl;have g2:(Z2.putObj (H+7) (.deferred none)).cell? ⟨H+1+1,0,none⟩=some (.bool true):=(au ((World.putObj_heap_other (by omega)).trans f2) 0).trans rfl;refine ⟨_,oM (fn:=Tryz.f109) rfl _ _ _ _ (.string (strOfNums out)) (.bool true) rfl rfl (by simp [go_sem,g1]) (by simp [go_sem,g2]),?_⟩;rw [hl];exact ⟨rfl,by rw [hH];exact Below.grown (row:=some (H+7)) fb (grownBy_putObj' _ (H+7) _) (by have:=fb.size;omega) (fun k e=>by cases e;omega)⟩
 case hdone =>
  rintro Z r hlt ⟨hno,j1,j2,j3,j4⟩
  rw [hVs] at hlt |-
  have f1:(Z.putObj (H+8) (.loop r)).heap[H+1]?=some (.cells #[.string ⟨#[]⟩] 9 (0,0)):=(World.putObj_heap_other (by omega)).trans j1;have f2:(Z.putObj (H+8) (.loop r)).heap[H+1+1]?=some (.cells #[.bool false] 4 (0,0)):=(World.putObj_heap_other (by omega)).trans j2;have f7:(Z.putObj (H+8) (.loop r)).heap[H+7]?=some (.deferred (some [])):=(World.putObj_heap_other (by omega)).trans j3;have fb:Below H w (Z.putObj (H+8) (.loop r)):=Below.grown (row:=some (H+8)) j4 (grownBy_putObj' _ (H+8) _) (by have:=j4.size;omega) (fun k e=>by cases e;omega);generalize Z.putObj (H+8) (.loop r)=Z2 at *;gi_wp2
  refine ⟨by simp,.inl ⟨_,_,rfl,run_takeDeferred f7,?_⟩⟩;have g1:(Z2.putObj (H+7) (.deferred none)).cell? ⟨H+1,0,none⟩=some (.string ⟨#[]⟩):=(au ((World.putObj_heap_other (by omega)).trans f1) 0).trans rfl;have g2:(Z2.putObj (H+7) (.deferred none)).cell? ⟨H+1+1,0,none⟩=some (.bool false):=(au ((World.putObj_heap_other (by omega)).trans f2) 0).trans rfl;refine ⟨_,oM (fn:=Tryz.f109) rfl _ _ _ _ (.string ⟨#[]⟩) (.bool false) rfl rfl (by simp [go_sem,g1]) (by simp [go_sem,g2]),?_⟩;rw [hno];exact ⟨rfl,by rw [hH];exact Below.grown (row:=some (H+7)) fb (grownBy_putObj' _ (H+7) _) (by have:=fb.size;omega) (fun k e=>by cases e;omega)⟩
end Go.Proofs.YtkkpjonfaflkmaaGreatDoor.T
