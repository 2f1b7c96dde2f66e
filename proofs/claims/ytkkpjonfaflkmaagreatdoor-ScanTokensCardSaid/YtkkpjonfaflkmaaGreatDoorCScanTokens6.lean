/- For ScanTokens: its callees return what is said of them. -/
import Derived.Test.YtkkpjonfaflkmaaGreatDoorCScanTokens5
import Derived.Sort.LoopGhostIn
namespace Go.Proofs.YtkkpjonfaflkmaaGreatDoor.T
open Go.RowKit Go.Proofs.ah.aT Go.Proofs.ah.bn Go.Proofs.ah.bA
set_option linter.unusedSimpArgs false
set_option linter.unusedVariables false
attribute [local go_sem] Oper.semAt_some
theorem pI {P:Program} {fn:Func} {p q:Tmp} {tp tq:TypeId} (h:fn.results=#[.cell p tp,.cell q tq]) (tmps:Array Value) (w:World) (a b:Addr) (u v:Value)
  (hp:tmps.getD p undef=.pointer (some a)) (hq:tmps.getD q undef=.pointer (some b)) (hu:(loadVar tp a).run P w=.ok u w) (hv:(loadVar tq b).run P w=.ok v w):(results fn tmps).run P w=.ok (.tuple #[u,v]) w:=by
 have hp':tmps[p]?.getD undef=.pointer (some a):=by simpa using hp
 have hq':tmps[q]?.getD undef=.pointer (some b):=by simpa using hq
 simp [results,h,hp',hq',asAddr,Sem.run_bind,hu,hv,Result.andThen]
def fu (sx:Nat):Int:=if sx=4 then 16 else 2
structure GY (w0:World) (H N ww sx c:Nat) (L:List Int) (r:Option Loop) (k:Nat) (v:Value) (out:List Int) (W:World):Prop where
 b0:W.heap[H]?=some (.cells #[.int .i64 sx] 3 (0,0))
 b1:W.heap[H+1]?=some (.cells #[.string ⟨#[]⟩] 9 (0,0))
 b2:W.heap[H+1+1]?=some (.cells #[.bool false] 4 (0,0))
 b3:W.heap[H+1+1+1]?=some (.cells #[v] 100 (0,0))
 b5:W.heap[H+5]?=some (.cells #[.slice (some ⟨H+1+1+1+1,0,none⟩) N c] 100 (0,0))
 b6:W.heap[H+6]?=some (.cells #[.int .i64 ww] 3 (0,0))
 b7:W.heap[H+7]?=some (.deferred (some []))
 b8:∀ r',r=some r'->W.heap[H+8]?=some (.loop r')
 buf:Buf (H+1+1+1+1) L W
 own:W.ownsRow (H+9) 5 1 v k (out.map (Value.int .u8))
 len:out.length=k
 below:Below H w0 W
 dec:S.nW (fu sx) ww (N / ww) L=(S.nW (fu sx) ww (N / ww - k) (L.drop (k*ww))).map (out++·)
theorem GY.put {w0:World} {H N ww sx c k:Nat} {L:List Int} {r:Option Loop} {v:Value} {out:List Int} {W:World} (h:GY w0 H N ww sx c L r k v out W) (hw0:w0.heap.size=H) (hb:H+8 < W.heap.size) (r':Loop):GY w0 H N ww sx c L (some r') k v out (W.putObj (H+8) (.loop r')):=by
 have ho:∀ j,j≠H+8->(W.putObj (H+8) (.loop r')).heap[j]?=W.heap[j]?:=fun j hj=>World.putObj_heap_other hj
 refine ⟨(ho _ (by omega)).trans h.b0,(ho _ (by omega)).trans h.b1,(ho _ (by omega)).trans h.b2,(ho _ (by omega)).trans h.b3,(ho _ (by omega)).trans h.b5,(ho _ (by omega)).trans h.b6,(ho _ (by omega)).trans h.b7,fun r2 e=>?_,h.buf.blk (ho _ (by omega)),?_,h.len,?_,h.dec⟩
 ·cases e;exact World.putObj_heap_same hb
 ·refine h.own.kept (grownBy_putObj' W (H+8) _) ?_
  rcases hv:v.ownBlock with _ | g
  ·exact .inl rfl
  ·have:=(h.own.lt g hv).1
   exact .inr (by intro e;cases e;omega)
 ·exact h.below.grown (grownBy_putObj' W (H+8) _) (by have:=h.below.size;omega) (fun k e=>by cases e;omega)
theorem GY.drewN {w0:World} {H N ww sx c k:Nat} {L:List Int} {r:Option Loop} {v:Value} {out:List Int} {W:World} (h:GY w0 H N ww sx c L r k v out W) (q:Nat):GY w0 H N ww sx c L r k v out (W.drewN q) :=
 ⟨h.b0,h.b1,h.b2,h.b3,h.b5,h.b6,h.b7,h.b8,h.buf,h.own,h.len,ak h.below q,h.dec⟩
theorem GY.bad {w0:World} {H N ww sx c k:Nat} {L:List Int} {r:Loop} {v:Value} {out:List Int} {W:World} (h:GY w0 H N ww sx c L (some r) k v out W) (hw0:w0.heap.size=H) :
  ((W.setCell ⟨H+1,0,none⟩ (.string ⟨#[]⟩)).setCell ⟨H+1+1,0,none⟩ (.bool false)).heap[H+8]?=some (.loop r) /\
  ((W.setCell ⟨H+1,0,none⟩ (.string ⟨#[]⟩)).setCell ⟨H+1+1,0,none⟩ (.bool false)).heap[H+1]?=some (.cells #[.string ⟨#[]⟩] 9 (0,0)) /\
  ((W.setCell ⟨H+1,0,none⟩ (.string ⟨#[]⟩)).setCell ⟨H+1+1,0,none⟩ (.bool false)).heap[H+1+1]?=some (.cells #[.bool false] 4 (0,0)) /\
  ((W.setCell ⟨H+1,0,none⟩ (.string ⟨#[]⟩)).setCell ⟨H+1+1,0,none⟩ (.bool false)).heap[H+7]?=some (.deferred (some [])) /\
  Below H w0 ((W.setCell ⟨H+1,0,none⟩ (.string ⟨#[]⟩)).setCell ⟨H+1+1,0,none⟩ (.bool false)):=by
 have o1:∀ (A:World) (b k:Nat) (u:Value),k≠b->(A.setCell ⟨b,0,none⟩ u).heap[k]?=A.heap[k]?:=fun A b k u hk=>Below.heap_setCell A ⟨b,0,none⟩ u k hk
 refine ⟨(o1 _ _ _ _ (by omega)).trans ((o1 _ _ _ _ (by omega)).trans (h.b8 _ rfl)),(o1 _ _ _ _ (by omega)).trans (aR (cs:=#[.string ⟨#[]⟩]) h.b1 0 _ rfl),
  aR (cs:=#[.bool false]) ((o1 _ _ _ _ (by omega)).trans h.b2) 0 _ rfl,(o1 _ _ _ _ (by omega)).trans ((o1 _ _ _ _ (by omega)).trans h.b7),
  (h.below.setCell (p:=⟨H+1,0,none⟩) (by show H<=H+1;omega) _).setCell (p:=⟨H+1+1,0,none⟩) (by show H<=H+1+1;omega) _⟩
theorem GY.BF {w0:World} {H N ww sx c k:Nat} {L:List Int} {r WV:Loop} {v:Value} {out:List Int} {W:World} {Jn:World->Prop} {p:Prop} (h:GY w0 H N ww sx c L (some r) k v out W) (hw0:w0.heap.size=H) (hp:p) (hr:({ r with state:=.done,pending:=some .ret }:Loop)=WV) :
  GX (H+8) (fun e Z=>(e=.returned (.bool true)/\Jn Z)\/(e=.returned (.bool false)/\Z.heap[H+8]?=some (.loop WV)/\p/\Z.heap[H+1]?=some (.cells #[.string ⟨#[]⟩] 9 (0,0))/\Z.heap[H+1+1]?=some (.cells #[.bool false] 4 (0,0))/\Z.heap[H+7]?=some (.deferred (some []))/\Below H w0 Z)) .ret
   ((W.setCell ⟨H+1,0,none⟩ (.string ⟨#[]⟩)).setCell ⟨H+1+1,0,none⟩ (.bool false)):=by
 obtain ⟨z1,z2,z3,z4,z5⟩:=h.bad hw0;refine ⟨r,z1,.inr ⟨rfl,?_⟩⟩;have zl:=(Array.getElem?_eq_some_iff.1 z1).1;exact ⟨(World.putObj_heap_same zl).trans (by rw [hr]),hp,(World.putObj_heap_other (by omega)).trans z2,(World.putObj_heap_other (by omega)).trans z3,(World.putObj_heap_other (by omega)).trans z4,
  Below.grown (row:=some (H+8)) z5 (grownBy_putObj' _ (H+8) _) (by have:=z5.size;omega) (fun k e=>by cases e;omega)⟩
theorem GY.next {w0:World} {H N ww sx c k:Nat} {L:List Int} {rb:Loop} {v v':Value} {out:List Int} {W w1:World} {x:Int} {o1:Obj} (h:GY w0 H N ww sx c L (some rb) k v out W) (hw0:w0.heap.size=H) (h8:H+8 < W.heap.size)
  (hown:w1.ownsRow (H+9) 5 1 v' (k+1) (out.map (Value.int .u8)++[.int .u8 x])) (hg:(W.alloc o1).grownBy w1 v.ownBlock)
  (hdec:S.nW (fu sx) ww (N / ww) L=(S.nW (fu sx) ww (N / ww - (k+1)) (L.drop ((k+1)*ww))).map ((out++[x])++·)) (r':Loop) :
  (w1.setCell ⟨H+1+1+1,0,none⟩ v').heap[H+8]?=some (.loop rb)/\GY w0 H N ww sx c L (some r') (k+1) v' (out++[x]) ((w1.setCell ⟨H+1+1+1,0,none⟩ v').putObj (H+8) (.loop r')):=by
 have hgb:∀ j,j < H+9->w1.heap[j]?=W.heap[j]?:=fun j hj=>by
  refine (hg.block j (by rw [World.size_alloc];omega) ?_).trans (Below.heap_alloc _ _ _ (by omega));intro e
  have:=(h.own.lt j e.symm).1;omega
 have o1:∀ (A:World) (b k:Nat) (u:Value),k≠b->(A.setCell ⟨b,0,none⟩ u).heap[k]?=A.heap[k]?:=fun A b k u hk=>Below.heap_setCell A ⟨b,0,none⟩ u k hk
 have hs1:W.heap.size < w1.heap.size:=by have:=hg.size;rw [World.size_alloc] at this;omega
 have Sw:(w1.setCell ⟨H+1+1+1,0,none⟩ v').heap[H+8]?=some (.loop rb):=(o1 _ _ _ _ (by omega)).trans ((hgb _ (by omega)).trans (h.b8 _ rfl));have zl:=(Array.getElem?_eq_some_iff.1 Sw).1;refine ⟨Sw,?_⟩;have hk:∀ j,j < H+8->j≠H+1+1+1->((w1.setCell ⟨H+1+1+1,0,none⟩ v').putObj (H+8) (.loop r')).heap[j]?=W.heap[j]?:=fun j hj hn =>
  (World.putObj_heap_other (by omega)).trans ((o1 _ _ _ _ hn).trans (hgb j (by omega)))
 have hgs:w1.grownBy (w1.setCell ⟨H+1+1+1,0,none⟩ v') (some (H+1+1+1)):=⟨rfl,rfl,rfl,by simp [World.setCell],fun k _ hk=>o1 _ _ _ _ (fun e=>hk (by rw [e]))⟩;have hne:∀ b,b < H+9->v'.ownBlock=none\/v'.ownBlock≠some b:=fun b hb=>by
  rcases hv:v'.ownBlock with _ | g
  ·exact .inl rfl
  ·have:=(hown.lt g hv).1
   exact .inr (by intro e;cases e;omega)
 have hB1:Below H w0 w1:=(h.below.alloc (by have:=h.below.size;omega) _).grown hg (by have:=h.below.size;rw [World.size_alloc];omega) (fun k e=>by have:=(h.own.lt k e).1;omega);refine ⟨(hk _ (by omega) (by omega)).trans h.b0,(hk _ (by omega) (by omega)).trans h.b1,(hk _ (by omega) (by omega)).trans h.b2,?_,(hk _ (by omega) (by omega)).trans h.b5,(hk _ (by omega) (by omega)).trans h.b6,(hk _ (by omega) (by omega)).trans h.b7,fun r2 e=>?_,h.buf.blk (hk _ (by omega) (by omega)),?_,?_,?_,hdec⟩
 ·exact (World.putObj_heap_other (by omega)).trans (aR (cs:=#[v]) ((hgb _ (by omega)).trans h.b3) 0 _ rfl)
 ·cases e;exact World.putObj_heap_same zl
 ·rw [List.map_append]
  exact (hown.kept hgs (hne _ (by omega))).kept (grownBy_putObj' _ (H+8) _) (hne _ (by omega))
 ·rw [List.length_append,h.len];rfl
 ·refine Below.grown (row:=some (H+8)) ?_ (grownBy_putObj' _ (H+8) _) (by have:=hB1.size;simp [World.setCell];omega) (fun k e=>by cases e;omega)
  exact hB1.setCell (p:=⟨H+1+1+1,0,none⟩) (by show H<=H+1+1+1;omega) _
def dval (y:Int):Int:=Lib.indexByte [48,49,50,51,52,53,54,55,56,57,97,98,99,100,101,102] (bits .or .u8 y 32).toNat.toUInt8
theorem NM (y:Int) (h0:0<=y) (h1:y < 256):-1<=dval y/\dval y<=15/\(S.lU y=true->0<=dval y/\S.qZ y=dval y)/\(S.lU y=false->y < 65->S.qZ y < 0)/\(S.lU y=false->¬ y < 65->(dval y < 0->S.qZ y < 0)/\(0<=dval y->S.qZ y=dval y)) :=
 Bu (fun y=>-1<=dval y/\dval y<=15/\(S.lU y=true->0<=dval y/\S.qZ y=dval y)/\(S.lU y=false->y < 65->S.qZ y < 0)/\(S.lU y=false->¬ y < 65->(dval y < 0->S.qZ y < 0)/\(0<=dval y->S.qZ y=dval y))) (by decide +kernel) y h0 h1
theorem Yn (y:Int):strings_IndexByte.f ⟨#[48,49,50,51,52,53,54,55,56,57,97,98,99,100,101,102]⟩ (bits .or .u8 y 32)=some (dval y):=rfl
theorem yQ (L:List Int) (sx ww:Nat) (hsx:(sx=4/\ww=2)\/(sx=1/\ww=8)) (hm:L.length % ww=0):S.gT L sx=S.nW (fu sx) ww (L.length / ww) L:=by
 rcases hsx with ⟨rfl,rfl⟩ | ⟨rfl,rfl⟩<;>simp [S.gT,S.decode,fu,hm]
theorem Yo (sx:Nat) (hsx:sx=4\/sx=1) (na dv:Int) (h0:0<=na) (h1:na < 256) (hd0:0<=dv) (hd1:dv < fu sx):bits .or .i64 (wrap64 (na*2 ^ sx)) dv=na*fu sx+dv:=by
 have hw:∀ n:Int,0<=n->n < 2 ^ 62->IntKind.i64.wrap n=n:=fun n h0 h1=>vC n (by omega) (by omega)
 rcases hsx with rfl | rfl
 ·have e1:wrap64 (na*2 ^ 4)=na*16:=by unfold wrap64;omega
  have e2:fu 4=16:=rfl;rw [e2] at hd1;rw [e1,e2];exact bits_join .i64 62 (by decide) hw 4 (na*16) dv (by omega) (by omega) (by omega) hd0 (by omega) (by omega)
 ·have e1:wrap64 (na*2 ^ 1)=na*2:=by unfold wrap64;omega
  have e2:fu 1=2:=rfl;rw [e2] at hd1;rw [e1,e2];exact bits_join .i64 62 (by decide) hw 1 (na*2) dv (by omega) (by omega) (by omega) hd0 (by omega) (by omega)
set_option maxRecDepth 100000 in
set_option maxHeartbeats 4000000 in
theorem zI.calls (a0:ByteArray) (sx ww:Nat) (hsx:(sx=4/\ww=2)\/(sx=1/\ww=8)) (ha:a0.size<=100000) (w:World) :
  Calls Tryz.prog 109 #[.string a0,.int .i64 sx] w fun e w'=>e=.returned (.tuple #[.string (strOfNums ((S.gT (bytesOf a0) sx).getD [])),.bool (S.gT (bytesOf a0) sx).isSome])/\Below w.heap.size w w':=by
 obtain ⟨n,hn⟩:∃ n,a0.size=n:=⟨_,rfl⟩;have hq:Int.tdiv 8 (sx:Int)=(ww:Int):=by rcases hsx with ⟨rfl,rfl⟩ | ⟨rfl,rfl⟩<;>rfl
 have hs0:((sx:Int)==0)=false:=by rcases hsx with ⟨rfl,rfl⟩ | ⟨rfl,rfl⟩<;>rfl
 have hm:Int.tmod (n:Int) (ww:Int)=((n % ww:Nat):Int):=rfl;by_cases hmod:n % ww=0
 rotate_left
 ·have g1:(((n % ww:Nat):Int) != 0)=true:=bne_iff_ne.2 (by omega)
  have g2:((ww:Int)==0)=false:=by rcases hsx with ⟨rfl,rfl⟩ | ⟨rfl,rfl⟩<;>rfl
  have hl:S.gT (bytesOf a0) sx=none:=by
   have hln:(bytesOf a0).length=n:=by rw [bytesOf_length];exact hn
   rcases hsx with ⟨rfl,rfl⟩ | ⟨rfl,rfl⟩<;>simp [S.gT,S.decode,hln,hmod]
  rw [hl];refine (callsIn_wide (n:=8)).1 ?_;refine callsIn_of_wp_marks Tryz.func109 rfl trivial ?_ rfl;simp only [Tryz.ntmps109,List.size_toArray,List.length_cons,List.length_nil,Nat.reduceAdd,Nat.reduceSub,Array.replicate_succ,Array.replicate_zero,List.push_toArray,List.append_toArray,List.nil_append,List.cons_append];gi_wp2
  have q1:(((w.alloc (.cells #[.int .i64 sx] 3)).alloc (.cells #[.string ⟨#[]⟩] 9)).alloc (.cells #[.bool false] 4)).heap[w.heap.size+1]?=some (.cells #[.string ⟨#[]⟩] 9 (0,0)):=by
   refine (Below.heap_alloc _ _ _ (by simp)).trans ?_;have:=heap_alloc_new (w.alloc (.cells #[.int .i64 sx] 3)) (.cells #[.string ⟨#[]⟩] 9);rwa [World.size_alloc] at this
  have q2:(((w.alloc (.cells #[.int .i64 sx] 3)).alloc (.cells #[.string ⟨#[]⟩] 9)).alloc (.cells #[.bool false] 4)).heap[w.heap.size+1+1]?=some (.cells #[.bool false] 4 (0,0)):=by
   have:=heap_alloc_new ((w.alloc (.cells #[.int .i64 sx] 3)).alloc (.cells #[.string ⟨#[]⟩] 9)) (.cells #[.bool false] 4);rwa [World.size_alloc,World.size_alloc] at this
  have qb:Below w.heap.size w (((w.alloc (.cells #[.int .i64 sx] 3)).alloc (.cells #[.string ⟨#[]⟩] 9)).alloc (.cells #[.bool false] 4)):=ay (ay (ay (Below.refl _ _) _) _) _;have g3:=(au q1 0);have g4:=(au q2 0);generalize ((w.alloc (.cells #[.int .i64 sx] 3)).alloc (.cells #[.string ⟨#[]⟩] 9)).alloc (.cells #[.bool false] 4)=Z at *;refine ⟨_,pI (fn:=Tryz.f109) rfl _ _ _ _ (.string ⟨#[]⟩) (.bool false) rfl rfl (by simp [go_sem,g3]) (by simp [go_sem,g4]),rfl,qb⟩
 have g1:(((n % ww:Nat):Int) != 0)=false:=by rw [hmod];rfl
 have g2:((ww:Int)==0)=false:=by rcases hsx with ⟨rfl,rfl⟩ | ⟨rfl,rfl⟩<;>rfl
 have kb:=fun W=>nR (P:=Tryz.prog) 9 100 5 Tryz.underlying9 Tryz.underlying100 Tryz.underlying5 a0 W
 rw [hn] at kb;have HG:=Lib.hid (fun v hv W=>groups.calls v hv ww W);refine (callsIn_wide (n:=8)).1 ?_;refine callsIn_of_wp_marks Tryz.func109 rfl trivial ?_ rfl;simp only [Tryz.ntmps109,List.size_toArray,List.length_cons,List.length_nil,Nat.reduceAdd,Nat.reduceSub,Array.replicate_succ,Array.replicate_zero,List.push_toArray,List.append_toArray,List.nil_append,List.cons_append];have hf1:Fence.wide.fn 133:=trivial;gi_wp2_with (gi_at_call 133;refine (callsIn_wide.2 (HG.out _ ⟨_,_,_,rfl⟩ _)).mono ?_;rintro e w' ⟨rfl,rfl⟩)
 generalize hU:(((w.alloc _).alloc _).alloc _).alloc _=U;have WW:U.heap.size=w.heap.size+1+1+1+1:=by rw [<- hU];simp
 have Tw:Below w.heap.size w U:=by rw [<- hU];exact ay (ay (ay (ay (Below.refl _ _) _) _) _) _
 have u0:U.heap[w.heap.size]?=some (.cells #[.int .i64 sx] 3 (0,0)):=by
  rw [<- hU];exact (Below.heap_alloc _ _ _ (by simp<;>omega)).trans ((Below.heap_alloc _ _ _ (by simp<;>omega)).trans ((Below.heap_alloc _ _ _ (by simp)).trans (heap_alloc_new w _)))
 have u1:U.heap[w.heap.size+1]?=some (.cells #[.string ⟨#[]⟩] 9 (0,0)):=by
  rw [<- hU];refine (Below.heap_alloc _ _ _ (by simp<;>omega)).trans ((Below.heap_alloc _ _ _ (by simp)).trans ?_);have:=heap_alloc_new (w.alloc (.cells #[.int .i64 sx] 3)) (.cells #[.string ⟨#[]⟩] 9);rwa [World.size_alloc] at this
 have u2:U.heap[w.heap.size+1+1]?=some (.cells #[.bool false] 4 (0,0)):=by
  rw [<- hU];refine (Below.heap_alloc _ _ _ (by simp)).trans ?_;have:=heap_alloc_new ((w.alloc (.cells #[.int .i64 sx] 3)).alloc (.cells #[.string ⟨#[]⟩] 9)) (.cells #[.bool false] 4);rwa [World.size_alloc,World.size_alloc] at this
 have u3:U.heap[w.heap.size+1+1+1]?=some (.cells #[.slice none 0 0] 100 (0,0)):=by
  rw [<- hU];have:=heap_alloc_new (((w.alloc (.cells #[.int .i64 sx] 3)).alloc (.cells #[.string ⟨#[]⟩] 9)).alloc (.cells #[.bool false] 4)) (.cells #[.slice none 0 0] 100);rwa [World.size_alloc,World.size_alloc,World.size_alloc] at this
 clear hU;generalize hc:grownCap U n 0 5=c;have hcn:n<=c:=by rw [<- hc];exact grownCap_ge U n 0 5
 have hcm:c<=9223372036854775807:=by
  have hm:=grownCap_le_maxLen U n 0 5 (by unfold maxLen;omega);unfold maxLen at hm;omega
 have hbw:Below U.heap.size U (Lib.bytesWorld U 5 a0):=qj (Below.refl _ _) (Nat.le_refl _) 5 a0;have hbuf:=Buf.new U a0;have Qn:(Lib.bytesWorld U 5 a0).heap.size=w.heap.size+5:=by rw [Lib.bytesWorld_size,WW]
 rw [WW] at hbuf;rw [Qn];generalize Lib.bytesWorld U 5 a0=BW at *;obtain ⟨V,hV⟩:∃ V,(BW.alloc (.cells #[.slice (some ⟨w.heap.size+1+1+1+1,0,none⟩) n c] 100)).alloc (.cells #[.int .i64 ww] 3)=V:=⟨_,rfl⟩;rw [hV];have hVs:V.heap.size=w.heap.size+7:=by rw [<- hV];simp [Qn]
 have hVB:Below (w.heap.size+5) BW V:=by rw [<- hV,<- Qn];exact ay (ay (Below.refl _ _) _) _
 have v5:V.heap[w.heap.size+5]?=some (.cells #[.slice (some ⟨w.heap.size+1+1+1+1,0,none⟩) n c] 100 (0,0)):=by
  rw [<- hV,<- Qn];exact (Below.heap_alloc _ _ _ (by simp)).trans (heap_alloc_new BW _)
 have v6:V.heap[w.heap.size+6]?=some (.cells #[.int .i64 ww] 3 (0,0)):=by
  rw [<- hV];have:=heap_alloc_new (BW.alloc (.cells #[.slice (some ⟨w.heap.size+1+1+1+1,0,none⟩) n c] 100)) (.cells #[.int .i64 ww] 3);rw [World.size_alloc,Qn] at this;exact this
 clear hV;generalize hH:w.heap.size=H at *;obtain ⟨N,hN⟩:∃ N,n / ww=N:=⟨_,rfl⟩;refine BA (F:=Fence.wide) (n:=8) (gf:=154) rfl (by omega) rfl trivial Dg
  (fun Z=>∃ v out,GY w H n ww sx c (bytesOf a0) none (n / ww) v out Z) (fun Z=>S.gT (bytesOf a0) sx=none/\Z.heap[H+1]?=some (.cells #[.string ⟨#[]⟩] 9 (0,0))/\Z.heap[H+1+1]?=some (.cells #[.bool false] 4 (0,0))/\Z.heap[H+7]?=some (.deferred (some []))/\Below H w Z)
  ?hcall ?wm ?hdone
 case hcall =>
  intro fn rd X hfn hrd Tx JZ x7 x8
  rw [hVs] at *;have hX0:Below H w X:=((Tw.trans (hbw.mono (by omega))).trans (hVB.mono (by omega))).trans (JZ.mono (by omega));have hUX:Below (H+4) U X:=((hbw.mono (by omega)).trans (hVB.mono (by omega))).trans (JZ.mono (by omega));have hI0:GY w H n ww sx c (bytesOf a0) (some rd) 0 (.slice none 0 0) [] X :=
   ⟨(hUX.block _ (by omega)).trans u0,(hUX.block _ (by omega)).trans u1,(hUX.block _ (by omega)).trans u2,(hUX.block _ (by omega)).trans u3,
    (JZ.block _ (by omega)).trans v5,(JZ.block _ (by omega)).trans v6,x7,fun r' e=>by cases e;exact x8,
    (hbuf.blk (((hVB.mono (by omega:H+5<=H+5)).trans (JZ.mono (by omega))).block (H+1+1+1+1) (by omega))),World.ownsRow_nil _ _ _ _,rfl,hX0,by simp⟩
  have HW2:0 < ww/\ww<=8:=by rcases hsx with ⟨_,rfl⟩ | ⟨_,rfl⟩<;>omega
  have hgr:=NK 7 (by omega) (H+8) (H+6) (H+5) (H+1+1+1+1) n c ww HW2.1 (by omega) HW2.2 hcn hcm
   (fun k W=>∃ v out,GY w H n ww sx c (bytesOf a0) (some rd) k v out W)
   (fun Z=>Z.heap[H+8]?=some (.loop { rd with state:=.done,pending:=some .ret })/\S.gT (bytesOf a0) sx=none/\Z.heap[H+1]?=some (.cells #[.string ⟨#[]⟩] 9 (0,0))/\Z.heap[H+1+1]?=some (.cells #[.bool false] 4 (0,0))/\Z.heap[H+7]?=some (.deferred (some []))/\Below H w Z)
   (fun k A ⟨v,out,hd⟩=>⟨(au hd.b6 0).trans rfl,(au hd.b5 0).trans rfl⟩) ?hY X ⟨_,_,hI0⟩
  case hY =>
   rintro k W hk ⟨v,out,hd⟩
   refine BD (l:=H+8) hrd trivial (hd.b8 _ rfl) rfl ?_;have EG:=aj.mk hrd;clear hrd;gi_wp2
   refine ⟨hd.b8 _ rfl,?_⟩;have aiJ:H+8 < W.heap.size:=(Array.getElem?_eq_some_iff.1 (hd.b8 _ rfl)).1;have WX:aj (∀ r2:Loop,r2={ rd with state:=LoopState.busy }->({ r2 with state:=.ready,pending:=none }:Loop)=rd/\({ r2 with state:=.done,pending:=some .ret }:Loop)={ rd with state:=.done,pending:=some .ret }):=⟨fun r2 e=>by rw [e,EG.out];exact ⟨rfl,rfl⟩⟩;generalize hrb:({ rd with state:=LoopState.busy }:Loop)=rb;have jN:=aj.mk (WX.out rb hrb.symm);have Dh:=aj.mk (hd.put hH aiJ rb);generalize W.putObj (H+8) (.loop rb)=WB at *;clear hrb hd WX EG;obtain ⟨o,ho⟩:∃ o,k*ww=o:=⟨_,rfl⟩;have HO:=aj.mk ho;have hfit:o+ww<=n:=by
    have:=Nat.mul_le_of_le_div ww (k+1) n hk;rw [Nat.add_mul] at this;omega
   rw [ho];clear ho;have hc0:WB.cell? ⟨H,0,none⟩=some (.int .i64 sx):=(au Dh.out.b0 0).trans rfl;obtain ⟨uS,abd⟩:∃ uS,((bytesOf a0).drop o).take ww=uS:=⟨_,rfl⟩;have HG2:=aj.mk abd;clear abd;have HBAD:aj (S.tX (fu sx) uS 0=none->S.gT (bytesOf a0) sx=none):=⟨fun hnone=>by
    rw [yQ _ sx ww hsx (by rw [bytesOf_length,hn];exact hmod),bytesOf_length,hn,Dh.out.dec];obtain ⟨m,hm⟩:∃ m,n / ww - k=m+1:=⟨n / ww - k - 1,by omega⟩;rw [hm,HO.out];unfold S.nW;rw [HG2.out,hnone];rfl⟩
   gi_wp2
   gi_loopg [9,11,12,27] ww (fun gg s9 _ _ s27 wr=>∃ (j:Nat) (na:Int),j<=ww/\ww - j<=gg/\s27=.int .i64 j/\s9=.int .i64 na/\aj (aM WB wr)/\aj (0<=na/\na < (fu sx) ^ j)/\aj (S.tX (fu sx) (uS.drop j) na=S.tX (fu sx) uS 0))
   case atStart=>exact ⟨0,0,Nat.zero_le _,by omega,rfl,rfl,⟨.refl _⟩,⟨Int.le_refl _,by simp⟩,⟨rfl⟩⟩
   case round =>
    obtain ⟨j,na,hj,hg,rfl,rfl,HW,HNA,HA⟩:=hrel;obtain ⟨⟨q,hq2⟩⟩:=HW.out;subst hq2;have s1:WB.cell? ⟨H+1,0,none⟩=some (.string ⟨#[]⟩):=(au Dh.out.b1 0).trans rfl;have s2:WB.cell? ⟨H+1+1,0,none⟩=some (.bool false):=(au Dh.out.b2 0).trans rfl;have t1:WB.frozen? ⟨H+1,0,none⟩=false:=aA Dh.out.b1 0;have t2:WB.frozen? ⟨H+1+1,0,none⟩=false:=aA Dh.out.b2 0;by_cases hlt:j < ww
    rotate_left
    ·have hjw:j=ww:=by omega
     have hna:0<=na/\na < 256:=by
      have h1:=HNA.out;have:(fu sx) ^ j=256:=by
       rw [hjw];rcases hsx with ⟨rfl,rfl⟩ | ⟨rfl,rfl⟩<;>decide
      omega
     have aiK:aj (S.tX (fu sx) uS 0=some na):=⟨by
      rw [<- HA.out,List.drop_eq_nil_of_le (by rw [<- HG2.out,List.length_take];omega)];rfl⟩
     have hcv:IntKind.u8.wrap na=na:=EF na hna.1 hna.2;have hltz:¬ (j:Int) < (ww:Int):=by omega
     have hPR:=fun W=>iB.calls na (S.jP na) W (LP na)
     have DJ:S.nW (fu sx) ww (n / ww - k) ((bytesOf a0).drop o)=if S.jP na=true then (S.nW (fu sx) ww (n / ww - (k+1)) ((bytesOf a0).drop (o+ww))).map (na::·) else none:=by
      obtain ⟨m,hm⟩:∃ m,n / ww - k=m+1:=⟨n / ww - k - 1,by omega⟩;rw [hm,show n / ww - (k+1)=m by omega];conv=>{ lhs;unfold S.nW }
      rw [HG2.out,aiK.out,List.drop_drop]
     by_cases hpr:S.jP na=true
     rotate_left
     ·have Tz:S.jP na=false:=by simpa using hpr
      rw [Tz] at hPR;have HPR:=Lib.hid hPR;rw [if_neg hpr] at DJ;have HNO:aj (S.gT (bytesOf a0) sx=none):=⟨by
       rw [yQ _ sx ww hsx (by rw [bytesOf_length,hn];exact hmod),bytesOf_length,hn,Dh.out.dec,HO.out,DJ];rfl⟩
      clear DJ hPR;gi_wp2_with (refine ⟨trivial,?_⟩;gi_at_call 65;refine (CallsIn.inRound (H+8) (callsIn_wide.2 (HPR.out _))).mono ?_;rintro e' w' ⟨rfl,⟨⟨q1,rfl⟩⟩⟩)
      exact (Dh.out.drewN (q+q1)).BF hH HNO.out jN.out.2
     rw [hpr] at hPR;have HPR:=Lib.hid hPR;rw [if_pos hpr] at DJ;have aiL:aj (S.nW (fu sx) ww (n / ww) (bytesOf a0)=(S.nW (fu sx) ww (n / ww - (k+1)) ((bytesOf a0).drop ((k+1)*ww))).map ((out++[na])++·)):=⟨by
      rw [Dh.out.dec,HO.out,DJ,Nat.add_mul,HO.out,Nat.one_mul,Option.map_map];congr 1
      funext x
      simp⟩
     obtain ⟨i0,hi,hz0,hz1,hz2⟩:=info_parts (show (Tryz.prog.info? 5).map (fun i=>(i.zero,i.size,i.bytes))=some (some (.int .u8 0),1,1) by kernel_rfl);have s3:WB.cell? ⟨H+1+1+1,0,none⟩=some v:=(au Dh.out.b3 0).trans rfl;have hkn:k < 1000000:=by
      have:=Nat.div_le_self n ww;omega
     have hWs:H+9<=WB.heap.size:=by
      have:=Dh.out.b8 _ rfl;have:=(Array.getElem?_eq_some_iff.1 this).1;omega
     clear DJ hPR;gi_wp2_with (first | (refine ⟨trivial,?_⟩;gi_at_call 65;refine (CallsIn.inRound (H+8) (callsIn_wide.2 (HPR.out _))).mono ?_;rintro e' w' ⟨rfl,⟨⟨q1,rfl⟩⟩⟩) | (gi_at_builtin;refine wpListIn_append_own _ rfl _ _ 100 rfl (H+9) 5 i0 (.int .u8 0) 1 1 Tryz.underlying100 hi hz0 hz1 hz2 rfl (by decide) _ k _ rfl ((Dh.out.drewN _).own.alloc _) ⟨WB.heap.size,0,none⟩ 1 1 [.int .u8 na] rfl rfl (cell_one_new _ _ _) (by simp [Value.oneCell']) (by unfold maxLen;omega) (by omega) (by simp;omega) ?_;intro v' w1 hown' hgrow _;obtain ⟨g',cap',rfl⟩:=ownsRow_succ hown';have hcb:w1.heap[H+1+1+1]?=WB.heap[H+1+1+1]?:=(hgrow.block _ (by simp;omega) (by intro e;have:=(Dh.out.own.lt _ e.symm).1;omega)).trans (Below.heap_alloc _ _ _ (by simp;omega));have c3:w1.cell? ⟨H+1+1+1,0,none⟩=some v:=(au (hcb.trans Dh.out.b3) 0).trans rfl;have f3:=aA (hcb.trans Dh.out.b3) 0))
     obtain ⟨z1,z2⟩:=GY.next (x:=na) (Dh.out.drewN (q+q1)) hH (by show H+8 < WB.heap.size;omega) hown' hgrow aiL.out rd
     exact ⟨rb,z1,.inl ⟨rfl,_,out++[na],by rw [jN.out.1];exact z2⟩⟩
    have hltz:(j:Int) < (ww:Int):=by omega
    obtain ⟨y,hy⟩:∃ y,(bytesOf a0).getD (o+j) 0=y:=⟨_,rfl⟩;have hcell:WB.cell? ⟨H+1+1+1+1,o+j,none⟩=some (.int .u8 y):=by
     rw [<- hy];exact Dh.out.buf.cell (o+j) (by rw [bytesOf_length];omega)
    have hyr:0<=y/\y < 256:=by rw [<- hy];exact gK a0 _ (lK _ _ (by rw [bytesOf_length];omega))
    have HD2:aj (uS.drop j=y::uS.drop (j+1)):=⟨by
     have hl:j < uS.length:=by rw [<- HG2.out,List.length_take,List.length_drop,bytesOf_length];omega
     rw [drop_at uS j hl];congr 1
     rw [<- hy,<- HG2.out];simp only [List.getD_eq_getElem?_getD];rw [List.getElem?_take_of_lt hlt,List.getElem?_drop]⟩
    have Yp:=Lib.hid (fun W=>strings_IndexByte.calls ⟨#[48,49,50,51,52,53,54,55,56,57,97,98,99,100,101,102]⟩ _ _ W (Yn y));have hDG:=fun W=>iU.calls y (S.lU y) W (Qd y)
    obtain ⟨p1,p2,p3,p4,p5⟩:=NM y hyr.1 hyr.2;have HST:aj (S.tX (fu sx) uS 0=if S.qZ y < 0\/fu sx<=S.qZ y then none else S.tX (fu sx) (uS.drop (j+1)) (na*fu sx+S.qZ y)):=⟨by rw [<- HA.out,HD2.out];rfl⟩;have hbs:wrap64 (2 ^ sx)=fu sx:=by rcases hsx with ⟨rfl,_⟩ | ⟨rfl,_⟩<;>simp [wrap64,fu]
    have Yq:sx=4\/sx=1:=by rcases hsx with ⟨h,_⟩ | ⟨h,_⟩<;>simp [h]
    have hna:na < 256:=by
     have h1:=HNA.out.2;have:(fu sx) ^ j<=256:=by
      rcases hsx with ⟨rfl,rfl⟩ | ⟨rfl,rfl⟩
      ·have:j=0\/j=1:=by omega
       rcases this with rfl | rfl<;>decide
      ·have:j=0\/j=1\/j=2\/j=3\/j=4\/j=5\/j=6\/j=7:=by omega
       rcases this with rfl | rfl | rfl | rfl | rfl | rfl | rfl | rfl<;>decide
     omega
    have Yr:aj (∀ dv,0<=dv->dv < fu sx->bits .or .i64 (wrap64 (na*2 ^ sx)) dv=na*fu sx+dv/\0<=na*fu sx+dv/\na*fu sx+dv < (fu sx) ^ (j+1)):=⟨fun dv h0 h1=>⟨Yo sx Yq na dv HNA.out.1 hna h0 h1,by
     have:=HNA.out;have hb0:0<=fu sx:=by rcases Yq with rfl | rfl<;>decide
     have:=Int.mul_nonneg HNA.out.1 hb0;omega,by
     have h2:na+1<=(fu sx) ^ j:=HNA.out.2;have hb0:0<=fu sx:=by rcases Yq with rfl | rfl<;>decide
     have h3:=Int.mul_le_mul_of_nonneg_right h2 hb0;rw [Int.add_mul,Int.one_mul] at h3;rw [Int.pow_succ];omega⟩⟩
    clear hy hyr;generalize fu sx=bs at *;obtain ⟨dv,hdv⟩:∃ dv,dval y=dv:=⟨_,rfl⟩;rw [hdv] at Yp p1 p2 p3 p5;by_cases c1:S.lU y=true
    ·rw [c1] at hDG
     have Qh:=Lib.hid hDG;obtain ⟨k1,k2⟩:=p3 c1;have g1:decide (dv < 0)=false:=decide_eq_false (by omega);by_cases c3:bs<=dv
     ·have g2:decide (bs<=dv)=true:=decide_eq_true c3
      clear hDG p1 p2 p3 p4 p5 hdv;gi_wp2_with (first | (refine ⟨trivial,?_⟩;gi_at_call 93;refine (CallsIn.inRound (H+8) (callsIn_wide.2 (Yp.out _))).mono ?_;rintro e' w' ⟨rfl,⟨⟨q1,rfl⟩⟩⟩) | (refine ⟨trivial,?_⟩;gi_at_call 96;refine (CallsIn.inRound (H+8) (callsIn_wide.2 (Qh.out _))).mono ?_;rintro e' w' ⟨rfl,⟨⟨q2,rfl⟩⟩⟩))
      exact (Dh.out.drewN (q+q1+q2)).BF hH (HBAD.out (by rw [HST.out,if_pos (.inr (by omega))])) jN.out.2
     have g2:decide (bs<=dv)=false:=decide_eq_false c3;have HHX:=aj.mk k2;clear hDG p1 p2 p3 p4 p5 hdv;gi_wp2_with (first | (refine ⟨trivial,?_⟩;gi_at_call 93;refine (CallsIn.inRound (H+8) (callsIn_wide.2 (Yp.out _))).mono ?_;rintro e' w' ⟨rfl,⟨⟨q1,rfl⟩⟩⟩) | (refine ⟨trivial,?_⟩;gi_at_call 96;refine (CallsIn.inRound (H+8) (callsIn_wide.2 (Qh.out _))).mono ?_;rintro e' w' ⟨rfl,⟨⟨q2,rfl⟩⟩⟩))
     gi_roundg (ww - (j+1))
     case measure=>omega
     case rel =>
      obtain ⟨k3,k4,k5⟩:=Yr.out dv (by omega) (by omega);refine ⟨j+1,na*bs+dv,by omega,by omega,by go_num,by rw [k3],⟨⟨⟨q+q1+q2,rfl⟩⟩⟩,⟨⟨k4,k5⟩⟩,⟨?_⟩⟩;rw [HST.out,if_neg (by rw [HHX.out];omega),HHX.out]
    have c1':S.lU y=false:=by simpa using c1
    rw [c1'] at hDG;have Qh:=Lib.hid hDG;by_cases c2:y < 65
    ·have k2:=p4 c1' c2
     have g1:decide (y < 65)=true:=decide_eq_true c2;clear hDG p1 p2 p3 p4 p5 hdv;gi_wp2_with (first | (refine ⟨trivial,?_⟩;gi_at_call 93;refine (CallsIn.inRound (H+8) (callsIn_wide.2 (Yp.out _))).mono ?_;rintro e' w' ⟨rfl,⟨⟨q1,rfl⟩⟩⟩) | (refine ⟨trivial,?_⟩;gi_at_call 96;refine (CallsIn.inRound (H+8) (callsIn_wide.2 (Qh.out _))).mono ?_;rintro e' w' ⟨rfl,⟨⟨q2,rfl⟩⟩⟩))
     exact (Dh.out.drewN (q+q1+q2)).BF hH (HBAD.out (by rw [HST.out,if_pos (.inl k2)])) jN.out.2
    have g1:decide (y < 65)=false:=decide_eq_false c2;obtain ⟨k2,k3⟩:=p5 c1' c2;by_cases c4:dv < 0
    ·have g2:decide (dv < 0)=true:=decide_eq_true c4
     have k2:=k2 c4;clear hDG p1 p2 p3 p4 p5 hdv;gi_wp2_with (first | (refine ⟨trivial,?_⟩;gi_at_call 93;refine (CallsIn.inRound (H+8) (callsIn_wide.2 (Yp.out _))).mono ?_;rintro e' w' ⟨rfl,⟨⟨q1,rfl⟩⟩⟩) | (refine ⟨trivial,?_⟩;gi_at_call 96;refine (CallsIn.inRound (H+8) (callsIn_wide.2 (Qh.out _))).mono ?_;rintro e' w' ⟨rfl,⟨⟨q2,rfl⟩⟩⟩))
     exact (Dh.out.drewN (q+q1+q2)).BF hH (HBAD.out (by rw [HST.out,if_pos (.inl k2)])) jN.out.2
    have g2:decide (dv < 0)=false:=decide_eq_false c4;have k2:=k3 (by omega);have HHX:=aj.mk k2;by_cases c3:bs<=dv
    ·have g3:decide (bs<=dv)=true:=decide_eq_true c3
     clear hDG p1 p2 p3 p4 p5 hdv;gi_wp2_with (first | (refine ⟨trivial,?_⟩;gi_at_call 93;refine (CallsIn.inRound (H+8) (callsIn_wide.2 (Yp.out _))).mono ?_;rintro e' w' ⟨rfl,⟨⟨q1,rfl⟩⟩⟩) | (refine ⟨trivial,?_⟩;gi_at_call 96;refine (CallsIn.inRound (H+8) (callsIn_wide.2 (Qh.out _))).mono ?_;rintro e' w' ⟨rfl,⟨⟨q2,rfl⟩⟩⟩))
     exact (Dh.out.drewN (q+q1+q2)).BF hH (HBAD.out (by rw [HST.out,if_pos (.inr (by omega))])) jN.out.2
    have g3:decide (bs<=dv)=false:=decide_eq_false c3;clear hDG p1 p2 p3 p4 p5 hdv;gi_wp2_with (first | (refine ⟨trivial,?_⟩;gi_at_call 93;refine (CallsIn.inRound (H+8) (callsIn_wide.2 (Yp.out _))).mono ?_;rintro e' w' ⟨rfl,⟨⟨q1,rfl⟩⟩⟩) | (refine ⟨trivial,?_⟩;gi_at_call 96;refine (CallsIn.inRound (H+8) (callsIn_wide.2 (Qh.out _))).mono ?_;rintro e' w' ⟨rfl,⟨⟨q2,rfl⟩⟩⟩))
    gi_roundg (ww - (j+1))
    case measure=>omega
    case rel =>
     obtain ⟨k3,k4,k5⟩:=Yr.out dv (by omega) (by omega);refine ⟨j+1,na*bs+dv,by omega,by omega,by go_num,by rw [k3],⟨⟨⟨q+q1+q2,rfl⟩⟩⟩,⟨⟨k4,k5⟩⟩,⟨?_⟩⟩;rw [HST.out,if_neg (by rw [HHX.out];omega),HHX.out]
  refine hgr.mono ?_;rintro e Z ⟨hv,⟨v,out,hd⟩ | ⟨j1,j2,j3,j4,j5,j6⟩⟩
  ·exact ⟨hv,.inl ⟨hd.b8 _ rfl,v,out,⟨hd.b0,hd.b1,hd.b2,hd.b3,hd.b5,hd.b6,hd.b7,fun r' e=>(by cases e),hd.buf,hd.own,hd.len,hd.below,hd.dec⟩⟩⟩
  ·exact ⟨hv,.inr ⟨j1,j2,j3,j4,j5,j6⟩⟩
 case wm =>
  rintro Z r hlt ⟨v,out,hd⟩
  rw [hVs] at hlt |-
  have hl:S.gT (bytesOf a0) sx=some out:=by
   rw [yQ _ sx ww hsx (by rw [bytesOf_length,hn];exact hmod),bytesOf_length,hn,hd.dec,Nat.sub_self];simp [S.nW]
  have hk:=hd.put hH hlt r;generalize Z.putObj (H+8) (.loop r)=Z1 at *;have c3:Z1.cell? ⟨H+1+1+1,0,none⟩=some v:=(au hk.b3 0).trans rfl;have HK:=aj.mk hk;have aiM:(convert 100 9 v).run Tryz.prog Z1=.ok (.string (strOfNums out)) Z1:=rR (P:=Tryz.prog) Tryz.underlying100 Tryz.underlying5 Tryz.underlying9 hk.own;have s1:Z1.cell? ⟨H+1,0,none⟩=some (.string ⟨#[]⟩):=(au hk.b1 0).trans rfl;have s2:Z1.cell? ⟨H+1+1,0,none⟩=some (.bool false):=(au hk.b2 0).trans rfl;have t1:Z1.frozen? ⟨H+1,0,none⟩=false:=aA hk.b1 0;have t2:Z1.frozen? ⟨H+1+1,0,none⟩=false:=aA hk.b2 0;gi_wp2
  have o1:∀ (A:World) (b k:Nat) (u:Value),k≠b->(A.setCell ⟨b,0,none⟩ u).heap[k]?=A.heap[k]?:=fun A b k u hk=>Below.heap_setCell A ⟨b,0,none⟩ u k hk
  have f1:((Z1.setCell ⟨H+1,0,none⟩ (.string (strOfNums out))).setCell ⟨H+1+1,0,none⟩ (.bool true)).heap[H+1]?=some (.cells #[.string (strOfNums out)] 9 (0,0)):=(o1 _ _ _ _ (by omega)).trans (aR (cs:=#[.string ⟨#[]⟩]) HK.out.b1 0 _ rfl);have f2:((Z1.setCell ⟨H+1,0,none⟩ (.string (strOfNums out))).setCell ⟨H+1+1,0,none⟩ (.bool true)).heap[H+1+1]?=some (.cells #[.bool true] 4 (0,0)):=aR (cs:=#[.bool false]) ((o1 _ _ _ _ (by omega)).trans HK.out.b2) 0 _ rfl;have f7:((Z1.setCell ⟨H+1,0,none⟩ (.string (strOfNums out))).setCell ⟨H+1+1,0,none⟩ (.bool true)).heap[H+7]?=some (.deferred (some [])):=(o1 _ _ _ _ (by omega)).trans ((o1 _ _ _ _ (by omega)).trans HK.out.b7);have fb:Below H w ((Z1.setCell ⟨H+1,0,none⟩ (.string (strOfNums out))).setCell ⟨H+1+1,0,none⟩ (.bool true)):=(HK.out.below.setCell (p:=⟨H+1,0,none⟩) (by show H<=H+1;omega) _).setCell (p:=⟨H+1+1,0,none⟩) (by show H<=H+1+1;omega) _;generalize (Z1.setCell ⟨H+1,0,none⟩ (.string (strOfNums out))).setCell ⟨H+1+1,0,none⟩ (.bool true)=Z2 at *;refine ⟨by simp,.inl ⟨_,_,rfl,run_takeDeferred f7,?_⟩⟩;have g1:(Z2.putObj (H+7) (.deferred none)).cell? ⟨H+1,0,none⟩=some (.string (strOfNums out)):=(au ((World.putObj_heap_other (by omega)).trans f1) 0).trans rfl;have g2:(Z2.putObj (H+7) (.deferred none)).cell? ⟨H+1+1,0,none⟩=some (.bool true):=(au ((World.putObj_heap_other (by omega)).trans f2) 0).trans rfl;refine ⟨_,pI (fn:=Tryz.f109) rfl _ _ _ _ (.string (strOfNums out)) (.bool true) rfl rfl (by simp [go_sem,g1]) (by simp [go_sem,g2]),?_⟩;rw [hl];exact ⟨rfl,by rw [hH];exact Below.grown (row:=some (H+7)) fb (grownBy_putObj' _ (H+7) _) (by have:=fb.size;omega) (fun k e=>by cases e;omega)⟩
 case hdone =>
  rintro Z r hlt ⟨hno,j1,j2,j3,j4⟩
  rw [hVs] at hlt |-
  have f1:(Z.putObj (H+8) (.loop r)).heap[H+1]?=some (.cells #[.string ⟨#[]⟩] 9 (0,0)):=(World.putObj_heap_other (by omega)).trans j1;have f2:(Z.putObj (H+8) (.loop r)).heap[H+1+1]?=some (.cells #[.bool false] 4 (0,0)):=(World.putObj_heap_other (by omega)).trans j2;have f7:(Z.putObj (H+8) (.loop r)).heap[H+7]?=some (.deferred (some [])):=(World.putObj_heap_other (by omega)).trans j3;have fb:Below H w (Z.putObj (H+8) (.loop r)):=Below.grown (row:=some (H+8)) j4 (grownBy_putObj' _ (H+8) _) (by have:=j4.size;omega) (fun k e=>by cases e;omega);generalize Z.putObj (H+8) (.loop r)=Z2 at *;gi_wp2
  refine ⟨by simp,.inl ⟨_,_,rfl,run_takeDeferred f7,?_⟩⟩;have g1:(Z2.putObj (H+7) (.deferred none)).cell? ⟨H+1,0,none⟩=some (.string ⟨#[]⟩):=(au ((World.putObj_heap_other (by omega)).trans f1) 0).trans rfl;have g2:(Z2.putObj (H+7) (.deferred none)).cell? ⟨H+1+1,0,none⟩=some (.bool false):=(au ((World.putObj_heap_other (by omega)).trans f2) 0).trans rfl;refine ⟨_,pI (fn:=Tryz.f109) rfl _ _ _ _ (.string ⟨#[]⟩) (.bool false) rfl rfl (by simp [go_sem,g1]) (by simp [go_sem,g2]),?_⟩;rw [hno];exact ⟨rfl,by rw [hH];exact Below.grown (row:=some (H+7)) fb (grownBy_putObj' _ (H+7) _) (by have:=fb.size;omega) (fun k e=>by cases e;omega)⟩
end Go.Proofs.YtkkpjonfaflkmaaGreatDoor.T
namespace Go.Proofs.YtkkpjonfaflkmaaGreatDoor.T
open Go.RowKit Go.Proofs.ah.aT Go.Proofs.ah.bn Go.Proofs.ah.bA
set_option linter.unusedSimpArgs false
set_option linter.unusedVariables false
theorem uT (q:Int) (a:Nat):∀ (n:Nat) (xs:List Int) (i:Nat) (acc:List Int),xs.length<=n->S.lit q xs (i+a) acc=(S.lit q xs i acc).map fun p=>(p.1,p.2+a)
 | _,[],i,acc,_=>rfl
 | _,[c],i,acc,_=>by
  unfold S.lit;by_cases h0:c=10<;>by_cases h:c=q<;>simp [h,h0]
  all_goals (split<;>rfl)
 | 0,_::_::_,_,_,h=>by simp at h
 | n+1,c::d::t,i,acc,h=>by
  simp only [List.length_cons] at h;have h1:=uT q a n t (i+2) (acc++[q]) (by omega);have h2:=uT q a n (d::t) (i+1) (acc++[c]) (by simp;omega);unfold S.lit;by_cases e1:c=10
  ·simp [e1]
  by_cases e2:c=q
  ·by_cases e3:d=q
   ·rw [if_neg e1,if_pos e2,if_pos e3,if_neg e1,if_pos e2,if_pos e3,<- h1]
    congr 1;omega
   rw [if_neg e1,if_pos e2,if_neg e3,if_neg e1,if_pos e2,if_neg e3];rfl
  rw [if_neg e1,if_neg e2,if_neg e1,if_neg e2,<- h2];congr 1;omega
theorem zJ {L:List Int} {i:Nat} {q:Int} (hd:L.drop i=q::L.drop (i+1)) (hR:S.lit q (L.drop (i+1)) (i+1) []=none):S.fZ (L.drop i)=.err 6:=by
 have h1:=uT q i _ (L.drop (i+1)) 1 [] (Nat.le_refl _);rw [Nat.add_comm 1 i,hR] at h1;rw [hd];unfold S.fZ;cases h:S.lit q (L.drop (i+1)) 1 [] with
 | none=>simp only [h]
 | some p=>rw [h] at h1;cases h1
theorem GZ {L:List Int} {i b:Nat} {q:Int} {v:List Int} (hd:L.drop i=q::L.drop (i+1)) (hR:S.lit q (L.drop (i+1)) (i+1) []=some (v,b)) :
  S.fZ (L.drop i)=if v.all S.jP=true then (if S.sfx (L.drop (b+1))=0 then S.iR v (b+1 - i) else match S.gT v (S.sfx (L.drop (b+1))) with
   | none=>.err 15
   | some u=>S.iR u (b+2 - i)) else .err 13:=by
 have h1:=uT q i _ (L.drop (i+1)) 1 [] (Nat.le_refl _);rw [Nat.add_comm 1 i,hR] at h1;rw [hd];unfold S.fZ;cases h:S.lit q (L.drop (i+1)) 1 [] with
 | none=>rw [h] at h1;cases h1
 | some p =>
  obtain ⟨v',j⟩:=p;rw [h] at h1;simp only [Option.map_some,Option.some.injEq,Prod.mk.injEq] at h1;obtain ⟨rfl,rfl⟩:=h1;have e1:(q::L.drop (i+1)).drop (j+1)=L.drop (j+i+1):=by
   rw [<- hd,List.drop_drop];congr 1;omega
  rw [show j+i+1 - i=j+1 by omega,show j+i+2 - i=j+2 by omega];simp only [h,e1];rfl
theorem TA (v:List Int):(v.any fun x=>!S.jP x)=!(v.all S.jP):=by
 rw [List.all_eq_not_any_not,Bool.not_not]
theorem He (vs:ByteArray) (W:World) (hs:vs.size<=100000) (g:Nat) (eg:∀ args w,(callFunc g args).run Tryz.prog w=.ok (.enter g args) w) (hp:∀ w,GK g #[] (fun x=>Value.int .u8 x) (fun x=>!S.jP x) (fun _=>True) w) :
  Calls Tryz.prog 63 #[.slice (some ⟨W.heap.size,0,none⟩) vs.size (grownCap W vs.size 0 5),.func (.func g) #[] #[]] (Lib.bytesWorld W 5 vs) fun e W'=>e=.returned (.bool (!((bytesOf vs).all S.jP)))/\Below W.heap.size W W':=by
 have hO:=tK.conv (base:=W.heap.size) W vs (Nat.le_refl _) hs
 have hc:=aaS.calls (some ⟨W.heap.size,0,none⟩) (grownCap W vs.size 0 5) (bytesOf vs) g #[] (fun x=>!S.jP x) (fun _=>True) (Lib.bytesWorld W 5 vs) eg (by
  have e:(bytesOf vs).length=vs.size:=bytesOf_length vs;rw [<- e] at hO;exact hO.C) (fun _ _=>trivial) (hp _)
 rw [bytesOf_length,TA] at hc;refine hc.mono ?_;rintro e W' ⟨rfl,hb⟩
 have h1:Below W.heap.size W (Lib.bytesWorld W 5 vs):=qj (Below.refl _ _) (Nat.le_refl _) 5 vs;exact ⟨rfl,h1.trans (hb.mono (by have:=h1.size;omega))⟩
def ixS (c:Int):Int:=Lib.indexByte [88,120,66,98] c.toNat.toUInt8
def Yt (c:Int):Int:=Lib.indexByte [66,98] c.toNat.toUInt8
theorem abe (c:Int):strings_IndexByte.f ⟨#[88,120,66,98]⟩ c=some (ixS c):=rfl
theorem abf (c:Int):strings_IndexByte.f ⟨#[66,98]⟩ c=some (Yt c):=rfl
theorem Hf (c:Int) (h0:0<=c) (h1:c < 256):decide (0<=ixS c)=decide (S.lF c≠0)/\(S.lF c=0\/(S.lF c=4/\decide (0<=Yt c)=false)\/(S.lF c=1/\decide (0<=Yt c)=true)) :=
 Bu (fun c=>decide (0<=ixS c)=decide (S.lF c≠0)/\(S.lF c=0\/(S.lF c=4/\decide (0<=Yt c)=false)\/(S.lF c=1/\decide (0<=Yt c)=true))) (by decide +kernel) c h0 h1
theorem Hg (c:Int) (t:List Int):S.sfx (c::t)=match t with
 | []=>S.lF c
 | d::_=>if S.sym d=true then 0 else S.lF c:=by cases t<;>rfl
set_option maxRecDepth 100000 in
set_option maxHeartbeats 4000000 in
theorem pJ.calls (s:Nat) (src:ByteArray) (m:Value) (i line:Nat) (w:World) (hsz:src.size<=100000) (hl:line<=1000000000) (hi:i < src.size) (h:Sc s src i line m w) :
  Calls Tryz.prog 70 #[.pointer (some ⟨s,0,none⟩)] w fun e w'=>But (·=s) w w'/\sJ s src m i line e w' (S.fZ ((bytesOf src).drop i)):=by
 have HS:=aj.mk h;obtain ⟨n,hn⟩:∃ n,src.size=n:=⟨_,rfl⟩;obtain ⟨L,hL⟩:∃ L,bytesOf src=L:=⟨_,rfl⟩;have HN:aj (L.length=n):=⟨by rw [<- hL,bytesOf_length];exact hn⟩;have hbi:=kQ src i hi;rw [hL] at hbi |-
 have NJ:=aj.mk (drop_at L i (by rw [HN.out];omega));obtain ⟨q,hq⟩:∃ q,L.getD i 0=q:=⟨_,rfl⟩;rw [hq] at hbi NJ;have HQ:=aj.mk hq;have HL:=aj.mk hL;have c0:=h.c0;have c1:=h.c1;have hz0:(0:Int)<=(i:Int):=by omega
 have hz1:(i:Int) < (n:Int):=by omega
 have hslt:=h.lt;obtain ⟨R,hR⟩:∃ R,S.lit q (L.drop (i+1)) (i+1) []=R:=⟨_,rfl⟩;have HR:=aj.mk hR;clear hL h hq hR;rw [hn] at hsz hi;go_enter Tryz.func70,Tryz.ntmps70
 go_wp2;go_region
 go_wp2;obtain ⟨W0,hW0⟩:∃ W0,(w.alloc (.cells #[.pointer none,.slice none 0 0] 126)).drew=W0:=⟨_,rfl⟩;have hB0:aj (wO w.heap.size w.heap.size [] W0):=⟨by rw [<- hW0];exact wO.new w⟩;have hb0:aj (Below w.heap.size w W0):=⟨by rw [<- hW0];exact aD (ay (Below.refl _ _) _)⟩;rw [hW0];clear hW0;generalize hH:w.heap.size=H at *;have HSL:=aj.mk hslt;have HH:=aj.mk hH;clear hH;go_loopg [5] (n+1) (fun gg s5 wr=>∃ (kk:Nat) (acc:List Int),i < kk/\kk<=n/\n+1 - kk<=gg/\s5=.int .i64 kk/\acc.length<=kk/\aj (wO H H acc wr)/\aj (Below H w wr)/\aj (∀ x∈acc,0<=x/\x < 256)/\aj (S.lit q (L.drop kk) kk acc=R))
 case atStart=>exact ⟨i+1,[],by omega,by omega,by omega,by go_num,by simp,hB0,hb0,⟨by simp⟩,HR⟩
 case round =>
  obtain ⟨kk,acc,hik,hkk,hg,rfl,hal,HB,HW,HAR,HA⟩:=hrel;have HC:aj (Sc s src i line m wr):=⟨(HW.out.block s HSL.out).trans HS.out⟩;have d0:=HC.out.c0;have d1:=HC.out.c1;have d2:=HC.out.c2;have HF:=Lib.hid (fun W=>kU.calls (.pointer (some ⟨s,0,none⟩)) 6 line W);by_cases hkn:kk=n
  ·have g1:decide ((n:Int)<=(kk:Int))=true:=decide_eq_true (by omega)
   have g2:decide (n<=kk)=true:=decide_eq_true (by omega);have hR:aj (S.fZ (L.drop i)=.err 6):=⟨zJ NJ.out (by
    rw [HR.out,<- HA.out,List.drop_eq_nil_of_le (by rw [HN.out];omega)];rfl)⟩
   clear hik;go_wp2_with (go_at_call 97;refine (HF.out _).mono ?_;rintro e w' ⟨rfl,rfl⟩;unfold Fails)
   refine ⟨rfl,But.of_below (by rw [HH.out];exact HW.out),?_⟩;rw [hR.out];exact ⟨rfl,_,HC.out⟩
  have hlt:kk < n:=by omega
  have g1:decide ((n:Int)<=(kk:Int))=false:=decide_eq_false (by omega);have g2:decide (n<=kk)=false:=decide_eq_false (by omega);have hby:=kQ src kk (by omega);rw [HL.out] at hby;have HDK:=aj.mk (drop_at L kk (by rw [HN.out];omega));obtain ⟨y,hy⟩:∃ y,L.getD kk 0=y:=⟨_,rfl⟩;rw [hy] at hby HDK;have hyr:0<=y/\y < 256:=by rw [<- hy];exact gK src _ (by rw [HL.out];exact lK _ _ (by rw [HN.out];omega))
  have HYR:=aj.mk hyr;clear hy hyr;have hkz:(kk:Int) < (n:Int):=by omega
  by_cases vE:y=10
  ·have g3:(y==10)=true:=beq_iff_eq.2 vE
   have hR:aj (S.fZ (L.drop i)=.err 6):=⟨zJ NJ.out (by
    rw [HR.out,<- HA.out,HDK.out];rcases L.drop (kk+1) with _ | ⟨d,t⟩
    ·unfold S.lit
     rw [if_pos vE]
    ·unfold S.lit
     rw [if_pos vE])⟩
   clear hik;go_wp2_with (go_at_call 97;refine (HF.out _).mono ?_;rintro e w' ⟨rfl,rfl⟩;unfold Fails)
   refine ⟨rfl,But.of_below (by rw [HH.out];exact HW.out),?_⟩;rw [hR.out];exact ⟨rfl,_,HC.out⟩
  have g3:(y==10)=false:=beq_eq_false_iff_ne.2 vE;have HWB:=Lib.hid (fun x=>Df H H acc x wr HB.out (by omega) (by have:=HW.out.size;have:=HH.out;omega));by_cases hyq:y=q
  rotate_left
  ·have g4:(y==q)=false:=beq_eq_false_iff_ne.2 hyq
   have hA2:aj (S.lit q (L.drop (kk+1)) (kk+1) (acc++[y])=R):=⟨by
    rw [<- HA.out,HDK.out];rcases L.drop (kk+1) with _ | ⟨d,t⟩
    ·unfold S.lit
     rw [if_neg vE,if_neg hyq]
    ·conv=>{ rhs;unfold S.lit }
     rw [if_neg vE,if_neg hyq]⟩
   go_wp2_with (go_at_call 106;refine (HWB.out _).mono ?_;rintro e w' ⟨rfl,hb1,hb2⟩)
   go_roundg (n+1 - (kk+1))
   case measure=>omega
   case rel =>
    refine ⟨kk+1,acc++[y],by omega,by omega,by omega,by go_num,by simp;omega,⟨hb1⟩,⟨HW.out.trans hb2⟩,⟨fun x hx=>?_⟩,hA2⟩;rcases List.mem_append.1 hx with hx | hx
    ·exact HAR.out x hx
    ·simp at hx;subst hx;exact HYR.out
  have g4:(y==q)=true:=beq_iff_eq.2 hyq;obtain ⟨brk,abg⟩:∃ brk:Bool,(decide (n<=kk+1)||!decide (L.getD (kk+1) 0=q))=brk:=⟨_,rfl⟩;have HBR:=aj.mk abg;clear abg;go_upto_region 8 with (fail)
  go_cut [74] from 24 to 83 (fun s74 wc=>s74=.bool brk/\wc=wr)
  case first =>
   by_cases hk1:kk+1 < n
   rotate_left
   ·have e1:decide ((n:Int)<=(kk:Int)+1)=true:=decide_eq_true (by omega)
    have e2:decide (n<=kk+1)=true:=decide_eq_true (by omega);go_wp2_with fail
    go_meet
    exact ⟨by rw [<- HBR.out,e2];rfl,rfl⟩
   have e1:decide ((n:Int)<=(kk:Int)+1)=false:=decide_eq_false (by omega);have e2:decide (n<=kk+1)=false:=decide_eq_false (by omega);have hbz:=kQ src (kk+1) (by omega);rw [HL.out] at hbz;have aiN:(kk:Int)+1 < (n:Int):=by omega
   have hk0:(0:Int)<=(kk:Int)+1:=by omega
   have Yu:=HBR.out;rw [e2,Bool.false_or] at Yu;generalize L.getD (kk+1) 0=z at *;by_cases WY:z=q
   ·have e3:(z != q)=false:=bne_eq_false_iff_eq.2 WY
    go_wp2_with fail
    go_meet
    exact ⟨by rw [<- Yu,WY];simp,rfl⟩
   have e3:(z != q)=true:=bne_iff_ne.2 WY;go_wp2_with fail
   go_meet
   exact ⟨by rw [<- Yu];simp [WY],rfl⟩
  case rest =>
   obtain ⟨rfl,rfl⟩:=hcut;cases brk with
   | false =>
    have hb:=HBR.out;rw [Bool.or_eq_false_iff] at hb;have hk1:kk+1 < n:=by have:=of_decide_eq_false hb.1;omega
    have WY:L.getD (kk+1) 0=q:=by
     have:=hb.2;rw [Bool.not_eq_false'] at this;exact of_decide_eq_true this
    have hbz:=kQ src (kk+1) (by omega);rw [HL.out,WY] at hbz;have aiN:(kk:Int)+1 < (n:Int):=by omega
    have hk0:(0:Int)<=(kk:Int)+1:=by omega
    have hA2:aj (S.lit q (L.drop (kk+2)) (kk+2) (acc++[q])=R):=⟨by
     rw [<- HA.out,HDK.out,drop_at L (kk+1) (by rw [HN.out];omega),WY];conv=>{ rhs;unfold S.lit }
     rw [if_neg vE,if_pos hyq,if_pos rfl]⟩
    clear hb WY;go_wp2_with (go_at_call 106;refine (HWB.out _).mono ?_;rintro e w' ⟨rfl,hb1,hb2⟩)
    go_roundg (n+1 - (kk+2))
    case measure=>omega
    case rel =>
     refine ⟨kk+2,acc++[q],by omega,by omega,by omega,by go_num,by simp;omega,⟨hb1⟩,⟨HW.out.trans hb2⟩,⟨fun x hx=>?_⟩,hA2⟩;rcases List.mem_append.1 hx with hx | hx
     ·exact HAR.out x hx
     ·simp at hx;subst hx;rw [<- hyq];exact HYR.out
   | true =>
    have hRR:R=some (acc,kk):=by
     rw [<- HA.out,HDK.out];rcases hd:L.drop (kk+1) with _ | ⟨d,t⟩
     ·unfold S.lit
      rw [if_neg vE,if_pos hyq]
     ·conv=>{ lhs;unfold S.lit }
      have hk1:kk+1 < n:=by
       have:=congrArg List.length hd;rw [List.length_drop,HN.out] at this;simp at this
       omega
      have hdz:L.getD (kk+1) 0=d:=by
       have:=drop_at L (kk+1) (by rw [HN.out];omega);rw [hd] at this;exact (List.cons.inj this).1.symm
      have hb:=HBR.out;rw [decide_eq_false (show ¬ n<=kk+1 by omega),Bool.false_or,hdz] at hb;have:¬ d=q:=by
       intro e
       rw [e] at hb;simp at hb
      rw [if_neg vE,if_pos hyq,if_neg this]
    have tZ:=aj.mk (GZ NJ.out (HR.out.trans hRR));obtain ⟨vs,hvs⟩:∃ vs,strOfNums acc=vs:=⟨_,rfl⟩;have HVB:aj (bytesOf vs=acc):=⟨by rw [<- hvs];exact fq acc HAR.out⟩;obtain ⟨kv,hkv⟩:∃ kv,vs.size=kv:=⟨_,rfl⟩;have alM:acc.length=kv:=by rw [<- HVB.out,bytesOf_length];exact hkv
    have hst:=wh H H acc wc HB.out HAR.out (by have:=HW.out.size;have:=HH.out;omega);rw [hvs] at hst;have HST:=Lib.hid hst;have kb:=fun W=>nR (P:=Tryz.prog) 9 100 5 Tryz.underlying9 Tryz.underlying100 Tryz.underlying5 vs W
    have hnp:=fun W=>He vs W (by omega) 108 EB aaT.pays
    rw [hkv] at kb hnp;rw [HVB.out] at hnp;obtain ⟨ap,hap⟩:∃ ap,acc.all S.jP=ap:=⟨_,rfl⟩;rw [hap] at hnp;have Qo:=Lib.hid hnp;have HAP:=aj.mk hap;have abh:=Lib.hid (fun W=>kU.calls (.pointer (some ⟨s,0,none⟩)) 13 line W);have HVS:=aj.mk hvs;clear hst hnp hap hRR hvs HF HWB;have HW1:aj (∀ W:World,Below H wc W->But (·=s) w W):=⟨fun W hb=>But.of_below (by rw [HH.out];exact HW.out.trans hb)⟩;cases ap with
    | false =>
     go_wp2_with (first | (go_at_call 107;refine HST.out.mono ?_;rintro e w1 ⟨rfl,hs1,hs2⟩) | (go_at_call 63;refine (Qo.out _).mono ?_;rintro e w2 ⟨rfl,hs3⟩;have hsc:Sc s src i line m w2:=(hs3.block s (by have:=hs2.size;have:=HC.out.lt;omega)).trans ((hs2.block s HSL.out).trans HC.out);have wP:=aj.mk hsc;have e2:=hsc.c2;have f1:=hsc.fr 1;have e1:=hsc.c1;have HBU:aj (But (·=s) w w2):=⟨(HW1.out _ hs2).then hs3⟩;clear hsc) | (go_at_call 97;refine (abh.out _).mono ?_;rintro e w3 ⟨rfl,rfl⟩;unfold Fails))
     refine ⟨rfl,HBU.out,?_⟩;rw [tZ.out,if_neg (by rw [HAP.out];simp)];exact ⟨rfl,_,wP.out⟩
    | true =>
     rw [if_pos HAP.out] at tZ;go_upto_region 15 with (first | (go_at_call 107;refine HST.out.mono ?_;rintro e w1 ⟨rfl,hs1,hs2⟩) | (go_at_call 63;refine (Qo.out _).mono ?_;rintro e w2 ⟨rfl,hs3⟩;have hsc:Sc s src i line m w2:=(hs3.block s (by have:=hs2.size;have:=HC.out.lt;omega)).trans ((hs2.block s HSL.out).trans HC.out);have wP:=aj.mk hsc;have e2:=hsc.c2;have f1:=hsc.fr 1;have e1:=hsc.c1;have HBU:aj (But (·=s) w w2):=⟨(HW1.out _ hs2).then hs3⟩;clear hsc))
     obtain ⟨x,hx⟩:∃ x,kk+1=x:=⟨_,rfl⟩;have JV:aj (Sc s src x line m (w2.setCell ⟨s,1,none⟩ (.int .i64 ((kk:Int)+1)))):=⟨by
      have:=wP.out.set1 ((kk:Int)+1);rw [show ((kk:Int)+1)=(x:Int) by omega] at this |-
      exact this⟩
     have HB3:aj (But (·=s) w (w2.setCell ⟨s,1,none⟩ (.int .i64 ((kk:Int)+1)))):=⟨HBU.out.set _ _ rfl⟩;generalize w2.setCell ⟨s,1,none⟩ (.int .i64 ((kk:Int)+1))=w3 at *;obtain ⟨K,hK⟩:∃ K,S.sfx (L.drop x)=K:=⟨_,rfl⟩;rw [hx,hK] at tZ;have HKK:=aj.mk hK;have hxn:x<=n:=by omega
     have hx0:(0:Int)<=(x:Int):=by omega
     clear hK HST Qo abh kb HA HAR HDK HB hs2 hs3 wP HBU HC HW HW1;go_cut [148] from 10 (fun aiO w4=>aiO=.bool (decide (K≠0))/\aj (Sc s src x line m w4)/\aj (But (·=s) w w4))
     case first =>
      have cc0:∀ y:nD s src x line m w,y.world.cell? ⟨s,0,none⟩=some (.string src):=nD.c0;have OQ:∀ y:nD s src x line m w,y.world.cell? ⟨s,1,none⟩=some (.int .i64 x):=nD.c1;have hne:Nonempty (nD s src x line m w):=⟨⟨w3.drew,JV.out,HB3.out.drew⟩⟩;by_cases hxl:x < n
      rotate_left
      ·have e1:decide ((x:Int) < (n:Int))=false:=decide_eq_false (by omega)
       have e2:decide (x < n)=false:=decide_eq_false hxl;obtain rfl:K=0:=by
        rw [<- HKK.out,List.drop_eq_nil_of_le (by rw [HN.out];omega)];rfl
       refine dM (fun W=>∃ y:nD s src x line m w,W=y.world) (by kernel_rfl) (by kernel_rfl) ⟨⟨w3.drew,JV.out,HB3.out.drew⟩,rfl⟩ ?_;repeat (go_big_quiet_step (fail))
       refine wpQuiet_nil ?_;rintro W ⟨y,rfl⟩
       go_wp2_with fail
       go_meet
       exact ⟨rfl,⟨y.sc⟩,⟨y.but⟩⟩
      have e1:decide ((x:Int) < (n:Int))=true:=decide_eq_true (by omega);have e2:decide (x < n)=true:=decide_eq_true hxl;have hbx:=kQ src x (by omega);rw [HL.out] at hbx;have Qp:=drop_at L x (by rw [HN.out];omega);obtain ⟨c,hcc⟩:∃ c,L.getD x 0=c:=⟨_,rfl⟩;rw [hcc] at hbx Qp;have hcr:0<=c/\c < 256:=by rw [<- hcc];exact gK src _ (by rw [HL.out];exact lK _ _ (by rw [HN.out];omega))
      obtain ⟨p1,p2⟩:=Hf c hcr.1 hcr.2;have CY:aj (K=match L.drop (x+1) with | []=>S.lF c | d::_=>if S.sym d=true then 0 else S.lF c):=⟨by rw [<- HKK.out,Qp,Hg]⟩;have HIS:=Lib.hid (fun W=>strings_IndexByte.calls ⟨#[88,120,66,98]⟩ c (ixS c) W (abe c));have hxz:(x:Int) < (n:Int):=by omega
      clear hcc Qp p2;generalize ixS c=iv at *;by_cases hs0:S.lF c=0
      ·have e3:decide (0<=iv)=false:=by rw [p1,hs0];rfl
       obtain rfl:K=0:=by
        rw [CY.out];rcases L.drop (x+1) with _ | ⟨d,t⟩
        ·exact hs0
        ·simp [hs0]
       clear p1 hs0;refine dM (fun W=>∃ y:nD s src x line m w,W=y.world) (by kernel_rfl) (by kernel_rfl) ⟨⟨w3.drew,JV.out,HB3.out.drew⟩,rfl⟩ ?_;repeat (go_big_quiet_step ((rename_i y;(go_at_call 93;refine (HIS.out _).mono ?_;rintro e w' ⟨rfl,hb⟩;exact ⟨rfl,y.ret hb.below⟩))))
       refine wpQuiet_nil ?_;rintro W ⟨y,rfl⟩
       go_wp2_with fail
       go_meet
       exact ⟨rfl,⟨y.sc⟩,⟨y.but⟩⟩
      have e3:decide (0<=iv)=true:=by rw [p1];exact decide_eq_true hs0
      by_cases hx1:x+1 < n
      rotate_left
      ·have e4:decide ((n:Int)<=(x:Int)+1)=true:=decide_eq_true (by omega)
       have e5:decide (n<=x+1)=true:=decide_eq_true (by omega);have HKV:aj (decide (K≠0)=true):=⟨by
        rw [CY.out,List.drop_eq_nil_of_le (by rw [HN.out];omega)];exact decide_eq_true hs0⟩
       clear p1 hs0;refine dM (fun W=>∃ y:nD s src x line m w,W=y.world) (by kernel_rfl) (by kernel_rfl) ⟨⟨w3.drew,JV.out,HB3.out.drew⟩,rfl⟩ ?_;repeat (go_big_quiet_step ((rename_i y;(go_at_call 93;refine (HIS.out _).mono ?_;rintro e w' ⟨rfl,hb⟩;exact ⟨rfl,y.ret hb.below⟩))))
       refine wpQuiet_nil ?_;rintro W ⟨y,rfl⟩
       go_wp2_with fail
       go_meet
       exact ⟨by rw [HKV.out],⟨y.sc⟩,⟨y.but⟩⟩
      have e4:decide ((n:Int)<=(x:Int)+1)=false:=decide_eq_false (by omega);have e5:decide (n<=x+1)=false:=decide_eq_false (by omega);have abj:=kQ src (x+1) (by omega);rw [HL.out] at abj;have alN:(x:Int)+1 < (n:Int):=by omega
      have aiP:(0:Int)<=(x:Int)+1:=by omega
      have Qp:=drop_at L (x+1) (by rw [HN.out];omega);obtain ⟨d,hdd⟩:∃ d,L.getD (x+1) 0=d:=⟨_,rfl⟩;rw [hdd] at abj Qp;have hdr:0<=d/\d < 256:=by rw [<- hdd];exact gK src _ (by rw [HL.out];exact lK _ _ (by rw [HN.out];omega))
      have hsy:=fun W=>jf.calls d (S.sym d) W (LQ d hdr.1 hdr.2)
      obtain ⟨sd,hsd⟩:∃ sd,S.sym d=sd:=⟨_,rfl⟩;rw [hsd] at hsy;have Hl:=Lib.hid hsy;have HKV:aj (decide (K≠0)=!sd):=⟨by
       rw [CY.out,Qp];simp only [hsd];cases sd
       ·simp [hs0]
       ·rfl⟩
      clear p1 hs0 hsy Qp hdd hsd hdr;refine dM (fun W=>∃ y:nD s src x line m w,W=y.world) (by kernel_rfl) (by kernel_rfl) ⟨⟨w3.drew,JV.out,HB3.out.drew⟩,rfl⟩ ?_;repeat (go_big_quiet_step ((rename_i y;first | (go_at_call 93;refine (HIS.out _).mono ?_;rintro e w' ⟨rfl,hb⟩;exact ⟨rfl,y.ret hb.below⟩) | (go_at_call 55;refine (Hl.out _).mono ?_;rintro e w' ⟨rfl,hb⟩;exact ⟨rfl,y.ret hb.below⟩))))
      refine wpQuiet_nil ?_;rintro W ⟨y,rfl⟩
      go_wp2_with fail
      go_meet
      exact ⟨by rw [HKV.out],⟨y.sc⟩,⟨y.but⟩⟩
     case rest =>
      obtain ⟨rfl,LX,Di⟩:=hcut;go_upto_if 148 with (fail)
      go_cut [6] from 10 (fun s6 w5=>∃ (vv:List Int) (pp:Nat),s6=.string (strOfNums vv)/\aj (Sc s src pp line m w5)/\aj (But (·=s) w w5)/\aj (S.fZ (L.drop i)=S.iR vv (pp - i))/\aj (i<=pp))
      case first =>
       by_cases hK0:K=0
       ·subst hK0
        rw [if_pos rfl] at tZ;go_wp2_with fail
        go_meet
        exact ⟨acc,x,by rw [HVS.out],LX,Di,tZ,⟨by omega⟩⟩
       have hxl:x < n:=by
        rcases Nat.lt_or_ge x n with h | h
        ·exact h
        ·exfalso
         apply hK0
         rw [<- HKK.out,List.drop_eq_nil_of_le (by rw [HN.out];omega)];rfl
       have hbx:=kQ src x (by omega);rw [HL.out] at hbx;have Qp:=drop_at L x (by rw [HN.out];omega);obtain ⟨c,hcc⟩:∃ c,L.getD x 0=c:=⟨_,rfl⟩;rw [hcc] at hbx Qp;have hcr:0<=c/\c < 256:=by rw [<- hcc];exact gK src _ (by rw [HL.out];exact lK _ _ (by rw [HN.out];omega))
       obtain ⟨p1,p2⟩:=Hf c hcr.1 hcr.2;have hKc:K=S.lF c:=by
        have h1:=HKK.out;rw [Qp,Hg] at h1;rcases hd2:L.drop (x+1) with _ | ⟨d,t⟩
        ·rw [hd2] at h1;exact h1.symm
        ·rw [hd2] at h1
         simp only at h1;by_cases hsd:S.sym d=true
         ·rw [if_pos hsd] at h1;exact absurd h1.symm hK0
         ·rw [if_neg hsd] at h1;exact h1.symm
       have HIB:=Lib.hid (fun W=>strings_IndexByte.calls ⟨#[66,98]⟩ c (Yt c) W (abf c));have hxz:(x:Int) < (n:Int):=by omega
       rw [<- hKc] at p2;have d0:=LX.out.c0;have d1:=LX.out.c1;have d2:=LX.out.c2;have cc0:∀ y:nD s src x line m w,y.world.cell? ⟨s,0,none⟩=some (.string src):=nD.c0;have OQ:∀ y:nD s src x line m w,y.world.cell? ⟨s,1,none⟩=some (.int .i64 x):=nD.c1;have hne:Nonempty (nD s src x line m w):=⟨⟨wc.drew,LX.out,Di.out.drew⟩⟩;clear p1 hKc Qp hcc hcr;generalize Yt c=ib at *;rcases p2 with p2 | ⟨rfl,e3⟩ | ⟨rfl,e3⟩
       ·exact absurd p2 hK0
       ·clear hK0
        have hdc:∀ W,Calls Tryz.prog 109 #[.string vs,.int .i64 4] W fun e w'=>e=.returned (.tuple #[.string (strOfNums ((S.gT (bytesOf vs) 4).getD [])),.bool (S.gT (bytesOf vs) 4).isSome])/\Below W.heap.size W w':=fun W=>zI.calls vs 4 2 (.inl ⟨rfl,rfl⟩) (by omega) W
        have Yv:=Lib.hid (fun W=>kU.calls (.pointer (some ⟨s,0,none⟩)) 15 line W);rw [HVB.out] at hdc;rw [if_neg (by decide)] at tZ;cases hld:S.gT acc 4 with
        | none =>
         rw [hld] at hdc;have zW:aj (S.fZ (L.drop i)=.err 15):=⟨by rw [tZ.out,hld]⟩;have Yw:=Lib.hid hdc;clear hdc hld;go_upto_region 17 with (fail)
         refine dM (fun W=>∃ y:nD s src x line m w,W=y.world) (by kernel_rfl) (by kernel_rfl) ⟨⟨wc.drew,LX.out,Di.out.drew⟩,rfl⟩ ?_;repeat (go_big_quiet_step ((rename_i y;(go_at_call 93;refine (HIB.out _).mono ?_;rintro e w' ⟨rfl,hb⟩;exact ⟨rfl,y.ret hb.below⟩))))
         refine wpQuiet_nil ?_;rintro W ⟨⟨w5,hs5,hb5⟩,rfl⟩
         go_wp2_with (first | (go_at_call 109;refine (Yw.out _).mono ?_;rintro e w6 ⟨rfl,hb6⟩;have hs6:=hs5.below hb6;have Jt:=hb5.then hb6;have e2:=hs6.c2) | (go_at_call 97;refine (Yv.out _).mono ?_;rintro e w7 ⟨rfl,rfl⟩;unfold Fails))
         refine ⟨rfl,Jt,?_⟩;rw [zW.out];exact ⟨rfl,_,hs6⟩
        | some u =>
         rw [hld] at hdc;have zW:aj (S.fZ (L.drop i)=S.iR u (x+1 - i)):=⟨by rw [tZ.out,hld];simp only [];rw [show kk+2 - i=x+1 - i by omega]⟩;have Yw:=Lib.hid hdc;clear hdc hld;go_upto_region 17 with (fail)
         refine dM (fun W=>∃ y:nD s src x line m w,W=y.world) (by kernel_rfl) (by kernel_rfl) ⟨⟨wc.drew,LX.out,Di.out.drew⟩,rfl⟩ ?_;repeat (go_big_quiet_step ((rename_i y;(go_at_call 93;refine (HIB.out _).mono ?_;rintro e w' ⟨rfl,hb⟩;exact ⟨rfl,y.ret hb.below⟩))))
         refine wpQuiet_nil ?_;rintro W ⟨⟨w5,hs5,hb5⟩,rfl⟩
         go_wp2_with (go_at_call 109;refine (Yw.out _).mono ?_;rintro e w6 ⟨rfl,hb6⟩;have hs6:=hs5.below hb6;have Jt:=hb5.then hb6;have e1:=hs6.c1;have f1:=hs6.fr 1)
         go_meet
         exact ⟨u,x+1,rfl,⟨hs6.set1 _⟩,⟨Jt.set _ _ rfl⟩,zW,⟨by omega⟩⟩
       ·clear hK0
        have hdc:∀ W,Calls Tryz.prog 109 #[.string vs,.int .i64 1] W fun e w'=>e=.returned (.tuple #[.string (strOfNums ((S.gT (bytesOf vs) 1).getD [])),.bool (S.gT (bytesOf vs) 1).isSome])/\Below W.heap.size W w':=fun W=>zI.calls vs 1 8 (.inr ⟨rfl,rfl⟩) (by omega) W
        have Yv:=Lib.hid (fun W=>kU.calls (.pointer (some ⟨s,0,none⟩)) 15 line W);rw [HVB.out] at hdc;rw [if_neg (by decide)] at tZ;cases hld:S.gT acc 1 with
        | none =>
         rw [hld] at hdc;have zW:aj (S.fZ (L.drop i)=.err 15):=⟨by rw [tZ.out,hld]⟩;have Yw:=Lib.hid hdc;clear hdc hld;go_upto_region 17 with (fail)
         refine dM (fun W=>∃ y:nD s src x line m w,W=y.world) (by kernel_rfl) (by kernel_rfl) ⟨⟨wc.drew,LX.out,Di.out.drew⟩,rfl⟩ ?_;repeat (go_big_quiet_step ((rename_i y;(go_at_call 93;refine (HIB.out _).mono ?_;rintro e w' ⟨rfl,hb⟩;exact ⟨rfl,y.ret hb.below⟩))))
         refine wpQuiet_nil ?_;rintro W ⟨⟨w5,hs5,hb5⟩,rfl⟩
         go_wp2_with (first | (go_at_call 109;refine (Yw.out _).mono ?_;rintro e w6 ⟨rfl,hb6⟩;have hs6:=hs5.below hb6;have Jt:=hb5.then hb6;have e2:=hs6.c2) | (go_at_call 97;refine (Yv.out _).mono ?_;rintro e w7 ⟨rfl,rfl⟩;unfold Fails))
         refine ⟨rfl,Jt,?_⟩;rw [zW.out];exact ⟨rfl,_,hs6⟩
        | some u =>
         rw [hld] at hdc;have zW:aj (S.fZ (L.drop i)=S.iR u (x+1 - i)):=⟨by rw [tZ.out,hld];simp only [];rw [show kk+2 - i=x+1 - i by omega]⟩;have Yw:=Lib.hid hdc;clear hdc hld;go_upto_region 17 with (fail)
         refine dM (fun W=>∃ y:nD s src x line m w,W=y.world) (by kernel_rfl) (by kernel_rfl) ⟨⟨wc.drew,LX.out,Di.out.drew⟩,rfl⟩ ?_;repeat (go_big_quiet_step ((rename_i y;(go_at_call 93;refine (HIB.out _).mono ?_;rintro e w' ⟨rfl,hb⟩;exact ⟨rfl,y.ret hb.below⟩))))
         refine wpQuiet_nil ?_;rintro W ⟨⟨w5,hs5,hb5⟩,rfl⟩
         go_wp2_with (go_at_call 109;refine (Yw.out _).mono ?_;rintro e w6 ⟨rfl,hb6⟩;have hs6:=hs5.below hb6;have Jt:=hb5.then hb6;have e1:=hs6.c1;have f1:=hs6.fr 1)
         go_meet
         exact ⟨u,x+1,rfl,⟨hs6.set1 _⟩,⟨Jt.set _ _ rfl⟩,zW,⟨by omega⟩⟩
      case rest =>
       obtain ⟨vv,pp,rfl,HS5,HB5,zW,hip⟩:=hcut;have d2:=HS5.out.c2;obtain ⟨vz,hvz⟩:∃ vz,strOfNums vv=vz:=⟨_,rfl⟩;obtain ⟨lv,hlv⟩:∃ lv,vz.size=lv:=⟨_,rfl⟩;have hlv2:vv.length=lv:=by rw [<- hlv,<- hvz];simp [strOfNums,ByteArray.size]
       have HVZ:=aj.mk hvz;have NP:=zW;unfold S.iR at NP;rw [hlv2] at NP;rw [hvz];have aiQ:=Lib.hid (kU.calls (.pointer (some ⟨s,0,none⟩)) 30 line wc);by_cases hlong:1000 < lv
       ·have e1:decide (1000 < lv)=true:=decide_eq_true hlong
        have e2:decide ((1000:Int) < (lv:Int))=true:=decide_eq_true (by omega);rw [if_pos hlong] at NP;clear hvz hlv2 hlong;go_wp2_with (go_at_call 97;refine aiQ.out.mono ?_;rintro e w7 ⟨rfl,rfl⟩;unfold Fails)
        refine ⟨rfl,HB5.out,?_⟩;rw [NP.out];exact ⟨rfl,_,HS5.out⟩
       have e1:decide (1000 < lv)=false:=decide_eq_false hlong;have e2:decide ((1000:Int) < (lv:Int))=false:=decide_eq_false (by omega);rw [if_neg hlong] at NP;clear hvz hlv2 hlong;go_wp2_with fail
       go_ret;refine ⟨HB5.out,?_⟩;rw [NP.out];exact ⟨by rw [HVZ.out];rfl,by rw [show ((i+(pp - i):Nat):Int)=(pp:Int) by have:=hip.out;omega];exact HS5.out⟩
end Go.Proofs.YtkkpjonfaflkmaaGreatDoor.T
