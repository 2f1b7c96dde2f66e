/- A part of the proof of ScanWrites. -/
import Derived.Test.YtkkpjonfaflkmaaGreatDoorCScanWrites7
import Derived.StillTail
import Derived.Sort.CutIn
import Derived.RecoverIn
set_option linter.all false
namespace Go.Proofs.YtkkpjonfaflkmaaGreatDoor.T
open Go.RowKit Go.Maps Go.Proofs.aj.aI Go.Proofs.aj.aY Go.Proofs.aj.bq
def shC (p q:Nat):S.CR->S.CR
 | .eof=>.eof
 | .done i l b=>.done (p+i) (q+l) (if b=0 then 0 else q+b)
theorem qp (p q:Nat):∀ (xs:List Int) (i d l b:Nat),0 < l->S.jD xs (p+i) d (q+l) (if b=0 then 0 else q+b)=shC p q (S.jD xs i d l b)
 | [],_,_,_,_,_=>rfl
 | [_],_,_,_,_,_=>rfl
 | c::e::t,i,d,l,b,hl=>by
  rw [S.jD,S.jD];by_cases h1:c=47/\e=42
  ·rw [if_pos h1,if_pos h1]
   exact qp p q t (i+2) (d+1) l b hl
  rw [if_neg h1,if_neg h1];by_cases h2:c=42/\e=47
  ·rw [if_pos h2,if_pos h2]
   by_cases h3:d=1
   ·rw [if_pos h3,if_pos h3];rfl
   rw [if_neg h3,if_neg h3];exact qp p q t (i+2) (d - 1) l b hl
  rw [if_neg h2,if_neg h2];have e1:(if c=10 then q+l+1 else q+l)=q+(if c=10 then l+1 else l):=by split<;>omega
  have e2:(if c≠10/\S.iT c=false/\(if b=0 then 0 else q+b)=0 then q+l else if b=0 then 0 else q+b)=if (if c≠10/\S.iT c=false/\b=0 then l else b)=0 then 0 else q+(if c≠10/\S.iT c=false/\b=0 then l else b):=by
   by_cases hb:b=0
   ·by_cases hc:c≠10/\S.iT c=false
    ·simp only [hb,hc,if_true,true_and,and_self,ne_eq,not_false_eq_true]
     rw [if_neg (by omega)]
    have hc':¬ (c≠10/\S.iT c=false/\True):=fun h=>hc ⟨h.1,h.2.1⟩
    simp only [hb,if_true];rw [if_neg hc',if_neg hc'];simp
   have hq:¬ q+b=0:=by omega
   simp only [hb,if_false,hq,and_false]
  rw [e1,e2];exact qp p q (e::t) (i+1) d _ _ (by split<;>omega)
 termination_by xs=>xs.length
theorem uD:∀ (xs:List Int) (i d l b:Nat),0 < l->(b=0\/0 < b)->∀ i' l' b',S.jD xs i d l b=.done i' l' b'->0 < l'
 | [],_,_,_,_,_,_=>fun _ _ _ h=>by cases h
 | [_],_,_,_,_,_,_=>fun _ _ _ h=>by cases h
 | c::e::t,i,d,l,b,hl,hb=>fun i' l' b' h=>by
  rw [S.jD] at h;by_cases h1:c=47/\e=42
  ·rw [if_pos h1] at h;exact uD t _ _ l b hl hb _ _ _ h
  rw [if_neg h1] at h;by_cases h2:c=42/\e=47
  ·rw [if_pos h2] at h
   by_cases h3:d=1
   ·rw [if_pos h3] at h;cases h;exact hl
   ·rw [if_neg h3] at h;exact uD t _ _ l b hl hb _ _ _ h
  rw [if_neg h2] at h;exact uD (e::t) _ _ _ _ (by split<;>omega) (by omega) _ _ _ h
 termination_by xs=>xs.length
def DK:Array Value:=#[.int .i64 0,.string ⟨#[]⟩,.bool false,.int .i64 0,.int .i64 0,.int .i64 0]
def uS (k:Int) (t:ByteArray) (g:Bool) (l a e:Int):Array Value:=#[.int .i64 k,.string t,.bool g,.int .i64 l,.int .i64 a,.int .i64 e]
structure St (s H:Nat) (src:ByteArray) (i line:Int) (m:Value) (row:Array Value) (w0 W:World):Prop where
 sc:Sc s src i line m W
 but:But (·=s) w0 W
 res:W.heap[H]?=some (.cells DK 53 (0,0))
 tok:W.heap[H+1]?=some (.cells row 53 (0,0))
 lt:s < H
 new:w0.heap.size=H
theorem St.zs {s H:Nat} {src:ByteArray} {i line:Int} {m:Value} {row:Array Value} {w0 W:World} (h:St s H src i line m row w0 W) :
  W.cell? ⟨H,0,none⟩=some (.int .i64 0)/\W.cell? ⟨H,1,none⟩=some (.string ⟨#[]⟩)/\W.cell? ⟨H,2,none⟩=some (.bool false)/\W.cell? ⟨H,3,none⟩=some (.int .i64 0)/\W.cell? ⟨H,4,none⟩=some (.int .i64 0)/\W.cell? ⟨H,5,none⟩=some (.int .i64 0) /\
  W.frozen? ⟨H,0,none⟩=false/\W.frozen? ⟨H,1,none⟩=false/\W.frozen? ⟨H,2,none⟩=false/\W.frozen? ⟨H,3,none⟩=false/\W.frozen? ⟨H,4,none⟩=false/\W.frozen? ⟨H,5,none⟩=false :=
 ⟨au h.res 0,au h.res 1,au h.res 2,au h.res 3,au h.res 4,au h.res 5,aA h.res 0,aA h.res 1,aA h.res 2,aA h.res 3,aA h.res 4,aA h.res 5⟩
theorem St.ts {s H:Nat} {src:ByteArray} {i line:Int} {m:Value} {k l a e:Int} {t:ByteArray} {g:Bool} {w0 W:World} (h:St s H src i line m (uS k t g l a e) w0 W) :
  W.cell? ⟨H+1,0,none⟩=some (.int .i64 k)/\W.cell? ⟨H+1,1,none⟩=some (.string t)/\W.cell? ⟨H+1,2,none⟩=some (.bool g)/\W.cell? ⟨H+1,3,none⟩=some (.int .i64 l)/\W.cell? ⟨H+1,4,none⟩=some (.int .i64 a)/\W.cell? ⟨H+1,5,none⟩=some (.int .i64 e) /\
  W.frozen? ⟨H+1,0,none⟩=false/\W.frozen? ⟨H+1,1,none⟩=false/\W.frozen? ⟨H+1,5,none⟩=false :=
 ⟨au h.tok 0,au h.tok 1,au h.tok 2,au h.tok 3,au h.tok 4,au h.tok 5,aA h.tok 0,aA h.tok 1,aA h.tok 5⟩
theorem St.at1 {s H:Nat} {src:ByteArray} {i line:Int} {m:Value} {row:Array Value} {w0 W:World} (h:St s H src i line m row w0 W) (x:Int):St s H src x line m row w0 (W.setCell ⟨s,1,none⟩ (.int .i64 x)) :=
 ⟨h.sc.set1 x,h.but.set _ _ rfl,(Below.heap_setCell W ⟨s,1,none⟩ _ H (by have:=h.lt;show H≠s;omega)).trans h.res,(Below.heap_setCell W ⟨s,1,none⟩ _ (H+1) (by have:=h.lt;show H+1≠s;omega)).trans h.tok,h.lt,h.new⟩
theorem St.at2 {s H:Nat} {src:ByteArray} {i line:Int} {m:Value} {row:Array Value} {w0 W:World} (h:St s H src i line m row w0 W) (x:Int):St s H src i x m row w0 (W.setCell ⟨s,2,none⟩ (.int .i64 x)) :=
 ⟨h.sc.set2 x,h.but.set _ _ rfl,(Below.heap_setCell W ⟨s,2,none⟩ _ H (by have:=h.lt;show H≠s;omega)).trans h.res,(Below.heap_setCell W ⟨s,2,none⟩ _ (H+1) (by have:=h.lt;show H+1≠s;omega)).trans h.tok,h.lt,h.new⟩
theorem But.qJ {A:Nat->Prop} {w w':World} (h:But A w w') (a:Addr) (v:Value) (ha:w.heap.size<=a.block):But A w (w'.setCell a v):=by
 have hg:w'.grownBy (w'.setCell a v) (some a.block):=⟨rfl,rfl,rfl,by simp [World.setCell],fun k _ hk=>Below.heap_setCell w' a v k (fun e=>hk (by rw [e]))⟩;exact ⟨hg.os.trans h.os,hg.tape.trans h.tape,hg.output.trans h.output,Nat.le_trans h.size hg.size,fun k hk hn=>(hg.block k (Nat.lt_of_lt_of_le hk h.size) (fun e=>by cases e;omega)).trans (h.block k hk hn)⟩
theorem St.tk {s H:Nat} {src:ByteArray} {i line:Int} {m:Value} {row row':Array Value} {w0 W:World} (h:St s H src i line m row w0 W) (j:Nat) (v:Value) (e:row.setIfInBounds j v=row'):St s H src i line m row' w0 (W.setCell ⟨H+1,j,none⟩ v) :=
 ⟨(Below.heap_setCell W ⟨H+1,j,none⟩ v s (by have:=h.lt;show s≠H+1;omega)).trans h.sc,h.but.qJ _ _ (by have:=h.new;show _<=H+1;omega),(Below.heap_setCell W ⟨H+1,j,none⟩ v H (by show H≠H+1;omega)).trans h.res,aW h.tok j v e,h.lt,h.new⟩
theorem St.drewN {s H:Nat} {src:ByteArray} {i line:Int} {m:Value} {row:Array Value} {w0 W:World} (h:St s H src i line m row w0 W) (q:Nat):St s H src i line m row w0 (W.drewN q):=⟨h.sc,h.but.drewN q,h.res,h.tok,h.lt,h.new⟩
theorem St.call {s H:Nat} {src:ByteArray} {i line i' line':Int} {m:Value} {row:Array Value} {w0 W W':World} (h:St s H src i line m row w0 W) (hb:But (·=s) W W') (hs:Sc s src i' line' m W'):St s H src i' line' m row w0 W' :=
 ⟨hs,h.but.trans' hb,(hb.block H (kV h.res) (by have:=h.lt;show ¬ H=s;omega)).trans h.res,(hb.block (H+1) (kV h.tok) (by have:=h.lt;show ¬ H+1=s;omega)).trans h.tok,h.lt,h.new⟩
theorem iR {P:Program} {fn:Func} {p q:Tmp} {ty:TypeId} (h:fn.results=#[.tmp p,.cell q ty]) (tmps:Array Value) (w:World) (g:Nat) (t:TypeId) (cs:Array Value) (fr:Nat × Nat) (d:TypeDesc) (u:Value)
  (hp:tmps.getD p undef=u) (hq:tmps.getD q undef=.pointer (some ⟨g,0,none⟩)) (hg:w.heap[g]?=some (.cells cs t fr))
  (hu:P.underlying ty=some d) (hd:(match d with | .struct _ | .array _ _=>true | _=>false)=true) (hi:(P.info? ty).map (·.size)=some cs.size) :
  (results fn tmps).run P w=.ok (.tuple #[u,.agg cs]) w:=by
 have hp':tmps[p]?.getD undef=u:=by simpa using hp
 have hq':tmps[q]?.getD undef=.pointer (some ⟨g,0,none⟩):=by simpa using hq
 simp [results,h,hp',hq',asAddr,Sem.run_bind,run_loadVar_row w g t ty cs fr d hg hu hd hi,Result.andThen]
def je (s:Nat) (src:ByteArray) (m:Value) (i line:Nat) (e:Ending) (w':World):S.Step->Prop
 | .fin=>e=.returned (.tuple #[.int .i64 0,.agg DK])/\Sc s src i line m w'
 | .line=>e=.returned (.tuple #[.int .i64 1,.agg (uS 0 ⟨#[]⟩ false line i 0)])/\Sc s src ((i+1:Nat):Int) ((line+1:Nat):Int) m w'
 | .blank=>e=.returned (.tuple #[.int .i64 2,.agg (uS 0 ⟨#[]⟩ false line i 0)])/\Sc s src ((i+1:Nat):Int) line m w'
 | .jD n dl=>e=.returned (.tuple #[.int .i64 3,.agg (uS 0 ⟨#[]⟩ false line i 0)])/\Sc s src ((i+n:Nat):Int) ((line+dl:Nat):Int) m w'
 | .tok k t n=>e=.returned (.tuple #[.int .i64 4,.agg (uS k (strOfNums t) false line i ((i+n:Nat):Int))])/\Sc s src ((i+n:Nat):Int) line m w'
 | .err c dl=>e=Fails c ((line+dl:Nat):Int)/\∃ i' l':Nat,Sc s src i' l' m w'
theorem SY {s H:Nat} {src:ByteArray} {i line:Int} {m:Value} {w0 W:World} (hsc:Sc s src i line m W) (aiM:But (·=s) w0 W) (hres:W.heap[H]?=some (.cells DK 53 (0,0))) (hlt:s < H) (hnew:w0.heap.size=H) (k l a e:Int) (t:ByteArray) (g:Bool) :
  (((((((World.setCell W ⟨H,0,none⟩ (.int .i64 k)).setCell ⟨H,1,none⟩ (.string t)).setCell ⟨H,2,none⟩ (.bool g)).setCell ⟨H,3,none⟩ (.int .i64 l)).setCell ⟨H,4,none⟩ (.int .i64 a)).setCell ⟨H,5,none⟩ (.int .i64 e))).heap[H]?=some (.cells (uS k t g l a e) 53 (0,0))/\Sc s src i line m (((((((World.setCell W ⟨H,0,none⟩ (.int .i64 k)).setCell ⟨H,1,none⟩ (.string t)).setCell ⟨H,2,none⟩ (.bool g)).setCell ⟨H,3,none⟩ (.int .i64 l)).setCell ⟨H,4,none⟩ (.int .i64 a)).setCell ⟨H,5,none⟩ (.int .i64 e)))/\But (·=s) w0 (((((((World.setCell W ⟨H,0,none⟩ (.int .i64 k)).setCell ⟨H,1,none⟩ (.string t)).setCell ⟨H,2,none⟩ (.bool g)).setCell ⟨H,3,none⟩ (.int .i64 l)).setCell ⟨H,4,none⟩ (.int .i64 a)).setCell ⟨H,5,none⟩ (.int .i64 e))):=by
 have hn:∀ j,w0.heap.size<=(⟨H,j,none⟩:Addr).block:=fun j=>by have:=hnew;show _<=H;omega
 have ho:∀ (A:World) (j:Nat) (u:Value),(A.setCell ⟨H,j,none⟩ u).heap[s]?=A.heap[s]?:=fun A j u=>Below.heap_setCell A ⟨H,j,none⟩ u s (by have:=hlt;show s≠H;omega)
 refine ⟨?_,?_,(((((aiM.qJ _ _ (hn 0)).qJ _ _ (hn 1)).qJ _ _ (hn 2)).qJ _ _ (hn 3)).qJ _ _ (hn 4)).qJ _ _ (hn 5)⟩
 ·exact aW (aW (aW (aW (aW (aW hres 0 _ rfl) 1 _ rfl) 2 _ rfl) 3 _ rfl) 4 _ rfl) 5 _ rfl
 ·unfold Sc
  rw [ho,ho,ho,ho,ho,ho];exact hsc
theorem St.end_ {s H:Nat} {src:ByteArray} {i line:Int} {m:Value} {row:Array Value} {w0 W:World} (h:St s H src i line m row w0 W) (k l a e:Int) (t:ByteArray) (g:Bool) :
  (((((((World.setCell W ⟨H,0,none⟩ (.int .i64 k)).setCell ⟨H,1,none⟩ (.string t)).setCell ⟨H,2,none⟩ (.bool g)).setCell ⟨H,3,none⟩ (.int .i64 l)).setCell ⟨H,4,none⟩ (.int .i64 a)).setCell ⟨H,5,none⟩ (.int .i64 e))).heap[H]?=some (.cells (uS k t g l a e) 53 (0,0))/\Sc s src i line m (((((((World.setCell W ⟨H,0,none⟩ (.int .i64 k)).setCell ⟨H,1,none⟩ (.string t)).setCell ⟨H,2,none⟩ (.bool g)).setCell ⟨H,3,none⟩ (.int .i64 l)).setCell ⟨H,4,none⟩ (.int .i64 a)).setCell ⟨H,5,none⟩ (.int .i64 e)))/\But (·=s) w0 (((((((World.setCell W ⟨H,0,none⟩ (.int .i64 k)).setCell ⟨H,1,none⟩ (.string t)).setCell ⟨H,2,none⟩ (.bool g)).setCell ⟨H,3,none⟩ (.int .i64 l)).setCell ⟨H,4,none⟩ (.int .i64 a)).setCell ⟨H,5,none⟩ (.int .i64 e))):=SY h.sc h.but h.res h.lt h.new k l a e t g
set_option maxRecDepth 100000 in
set_option maxHeartbeats 4000000 in
theorem PX.calls (s:Nat) (src:ByteArray) (i line mb base:Nat) (hd:Int->Value) (D:DataW Unit) (w:World) (hsz:src.size<=100000) (hl:line<=1000000) (hl1:0 < line) (hi:i<=src.size) (h:ScM s src i line mb base hd D w) :
  Calls Tryz.prog 91 #[.pointer (some ⟨s,0,none⟩)] w fun e w'=>But (·=s) w w'/\je s src (.map (some mb)) i line e w' (S.step ((bytesOf src).drop i)):=by
 have HM:=ah.mk h;obtain ⟨n,hn⟩:∃ n,src.size=n:=⟨_,rfl⟩;obtain ⟨L,hL⟩:∃ L,bytesOf src=L:=⟨_,rfl⟩;have HN:ah (L.length=n):=⟨by rw [<- hL,bytesOf_length];exact hn⟩;obtain ⟨H,hH⟩:∃ H,w.heap.size=H:=⟨_,rfl⟩;have HH:=ah.mk hH;have hs:s < H:=by rw [<- hH];exact h.sc.lt
 have Bu:=Tryz.underlying53;rw [hn] at hsz hi;rw [hL];have hs1:=HM.out.sc.below (av (Below.refl _ _) (.cells #[.int .i64 0,.string ⟨#[]⟩,.bool false,.int .i64 0,.int .i64 0,.int .i64 0] 53));have hb1:=(But.refl (·=s) w).alloc (.cells #[.int .i64 0,.string ⟨#[]⟩,.bool false,.int .i64 0,.int .i64 0,.int .i64 0] 53);have hr1:=heap_alloc_new w (.cells #[.int .i64 0,.string ⟨#[]⟩,.bool false,.int .i64 0,.int .i64 0,.int .i64 0] 53);have hz1:=World.size_alloc w (.cells #[.int .i64 0,.string ⟨#[]⟩,.bool false,.int .i64 0,.int .i64 0,.int .i64 0] 53);rw [hH] at hr1 hz1;have Py:=ah.mk hs1;have HB1:=ah.mk hb1;have HR1:=ah.mk hr1;have c0:=hs1.c0;have c1:=hs1.c1;have c2:=hs1.c2;clear hs1 hb1 hr1;go_enter Tryz.func91,Tryz.ntmps91
 go_upto_region 1 with (fail)
 try rw [hH]
 generalize (w.alloc (.cells #[.int .i64 0,.string ⟨#[]⟩,.bool false,.int .i64 0,.int .i64 0,.int .i64 0] 53))=W1 at *;by_cases hlt:i < n
 rotate_left
 ·have h1:(n:Int)<=(i:Int):=by omega
  obtain ⟨z0,z1,z2,z3,z4,z5⟩:W1.cell? ⟨H,0,none⟩=some (.int .i64 0)/\W1.cell? ⟨H,1,none⟩=some (.string ⟨#[]⟩)/\W1.cell? ⟨H,2,none⟩=some (.bool false)/\W1.cell? ⟨H,3,none⟩=some (.int .i64 0)/\W1.cell? ⟨H,4,none⟩=some (.int .i64 0)/\W1.cell? ⟨H,5,none⟩=some (.int .i64 0) :=
   ⟨au HR1.out 0,au HR1.out 1,au HR1.out 2,au HR1.out 3,au HR1.out 4,au HR1.out 5⟩
  obtain ⟨y0,y1,y2,y3,y4,y5⟩:W1.frozen? ⟨H,0,none⟩=false/\W1.frozen? ⟨H,1,none⟩=false/\W1.frozen? ⟨H,2,none⟩=false/\W1.frozen? ⟨H,3,none⟩=false/\W1.frozen? ⟨H,4,none⟩=false/\W1.frozen? ⟨H,5,none⟩=false :=
   ⟨aA HR1.out 0,aA HR1.out 1,aA HR1.out 2,aA HR1.out 3,aA HR1.out 4,aA HR1.out 5⟩
  have HX:ah (S.step (L.drop i)=.fin):=⟨by rw [List.drop_eq_nil_of_le (by rw [HN.out];omega)];rfl⟩;go_quiet (fail)
  have HE:=ah.mk (SY (W:=W1.drewN nq) (m:=.map (some mb)) (src:=src) (i:=i) (line:=line) Py.out (HB1.out.drewN nq) HR1.out hs HH.out 0 0 0 0 ⟨#[]⟩ false);go_wp2;generalize ((((((World.setCell (W1.drewN nq) ⟨H,0,none⟩ (.int .i64 (0:Int))).setCell ⟨H,1,none⟩ (.string (⟨#[]⟩:ByteArray))).setCell ⟨H,2,none⟩ (.bool false)).setCell ⟨H,3,none⟩ (.int .i64 (0:Int))).setCell ⟨H,4,none⟩ (.int .i64 (0:Int))).setCell ⟨H,5,none⟩ (.int .i64 (0:Int)))=Z at *;refine bodyPost_ret (iR (fn:=Tryz.f91) rfl _ _ H 53 DK (0,0) _ _ rfl rfl HE.out.1 Tryz.underlying53 rfl (by kernel_rfl)) rfl ?_;rw [HX.out];exact ⟨HE.out.2.2,rfl,HE.out.2.1⟩
 have h1:¬ (n:Int)<=(i:Int):=by omega
 have h2:(i:Int) < (n:Int):=by omega
 have h3:(0:Int)<=(i:Int):=by omega
 have hbi:=jT src i (by omega);rw [hL] at hbi;have hdi:=drop_at L i (by rw [HN.out];omega);have hcr:0<=L.getD i 0/\L.getD i 0 < 256:=eG src _ (by rw [hL];exact kQ _ _ (by rw [HN.out];omega));obtain ⟨c,hc⟩:∃ c,L.getD i 0=c:=⟨_,rfl⟩;rw [hc] at hbi hdi hcr;have PG:=ah.mk hdi;have HL:=ah.mk hL;clear hdi hc hL;go_quiet (fail)
 go_upto_region 3 with (fail)
 go_region
 have hst:∀ q,St s H src i line (.map (some mb)) (uS 0 ⟨#[]⟩ false line i 0) w ((W1.drewN q).alloc (.cells #[.int .i64 0,.string ⟨#[]⟩,.bool false,.int .i64 line,.int .i64 i,.int .i64 0] 53)):=fun q=>by
  refine ⟨Py.out.below (av (ak (Below.refl _ _) q) _),(HB1.out.drewN q).alloc _,(Below.heap_alloc _ _ _ (by show H < W1.heap.size;omega)).trans HR1.out,?_,hs,HH.out⟩;have:=heap_alloc_new (W1.drewN q) (.cells #[.int .i64 0,.string ⟨#[]⟩,.bool false,.int .i64 line,.int .i64 i,.int .i64 0] 53);rw [show (W1.drewN q).heap.size=H+1 from hz1] at this;exact this
 have HST:=ah.mk (hst (nq+1));clear hst;generalize (W1.drewN (nq+1)).alloc (.cells #[.int .i64 0,.string ⟨#[]⟩,.bool false,.int .i64 line,.int .i64 i,.int .i64 0] 53)=W2 at *;clear c0 c1 c2;have c0:=HST.out.sc.c0;have c1:=HST.out.sc.c1;have c2:=HST.out.sc.c2;have f1:=HST.out.sc.fr 1;have f2:=HST.out.sc.fr 2;go_upto_region 4 with (fail)
 go_quiet (fail)
 obtain ⟨z0,z1,z2,z3,z4,z5,y0,y1,y2,y3,y4,y5⟩:=HST.out.zs;obtain ⟨t0,t1,t2,t3,t4,t5,x0,x1,x5⟩:=HST.out.ts;by_cases c10:c=10
 ·subst c10
  have HX:ah (S.step (L.drop i)=.line):=⟨by rw [PG.out];rfl⟩;go_upto_region 9 with (fail)
  have ny:=ah.mk (((HST.out.drewN nq).at1 ((i:Int)+1)).at2 ((line:Int)+1));clear z0 z1 z2 z3 z4 z5 y0 y1 y2 y3 y4 y5 t0 t1 t2 t3 t4 t5 x0 x1 x5;obtain ⟨z0,z1,z2,z3,z4,z5,y0,y1,y2,y3,y4,y5⟩:=ny.out.zs;obtain ⟨t0,t1,t2,t3,t4,t5,x0,x1,x5⟩:=ny.out.ts;generalize ((W2.drewN nq).setCell ⟨s,1,none⟩ (.int .i64 ((i:Int)+1))).setCell ⟨s,2,none⟩ (.int .i64 ((line:Int)+1))=W3 at *;have HE:=ah.mk (ny.out.end_ 0 line i 0 ⟨#[]⟩ false);go_region
  go_wp2;generalize ((((((World.setCell W3 ⟨H,0,none⟩ (.int .i64 (0:Int))).setCell ⟨H,1,none⟩ (.string (⟨#[]⟩:ByteArray))).setCell ⟨H,2,none⟩ (.bool false)).setCell ⟨H,3,none⟩ (.int .i64 (line:Int))).setCell ⟨H,4,none⟩ (.int .i64 (i:Int))).setCell ⟨H,5,none⟩ (.int .i64 (0:Int)))=Z at *;refine bodyPost_ret (iR (fn:=Tryz.f91) rfl _ _ H 53 (uS 0 ⟨#[]⟩ false line i 0) (0,0) _ _ rfl rfl HE.out.1 Tryz.underlying53 rfl (by kernel_rfl)) rfl ?_;rw [HX.out];exact ⟨HE.out.2.2.drew,rfl,HE.out.2.1⟩
 have n10:¬ (c==10)=true:=by simpa using c10
 have e10:(c==10)=false:=by simpa using c10
 by_cases c32:c=32
 ·subst c32
  have HX:ah (S.step (L.drop i)=.blank):=⟨by rw [PG.out];rfl⟩;go_upto_region 12 with (fail)
  have ny:=ah.mk ((HST.out.drewN nq).at1 ((i:Int)+1));clear z0 z1 z2 z3 z4 z5 y0 y1 y2 y3 y4 y5 t0 t1 t2 t3 t4 t5 x0 x1 x5;obtain ⟨z0,z1,z2,z3,z4,z5,y0,y1,y2,y3,y4,y5⟩:=ny.out.zs;obtain ⟨t0,t1,t2,t3,t4,t5,x0,x1,x5⟩:=ny.out.ts;generalize (W2.drewN nq).setCell ⟨s,1,none⟩ (.int .i64 ((i:Int)+1))=W3 at *;have HE:=ah.mk (ny.out.end_ 0 line i 0 ⟨#[]⟩ false);go_region
  go_wp2;generalize ((((((World.setCell W3 ⟨H,0,none⟩ (.int .i64 (0:Int))).setCell ⟨H,1,none⟩ (.string (⟨#[]⟩:ByteArray))).setCell ⟨H,2,none⟩ (.bool false)).setCell ⟨H,3,none⟩ (.int .i64 (line:Int))).setCell ⟨H,4,none⟩ (.int .i64 (i:Int))).setCell ⟨H,5,none⟩ (.int .i64 (0:Int)))=Z at *;refine bodyPost_ret (iR (fn:=Tryz.f91) rfl _ _ H 53 (uS 0 ⟨#[]⟩ false line i 0) (0,0) _ _ rfl rfl HE.out.1 Tryz.underlying53 rfl (by kernel_rfl)) rfl ?_;rw [HX.out];exact ⟨HE.out.2.2.drew,rfl,HE.out.2.1⟩
 have e32:(c==32)=false:=by simpa using c32
 have HXR:ah (bytesOf (src.extract i n)=L.drop i):=⟨by rw [<- hn,qF,HL.out]⟩;obtain ⟨b,hb⟩:∃ b,S.dQ (L.drop i)=b:=⟨_,rfl⟩;have hz2:(i:Int)<=(n:Int):=by omega
 have HP:=Lib.hid (fun W=>wI.calls (src.extract i n) 47 42 b (by rw [HXR.out,<- hb,S.Bb];rfl) W);have NI:=ah.mk hb;clear hb;go_upto_region 13 with (fail)
 refine dA (fun W=>∃ q,W=W2.drewN q) (by kernel_rfl) (by kernel_rfl) ⟨nq+1,rfl⟩ ?_;repeat (go_big_quiet_step ((rename_i q;(go_at_call 123;refine (HP.out _).mono ?_;rintro e w' ⟨rfl,rfl⟩;exact ⟨rfl,q,rfl⟩))))
 refine wpQuiet_nil ?_;rintro W ⟨q,rfl⟩
 have ji:=ah.mk (HST.out.drewN q);clear c0 c1 c2 f1 f2;clear z0 z1 z2 z3 z4 z5 y0 y1 y2 y3 y4 y5 t0 t1 t2 t3 t4 t5 x0 x1 x5;generalize W2.drewN q=W4 at *;have c0:=ji.out.sc.c0;have c1:=ji.out.sc.c1;have c2:=ji.out.sc.c2;obtain ⟨z0,z1,z2,z3,z4,z5,y0,y1,y2,y3,y4,y5⟩:=ji.out.zs;obtain ⟨t0,t1,t2,t3,t4,t5,x0,x1,x5⟩:=ji.out.ts;cases b with
 | true =>
  have hcm:=Fu.calls s src (.map (some mb)) i line W4 (by omega) (by omega) (by omega) (by rw [HL.out];exact NI.out) ji.out.sc;have hsh:=qp i (line - 1) (L.drop i) 0 0 1 0 (by omega);rw [show line - 1+1=line by omega] at hsh;simp only [Nat.add_zero,if_true] at hsh;rw [HL.out,hsh] at hcm;have hX:S.step (L.drop i)=S.gX (S.jD (L.drop i) 0 0 1 0):=by
   have hb0:=NI.out;rw [PG.out] at hb0 |-
   simp only [S.step];rw [if_neg c10,if_neg c32,if_pos hb0]
  cases hR:S.jD (L.drop i) 0 0 1 0 with
  | eof =>
   rw [hR] at hcm hX;have HX:ah (S.step (L.drop i)=.err 6 0):=⟨hX⟩;have zT:=Lib.hid hcm;clear hX hcm hR hsh;go_wp2_with (go_at_call 124;refine zT.out.mono ?_;rintro e w3 ⟨hb3,rfl,hs3⟩;unfold Fails)
   refine ⟨rfl,ji.out.but.trans' hb3,?_⟩;rw [HX.out];exact ⟨rfl,hs3⟩
  | done i' l' b' =>
   rw [hR] at hcm hX;have hl':=uD (L.drop i) 0 0 1 0 (by omega) (by omega) i' l' b' hR;by_cases hb0:b'=0
   rotate_left
   ·have HX:ah (S.step (L.drop i)=.err 13 (b' - 1)):=⟨by rw [hX];simp only [S.gX];rw [if_neg hb0]⟩
    simp only [shC,hb0,if_false,om] at hcm;simp only [show ¬ (line - 1+b'=0) by omega,if_false] at hcm;have hbl:line+(b' - 1)=line - 1+b':=by omega
    have HBL:=ah.mk hbl;have zT:=Lib.hid hcm;clear hX hcm hR hsh hbl;go_wp2_with (go_at_call 124;refine zT.out.mono ?_;rintro e w3 ⟨hb3,rfl,hs3⟩;unfold Fails)
    refine ⟨rfl,ji.out.but.trans' hb3,?_⟩;rw [HX.out];simp only [je,HBL.out];exact ⟨rfl,hs3⟩
   have HX:ah (S.step (L.drop i)=.jD i' (l' - 1)):=⟨by rw [hX];simp only [S.gX];rw [if_pos hb0]⟩;simp only [shC,hb0,if_true,om] at hcm;obtain ⟨N,hN⟩:∃ N,i+i'=N:=⟨_,rfl⟩;obtain ⟨M,hM⟩:∃ M,line - 1+l'=M:=⟨_,rfl⟩;rw [hN,hM] at hcm;have NQ:ah (i+i'=N/\line+(l' - 1)=M):=⟨hN,by omega⟩;have zT:=Lib.hid hcm;clear hX hcm hR hsh hN hM;go_upto_region 15 with (go_at_call 124;refine zT.out.mono ?_;rintro e w3 ⟨hb3,rfl,hs3⟩)
   have ny:=ah.mk (ji.out.call hb3 hs3);clear z0 z1 z2 z3 z4 z5 y0 y1 y2 y3 y4 y5 t0 t1 t2 t3 t4 t5 x0 x1 x5;obtain ⟨z0,z1,z2,z3,z4,z5,y0,y1,y2,y3,y4,y5⟩:=ny.out.zs;obtain ⟨t0,t1,t2,t3,t4,t5,x0,x1,x5⟩:=ny.out.ts;generalize w3=W3 at *;have HE:=ah.mk (ny.out.end_ 0 line i 0 ⟨#[]⟩ false);go_region
   go_wp2;generalize ((((((World.setCell W3 ⟨H,0,none⟩ (.int .i64 (0:Int))).setCell ⟨H,1,none⟩ (.string (⟨#[]⟩:ByteArray))).setCell ⟨H,2,none⟩ (.bool false)).setCell ⟨H,3,none⟩ (.int .i64 (line:Int))).setCell ⟨H,4,none⟩ (.int .i64 (i:Int))).setCell ⟨H,5,none⟩ (.int .i64 (0:Int)))=Z at *;refine bodyPost_ret (iR (fn:=Tryz.f91) rfl _ _ H 53 (uS 0 ⟨#[]⟩ false line i 0) (0,0) _ _ rfl rfl HE.out.1 Tryz.underlying53 rfl (by kernel_rfl)) rfl ?_;rw [HX.out];refine ⟨HE.out.2.2.drew,?_⟩;simp only [je,NQ.out.1,NQ.out.2];exact ⟨rfl,HE.out.2.1⟩
 | false =>
  have hb0:=NI.out;by_cases hq:c=39\/c=34
  ·have hql:(c==39)=true\/((c==39)=false/\(c==34)=true):=by
    by_cases h39:c=39
    ·exact .inl (by simpa using h39)
    ·exact .inr ⟨by simpa using h39,by simpa using hq.resolve_left h39⟩
   rcases hql with e39 | ⟨e39,e34⟩
   ·have hX:S.step (L.drop i)=S.gK 2 (S.dZ (L.drop i)):=by
     rw [PG.out] at hb0 |-
     simp only [S.step];rw [if_neg c10,if_neg c32,if_neg (by rw [hb0];exact Bool.false_ne_true),if_pos hq]
    have hcl:=oN.calls s src (.map (some mb)) i line W4 (by omega) (by omega) (by omega) ji.out.sc;rw [HL.out] at hcl;cases hT:S.dZ (L.drop i) with
    | err c' =>
     rw [hT] at hX hcl;have HX:ah (S.step (L.drop i)=.err c' 0):=⟨hX⟩;have zT:=Lib.hid hcl;clear hX hcl hT;go_wp2_with ((go_at_call 70;refine zT.out.mono ?_;rintro e w3 ⟨hb3,rfl,hs3⟩;unfold Fails))
     refine ⟨rfl,ji.out.but.trans' hb3,?_⟩;rw [HX.out];exact ⟨rfl,by obtain ⟨i',h'⟩:=hs3;exact ⟨i',line,h'⟩⟩
    | ok t n' =>
     rw [hT] at hX hcl;have HX:ah (S.step (L.drop i)=.tok 2 t n'):=⟨hX⟩;obtain ⟨N,hN⟩:∃ N,i+n'=N:=⟨_,rfl⟩;have NQ:=ah.mk hN;simp only [qG,hN] at hcl;have zT:=Lib.hid hcl;clear hX hcl hT hN;clear z0 z1 z2 z3 z4 z5 y0 y1 y2 y3 y4 y5 t0 t1 t2 t3 t4 t5 x0 x1 x5;go_upto_region 21 with ((go_at_call 70;refine zT.out.mono ?_;rintro e w3 ⟨hb3,rfl,hs3⟩;have uR:=ah.mk (ji.out.call hb3 hs3);have QF:=uR.out.sc.c1;obtain ⟨t0,t1,t2,t3,t4,t5,x0,x1,x5⟩:=uR.out.ts))
     have ny:ah (St s H src N line (.map (some mb)) (uS 2 (strOfNums t) false line i N) w (((w3.setCell ⟨H+1,0,none⟩ (.int .i64 2)).setCell ⟨H+1,1,none⟩ (.string (strOfNums t))).setCell ⟨H+1,5,none⟩ (.int .i64 N))) :=
      ⟨((uR.out.tk 0 (.int .i64 2) (row':=uS 2 ⟨#[]⟩ false line i 0) rfl).tk 1 (.string (strOfNums t)) (row':=uS 2 (strOfNums t) false line i 0) rfl).tk 5 (.int .i64 N) rfl⟩
     clear t0 t1 t2 t3 t4 t5 x0 x1 x5 QF;obtain ⟨z0,z1,z2,z3,z4,z5,y0,y1,y2,y3,y4,y5⟩:=ny.out.zs;obtain ⟨t0,t1,t2,t3,t4,t5,x0,x1,x5⟩:=ny.out.ts;generalize (((w3.setCell ⟨H+1,0,none⟩ (.int .i64 2)).setCell ⟨H+1,1,none⟩ (.string (strOfNums t))).setCell ⟨H+1,5,none⟩ (.int .i64 (N:Int)))=W3 at *;have HE:=ah.mk (ny.out.end_ 2 line i N (strOfNums t) false);go_region
     go_wp2;generalize ((((((World.setCell W3 ⟨H,0,none⟩ (.int .i64 (2:Int))).setCell ⟨H,1,none⟩ (.string (strOfNums t))).setCell ⟨H,2,none⟩ (.bool false)).setCell ⟨H,3,none⟩ (.int .i64 (line:Int))).setCell ⟨H,4,none⟩ (.int .i64 (i:Int))).setCell ⟨H,5,none⟩ (.int .i64 (N:Int)))=Z at *;refine bodyPost_ret (iR (fn:=Tryz.f91) rfl _ _ H 53 (uS 2 (strOfNums t) false line i N) (0,0) _ _ rfl rfl HE.out.1 Tryz.underlying53 rfl (by kernel_rfl)) rfl ?_;rw [HX.out];refine ⟨HE.out.2.2.drew,?_⟩;simp only [je,NQ.out];exact ⟨rfl,HE.out.2.1⟩
   ·have hX:S.step (L.drop i)=S.gK 2 (S.dZ (L.drop i)):=by
     rw [PG.out] at hb0 |-
     simp only [S.step];rw [if_neg c10,if_neg c32,if_neg (by rw [hb0];exact Bool.false_ne_true),if_pos hq]
    have hcl:=oN.calls s src (.map (some mb)) i line W4 (by omega) (by omega) (by omega) ji.out.sc;rw [HL.out] at hcl;cases hT:S.dZ (L.drop i) with
    | err c' =>
     rw [hT] at hX hcl;have HX:ah (S.step (L.drop i)=.err c' 0):=⟨hX⟩;have zT:=Lib.hid hcl;clear hX hcl hT;go_wp2_with ((go_at_call 70;refine zT.out.mono ?_;rintro e w3 ⟨hb3,rfl,hs3⟩;unfold Fails))
     refine ⟨rfl,ji.out.but.trans' hb3,?_⟩;rw [HX.out];exact ⟨rfl,by obtain ⟨i',h'⟩:=hs3;exact ⟨i',line,h'⟩⟩
    | ok t n' =>
     rw [hT] at hX hcl;have HX:ah (S.step (L.drop i)=.tok 2 t n'):=⟨hX⟩;obtain ⟨N,hN⟩:∃ N,i+n'=N:=⟨_,rfl⟩;have NQ:=ah.mk hN;simp only [qG,hN] at hcl;have zT:=Lib.hid hcl;clear hX hcl hT hN;clear z0 z1 z2 z3 z4 z5 y0 y1 y2 y3 y4 y5 t0 t1 t2 t3 t4 t5 x0 x1 x5;go_upto_region 21 with ((go_at_call 70;refine zT.out.mono ?_;rintro e w3 ⟨hb3,rfl,hs3⟩;have uR:=ah.mk (ji.out.call hb3 hs3);have QF:=uR.out.sc.c1;obtain ⟨t0,t1,t2,t3,t4,t5,x0,x1,x5⟩:=uR.out.ts))
     have ny:ah (St s H src N line (.map (some mb)) (uS 2 (strOfNums t) false line i N) w (((w3.setCell ⟨H+1,0,none⟩ (.int .i64 2)).setCell ⟨H+1,1,none⟩ (.string (strOfNums t))).setCell ⟨H+1,5,none⟩ (.int .i64 N))) :=
      ⟨((uR.out.tk 0 (.int .i64 2) (row':=uS 2 ⟨#[]⟩ false line i 0) rfl).tk 1 (.string (strOfNums t)) (row':=uS 2 (strOfNums t) false line i 0) rfl).tk 5 (.int .i64 N) rfl⟩
     clear t0 t1 t2 t3 t4 t5 x0 x1 x5 QF;obtain ⟨z0,z1,z2,z3,z4,z5,y0,y1,y2,y3,y4,y5⟩:=ny.out.zs;obtain ⟨t0,t1,t2,t3,t4,t5,x0,x1,x5⟩:=ny.out.ts;generalize (((w3.setCell ⟨H+1,0,none⟩ (.int .i64 2)).setCell ⟨H+1,1,none⟩ (.string (strOfNums t))).setCell ⟨H+1,5,none⟩ (.int .i64 (N:Int)))=W3 at *;have HE:=ah.mk (ny.out.end_ 2 line i N (strOfNums t) false);go_region
     go_wp2;generalize ((((((World.setCell W3 ⟨H,0,none⟩ (.int .i64 (2:Int))).setCell ⟨H,1,none⟩ (.string (strOfNums t))).setCell ⟨H,2,none⟩ (.bool false)).setCell ⟨H,3,none⟩ (.int .i64 (line:Int))).setCell ⟨H,4,none⟩ (.int .i64 (i:Int))).setCell ⟨H,5,none⟩ (.int .i64 (N:Int)))=Z at *;refine bodyPost_ret (iR (fn:=Tryz.f91) rfl _ _ H 53 (uS 2 (strOfNums t) false line i N) (0,0) _ _ rfl rfl HE.out.1 Tryz.underlying53 rfl (by kernel_rfl)) rfl ?_;rw [HX.out];refine ⟨HE.out.2.2.drew,?_⟩;simp only [je,NQ.out];exact ⟨rfl,HE.out.2.1⟩
  have e39:(c==39)=false:=by simpa using fun h=>hq (.inl h)
  have e34:(c==34)=false:=by simpa using fun h=>hq (.inr h)
  have hsy:=fun W=>iw.calls c (S.sym c) W (NA c hcr.1 hcr.2)
  by_cases hsc:S.sym c=true
  ·have IX:=Lib.hid hsy
   rw [hsc] at IX;clear hsy;have Ta:=ji;clear ji;go_upto_region 19 with (go_at_call 55;refine (IX.out _).mono ?_;rintro e w' ⟨rfl,⟨⟨q2,rfl⟩⟩⟩)
   have ji:=ah.mk (Ta.out.drewN q2);clear Ta c0 c1 c2 z0 z1 z2 z3 z4 z5 y0 y1 y2 y3 y4 y5 t0 t1 t2 t3 t4 t5 x0 x1 x5;generalize W4.drewN q2=W5 at *;have c0:=ji.out.sc.c0;have c1:=ji.out.sc.c1;have c2:=ji.out.sc.c2;obtain ⟨z0,z1,z2,z3,z4,z5,y0,y1,y2,y3,y4,y5⟩:=ji.out.zs;obtain ⟨t0,t1,t2,t3,t4,t5,x0,x1,x5⟩:=ji.out.ts;have hX:S.step (L.drop i)=S.gK 1 (S.iH (L.drop i)):=by
    rw [PG.out] at hb0 |-
    simp only [S.step];rw [if_neg c10,if_neg c32,if_neg (by rw [hb0];exact Bool.false_ne_true),if_neg hq,if_pos hsc]
   have hcl:=zq.calls s src (.map (some mb)) i line W5 (by omega) (by omega) (by omega) ji.out.sc;rw [HL.out] at hcl;cases hT:S.iH (L.drop i) with
   | err c' =>
    rw [hT] at hX hcl;have HX:ah (S.step (L.drop i)=.err c' 0):=⟨hX⟩;have zT:=Lib.hid hcl;clear hX hcl hT;go_wp2_with (go_at_call 56;refine zT.out.mono ?_;rintro e w3 ⟨hb3,rfl,hs3⟩;unfold Fails)
    refine ⟨rfl,ji.out.but.trans' hb3,?_⟩;rw [HX.out];exact ⟨rfl,by obtain ⟨i',h'⟩:=hs3;exact ⟨i',line,h'⟩⟩
   | ok t n' =>
    rw [hT] at hX hcl;have HX:ah (S.step (L.drop i)=.tok 1 t n'):=⟨hX⟩;obtain ⟨N,hN⟩:∃ N,i+n'=N:=⟨_,rfl⟩;have NQ:=ah.mk hN;simp only [qG,hN] at hcl;have zT:=Lib.hid hcl;clear hX hcl hT hN;clear z0 z1 z2 z3 z4 z5 y0 y1 y2 y3 y4 y5 t0 t1 t2 t3 t4 t5 x0 x1 x5;go_upto_region 21 with (go_at_call 56;refine zT.out.mono ?_;rintro e w3 ⟨hb3,rfl,hs3⟩;have uR:=ah.mk (ji.out.call hb3 hs3);have QF:=uR.out.sc.c1;obtain ⟨t0,t1,t2,t3,t4,t5,x0,x1,x5⟩:=uR.out.ts)
    have ny:ah (St s H src N line (.map (some mb)) (uS 1 (strOfNums t) false line i N) w (((w3.setCell ⟨H+1,0,none⟩ (.int .i64 1)).setCell ⟨H+1,1,none⟩ (.string (strOfNums t))).setCell ⟨H+1,5,none⟩ (.int .i64 N))) :=
     ⟨((uR.out.tk 0 (.int .i64 1) (row':=uS 1 ⟨#[]⟩ false line i 0) rfl).tk 1 (.string (strOfNums t)) (row':=uS 1 (strOfNums t) false line i 0) rfl).tk 5 (.int .i64 N) rfl⟩
    clear t0 t1 t2 t3 t4 t5 x0 x1 x5 QF;obtain ⟨z0,z1,z2,z3,z4,z5,y0,y1,y2,y3,y4,y5⟩:=ny.out.zs;obtain ⟨t0,t1,t2,t3,t4,t5,x0,x1,x5⟩:=ny.out.ts;generalize (((w3.setCell ⟨H+1,0,none⟩ (.int .i64 1)).setCell ⟨H+1,1,none⟩ (.string (strOfNums t))).setCell ⟨H+1,5,none⟩ (.int .i64 (N:Int)))=W3 at *;have HE:=ah.mk (ny.out.end_ 1 line i N (strOfNums t) false);go_region
    go_wp2;generalize ((((((World.setCell W3 ⟨H,0,none⟩ (.int .i64 (1:Int))).setCell ⟨H,1,none⟩ (.string (strOfNums t))).setCell ⟨H,2,none⟩ (.bool false)).setCell ⟨H,3,none⟩ (.int .i64 (line:Int))).setCell ⟨H,4,none⟩ (.int .i64 (i:Int))).setCell ⟨H,5,none⟩ (.int .i64 (N:Int)))=Z at *;refine bodyPost_ret (iR (fn:=Tryz.f91) rfl _ _ H 53 (uS 1 (strOfNums t) false line i N) (0,0) _ _ rfl rfl HE.out.1 Tryz.underlying53 rfl (by kernel_rfl)) rfl ?_;rw [HX.out];refine ⟨HE.out.2.2.drew,?_⟩;simp only [je,NQ.out];exact ⟨rfl,HE.out.2.1⟩
  have hsf:S.sym c=false:=by simpa using hsc
  have IX:=Lib.hid hsy;rw [hsf] at IX;clear hsy;have Ta:=ji;clear ji;go_upto_region 5 with (go_at_call 55;refine (IX.out _).mono ?_;rintro e w' ⟨rfl,⟨⟨q2,rfl⟩⟩⟩)
  have ji:=ah.mk (Ta.out.drewN q2);clear Ta c0 c1 c2 z0 z1 z2 z3 z4 z5 y0 y1 y2 y3 y4 y5 t0 t1 t2 t3 t4 t5 x0 x1 x5;generalize W4.drewN q2=W5 at *;have c0:=ji.out.sc.c0;have c1:=ji.out.sc.c1;have c2:=ji.out.sc.c2;obtain ⟨z0,z1,z2,z3,z4,z5,y0,y1,y2,y3,y4,y5⟩:=ji.out.zs;obtain ⟨t0,t1,t2,t3,t4,t5,x0,x1,x5⟩:=ji.out.ts;have hX:S.step (L.drop i)=S.gK 3 (S.gJ (L.drop i)):=by
   rw [PG.out] at hb0 |-
   simp only [S.step];rw [if_neg c10,if_neg c32,if_neg (by rw [hb0];exact Bool.false_ne_true),if_neg hq,if_neg hsc]
  have hcl:=PW.calls s src i line mb base hd D W5 (by omega) (by omega) (by omega) ⟨ji.out.sc,HM.out.sg.but HM.out.nm HM.out.nr ji.out.but,HM.out.nm,HM.out.nr⟩;rw [HL.out] at hcl;cases hT:S.gJ (L.drop i) with
  | err c' =>
   rw [hT] at hX hcl;have HX:ah (S.step (L.drop i)=.err c' 0):=⟨hX⟩;have zT:=Lib.hid hcl;clear hX hcl hT;go_wp2_with (go_at_call 125;refine zT.out.mono ?_;rintro e w3 ⟨hb3,rfl,hs3⟩;unfold Fails)
   refine ⟨rfl,ji.out.but.trans' hb3,?_⟩;rw [HX.out];exact ⟨rfl,by obtain ⟨i',h'⟩:=hs3;exact ⟨i',line,h'⟩⟩
  | ok t n' =>
   rw [hT] at hX hcl;have HX:ah (S.step (L.drop i)=.tok 3 t n'):=⟨hX⟩;obtain ⟨N,hN⟩:∃ N,i+n'=N:=⟨_,rfl⟩;have NQ:=ah.mk hN;simp only [qG,hN] at hcl;have zT:=Lib.hid hcl;clear hX hcl hT hN;clear z0 z1 z2 z3 z4 z5 y0 y1 y2 y3 y4 y5 t0 t1 t2 t3 t4 t5 x0 x1 x5;go_upto_region 21 with (go_at_call 125;refine zT.out.mono ?_;rintro e w3 ⟨hb3,rfl,hs3⟩;have uR:=ah.mk (ji.out.call hb3 hs3);have QF:=uR.out.sc.c1;obtain ⟨t0,t1,t2,t3,t4,t5,x0,x1,x5⟩:=uR.out.ts)
   have ny:ah (St s H src N line (.map (some mb)) (uS 3 (strOfNums t) false line i N) w (((w3.setCell ⟨H+1,0,none⟩ (.int .i64 3)).setCell ⟨H+1,1,none⟩ (.string (strOfNums t))).setCell ⟨H+1,5,none⟩ (.int .i64 N))) :=
    ⟨((uR.out.tk 0 (.int .i64 3) (row':=uS 3 ⟨#[]⟩ false line i 0) rfl).tk 1 (.string (strOfNums t)) (row':=uS 3 (strOfNums t) false line i 0) rfl).tk 5 (.int .i64 N) rfl⟩
   clear t0 t1 t2 t3 t4 t5 x0 x1 x5 QF;obtain ⟨z0,z1,z2,z3,z4,z5,y0,y1,y2,y3,y4,y5⟩:=ny.out.zs;obtain ⟨t0,t1,t2,t3,t4,t5,x0,x1,x5⟩:=ny.out.ts;generalize (((w3.setCell ⟨H+1,0,none⟩ (.int .i64 3)).setCell ⟨H+1,1,none⟩ (.string (strOfNums t))).setCell ⟨H+1,5,none⟩ (.int .i64 (N:Int)))=W3 at *;have HE:=ah.mk (ny.out.end_ 3 line i N (strOfNums t) false);go_region
   go_wp2;generalize ((((((World.setCell W3 ⟨H,0,none⟩ (.int .i64 (3:Int))).setCell ⟨H,1,none⟩ (.string (strOfNums t))).setCell ⟨H,2,none⟩ (.bool false)).setCell ⟨H,3,none⟩ (.int .i64 (line:Int))).setCell ⟨H,4,none⟩ (.int .i64 (i:Int))).setCell ⟨H,5,none⟩ (.int .i64 (N:Int)))=Z at *;refine bodyPost_ret (iR (fn:=Tryz.f91) rfl _ _ H 53 (uS 3 (strOfNums t) false line i N) (0,0) _ _ rfl rfl HE.out.1 Tryz.underlying53 rfl (by kernel_rfl)) rfl ?_;rw [HX.out];refine ⟨HE.out.2.2.drew,?_⟩;simp only [je,NQ.out];exact ⟨rfl,HE.out.2.1⟩
end Go.Proofs.YtkkpjonfaflkmaaGreatDoor.T
namespace Go.Proofs.YtkkpjonfaflkmaaGreatDoor.T
open Go.RowKit
variable {P:Program} {ops:Array Oper} {md:Region.Mode} {w:World} {k:Nat}
theorem vO {o:Oper} {a:Act} {K:Act->Prop} {K':Act->World->Prop} {Q':Exit->Act->World->Prop} (h:∀ a,K a->K' a w) (hh:o.still P a w K):o.wpIn Fence.wide k P a w K' Q':=by
 unfold Oper.still at hh;unfold Oper.wpIn;refine ⟨fun f _=>trivial,?_⟩;rw [show Fence.wide.round=none from rfl,Oper.semAt_none];generalize (execOp a.eval o).run P w=r at *;cases r with
 | ok n w' =>
  cases n<;>simp only [Oper.stillUpon] at hh<;>simp only [Oper.uponIn]
  case enter f args =>
   obtain ⟨rfl,v,hc,hn⟩:=hh;exact ⟨fun e=>(by cases e),(callsIn_wide.2 hc).mono (fun e w'' ⟨he,hw⟩=>by subst he;subst hw;exact h _ hn)⟩
  all_goals (obtain ⟨rfl,h2⟩:=hh;exact h _ h2)
 | halt x w'=>simp only [Oper.stillUpon] at hh
theorem uJ {i:Nat} {a:Act} {K:Act->Prop} {K':Act->World->Prop} {Q':Exit->Act->World->Prop} (h:∀ a,K a->K' a w) (hh:stOp P ops w i K a):wpOpIn Fence.wide k P ops Q' i K' a w:=by
 unfold stOp at hh;unfold wpOpIn;split
 ·rename_i ho;simp only [ho] at hh;exact h _ hh
 ·rename_i o ho
  simp only [ho] at hh;split
  ·rename_i hw;simp only [hw,if_true] at hh;exact vO h hh
  ·rename_i hw;simp only [hw] at hh;exact ⟨fun f _=>trivial,h _ hh⟩
theorem nK {n g:Nat} {L:Array Bool->Act->Prop} {Q':Exit->Act->World->Prop} (hL:∀ listed a,L listed a->wpAnyIn Fence.wide k P md ops Q' g listed a w) :
  ∀ (f:Nat) (listed:Array Bool) (a:Act),wpAnyL P md ops w n L f listed a->wpAnyIn Fence.wide k P md ops Q' (f+g) listed a w
 | 0,listed,a,h=>by rw [Nat.zero_add];exact hL _ _ h
 | f+1,listed,a,h=>by
  rw [show f+1+g=(f+g)+1 by omega];exact ⟨fun h0=>absurd h0 h.1,fun i hi=>uJ (fun a' h'=>nK hL f _ a' h') (h.2 i hi).2⟩
theorem nW {Q':Exit->Act->World->Prop}:∀ (l:List Oper) (m:Nat) (listed:Array Bool) (a:Act) (w:World),(∀ j,l[j]?=ops[m+j]?) ->
  Region.seqB md ops l.length m listed=true->wpListIn Fence.wide k P ops Q' l a w->wpAnyIn Fence.wide k P md ops Q' l.length listed a w
 | [],_,_,_,_,_,hB,h=>⟨by simpa [Region.seqB] using hB,h⟩
 | o::l,m,listed,a,w,hl,hB,h=>by
  have h0:ops[m]?=some o:=by simpa using (hl 0).symm
  simp only [List.length_cons,Region.seqB,Bool.and_eq_true,decide_eq_true_eq] at hB;refine ⟨fun h1=>(by rw [hB.1] at h1;cases h1),fun i hi=>?_⟩;rw [hB.1] at hi;have hik:i=m:=by simpa using hi
  subst hik;have hw:wpOpIn Fence.wide k P ops Q' i (wpListIn Fence.wide k P ops Q' l) a w:=by unfold wpOpIn;simp only [h0];exact h
  exact wpOpIn_mono (fun a' w' h'=>nW l (i+1) _ a' w' (fun j=>by have:=hl (j+1);simpa [Nat.add_assoc,Nat.add_comm 1 j] using this) hB.2 h') hw
theorem fE {id:Nat} {Q:Exit->Act->World->Prop} {a:Act} {w:World} {l:List Oper} (n:Nat) (hm:P.follows .mixedOrders=true) (hB:Region.lexTailB .any l.toArray n=true)
  (h:wpStill P l.toArray w.drew (fun a'=>wpListIn Fence.wide k P l.toArray Q (l.drop n) a' w.drew) (l.take n) a):(Code.region id l.toArray true).wpIn Fence.wide k P Q a w:=by
 simp only [Region.lexTailB,Bool.and_eq_true,decide_eq_true_eq] at hB;obtain ⟨⟨⟨⟨hsel,hn⟩,hs⟩,hc⟩,hlex⟩:=hB;have hn':n < l.length:=by simpa using hn
 have htl:(l.take n).length=n:=by simp;omega
 have hdl:(l.drop n).length=l.toArray.size - n:=by simp
 have inv0:HeadInv .any l.toArray n (Array.replicate l.toArray.size false) :=
  ⟨by simp,fun j oj _ hl=>(by rw [getD_replicate_false] at hl;cases hl),fun t _ ht=>getD_in (by simpa using ht) (getD_replicate_false _ _)⟩
 have H:=wpAnyL_lex (md:=.any) (g:=l.toArray.size - n) hsel hs hc hn (l.take n) 0 _ a (fun j hj=>by
  have hj':j < n:=by rw [htl] at hj;exact hj
  simp [hj']) (by simpa using htl) inv0 (by rw [htl];exact hlex) h
 refine wpIn_region_any hm ?_;have:=nK (Q':=Q) (k:=k) (g:=l.toArray.size - n) (fun listed a' hL=>by
  have:=nW (md:=.any) (Q':=Q) (k:=k) (l.drop n) n listed a' w.drew (fun j=>by simp [List.getElem?_drop]) (by rw [hdl];exact hL.1) hL.2;rwa [hdl] at this) _ _ _ H
 rw [htl,show n+(l.toArray.size - n)=l.toArray.size by omega] at this;exact this
end Go.Proofs.YtkkpjonfaflkmaaGreatDoor.T
namespace Go.Proofs.YtkkpjonfaflkmaaGreatDoor.T
open Go.RowKit Go.Proofs.aj.aI Go.Proofs.aj.aY Go.Proofs.aj.bq
attribute [local go_sem] Oper.semAt_some
def Db (t:S.Tk):List Value:=[.int .i64 t.kind,.string (strOfNums t.text),.bool t.gap,.int .i64 t.line,.int .i64 t.at_,.int .i64 t.to]
def dG (l:List S.Tk):List Value:=(l.map Db).flatten
theorem nL:∀ l:List S.Tk,(dG l).length=l.length*6
 | []=>rfl
 | t::l=>by
  have:=nL l;simp only [dG,List.map_cons,List.flatten_cons,List.length_append,List.length_cons] at this |-
  rw [this];show 6+_=_
  omega
theorem sQ (a b:List S.Tk):dG (a++b)=dG a++dG b:=by simp [dG]
theorem DL (l:List S.Tk) (n:Nat):(dG l).take (n*6)=dG (l.take n):=by
 induction l generalizing n with
 | nil=>simp [dG]
 | cons t l ih =>
  cases n with
  | zero=>simp [dG]
  | succ n =>
   have:=ih n;simp only [dG,List.take_succ_cons,List.map_cons,List.flatten_cons] at this |-
   rw [<- this,List.take_append];rw [List.take_of_length_le (by show 6<=_;omega)];congr 2
   show (n+1)*6 - 6=n*6
   omega
theorem uE (t:S.Tk):∀ u∈Db t,u.oneCell'=true:=by
 intro u hu
 simp [Db] at hu
 rcases hu with rfl | rfl | rfl | rfl | rfl | rfl<;>rfl
structure Client (l n:Nat) (J:List (List S.Tk)->(Nat->Prop)->World->Prop):Prop where
 stable:∀ {pre F W W'},J pre F W->But (fun k=>¬ F k) W W'->J pre F W'
 lt:∀ {pre F W},J pre F W->∀ k,F k->k < W.heap.size
 yield:∀ {pre F W base v cl},J pre F W->W.ownsRow base 53 6 v cl.length (dG cl)->cl≠[]->(∀ k,F k->v.ownBlock≠some k)->pre.flatten.length+cl.length<=300000 ->
  YieldAt Fence.wide n Tryz.prog l #[v] W fun e W'=>e=.returned (.bool true)/\∃ F',J (pre++[cl]) F' W'/\But F W W'/\∀ k,F' k->F k\/W.heap.size<=k\/v.ownBlock=some k
structure QH (CB GB YB l base:Nat) (v:Value) (cur:List S.Tk) (gap:Bool) (W:World):Prop where
 cb:W.heap[CB]?=some (.cells #[v] 24 (0,0))
 gb:W.heap[GB]?=some (.cells #[.bool gap] 4 (0,0))
 yb:W.heap[YB]?=some (.cells #[.func (.yield l) #[] #[]] 55 (0,0))
 own:W.ownsRow base 53 6 v cur.length (dG cur)
 l1:CB < base
 l2:GB < base
 l3:YB < base
 n1:CB≠GB
 n2:CB≠YB
 n3:GB≠YB
 lw:base<=W.heap.size
theorem bV {W W':World} {base n:Nat} {v:Value} {xs:List Value} {A:Nat->Prop} (h:W.ownsRow base 53 6 v n xs) (hb:But A W W') (hA:∀ k,A k->v.ownBlock≠some k):W'.ownsRow base 53 6 v n xs:=by
 obtain ⟨h1,h2⟩:=h;refine ⟨h1,h2.imp id ?_⟩;rintro ⟨g,cap,cur,hv,hbg,hg,rest⟩
 have hlt:g < W.heap.size:=(Array.getElem?_eq_some_iff.1 hg).1;exact ⟨g,cap,cur,hv,hbg,(hb.block g hlt (fun e=>hA g e (by rw [hv];rfl))).trans hg,rest⟩
theorem QH.but {CB GB YB l base:Nat} {v:Value} {cur:List S.Tk} {gap:Bool} {W W':World} {A:Nat->Prop} (h:QH CB GB YB l base v cur gap W) (hb:But A W W') (hA:∀ k,A k->k≠CB/\k≠GB/\k≠YB/\v.ownBlock≠some k):QH CB GB YB l base v cur gap W':=by
 have hl:=h.lw;have ha:=h.l1;have hbb:=h.l2;have hc:=h.l3;refine ⟨(hb.block CB (by omega) (fun e=>(hA _ e).1 rfl)).trans h.cb,(hb.block GB (by omega) (fun e=>(hA _ e).2.1 rfl)).trans h.gb,(hb.block YB (by omega) (fun e=>(hA _ e).2.2.1 rfl)).trans h.yb,bV h.own hb (fun k e=>(hA k e).2.2.2),ha,hbb,hc,h.n1,h.n2,h.n3,Nat.le_trans hl hb.size⟩
theorem qc {n:Nat} {P:Program} {ops:Array Oper} {o:Oper} {a:Act} {w w':World} {K:Act->World->Prop} {Q:Exit->Act->World->Prop} {E:Prop} (hgd:o.guard=none) (s x:Operand) (t:TypeId)
  (ho:o.op=.call { callee:=.builtin .append,args:=#[s,x],argTypes:=#[t,t] }) (v u v':Value) (hs:a.eval s=v) (hx:a.eval x=u)
  (hr:(Builtin.append_ #[t,t] o.type #[v,u]).run P w=.ok v' w') (hK:K (a.put o.dst v') w'):if Region.wanted o (yielded ops a.tmps)=true then Oper.wpIn Fence.wide n P o a w K Q else E:=by
 have hw:Region.wanted o (yielded ops a.tmps)=true:=by simp [Region.wanted,hgd]
 rw [if_pos hw];unfold Oper.wpIn;refine ⟨fun f _=>trivial,?_⟩;rw [show Fence.wide.round=none from rfl,Oper.semAt_none];unfold execOp;simp only [ho,resolve,invoke,builtin,Sem.run_bind,Sem.run_pure,Result.andThen_ok,List.map_toArray,List.map_cons,List.map_nil,hs,hx,hr];exact hK
set_option maxRecDepth 100000 in
set_option maxHeartbeats 4000000 in
theorem abv (n:Nat) (hn:1<=n) {l CB GB YB base:Nat} {J:List (List S.Tk)->(Nat->Prop)->World->Prop} (C:Client l (n - 1) J) (i ti line:Nat) {v:Value} {cur:List S.Tk} {gap:Bool} {pre:List (List S.Tk)} {F:Nat->Prop} (W:World)
  (hC:QH CB GB YB l base v cur gap W) (hJ:J pre F W) (hF:∀ k,F k->k≠CB/\k≠GB/\k≠YB/\v.ownBlock≠some k) (hlen:pre.flatten.length+cur.length+1<=300000) :
  CallsIn Fence.wide n Tryz.prog 90 #[.int .i64 i,.int .i64 ti,.int .i64 line,.pointer (some ⟨CB,0,none⟩),.pointer (some ⟨GB,0,none⟩),.pointer (some ⟨YB,0,none⟩)] W fun e W' =>
   e=.returned (.bool true)/\∃ F',J (pre++S.emit cur i ti line) F' W'/\QH CB GB YB l base (.slice none 0 0) [] false W'/\But (fun k=>F k\/k=CB\/k=GB\/v.ownBlock=some k) W W'/\∀ k,F' k->F k\/W.heap.size<=k\/v.ownBlock=some k:=by
 have HC:=ah.mk hC;have HJ:=ah.mk hJ;have HF:=ah.mk hF;obtain ⟨A,cn,cap,hv,hcn⟩:∃ A cn cap,v=.slice A cn cap/\cur.length=cn:=by
  rcases hC.own.2 with ⟨rfl,e2⟩ | ⟨g,cap,cs,rfl,_⟩
  ·exact ⟨_,_,_,rfl,e2⟩
  ·exact ⟨_,_,_,rfl,rfl⟩
 subst hv;have c1:W.cell? ⟨CB,0,none⟩=some (.slice A cn cap):=(au hC.cb 0).trans rfl;have c2:W.cell? ⟨GB,0,none⟩=some (.bool gap):=(au hC.gb 0).trans rfl;have c3:W.cell? ⟨YB,0,none⟩=some (.func (.yield l) #[] #[]):=(au hC.yb 0).trans rfl;have f1:=aA hC.cb 0;have f2:=aA hC.gb 0;have n1:=hC.n1;have n2:=hC.n2;have n3:=hC.n3;have zA:=ah.mk hcn;clear hC hJ hF hcn;refine callsIn_of_wp Tryz.func90 rfl trivial ?_ rfl;simp only [Tryz.ntmps90,List.size_toArray,List.length_cons,List.length_nil,Nat.reduceAdd,Nat.reduceSub,Array.replicate_succ,Array.replicate_zero,List.push_toArray,List.append_toArray,List.nil_append,List.cons_append];have hb2:But (fun k=>k=CB\/k=GB) W ((W.setCell ⟨CB,0,none⟩ (.slice none 0 0)).setCell ⟨GB,0,none⟩ (.bool false)) :=
  ((But.refl _ W).set ⟨CB,0,none⟩ _ (.inl rfl)).set ⟨GB,0,none⟩ _ (.inr rfl)
 have hj2:J pre F ((W.setCell ⟨CB,0,none⟩ (.slice none 0 0)).setCell ⟨GB,0,none⟩ (.bool false)) :=
  C.stable HJ.out (hb2.mono (fun k _ hk hf=>by rcases hk with rfl | rfl;exact (HF.out _ hf).1 rfl;exact (HF.out _ hf).2.1 rfl))
 have aac:QH CB GB YB l base (.slice none 0 0) [] false ((W.setCell ⟨CB,0,none⟩ (.slice none 0 0)).setCell ⟨GB,0,none⟩ (.bool false)):=by
  refine ⟨(Below.heap_setCell _ ⟨GB,0,none⟩ _ CB n1).trans (aW (cs:=#[_]) HC.out.cb 0 _ rfl),aW (cs:=#[_]) ((Below.heap_setCell _ ⟨CB,0,none⟩ _ GB (fun e=>n1 e.symm)).trans HC.out.gb) 0 _ rfl,
   (Below.heap_setCell _ ⟨GB,0,none⟩ _ YB (fun e=>n3 e.symm)).trans ((Below.heap_setCell _ ⟨CB,0,none⟩ _ YB (fun e=>n2 e.symm)).trans HC.out.yb),World.ownsRow_nil _ _ _ _,HC.out.l1,HC.out.l2,HC.out.l3,n1,n2,n3,Nat.le_trans HC.out.lw hb2.size⟩
 have hown2:((W.setCell ⟨CB,0,none⟩ (.slice none 0 0)).setCell ⟨GB,0,none⟩ (.bool false)).ownsRow base 53 6 (.slice A cn cap) cur.length (dG cur):=by
  refine bV HC.out.own hb2 (fun k hk e=>?_);have:=(HC.out.own.lt k e).1;have:=HC.out.l1;have:=HC.out.l2;rcases hk with rfl | rfl<;>omega
 have HB2:=ah.mk hb2;have HJ2:=ah.mk hj2;have zU:=ah.mk aac;have adZ:=ah.mk hown2;clear hb2 hj2 aac hown2;by_cases h0:cn=0
 ·subst h0
  gi_wp2
  go_ret;have hnil:cur=[]:=List.length_eq_zero_iff.1 zA.out;refine ⟨rfl,F,?_,zU.out,HB2.out.mono (fun k _ hk=>by rcases hk with rfl | rfl;exact .inr (.inl rfl);exact .inr (.inr (.inl rfl))),fun k hk=>.inl hk⟩;rw [hnil];simpa [S.emit] using HJ2.out
 have g0:((cn:Int)==0)=false:=beq_eq_false_iff_ne.2 (by omega);gi_upto_region 5 with (fail)
 obtain ⟨g,rfl,hg0⟩:∃ g,A=some ⟨g,0,none⟩/\base<=g:=by
  rcases adZ.out.2 with ⟨e,e2⟩ | ⟨g,cap',cs,e,hb,_⟩
  ·rw [zA.out] at e2;omega
  ·simp only [Value.slice.injEq] at e
   exact ⟨g,e.1,hb⟩
 have c4:((W.setCell ⟨CB,0,none⟩ (.slice none 0 0)).setCell ⟨GB,0,none⟩ (.bool false)).cell? ⟨YB,0,none⟩=some (.func (.yield l) #[] #[]):=(au zU.out.yb 0).trans rfl;generalize (W.setCell ⟨CB,0,none⟩ (.slice none 0 0)).setCell ⟨GB,0,none⟩ (.bool false)=W2 at *;clear c1 c2 c3 f1 f2;obtain ⟨H,hH⟩:∃ H,W2.heap.size=H:=⟨_,rfl⟩;obtain ⟨X,hX⟩:∃ X,W2.drew.alloc (.cells #[.int .i64 4,.string ⟨#[]⟩,.bool false,.int .i64 line,.int .i64 i,.int .i64 ti] 53)=X:=⟨_,rfl⟩;obtain ⟨i0,hi,hz0,hz1,hz2⟩:=info_parts (show (Tryz.prog.info? 53).map (fun i=>(i.zero,i.size,i.bytes))=some (some (.agg DK),6,56) by kernel_rfl);have QI:But (fun _=>False) W2 X:=by rw [<- hX];exact ((But.refl _ W2).drew).alloc _
 have WS:X.heap.size=H+1:=by rw [<- hX,<- hH];exact World.size_alloc _ _
 have hXn:X.heap[H]?=some (.cells #[.int .i64 4,.string ⟨#[]⟩,.bool false,.int .i64 line,.int .i64 i,.int .i64 ti] 53 (0,0)):=by
  rw [<- hX,<- hH];exact heap_alloc_new W2.drew _
 have hXo:X.ownsRow base 53 6 (.slice (some ⟨g,0,none⟩) cn cap) cn (dG cur):=by
  have:=bV adZ.out QI (fun k e=>e.elim);rwa [zA.out] at this
 have VE:=zU.out.lw;obtain ⟨g',cap',w1,hrun,hown1,hgrow,hat,hlt⟩:=run_append_lies (P:=Tryz.prog) X 24 24 base 53 i0 (.agg DK) 6 56 Tryz.underlying24 hi hz0 hz1 hz2 rfl (by decide) _ cn _ hXo
  ⟨H,0,none⟩ 1 1 (Db (S.oK i ti line)) rfl (fun j u hu=>by
   rw [add_plain,au hXn j];have e:(#[.int .i64 4,.string ⟨#[]⟩,.bool false,.int .i64 line,.int .i64 i,.int .i64 ti]:Array Value)=(Db (S.oK i ti line)).toArray:=rfl;rw [e];simpa using hu) (uE _) (by decide) (by unfold maxLen;have:=zA.out;omega) (by have:=zA.out;omega) (by omega) (H+1) WS
 have hbX:But (fun k=>k=g) X w1:=⟨hgrow.os,hgrow.tape,hgrow.output,hgrow.size,fun k hk hn=>hgrow.block k hk (by intro e;simp [Value.ownBlock] at e;exact hn e)⟩;have PY:But (fun k=>k=g) W2 w1:=QI.trans hbX (fun k _ e=>e.elim) (fun k _ e=>e);have hj1:J pre F w1:=C.stable HJ2.out (PY.mono (fun k _ e hf=>(HF.out k hf).2.2.2 (by rw [e];rfl)));have hcl:(cur++[S.oK i ti line]).length=cn+1:=by rw [List.length_append,zA.out];rfl
 have hown2:w1.ownsRow base 53 6 (.slice (some ⟨g',0,none⟩) (cn+1) cap') (cur++[S.oK i ti line]).length (dG (cur++[S.oK i ti line])):=by
  rw [hcl,sQ];have:dG [S.oK i ti line]=Db (S.oK i ti line):=by simp [dG]
  rw [this];exact hown1
 have hg':∀ k,F k->(Value.slice (some ⟨g',0,none⟩) (cn+1) cap').ownBlock≠some k:=fun k hk e=>by
  have e':g'=k:=by simpa [Value.ownBlock] using e
  rcases hat with h | h
  ·exact (HF.out k hk).2.2.2 (by rw [h,e'])
  ·have:=C.lt HJ2.out k hk
   omega
 have hY:=C.yield hj1 hown2 (by simp) hg' (by rw [hcl];have:=zA.out;omega);obtain ⟨fn,tmps,assign,body,hy,hR⟩:=hY;have HR:=Lib.hid hR;have bI:ah (∀ F' W3,J (pre++[cur++[S.oK i ti line]]) F' W3->But F w1 W3->(∀ k,F' k->F k\/w1.heap.size<=k\/(Value.slice (some ⟨g',0,none⟩) (cn+1) cap').ownBlock=some k) ->
   ∃ F',J (pre++S.emit cur i ti line) F' W3/\QH CB GB YB l base (.slice none 0 0) [] false W3/\But (fun k=>F k\/k=CB\/k=GB\/(Value.slice (some ⟨g,0,none⟩) cn cap).ownBlock=some k) W W3/\∀ k,F' k->F k\/W.heap.size<=k\/(Value.slice (some ⟨g,0,none⟩) cn cap).ownBlock=some k):=⟨fun F' W3 hj3 hb3 hf3=>by
  have hne:cur≠[]:=fun e=>by rw [e] at zA;have:=zA.out;simp at this;omega
  have he:S.emit cur i ti line=[cur++[S.oK i ti line]]:=by unfold S.emit;rw [if_neg hne]
  have hl1:=zU.out.l1;have hl2:=zU.out.l2;have hl3:=zU.out.l3;refine ⟨F',by rw [he];exact hj3,?_,?_,?_⟩
  ·refine zU.out.but (PY.trans hb3 (C:=fun k=>k=g\/F k) (fun k _ e=>.inl e) (fun k _ e=>.inr e)) (fun k hk=>?_)
   rcases hk with rfl | hk
   ·exact ⟨by omega,by omega,by omega,by simp [Value.ownBlock]⟩
   ·obtain ⟨q1,q2,q3,_⟩:=HF.out k hk
    exact ⟨q1,q2,q3,by simp [Value.ownBlock]⟩
  ·refine HB2.out.trans (PY.trans hb3 (C:=fun k=>k=g\/F k) (fun k _ e=>.inl e) (fun k _ e=>.inr e)) (fun k _ hk=>?_) (fun k _ hk=>?_)
   ·rcases hk with rfl | rfl
    ·exact .inr (.inl rfl)
    ·exact .inr (.inr (.inl rfl))
   ·rcases hk with rfl | hk
    ·exact .inr (.inr (.inr rfl))
    ·exact .inl hk
  ·intro k hk
   have hs2:=HB2.out.size;have hs1:=PY.size;rcases hf3 k hk with h | h | h
   ·exact .inl h
   ·exact .inr (.inl (by omega))
   ·have e':g'=k:=by simpa [Value.ownBlock] using h
    rcases hat with h | h
    ·exact .inr (.inr (by rw [h,e']))
    ·exact .inr (.inl (by omega))⟩
 have HAT:=ah.mk hat;have aiN:=ah.mk PY;have oW:=ah.mk hH;clear hR hown1 hown2 hgrow hbX PY hj1 hat hg' hXn hXo;have hyX:X.cell? ⟨YB,0,none⟩=some (.func (.yield l) #[] #[]):=(au ((QI.block YB (by have:=zU.out.l3;omega) (fun e=>e)).trans zU.out.yb) 0).trans rfl;have hyw:w1.cell? ⟨YB,0,none⟩=some (.func (.yield l) #[] #[]):=(au ((aiN.out.block YB (by have:=zU.out.l3;omega) (fun e=>by have:=zU.out.l3;omega)).trans zU.out.yb) 0).trans rfl;clear QI;refine wpIn_region_any (by kernel_rfl) ?_;change wpAnyIn _ _ _ _ _ _ _ _ _ (World.drew W2)
 refine wpAnyIn_take (i:=1) (v:=(.slice (some ⟨g,0,none⟩) cn cap)) rfl rfl (by kernel_rfl) (by kernel_rfl) (by kernel_rfl) (fun _ _ _ h=>h) ⟨Or.inl ⟨by rfl,by intro w;go_simp⟩,fun _=>rfl⟩ ?_;refine wpAnyIn_take (i:=2) (v:=(.int .i64 line)) rfl rfl (by kernel_rfl) (by kernel_rfl) (by kernel_rfl) (fun _ _ _ h=>h) ⟨Or.inl ⟨by rfl,by intro w;go_simp⟩,fun _=>rfl⟩ ?_;refine wpAnyIn_take (i:=3) (v:=(.int .i64 i)) rfl rfl (by kernel_rfl) (by kernel_rfl) (by kernel_rfl) (fun _ _ _ h=>h) ⟨Or.inl ⟨by rfl,by intro w;go_simp⟩,fun _=>rfl⟩ ?_;refine wpAnyIn_take (i:=4) (v:=(.int .i64 ti)) rfl rfl (by kernel_rfl) (by kernel_rfl) (by kernel_rfl) (fun _ _ _ h=>h) ⟨Or.inl ⟨by rfl,by intro w;go_simp⟩,fun _=>rfl⟩ ?_;refine wpAnyIn_take (i:=5) (v:=(.agg #[.int .i64 4,.string ⟨#[]⟩,.bool false,.int .i64 line,.int .i64 i,.int .i64 ti])) rfl rfl (by kernel_rfl) (by kernel_rfl) (by kernel_rfl) (fun _ _ _ h=>h) ⟨Or.inl ⟨by rfl,by intro w;go_simp⟩,fun _=>rfl⟩ ?_;refine wpAnyIn_ready (rs:=[0,6]) (by kernel_rfl) (by simp) ?_;refine AllReadyIn.cons rfl (fun K hK=>?_) (AllReadyIn.cons rfl (fun K hK=>?_) AllReadyIn.nil)
 ·go_simp
  refine hK _ _ ?_;clear hK K;refine wpAnyIn_ready (rs:=[6]) (by kernel_rfl) (by simp) ?_;refine AllReadyIn.cons rfl (fun K hK=>?_) AllReadyIn.nil;go_simp;refine hK _ _ ?_;clear hK K;refine wpAnyIn_ready (rs:=[7]) (by kernel_rfl) (by simp) ?_;refine AllReadyIn.cons rfl (fun K hK=>?_) AllReadyIn.nil;refine qc rfl (.tmp 16) (.tmp 21) _ rfl _ _ _ rfl rfl hrun ?_;try go_simp
  refine hK _ _ ?_;clear hK K;refine wpAnyIn_ready (rs:=[8]) (by kernel_rfl) (by simp) ?_;refine AllReadyIn.cons rfl (fun K hK=>?_) AllReadyIn.nil;go_simp;refine HR.out.mono ?_;rintro e W3 ⟨rfl,F',hj3,hb3,hf3⟩
  refine hK _ _ ?_;clear hK K;refine wpAnyIn_ready (rs:=[9]) (by kernel_rfl) (by simp) ?_;refine AllReadyIn.cons rfl (fun K hK=>?_) AllReadyIn.nil;go_simp;refine hK _ _ ?_;clear hK K;refine wpAnyIn_done (by kernel_rfl) ?_ _;gi_wp2
  go_ret;exact ⟨rfl,bI.out F' W3 hj3 hb3 hf3⟩
 ·go_simp
  refine hK _ _ ?_;clear hK K;refine wpAnyIn_ready (rs:=[0,7]) (by kernel_rfl) (by simp) ?_;refine AllReadyIn.cons rfl (fun K hK=>?_) (AllReadyIn.cons rfl (fun K hK=>?_) AllReadyIn.nil)
  ·go_simp
   refine hK _ _ ?_;clear hK K;refine wpAnyIn_ready (rs:=[7]) (by kernel_rfl) (by simp) ?_;refine AllReadyIn.cons rfl (fun K hK=>?_) AllReadyIn.nil;refine qc rfl (.tmp 16) (.tmp 21) _ rfl _ _ _ rfl rfl hrun ?_;try go_simp
   refine hK _ _ ?_;clear hK K;refine wpAnyIn_ready (rs:=[8]) (by kernel_rfl) (by simp) ?_;refine AllReadyIn.cons rfl (fun K hK=>?_) AllReadyIn.nil;go_simp;refine HR.out.mono ?_;rintro e W3 ⟨rfl,F',hj3,hb3,hf3⟩
   refine hK _ _ ?_;clear hK K;refine wpAnyIn_ready (rs:=[9]) (by kernel_rfl) (by simp) ?_;refine AllReadyIn.cons rfl (fun K hK=>?_) AllReadyIn.nil;go_simp;refine hK _ _ ?_;clear hK K;refine wpAnyIn_done (by kernel_rfl) ?_ _;gi_wp2
   go_ret;exact ⟨rfl,bI.out F' W3 hj3 hb3 hf3⟩
  ·refine qc rfl (.tmp 16) (.tmp 21) _ rfl _ _ _ rfl rfl hrun ?_
   try go_simp
   refine hK _ _ ?_;clear hK K;refine wpAnyIn_ready (rs:=[0]) (by kernel_rfl) (by simp) ?_;refine AllReadyIn.cons rfl (fun K hK=>?_) AllReadyIn.nil;go_simp;refine hK _ _ ?_;clear hK K;refine wpAnyIn_ready (rs:=[8]) (by kernel_rfl) (by simp) ?_;refine AllReadyIn.cons rfl (fun K hK=>?_) AllReadyIn.nil;go_simp;refine HR.out.mono ?_;rintro e W3 ⟨rfl,F',hj3,hb3,hf3⟩
   refine hK _ _ ?_;clear hK K;refine wpAnyIn_ready (rs:=[9]) (by kernel_rfl) (by simp) ?_;refine AllReadyIn.cons rfl (fun K hK=>?_) AllReadyIn.nil;go_simp;refine hK _ _ ?_;clear hK K;refine wpAnyIn_done (by kernel_rfl) ?_ _;gi_wp2
   go_ret;exact ⟨rfl,bI.out F' W3 hj3 hb3 hf3⟩
set_option maxRecDepth 100000 in
set_option maxHeartbeats 400000 in
theorem uT (n:Nat) (p q r:Value) (W:World) :
  CallsDIn Fence.wide n Tryz.prog 89 #[p,q,r] .returning W fun e u' W'=>e=.returned (.tuple #[])/\u'=.returning/\W'=W:=by
 refine callsDIn_of_wpSIn Tryz.func89 rfl trivial fun c₀ cs hu=>?_
 have hwf:∀ f,Fence.wide.fn f:=fun _=>trivial
 simp only [Tryz.ntmps89,List.size_toArray,List.length_cons,List.length_nil,Nat.reduceAdd,Nat.reduceSub,Array.replicate_succ,Array.replicate_zero,List.push_toArray,List.append_toArray,List.nil_append,List.cons_append];apply wpSIn_seq
 apply wpSIn_region
 simp [wpOpsSIn,go_sem,recoverD,hu,Tryz.ntmps89,Exit.thenS,hwf]
 refine wpSIn_of_wpIn rfl ?_;generalize hQ:(fun (e:Exit) (a':Act) (w':World)=>_)=Q;gi_wp2
 rw [<- hQ];refine ⟨rfl,.returning,?_,_,results_none rfl _ _ _,rfl,rfl,rfl⟩;rw [<- hu]
def wU (cur:List S.Tk):List (List S.Tk):=if cur=[] then [] else [cur]
set_option maxRecDepth 100000 in
set_option maxHeartbeats 4000000 in
theorem Bz (n:Nat) (hn:1<=n) {l CB GB YB FB fp base:Nat} {J:List (List S.Tk)->(Nat->Prop)->World->Prop} (C:Client l (n - 1) J) (c ln a b:Int) {v:Value} {cur:List S.Tk} {gap:Bool} {pre:List (List S.Tk)} {F:Nat->Prop} (W:World)
  (hC:QH CB GB YB l base v cur gap W) (hJ:J pre F W) (hF:∀ k,F k->k≠CB/\k≠GB/\k≠YB/\v.ownBlock≠some k) (hFp:∀ k,F k->k≠fp) (hfp:W.heap[fp]?=some (.cells #[.int .i64 a,.int .i64 b] 76 (0,0)))
  (yD:W.heap[FB]?=some (.cells #[.pointer (some ⟨fp,0,none⟩)] 88 (0,0))) (hne:fp≠CB/\fp≠YB/\fp < base) (hgb:fp≠GB) (hlen:pre.flatten.length+cur.length<=300000) :
  CallsDIn Fence.wide n Tryz.prog 89 #[.pointer (some ⟨FB,0,none⟩),.pointer (some ⟨CB,0,none⟩),.pointer (some ⟨YB,0,none⟩)] (.panicking [{ v:=fl c ln,recovered:=false }]) W fun e u' W' =>
   e=.returned (.tuple #[])/\u'=.panicking [{ v:=fl c ln,recovered:=true }]/\(∃ F',J (pre++wU cur) F' W')/\W'.heap[fp]?=some (.cells #[.int .i64 c,.int .i64 ln] 76 (0,0)):=by
 obtain ⟨A,cn,cap,hv,hcn⟩:∃ A cn cap,v=.slice A cn cap/\cur.length=cn:=by
  rcases hC.own.2 with ⟨rfl,e2⟩ | ⟨g,cap,cs,rfl,_⟩
  ·exact ⟨_,_,_,rfl,e2⟩
  ·exact ⟨_,_,_,rfl,rfl⟩
 subst hv;have HC:=ah.mk hC;have HJ:=ah.mk hJ;have HF:=ah.mk hF;have HFP:=ah.mk hFp;have HP:=ah.mk hfp;have zA:=ah.mk hcn;have Xl:=ah.mk yD;have c1:W.cell? ⟨CB,0,none⟩=some (.slice A cn cap):=(au hC.cb 0).trans rfl;have c3:W.cell? ⟨YB,0,none⟩=some (.func (.yield l) #[] #[]):=(au hC.yb 0).trans rfl;have c4:W.cell? ⟨FB,0,none⟩=some (.pointer (some ⟨fp,0,none⟩)):=(au yD 0).trans rfl;have p0:W.cell? ⟨fp,0,none⟩=some (.int .i64 a):=(au hfp 0).trans rfl;have p1:W.cell? ⟨fp,1,none⟩=some (.int .i64 b):=(au hfp 1).trans rfl;have q0:=aA hfp 0;have q1:=aA hfp 1;have hta:∀ X:World,(Instr.typeAssert (.iface 76 (.agg #[.int .i64 c,.int .i64 ln])) 20 76 true).run Tryz.prog X=.ok (.tuple #[.agg #[.int .i64 c,.int .i64 ln],.bool true]) X:=fun X=>by kernel_rfl
 have Xm:=Tryz.underlying76;clear hC hJ hF hFp hfp hcn yD;refine callsDIn_of_wpSIn Tryz.func89 rfl trivial fun c₀ cs hu=>?_
 have hwf:∀ f,Fence.wide.fn f:=fun _=>trivial
 simp only [Tryz.ntmps89,List.size_toArray,List.length_cons,List.length_nil,Nat.reduceAdd,Nat.reduceSub,Array.replicate_succ,Array.replicate_zero,List.push_toArray,List.append_toArray,List.nil_append,List.cons_append];apply wpSIn_seq
 apply wpSIn_region
 simp [wpOpsSIn,go_sem,recoverD,hu,Tryz.ntmps89,Exit.thenS,hwf,fl]
 refine wpSIn_of_wpIn rfl ?_;generalize hQ:(fun (e:Exit) (a':Act) (w':World)=>_)=Q;gi_upto_region 5 with (fail)
 have hb1:But (fun _=>False) W (W.alloc (.cells #[.int .i64 c,.int .i64 ln] 76)):=(But.refl _ W).alloc _;have hn1:=heap_alloc_new W (.cells #[.int .i64 c,.int .i64 ln] 76);have hf1:∀ (k:Nat) (o:Obj),W.heap[k]?=some o->(W.alloc (.cells #[.int .i64 c,.int .i64 ln] 76)).heap[k]?=some o:=fun k o h=>(hb1.block k (Array.getElem?_eq_some_iff.1 h).1 (fun e=>e)).trans h
 have aea:=hf1 _ _ Xl.out;have PZ:=hf1 _ _ HP.out;have hj1:=C.stable HJ.out (hb1.mono (B:=fun k=>¬ F k) (fun _ _ e=>e.elim));have hc1:=HC.out.but hb1 (fun _ e=>e.elim);obtain ⟨H,hH⟩:∃ H,W.heap.size=H:=⟨_,rfl⟩;rw [hH] at hn1 |-
 have hlt:fp≠H/\FB≠H:=by
  have h1:=(Array.getElem?_eq_some_iff.1 HP.out).1;have h2:=(Array.getElem?_eq_some_iff.1 Xl.out).1;omega
 clear c1 c3 c4 p0 p1 q0 q1 hf1 hta hH;generalize W.alloc (.cells #[.int .i64 c,.int .i64 ln] 76)=W1 at *;have c4:W1.cell? ⟨FB,0,none⟩=some (.pointer (some ⟨fp,0,none⟩)):=(au aea 0).trans rfl;have e0:W1.cell? ⟨H,0,none⟩=some (.int .i64 c):=(au hn1 0).trans rfl;have e1:W1.cell? ⟨H,1,none⟩=some (.int .i64 ln):=(au hn1 1).trans rfl;have p0:W1.cell? ⟨fp,0,none⟩=some (.int .i64 a):=(au PZ 0).trans rfl;have p1:W1.cell? ⟨fp,1,none⟩=some (.int .i64 b):=(au PZ 1).trans rfl;have q0:=aA PZ 0;have q1:=aA PZ 1;obtain ⟨n1,n2,n3⟩:=hne;have hb2:But (fun k=>k=fp) W1 ((W1.setCell ⟨fp,0,none⟩ (.int .i64 c)).setCell ⟨fp,1,none⟩ (.int .i64 ln)):=((But.refl (fun k=>k=fp) W1).set ⟨fp,0,none⟩ _ rfl).set ⟨fp,1,none⟩ _ rfl;have aeb:((W1.setCell ⟨fp,0,none⟩ (.int .i64 c)).setCell ⟨fp,1,none⟩ (.int .i64 ln)).heap[fp]?=some (.cells #[.int .i64 c,.int .i64 ln] 76 (0,0)):=aW (aW PZ 0 _ rfl) 1 _ rfl;have hj2:=C.stable hj1 (hb2.mono (B:=fun k=>¬ F k) (fun k _ e hf=>HFP.out k hf e));have hc2:=hc1.but hb2 (fun k e=>by
  have hg:=hc1.n1;refine ⟨by omega,?_,by omega,fun h=>?_⟩
  ·rw [e];exact hgb
  ·have:=(hc1.own.lt k h).1
   omega)
 have HJ2:=ah.mk hj2;have qo:=ah.mk hc2;have HP2:=ah.mk aeb;clear hb1 hb2 hj1 hj2 hc1 hc2 PZ aeb aea hn1;gi_upto_region 6 with (fail)
 generalize (W1.setCell ⟨fp,0,none⟩ (.int .i64 c)).setCell ⟨fp,1,none⟩ (.int .i64 ln)=W2 at *;clear c4 e0 e1 p0 p1 q0 q1;have c1:W2.cell? ⟨CB,0,none⟩=some (.slice A cn cap):=(au qo.out.cb 0).trans rfl;have c3:W2.cell? ⟨YB,0,none⟩=some (.func (.yield l) #[] #[]):=(au qo.out.yb 0).trans rfl;by_cases h0:cn=0
 ·subst h0
  have hnil:cur=[]:=List.length_eq_zero_iff.1 zA.out;gi_wp2
  rw [<- hQ];refine ⟨rfl,_,rfl,_,results_none rfl _ _ _,rfl,by first | rfl | (simp [fl];done),⟨F,?_⟩,HP2.out⟩;rw [hnil];simpa [wU] using HJ2.out
 have g0:decide ((0:Int) < (cn:Int))=true:=decide_eq_true (by omega);have g1:decide (0 < cn)=true:=decide_eq_true (by omega);have hY:=C.yield HJ2.out qo.out.own (fun e=>by rw [e] at zA;have:=zA.out;simp at this;omega) (fun k hk=>(HF.out k hk).2.2.2) hlen;obtain ⟨fn,tmps,assign,body,hy,hR⟩:=hY;have HR:=Lib.hid hR;clear hR;gi_wp2
 refine HR.out.mono ?_;rintro e W3 ⟨rfl,F',hj3,hb3,hf3⟩
 gi_wp2
 rw [<- hQ];refine ⟨rfl,_,rfl,_,results_none rfl _ _ _,rfl,by first | rfl | (simp [fl];done),⟨F',?_⟩,?_⟩
 ·have:wU cur=[cur]:=by
   unfold wU;rw [if_neg (fun e=>by rw [e] at zA;have:=zA.out;simp at this;omega)]
  rw [this];exact hj3
 ·exact (hb3.block fp (Array.getElem?_eq_some_iff.1 HP2.out).1 (fun hf=>HFP.out fp hf rfl)).trans HP2.out
end Go.Proofs.YtkkpjonfaflkmaaGreatDoor.T
