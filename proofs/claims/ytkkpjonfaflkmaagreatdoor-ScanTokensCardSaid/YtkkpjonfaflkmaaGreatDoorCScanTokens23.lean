/- For ScanTokens: its callees return what is said of them. -/
import Derived.Test.YtkkpjonfaflkmaaGreatDoorCScanTokens22
namespace Go.Proofs.YtkkpjonfaflkmaaGreatDoor.T
open Go.RowKit Go.Maps Go.Proofs.ah.aT Go.Proofs.ah.bn Go.Proofs.ah.bA
set_option linter.unusedSimpArgs false
set_option linter.unusedVariables false
attribute [local go_sem] Oper.semAt_some
theorem OD (P cur:List S.Tk) (h:cur≠[]):S.comma (P++cur)=S.comma cur:=by
 rcases List.eq_nil_or_concat cur with rfl | ⟨a,t,rfl⟩
 ·exact absurd rfl h
 ·rw [List.concat_eq_append,<- List.append_assoc]
  unfold S.comma;rw [List.getLast?_concat,List.getLast?_concat]
theorem RJ (P cur:List S.Tk):QN (P++cur) P.length=S.comma cur:=by
 unfold QN;by_cases h:cur=[]
 ·subst h
  rw [List.append_nil,decide_eq_false (Nat.lt_irrefl _)];rfl
 have:0 < cur.length:=List.length_pos_iff.2 h;rw [decide_eq_true (by rw [List.length_append];omega),OD P cur h];rfl
theorem XD (P cur:List S.Tk):Xk (P++cur) P.length=P++S.cut cur:=by
 unfold Xk S.cut;rw [RJ];by_cases h:S.comma cur=true
 ·rw [if_pos h,if_pos h,List.dropLast_append_of_ne_nil]
  intro e;subst e;cases h
 ·rw [if_neg h,if_neg h]
theorem MR (P cur:List S.Tk) (a b l:Nat):Jv (P++cur) P.length a b l=P++(S.emit cur a b l).flatten:=by
 unfold Jv S.emit;by_cases h:cur=[]
 ·subst h
  rw [if_pos rfl,if_neg (by simp)];simp
 have:0 < cur.length:=List.length_pos_iff.2 h;rw [if_neg h,if_pos (by rw [List.length_append];omega)];simp
theorem VF (P cur:List S.Tk) (gap:Bool) (k:Nat) (t:List Int) (line i e:Nat):vH P.length gap (P++cur) k t line i e=⟨k,t,gap&&!decide (cur=[]),line,i,e⟩:=by
 unfold vH;have:decide (P.length < (P++cur).length)=!decide (cur=[]):=by
  by_cases h:cur=[]
  ·subst h;simp
  have:0 < cur.length:=List.length_pos_iff.2 h;rw [decide_eq_false h,decide_eq_true (by rw [List.length_append];omega)];rfl
 rw [this]
theorem RL (P cur:List S.Tk) (k:Nat) (t:List Int) (g:Bool) (line i e:Nat):Dk P.length (P++cur) k t=S.label (cur++[⟨k,t,g,line,i,e⟩]):=by
 unfold Dk;rcases cur with _ | ⟨a,_ | ⟨b,cur⟩⟩
 ·have e0:(P++([]:List S.Tk)).length≠P.length+1:=by simp
  rw [decide_eq_false e0];simp [S.label]
 ·have h1:((P++[a]).map (·.kind)).getD P.length 0=a.kind:=by
   rw [List.getD_eq_getElem?_getD,List.getElem?_map,List.getElem?_append_right (Nat.le_refl _),Nat.sub_self];rfl
  have e0:(P++[a]).length=P.length+1:=by simp
  rw [h1,decide_eq_true e0];show _=(decide (a.kind=1)&&decide (k=3)&&decide (t=[58]))
  cases decide (a.kind=1)<;>cases decide (k=3)<;>cases decide (t=[58])<;>rfl
 ·have e0:(P++a::b::cur).length≠P.length+1:=by simp
  rw [decide_eq_false e0];simp [S.label]
def IY (pre:List (List S.Tk)) (cur:List S.Tk) (gap:Bool) (k:Nat) (t:List Int) (line i n:Nat):List (List S.Tk) × List S.Tk :=
 if k=3/\t=[59] then (pre++S.emit cur i (i+n) line,[])
 else if S.label (cur++[⟨k,t,gap&&!decide (cur=[]),line,i,i+n⟩])=true then (pre++S.emit (cur++[⟨k,t,gap&&!decide (cur=[]),line,i,i+n⟩]) (i+n) (i+n) line,[])
 else (pre,cur++[⟨k,t,gap&&!decide (cur=[]),line,i,i+n⟩])
theorem put_eq (pre:List (List S.Tk)) (cur:List S.Tk) (gap:Bool) (k:Nat) (t:List Int) (line i n:Nat) :
  Ce pre.flatten.length gap (pre.flatten++cur) k t line i (i+n)=(IY pre cur gap k t line i n).1.flatten++(IY pre cur gap k t line i n).2 /\
  Fp pre.flatten.length gap (pre.flatten++cur) k t line i (i+n)=(IY pre cur gap k t line i n).1.flatten.length:=by
 have hL:Ce pre.flatten.length gap (pre.flatten++cur) k t line i (i+n)=(IY pre cur gap k t line i n).1.flatten++(IY pre cur gap k t line i n).2:=by
  unfold Ce IY;by_cases h1:k=3/\t=[59]
  ·rw [if_pos h1,if_pos h1,MR];simp
  rw [if_neg h1,if_neg h1,RL _ _ _ _ (gap&&!decide (cur=[])) line i (i+n),VF];by_cases h2:S.label (cur++[⟨k,t,gap&&!decide (cur=[]),line,i,i+n⟩])=true
  ·rw [if_pos h2,if_pos h2,List.append_assoc,MR];simp
  ·rw [if_neg h2,if_neg h2];simp
 refine ⟨hL,?_⟩;unfold Fp;rw [hL,RL _ _ _ _ (gap&&!decide (cur=[])) line i (i+n)];unfold IY;by_cases h1:k=3/\t=[59]
 ·rw [if_pos (.inl h1),if_pos h1];simp
 rw [if_neg h1];by_cases h2:S.label (cur++[⟨k,t,gap&&!decide (cur=[]),line,i,i+n⟩])=true
 ·rw [if_pos (.inr h2),if_pos h2];simp
 ·rw [if_neg (fun e=>e.elim h1 h2),if_neg h2]
theorem adJ {xs:List Int} {pre:List (List S.Tk)} {cur:List S.Tk} {gap:Bool} {k:Nat} {t:List Int} {line i e:Nat} (h:S.step xs=.tok k t e) (f:Nat) :
  (S.go (f+1) xs i line cur gap).pre pre=(S.go f (xs.drop e) (i+e) line (IY pre cur gap k t line i e).2 false).pre (IY pre cur gap k t line i e).1:=by
 rw [S.go,h];simp only;unfold IY;by_cases h1:k=3/\t=[59]
 ·rw [if_pos h1,if_pos h1,S.qy]
 rw [if_neg h1,if_neg h1];by_cases h2:S.label (cur++[⟨k,t,gap&&!decide (cur=[]),line,i,i+e⟩])=true
 ·rw [if_pos h2,if_pos h2,S.qy]
 ·rw [if_neg h2,if_neg h2]
structure RI (W0:World) (H:Nat) (src:ByteArray) (i line:Nat) (v:Value) (gap:Bool) (pre:List (List S.Tk)) (cur:List S.Tk) (W:World):Prop where
 rd:nK H src i line v (pre.flatten.length:Nat) gap W
 own:W.ownsRow (H+1) 53 6 v (pre.flatten++cur).length (dV (pre.flatten++cur))
 but:But (fun k=>H<=k) W0 W
 hi:i<=src.size
 hl:1<=line/\line<=i+1
 len:pre.flatten.length+2*cur.length<=2*i
 DR:∀ t∈pre.flatten++cur,Bytes t
 go:∃ f,src.size - i < f/\S.scan (bytesOf src)=(S.go f ((bytesOf src).drop i) i line cur gap).pre pre
 hs:H+1<=W.heap.size
section
variable {W0:World} {H:Nat} {src:ByteArray} {i line:Nat} {v:Value} {gap:Bool} {pre:List (List S.Tk)} {cur:List S.Tk} {W W':World}
theorem RI.on (h:RI W0 H src i line v gap pre cur W) {v':Value} {NV:Bool} {pre':List (List S.Tk)} {cur':List S.Tk} {n dl:Nat} (hR:nK H src ((i+n:Nat):Int) ((line+dl:Nat):Int) v' (pre'.flatten.length:Nat) NV W')
  (hO:W'.ownsRow (H+1) 53 6 v' (pre'.flatten++cur').length (dV (pre'.flatten++cur'))) (hb:But (fun k=>H<=k) W W') (hn1:1<=n) (hn2:i+n<=src.size) (hdl:dl<=n)
  (hlen:pre'.flatten.length+2*cur'.length<=2*(i+n)) (hby:∀ t∈pre'.flatten++cur',Bytes t)
  (hgo:∀ f,(S.go (f+1) ((bytesOf src).drop i) i line cur gap).pre pre=(S.go f (((bytesOf src).drop i).drop n) (i+n) (line+dl) cur' NV).pre pre') :
  RI W0 H src (i+n) (line+dl) v' NV pre' cur' W':=by
 obtain ⟨f,h1,h2⟩:=h.go;obtain ⟨f,rfl⟩:∃ f',f=f'+1:=⟨f - 1,by omega⟩;refine ⟨hR,hO,h.but.trans' hb,hn2,⟨by have:=h.hl;omega,by have:=h.hl;omega⟩,hlen,hby,⟨f,by omega,?_⟩,Nat.le_trans h.hs hb.size⟩;rw [h2,hgo,List.drop_drop]
theorem uG {cur:List S.Tk} (h:∀ t∈cur,Bytes t) (a b l:Nat):∀ t∈(S.emit cur a b l).flatten,Bytes t:=by
 intro t ht
 unfold S.emit at ht;by_cases e:cur=[]
 ·rw [if_pos e] at ht;cases ht
 rw [if_neg e] at ht;simp only [List.flatten_cons,List.flatten_nil,List.append_nil] at ht;rcases List.mem_append.1 ht with e2 | e2
 ·exact h t e2
 ·rw [List.mem_singleton.1 e2];intro x hx;cases hx
theorem zq (cur:List S.Tk) (a b l:Nat):(S.emit cur a b l).flatten.length<=2*cur.length:=by
 unfold S.emit;by_cases e:cur=[]
 ·rw [if_pos e];simp
 have:0 < cur.length:=List.length_pos_iff.2 e;rw [if_neg e];simp;omega
theorem ZY {pre:List (List S.Tk)} {cur:List S.Tk} {gap:Bool} {k:Nat} {t:List Int} {line i e:Nat} (h:pre.flatten.length+2*cur.length<=2*i) (he:1<=e):(IY pre cur gap k t line i e).1.flatten.length+2*(IY pre cur gap k t line i e).2.length<=2*(i+e):=by
 unfold IY;split
 ·have:=zq cur i (i+e) line
  simp only [List.flatten_append,List.length_append,List.length_nil];omega
 ·split
  ·have:=zq (cur++[⟨k,t,gap&&!decide (cur=[]),line,i,i+e⟩]) (i+e) (i+e) line
   rw [List.length_append,List.length_singleton] at this;simp only [List.flatten_append,List.length_append,List.length_nil];omega
  ·simp only [List.length_append,List.length_singleton]
   omega
theorem RN {pre:List (List S.Tk)} {cur:List S.Tk} {gap:Bool} {k:Nat} {t:List Int} {line i e:Nat} (h:∀ t∈pre.flatten++cur,Bytes t) (ht:∀ x∈t,0<=x/\x < 256):∀ u∈(IY pre cur gap k t line i e).1.flatten++(IY pre cur gap k t line i e).2,Bytes u:=by
 have hp:∀ t∈pre.flatten,Bytes t:=fun t ht=>h t (List.mem_append_left _ ht)
 have hc:∀ t∈cur,Bytes t:=fun t ht=>h t (List.mem_append_right _ ht)
 have hc2:∀ u∈cur++[(⟨k,t,gap&&!decide (cur=[]),line,i,i+e⟩:S.Tk)],Bytes u:=fun u hu=>by
  rcases List.mem_append.1 hu with e | e
  ·exact hc u e
  ·rw [List.mem_singleton.1 e];exact ht
 unfold IY;intro u hu
 split at hu
 ·simp only [List.flatten_append,List.append_nil] at hu
  rcases List.mem_append.1 hu with e | e
  ·exact hp u e
  ·exact uG hc _ _ _ u e
 ·split at hu
  ·simp only [List.flatten_append,List.append_nil] at hu
   rcases List.mem_append.1 hu with e | e
   ·exact hp u e
   ·exact uG hc2 _ _ _ u e
  ·rcases List.mem_append.1 hu with e | e
   ·exact hp u e
   ·exact hc2 u e
theorem RI.err (h:RI W0 H src i line v gap pre cur W) {c dl:Nat} (hs:S.step ((bytesOf src).drop i)=.err c dl):(S.scan (bytesOf src)).err=some (c,line+dl)/\S.tokens (bytesOf src)=pre.flatten++cur:=by
 obtain ⟨f,h1,h2⟩:=h.go;obtain ⟨f,rfl⟩:∃ f',f=f'+1:=⟨f - 1,by omega⟩;unfold S.tokens;rw [h2,S.go,hs];refine ⟨rfl,?_⟩;show (pre++(if cur=[] then [] else [cur])).flatten=_
 by_cases e:cur=[]
 ·rw [if_pos e,e];simp
 ·rw [if_neg e];simp
theorem RI.fin (h:RI W0 H src i line v gap pre cur W) (hi:src.size=i):(S.scan (bytesOf src)).err=none/\S.tokens (bytesOf src)=pre.flatten++(S.emit (S.cut cur) i i line).flatten:=by
 obtain ⟨f,h1,h2⟩:=h.go;obtain ⟨f,rfl⟩:∃ f',f=f'+1:=⟨f - 1,by omega⟩;have hd:(bytesOf src).drop i=[]:=List.drop_of_length_le (by rw [bytesOf_length];omega);unfold S.tokens;rw [h2,S.go,hd];refine ⟨rfl,?_⟩;show (pre++S.emit (S.cut cur) i i line).flatten=_
 rw [List.flatten_append]
end
theorem AO {P:Program} {fn:Func} {p q:Tmp} {ty ty2:TypeId} (h:fn.results=#[.cell p ty,.cell q ty2]) (tmps:Array Value) (w:World) (g g2:Nat) (t t2:TypeId) (cs cs2:Array Value) (fr fr2:Nat × Nat) (d d2:TypeDesc)
  (hp:tmps.getD p undef=.pointer (some ⟨g,0,none⟩)) (hq:tmps.getD q undef=.pointer (some ⟨g2,0,none⟩)) (hg:w.heap[g]?=some (.cells cs t fr)) (hg2:w.heap[g2]?=some (.cells cs2 t2 fr2))
  (hu:P.underlying ty=some d) (hd:(match d with | .struct _ | .array _ _=>true | _=>false)=true) (hi:(P.info? ty).map (·.size)=some cs.size)
  (hu2:P.underlying ty2=some d2) (hd2:(match d2 with | .struct _ | .array _ _=>true | _=>false)=true) (hi2:(P.info? ty2).map (·.size)=some cs2.size) :
  (results fn tmps).run P w=.ok (.tuple #[.agg cs,.agg cs2]) w:=by
 have hp':tmps[p]?.getD undef=.pointer (some ⟨g,0,none⟩):=by simpa using hp
 have hq':tmps[q]?.getD undef=.pointer (some ⟨g2,0,none⟩):=by simpa using hq
 simp [results,h,hp',hq',asAddr,Sem.run_bind,run_loadVar_row w g t ty cs fr d hg hu hd hi,run_loadVar_row w g2 t2 ty2 cs2 fr2 d2 hg2 hu2 hd2 hi2,Result.andThen]
def Ef (wx:World) (B:Nat) (src:ByteArray) (i line:Int) (v:Value) (F:Int) (gap:Bool) (k:Int) (t:ByteArray) (e c l:Int):World :=
 ((((((((((wx.setCell ⟨B,0,none⟩ (.string src)).setCell ⟨B,1,none⟩ (.int .i64 i)).setCell ⟨B,2,none⟩ (.int .i64 line)).setCell ⟨B,3,none⟩ v).setCell ⟨B,4,none⟩ (.int .i64 F)).setCell ⟨B,5,none⟩ (.bool gap)).setCell ⟨B+1,0,none⟩ (.int .i64 k)).setCell ⟨B+1,1,none⟩ (.string t)).setCell ⟨B+1,2,none⟩ (.int .i64 e)).setCell ⟨B+1,3,none⟩ (.int .i64 c)).setCell ⟨B+1,4,none⟩ (.int .i64 l)
theorem IZ {wx:World} {B:Nat} (src:ByteArray) (i line:Int) (v:Value) (F:Int) (gap:Bool) (k:Int) (t:ByteArray) (e c l:Int) {a0 a1 a2 a3 a4 a5 z0 z1 z2 z3 z4:Value}
  (h1:wx.heap[B]?=some (.cells #[a0,a1,a2,a3,a4,a5] 80 (0,0))) (h2:wx.heap[B+1]?=some (.cells #[z0,z1,z2,z3,z4] 82 (0,0))) :
  (Ef wx B src i line v F gap k t e c l).heap[B]?=some (.cells #[.string src,.int .i64 i,.int .i64 line,v,.int .i64 F,.bool gap] 80 (0,0)) /\
  (Ef wx B src i line v F gap k t e c l).heap[B+1]?=some (.cells #[.int .i64 k,.string t,.int .i64 e,.int .i64 c,.int .i64 l] 82 (0,0)) /\
  But (fun k=>k=B\/k=B+1) wx (Ef wx B src i line v F gap k t e c l):=by
 have e1:=aR (cs:=#[a0,a1,a2,a3,a4,a5]) (cs':=#[.string src,a1,a2,a3,a4,a5]) h1 0 (.string src) rfl;have e2:=aR (cs':=#[.string src,.int .i64 i,a2,a3,a4,a5]) e1 1 (.int .i64 i) rfl;have e3:=aR (cs':=#[.string src,.int .i64 i,.int .i64 line,a3,a4,a5]) e2 2 (.int .i64 line) rfl;have e4:=aR (cs':=#[.string src,.int .i64 i,.int .i64 line,v,a4,a5]) e3 3 v rfl;have e5:=aR (cs':=#[.string src,.int .i64 i,.int .i64 line,v,.int .i64 F,a5]) e4 4 (.int .i64 F) rfl;have e6:=aR (cs':=#[.string src,.int .i64 i,.int .i64 line,v,.int .i64 F,.bool gap]) e5 5 (.bool gap) rfl;have b1:But (·=B) wx ((((((wx.setCell ⟨B,0,none⟩ (.string src)).setCell ⟨B,1,none⟩ (.int .i64 i)).setCell ⟨B,2,none⟩ (.int .i64 line)).setCell ⟨B,3,none⟩ v).setCell ⟨B,4,none⟩ (.int .i64 F)).setCell ⟨B,5,none⟩ (.bool gap)):=((((((But.refl (·=B) wx).set ⟨B,0,none⟩ (.string src) rfl).set ⟨B,1,none⟩ (.int .i64 i) rfl).set ⟨B,2,none⟩ (.int .i64 line) rfl).set ⟨B,3,none⟩ v rfl).set ⟨B,4,none⟩ (.int .i64 F) rfl).set ⟨B,5,none⟩ (.bool gap) rfl;have h2':=(b1.block (B+1) (Array.getElem?_eq_some_iff.1 h2).1 (by omega)).trans h2;have d1:=aR (cs:=#[z0,z1,z2,z3,z4]) (cs':=#[.int .i64 k,z1,z2,z3,z4]) h2' 0 (.int .i64 k) rfl;have d2:=aR (cs':=#[.int .i64 k,.string t,z2,z3,z4]) d1 1 (.string t) rfl;have d3:=aR (cs':=#[.int .i64 k,.string t,.int .i64 e,z3,z4]) d2 2 (.int .i64 e) rfl;have d4:=aR (cs':=#[.int .i64 k,.string t,.int .i64 e,.int .i64 c,z4]) d3 3 (.int .i64 c) rfl;have d5:=aR (cs':=#[.int .i64 k,.string t,.int .i64 e,.int .i64 c,.int .i64 l]) d4 4 (.int .i64 l) rfl;have b2:=(((((But.refl (·=B+1) ((((((wx.setCell ⟨B,0,none⟩ (.string src)).setCell ⟨B,1,none⟩ (.int .i64 i)).setCell ⟨B,2,none⟩ (.int .i64 line)).setCell ⟨B,3,none⟩ v).setCell ⟨B,4,none⟩ (.int .i64 F)).setCell ⟨B,5,none⟩ (.bool gap))).set ⟨B+1,0,none⟩ (.int .i64 k) rfl).set ⟨B+1,1,none⟩ (.string t) rfl).set ⟨B+1,2,none⟩ (.int .i64 e) rfl).set ⟨B+1,3,none⟩ (.int .i64 c) rfl).set ⟨B+1,4,none⟩ (.int .i64 l) rfl;exact ⟨(b2.block B (Array.getElem?_eq_some_iff.1 e6).1 (by omega)).trans e6,d5,b1.trans b2 (fun _ _ e=>.inl e) (fun _ _ e=>.inr e)⟩
def Lg (w:World) (src:ByteArray) (en:Ending) (w':World):Prop :=
 ∃ (i line first:Int) (v:Value) (gap:Bool) (pk:Int) (pt:ByteArray) (pe:Int),en=.returned (.tuple #[.agg #[.string src,.int .i64 i,.int .i64 line,v,.int .i64 first,.bool gap],.agg #[.int .i64 pk,.string pt,.int .i64 pe,.int .i64 (tN (S.scan (bytesOf src)).err),.int .i64 (wB (S.scan (bytesOf src)).err)]]) /\
  w'.ownsRow (w.heap.size+3) 53 6 v (S.tokens (bytesOf src)).length (dV (S.tokens (bytesOf src)))/\Below w.heap.size w w'
theorem FT {w W2 wx:World} {B H:Nat} {src:ByteArray} {v:Value} {L:List S.Tk} {a0 a1 a2 a3 a4 a5 z0 z1 z2 z3 z4:Value} (hB:w.heap.size=B) (hH:B+2=H) (hb0:Below B w W2) (hbx:But (fun k=>H<=k) W2 wx) (hsz:W2.heap.size=H)
  (h1:wx.heap[B]?=some (.cells #[a0,a1,a2,a3,a4,a5] 80 (0,0))) (h2:wx.heap[B+1]?=some (.cells #[z0,z1,z2,z3,z4] 82 (0,0)))
  (hO:wx.ownsRow (H+1) 53 6 v L.length (dV L)) (hT:S.tokens (bytesOf src)=L) (i line F:Int) (gap:Bool) (k:Int) (t:ByteArray) (e c l:Int) (hc:tN (S.scan (bytesOf src)).err=c) (hl:wB (S.scan (bytesOf src)).err=l) (q:Nat)
  (tmps:Array Value) (hp:tmps.getD 2 undef=.pointer (some ⟨B,0,none⟩)) (hq:tmps.getD 3 undef=.pointer (some ⟨B+1,0,none⟩)) :
  bodyPost Tryz.prog Tryz.f52 (fun en w'=>Lg w src en w') Exit.ret { tmps:=tmps,defers:=[] } ((Ef wx B src i line v F gap k t e c l).drewN q):=by
 obtain ⟨g1,g2,g3⟩:=IZ src i line v F gap k t e c l h1 h2;generalize Ef wx B src i line v F gap k t e c l=wl at *;have g1':(wl.drewN q).heap[B]?=_:=g1;have g2':(wl.drewN q).heap[B+1]?=_:=g2;refine bodyPost_ret (AO (fn:=Tryz.f52) (p:=2) (q:=3) (ty:=80) (ty2:=82) rfl tmps _ B (B+1) 80 82 #[.string src,.int .i64 i,.int .i64 line,v,.int .i64 F,.bool gap] #[.int .i64 k,.string t,.int .i64 e,.int .i64 c,.int .i64 l] (0,0) (0,0) _ _ hp hq g1' g2' Tryz.underlying80 rfl (by kernel_rfl) Tryz.underlying82 rfl (by kernel_rfl)) rfl ?_;have hO2:=dn hO g3 (fun k hk h=>by
  have:=(hO.lt k h).1;omega)
 refine ⟨i,line,F,v,gap,k,t,e,by rw [hc,hl],?_,?_⟩
 ·rw [hT,hB,show B+3=H+1 by omega]
  exact hO2
 ·rw [hB]
  have hbw:Below B W2 wl:=by
   refine (hbx.trans g3 (C:=fun k=>B<=k) (fun k _ h=>by omega) (fun k _ h=>by omega)).ku (by omega) (fun k h e=>by omega)
  have:=hb0.trans hbw;exact ⟨this.os,this.tape,this.output,this.size,this.block⟩
theorem drewN_zero (w:World):w.drewN 0=w:=rfl
theorem RO {w W2 wx:World} {B H:Nat} {src:ByteArray} {v:Value} {L:List S.Tk} {a0 a1 a2 a3 a4 a5 z0 z1 z2 z3 z4:Value} (hB:w.heap.size=B) (hH:B+2=H) (hb0:Below B w W2) (hbx:But (fun k=>H<=k) W2 wx) (hsz:W2.heap.size=H)
  (h1:wx.heap[B]?=some (.cells #[a0,a1,a2,a3,a4,a5] 80 (0,0))) (h2:wx.heap[B+1]?=some (.cells #[z0,z1,z2,z3,z4] 82 (0,0)))
  (hO:wx.ownsRow (H+1) 53 6 v L.length (dV L)) (hT:S.tokens (bytesOf src)=L) (i line F:Int) (gap:Bool) (k:Int) (t:ByteArray) (e c l:Int) (hc:tN (S.scan (bytesOf src)).err=c) (hl:wB (S.scan (bytesOf src)).err=l)
  (tmps:Array Value) (hp:tmps.getD 2 undef=.pointer (some ⟨B,0,none⟩)) (hq:tmps.getD 3 undef=.pointer (some ⟨B+1,0,none⟩)) :
  bodyPost Tryz.prog Tryz.f52 (fun en w'=>Lg w src en w') Exit.ret { tmps:=tmps,defers:=[] } (Ef wx B src i line v F gap k t e c l):=by
 have:=FT hB hH hb0 hbx hsz h1 h2 hO hT i line F gap k t e c l hc hl 0 tmps hp hq;rwa [drewN_zero] at this
set_option maxRecDepth 100000 in
set_option maxHeartbeats 8000000 in
theorem read.calls (src:ByteArray) (w:World) (hsz:src.size<=50000):Calls Tryz.prog 52 #[.string src] w fun en w'=>Lg w src en w':=by
 obtain ⟨n,hn⟩:∃ n,src.size=n:=⟨_,rfl⟩;have HN:=aj.mk hn;rw [hn] at hsz;go_enter Tryz.func52,Tryz.ntmps52
 go_upto_region 1 with (fail)
 have hs1:(w.alloc (.cells #[.string ⟨#[]⟩,.int .i64 0,.int .i64 0,.slice none 0 0,.int .i64 0,.bool false] 80)).heap.size=w.heap.size+1:=World.size_alloc _ _;have hs2:((w.alloc (.cells #[.string ⟨#[]⟩,.int .i64 0,.int .i64 0,.slice none 0 0,.int .i64 0,.bool false] 80)).alloc (.cells #[.int .i64 0,.string ⟨#[]⟩,.int .i64 0,.int .i64 0,.int .i64 0] 82)).heap.size=w.heap.size+2:=by rw [World.size_alloc,hs1]
 have hB0:=heap_alloc_new w (.cells #[.string ⟨#[]⟩,.int .i64 0,.int .i64 0,.slice none 0 0,.int .i64 0,.bool false] 80);have hB2:=heap_alloc_new (w.alloc (.cells #[.string ⟨#[]⟩,.int .i64 0,.int .i64 0,.slice none 0 0,.int .i64 0,.bool false] 80)) (.cells #[.int .i64 0,.string ⟨#[]⟩,.int .i64 0,.int .i64 0,.int .i64 0] 82);rw [hs1] at hB2;have hb0:Below w.heap.size w ((w.alloc (.cells #[.string ⟨#[]⟩,.int .i64 0,.int .i64 0,.slice none 0 0,.int .i64 0,.bool false] 80)).alloc (.cells #[.int .i64 0,.string ⟨#[]⟩,.int .i64 0,.int .i64 0,.int .i64 0] 82)):=ay (ay (Below.refl _ _) _) _;have hB1:=(((But.refl (fun _=>False) (w.alloc (.cells #[.string ⟨#[]⟩,.int .i64 0,.int .i64 0,.slice none 0 0,.int .i64 0,.bool false] 80))).alloc (.cells #[.int .i64 0,.string ⟨#[]⟩,.int .i64 0,.int .i64 0,.int .i64 0] 82)).block w.heap.size (Array.getElem?_eq_some_iff.1 hB0).1 (fun e=>e)).trans hB0;obtain ⟨B,hB⟩:∃ B,w.heap.size=B:=⟨_,rfl⟩;have LY:=aj.mk hB;rw [hB] at hs2 hB1 hB2 hb0 |-
 clear hB0 hs1;generalize (w.alloc (.cells #[.string ⟨#[]⟩,.int .i64 0,.int .i64 0,.slice none 0 0,.int .i64 0,.bool false] 80)).alloc (.cells #[.int .i64 0,.string ⟨#[]⟩,.int .i64 0,.int .i64 0,.int .i64 0] 82)=W2 at *;obtain ⟨H,hH⟩:∃ H,B+2=H:=⟨_,rfl⟩;have pU:=aj.mk hH;have hs3:W2.heap.size=H:=by omega
 go_upto_region 2 with (fail)
 have hN3:=heap_alloc_new W2 (.cells #[.string src,.int .i64 0,.int .i64 1,.slice none 0 0,.int .i64 0,.bool false] 80);have hS3:=World.size_alloc W2 (.cells #[.string src,.int .i64 0,.int .i64 1,.slice none 0 0,.int .i64 0,.bool false] 80);have hb3:=(But.refl (fun k=>H<=k) W2).alloc (.cells #[.string src,.int .i64 0,.int .i64 1,.slice none 0 0,.int .i64 0,.bool false] 80);rw [hs3] at hN3 hS3;have HIN:aj (RI W2 H src 0 1 (.slice none 0 0) false [] [] (W2.alloc (.cells #[.string src,.int .i64 0,.int .i64 1,.slice none 0 0,.int .i64 0,.bool false] 80))):=⟨⟨hN3,World.ownsRow_nil _ _ _ _,hb3,Nat.zero_le _,⟨by omega,by omega⟩,by simp,by simp,⟨src.size+1,by omega,by rw [List.drop_zero,<- bytesOf_length];simp [S.scan,S.Out.pre]⟩,by omega⟩⟩;have HB1:=aj.mk hB1;have HB2:=aj.mk hB2;have HB0:=aj.mk hb0;generalize W2.alloc (.cells #[.string src,.int .i64 0,.int .i64 1,.slice none 0 0,.int .i64 0,.bool false] 80)=W3 at *;clear hN3 hS3 hb3 hB1 hB2 hb0 hs2 hH;have VG:=aj.mk hs3;clear hs3 hB;go_loopg [] n (fun gg wr=>∃ (i line:Nat) (v:Value) (gap:Bool) (pre:List (List S.Tk)) (cur:List S.Tk),n - i<=gg/\aj (RI W2 H src i line v gap pre cur wr))
 case atStart=>exact ⟨0,1,_,_,_,_,by omega,HIN⟩
 case round =>
  obtain ⟨i,line,v,gap,pre,cur,hg,HI⟩:=hrel;clear HIN;have hR:=HI.out.rd;have hin:i<=n:=by have:=HI.out.hi;have:=HN.out;omega
  obtain ⟨hl1,hl2⟩:=HI.out.hl;have hlen:=HI.out.len;have hLL:(pre.flatten++cur).length<=100000:=by rw [List.length_append];omega
  have c0:=hR.c0;have c1:=hR.c1;have c2:=hR.c2;have c3:=hR.c3;have c4:=hR.c4;have c5:=hR.c5;have mE:=aj.mk hR;clear hR;by_cases hlt:i < n
  rotate_left
  ·have hltz:¬ (i:Int) < (n:Int):=by omega
   have hie:i=n:=by omega
   subst hie;have bS:=aj.mk (HI.out.fin HN.out);have HC:=Lib.hid (continued.calls H (H+1) src i line v pre.flatten.length gap (pre.flatten++cur) wr mE.out HI.out.own (Nat.lt_succ_self _) (by omega) HI.out.DR);rw [RJ,XD] at HC;obtain ⟨cm,hcm⟩:∃ cm,S.comma cur=cm:=⟨_,rfl⟩;rw [hcm] at HC;clear hcm;have hcl:(S.cut cur).length<=cur.length:=by
    unfold S.cut;split
    ·rw [List.length_dropLast];omega
    ·exact Nat.le_refl _
   go_upto_region 27 with (go_at_call 81;refine HC.out.mono ?_;rintro en w2 ⟨rfl,v2,hR,hO,hb2,hv2⟩)
   have kJ:But (fun k=>H<=k) wr w2:=hb2.mono (fun k _ e=>by rw [e];exact Nat.le_refl _);clear c0 c1 c2 c3 c4 c5 HC hb2 hv2;have HR:=aj.mk hR;have HO:=aj.mk hO;have kE:=aj.mk kJ;clear hR hO kJ;have hR:=HR.out;have c0:=hR.c0;have c1:=hR.c1;have c2:=hR.c2;have c3:=hR.c3;have c4:=hR.c4;have c5:=hR.c5;clear hR;have tL:=Lib.hid (closed.calls H (H+1) src i line v2 pre.flatten.length gap (pre.flatten++S.cut cur) i i line w2 HR.out HO.out (Nat.lt_succ_self _) (by rw [List.length_append];omega) (by rw [List.length_append];omega));rw [MR] at tL;obtain ⟨L3,hL3⟩:∃ L3,pre.flatten++(S.emit (S.cut cur) i i line).flatten=L3:=⟨_,rfl⟩;rw [hL3] at tL bS;clear hL3;go_upto_region 28 with (go_at_call 82;refine tL.out.mono ?_;rintro en wx ⟨rfl,v4,hR,hO,hb4,hv4⟩)
   have kJ:But (fun k=>H<=k) wr wx:=kE.out.trans hb4 (fun _ _ e=>e) (fun k _ e=>by
    rcases e with e | e
    ·rw [e];exact Nat.le_refl _
    ·have:=(HO.out.lt k e).1;omega)
   clear HR HO kE tL hb4 hv4 c0 c1 c2 c3 c4 c5;have HR:=aj.mk hR;have HO:=aj.mk hO;have kE:=aj.mk kJ;clear hR hO kJ;have hR:=HR.out;have c0:=hR.c0;have c1:=hR.c1;have c2:=hR.c2;have c3:=hR.c3;have c4:=hR.c4;have c5:=hR.c5;clear hR;have hHX:H < H+1:=Nat.lt_succ_self _;obtain ⟨X,hX0⟩:∃ X,X=H+1:=⟨_,rfl⟩;rw [<- hX0] at hHX;have qW:=((HI.out.but.trans' kE.out).block B (by have:=VG.out;have:=pU.out;omega) (by have:=pU.out;omega)).trans HB1.out;have tJ:=((HI.out.but.trans' kE.out).block (B+1) (by have:=VG.out;have:=pU.out;omega) (by have:=pU.out;omega)).trans HB2.out;have b0_:wx.cell? ⟨B,0,none⟩=some (.string ⟨#[]⟩):=(au qW 0).trans rfl;have f0_:=aA qW 0;have b1_:wx.cell? ⟨B,1,none⟩=some (.int .i64 0):=(au qW 1).trans rfl;have f1_:=aA qW 1;have b2_:wx.cell? ⟨B,2,none⟩=some (.int .i64 0):=(au qW 2).trans rfl;have f2_:=aA qW 2;have b3_:wx.cell? ⟨B,3,none⟩=some (.slice none 0 0):=(au qW 3).trans rfl;have f3_:=aA qW 3;have b4_:wx.cell? ⟨B,4,none⟩=some (.int .i64 0):=(au qW 4).trans rfl;have f4_:=aA qW 4;have b5_:wx.cell? ⟨B,5,none⟩=some (.bool false):=(au qW 5).trans rfl;have f5_:=aA qW 5;have p0_:wx.cell? ⟨B+1,0,none⟩=some (.int .i64 0):=(au tJ 0).trans rfl;have g0_:=aA tJ 0;have p1_:wx.cell? ⟨B+1,1,none⟩=some (.string ⟨#[]⟩):=(au tJ 1).trans rfl;have g1_:=aA tJ 1;have p2_:wx.cell? ⟨B+1,2,none⟩=some (.int .i64 0):=(au tJ 2).trans rfl;have g2_:=aA tJ 2;have p3_:wx.cell? ⟨B+1,3,none⟩=some (.int .i64 0):=(au tJ 3).trans rfl;have g3_:=aA tJ 3;have p4_:wx.cell? ⟨B+1,4,none⟩=some (.int .i64 0):=(au tJ 4).trans rfl;have g4_:=aA tJ 4;obtain ⟨A,cc,rfl,-⟩:=jY HO.out;obtain ⟨LN,RP⟩:∃ LN,L3.length=LN:=⟨_,rfl⟩;obtain ⟨FN,XE⟩:∃ FN,L3.length=FN:=⟨_,rfl⟩;rw [RP] at c3;rw [XE] at c4;have e1_:¬ X=B:=by have:=pU.out;omega
   have e2_:¬ B=X:=by have:=pU.out;omega
   have e3_:¬ X=B+1:=by have:=pU.out;omega
   have e4_:¬ B+1=X:=by have:=pU.out;omega
   have e5_:¬ H=B:=by have:=pU.out;omega
   have e6_:¬ B=H:=by have:=pU.out;omega
   have e7_:¬ H=B+1:=by have:=pU.out;omega
   have e8_:¬ B+1=H:=by have:=pU.out;omega
   have HLN:=aj.mk RP;have HZB:=aj.mk qW;have HZP:=aj.mk tJ;clear RP XE qW tJ hlen hLL;have tZ:aj (S.tokens (bytesOf src)=L3):=⟨bS.out.2⟩;have Lh:aj (tN (S.scan (bytesOf src)).err=(0:Int)):=⟨by rw [bS.out.1];rfl⟩;have HEL:aj (wB (S.scan (bytesOf src)).err=(0:Int)):=⟨by rw [bS.out.1];rfl⟩;have HDN:aj (wx.ownsRow (H+1) 53 6 (.slice A LN cc) L3.length (dV L3)):=⟨by have:=HO.out;rw [HLN.out] at this |-;exact this⟩;clear bS;go_wp2_with fail
   exact RO LY.out pU.out HB0.out (HI.out.but.trans' kE.out) VG.out HZB.out HZP.out HDN.out tZ.out _ _ _ _ _ _ _ _ _ Lh.out HEL.out _ rfl rfl
  have hltz:(i:Int) < (n:Int):=by omega
  have hls:i < src.size:=by have:=HN.out;omega
  have hz0:(0:Int)<=(i:Int):=by omega
  have hx:((src[i]'hls).toNat:Int)=bt src (i:Int):=by simp [bt,hls]
  have hdr:=iL src hls;have VH:=yt src ⟨#[47,42]⟩ i (by omega) (by have:=HN.out;omega) (by decide);have adK:(bytesOf ⟨#[47,42]⟩).isPrefixOf ((bytesOf src).drop i)=S.gV ((bytesOf src).drop i):=by
   rw [show bytesOf ⟨#[47,42]⟩=[47,42] from rfl,hdr];cases hd:(bytesOf src).drop (i+1) with
   | nil=>simp [List.isPrefixOf,S.gV]
   | cons a b=>rw [FM];rfl
  rw [adK] at VH;obtain ⟨nt,hnt⟩:∃ nt,S.gV ((bytesOf src).drop i)=nt:=⟨_,rfl⟩;rw [hnt] at VH;have HST:=Lib.hid (fun W=>bI.calls src (i:Int) ⟨#[47,42]⟩ nt W VH);obtain ⟨x,hbx⟩:∃ x,bt src (i:Int)=x:=⟨_,rfl⟩;rw [hbx] at hx hdr;have HNT:=aj.mk hnt;have HDR:=aj.mk hdr;have HBX:=aj.mk hbx;have hw1:IntKind.i64.wrap ((i:Int)+1)=((i+1:Nat):Int):=by rw [vC _ (by omega) (by omega)];omega
  have hwl:IntKind.i64.wrap ((line:Int)+1)=((line+1:Nat):Int):=by rw [vC _ (by omega) (by omega)];omega
  clear VH adK hnt hdr hbx;by_cases h10:x=10
  ·have b1:(x==10)=true:=beq_iff_eq.2 h10
   have hxs:S.step ((bytesOf src).drop i)=.line:=by rw [HDR.out,h10];simp [S.step]
   have Gr:=aj.mk hxs;have HC:=Lib.hid (fun q:Nat=>continued.calls H (H+1) src i line v pre.flatten.length gap (pre.flatten++cur) (wr.drewN q) mE.out HI.out.own (Nat.lt_succ_self _) (by omega) HI.out.DR);rw [RJ,XD] at HC;obtain ⟨cm,hcm⟩:∃ cm,S.comma cur=cm:=⟨_,rfl⟩;rw [hcm] at HC;have HCM:=aj.mk hcm;clear hxs hcm;go_upto_region 12 with (first | (go_at_call 80;refine (HST.out _).mono ?_;rintro en w1 ⟨rfl,⟨q,rfl⟩⟩) | (go_at_call 81;refine (HC.out q).mono ?_;rintro en w2 ⟨rfl,v2,hR,hO,hb2,hv2⟩))
   have kJ:But (fun k=>H<=k) wr w2:=((But.refl _ wr).drewN q).trans hb2 (fun _ _ e=>e) (fun k _ e=>by rw [e];exact Nat.le_refl _);clear c0 c1 c2 c3 c4 c5 HC hb2 hv2;have HR:=aj.mk hR;have HO:=aj.mk hO;have kE:=aj.mk kJ;clear hR hO kJ;cases cm with
   | true =>
    have aac:aj (S.cut cur=cur.dropLast):=⟨by unfold S.cut;rw [HCM.out,if_pos rfl]⟩;rw [aac.out] at HO;have hR:=HR.out;have c0:=hR.c0;have c1:=hR.c1;have c2:=hR.c2;have c3:=hR.c3;have c4:=hR.c4;have c5:=hR.c5;clear hR;go_upto_region 14 with (fail)
    have qf:=HR.out.fr 5;go_upto_region 15 with (fail)
    have hR:=HR.out.Ob (true);have hO:=dn HO.out ((But.refl (·=H) w2).set ⟨H,5,none⟩ (.bool true) rfl) (fun k e h=>by have:=(HO.out.lt k h).1;omega);have kJ:=kE.out.set ⟨H,5,none⟩ (.bool true) (Nat.le_refl _);clear HR HO kE c0 c1 c2 c3 c4 c5 qf;generalize w2.setCell ⟨H,5,none⟩ (.bool true)=wa at *;have c0:=hR.c0;have c1:=hR.c1;have c2:=hR.c2;have c3:=hR.c3;have c4:=hR.c4;have c5:=hR.c5;have HR:=aj.mk hR;have HO:=aj.mk hO;have kE:=aj.mk kJ;clear hR hO kJ;have qf:=HR.out.fr 1;go_upto_region 16 with (fail)
    have hR:=HR.out.set1 ((i:Int)+1);have hO:=dn HO.out ((But.refl (·=H) wa).set ⟨H,1,none⟩ (.int .i64 ((i:Int)+1)) rfl) (fun k e h=>by have:=(HO.out.lt k h).1;omega);have kJ:=kE.out.set ⟨H,1,none⟩ (.int .i64 ((i:Int)+1)) (Nat.le_refl _);clear HR HO kE c0 c1 c2 c3 c4 c5 qf;generalize wa.setCell ⟨H,1,none⟩ (.int .i64 ((i:Int)+1))=wb at *;have c0:=hR.c0;have c1:=hR.c1;have c2:=hR.c2;have c3:=hR.c3;have c4:=hR.c4;have c5:=hR.c5;have HR:=aj.mk hR;have HO:=aj.mk hO;have kE:=aj.mk kJ;clear hR hO kJ;have qf:=HR.out.fr 2;go_wp2_with fail
    have hR:=HR.out.set2 ((line:Int)+1);have hO:=dn HO.out ((But.refl (·=H) wb).set ⟨H,2,none⟩ (.int .i64 ((line:Int)+1)) rfl) (fun k e h=>by have:=(HO.out.lt k h).1;omega);have kJ:=kE.out.set ⟨H,2,none⟩ (.int .i64 ((line:Int)+1)) (Nat.le_refl _);clear HR HO kE c0 c1 c2 c3 c4 c5 qf;generalize wb.setCell ⟨H,2,none⟩ (.int .i64 ((line:Int)+1))=wc at *;have c0:=hR.c0;have c1:=hR.c1;have c2:=hR.c2;have c3:=hR.c3;have c4:=hR.c4;have c5:=hR.c5;have HR:=aj.mk hR;have HO:=aj.mk hO;have kE:=aj.mk kJ;clear hR hO kJ;go_roundg (n - (i+1))
    case measure=>omega
    case rel =>
     refine ⟨i+1,line+1,v2,true,pre,cur.dropLast,by omega,⟨HI.out.on (n:=1) (dl:=1) HR.out HO.out kE.out (Nat.le_refl _) (by omega) (Nat.le_refl _) (by rw [List.length_dropLast];omega) (fun t ht=>?_) (fun f=>?_)⟩⟩
     ·rcases List.mem_append.1 ht with e | e
      ·exact HI.out.DR t (List.mem_append_left _ e)
      ·exact HI.out.DR t (List.mem_append_right _ ((List.dropLast_sublist _).subset e))
     ·rw [S.go,Gr.out];simp only;rw [if_pos HCM.out]
   | false =>
    have aac:aj (S.cut cur=cur):=⟨by unfold S.cut;rw [HCM.out,if_neg Bool.false_ne_true]⟩;rw [aac.out] at HO;have hR:=HR.out;have c0:=hR.c0;have c1:=hR.c1;have c2:=hR.c2;have c3:=hR.c3;have c4:=hR.c4;have c5:=hR.c5;clear hR;have tL:=Lib.hid (closed.calls H (H+1) src i line v2 pre.flatten.length gap (pre.flatten++cur) i (i+1) line w2 HR.out HO.out (Nat.lt_succ_self _) (by omega) (by rw [List.length_append];omega));rw [MR] at tL;obtain ⟨E,hE⟩:∃ E,S.emit cur i (i+1) line=E:=⟨_,rfl⟩;have HE:=aj.mk hE;rw [hE] at tL;clear hE;go_upto_region 14 with (go_at_call 82;refine tL.out.mono ?_;rintro en w4 ⟨rfl,v4,hR,hO,hb4,hv4⟩)
    have kJ:But (fun k=>H<=k) wr w4:=kE.out.trans hb4 (fun _ _ e=>e) (fun k _ e=>by
     rcases e with e | e
     ·rw [e];exact Nat.le_refl _
     ·have:=(HO.out.lt k e).1;omega)
    have hPE:(pre++E).flatten=pre.flatten++E.flatten:=List.flatten_append;rw [<- hPE] at hR hO;clear HR HO kE tL hb4 hv4 c0 c1 c2 c3 c4 c5;have HR:=aj.mk hR;have HO:=aj.mk hO;have kE:=aj.mk kJ;clear hR hO kJ;have hR:=HR.out;have c0:=hR.c0;have c1:=hR.c1;have c2:=hR.c2;have c3:=hR.c3;have c4:=hR.c4;have c5:=hR.c5;clear hR;have qf:=HR.out.fr 5;go_upto_region 15 with (fail)
    have hR:=HR.out.Ob (false);have hO:=dn HO.out ((But.refl (·=H) w4).set ⟨H,5,none⟩ (.bool false) rfl) (fun k e h=>by have:=(HO.out.lt k h).1;omega);have kJ:=kE.out.set ⟨H,5,none⟩ (.bool false) (Nat.le_refl _);clear HR HO kE c0 c1 c2 c3 c4 c5 qf;generalize w4.setCell ⟨H,5,none⟩ (.bool false)=wa at *;have c0:=hR.c0;have c1:=hR.c1;have c2:=hR.c2;have c3:=hR.c3;have c4:=hR.c4;have c5:=hR.c5;have HR:=aj.mk hR;have HO:=aj.mk hO;have kE:=aj.mk kJ;clear hR hO kJ;have qf:=HR.out.fr 1;go_upto_region 16 with (fail)
    have hR:=HR.out.set1 ((i:Int)+1);have hO:=dn HO.out ((But.refl (·=H) wa).set ⟨H,1,none⟩ (.int .i64 ((i:Int)+1)) rfl) (fun k e h=>by have:=(HO.out.lt k h).1;omega);have kJ:=kE.out.set ⟨H,1,none⟩ (.int .i64 ((i:Int)+1)) (Nat.le_refl _);clear HR HO kE c0 c1 c2 c3 c4 c5 qf;generalize wa.setCell ⟨H,1,none⟩ (.int .i64 ((i:Int)+1))=wb at *;have c0:=hR.c0;have c1:=hR.c1;have c2:=hR.c2;have c3:=hR.c3;have c4:=hR.c4;have c5:=hR.c5;have HR:=aj.mk hR;have HO:=aj.mk hO;have kE:=aj.mk kJ;clear hR hO kJ;have qf:=HR.out.fr 2;go_wp2_with fail
    have hR:=HR.out.set2 ((line:Int)+1);have hO:=dn HO.out ((But.refl (·=H) wb).set ⟨H,2,none⟩ (.int .i64 ((line:Int)+1)) rfl) (fun k e h=>by have:=(HO.out.lt k h).1;omega);have kJ:=kE.out.set ⟨H,2,none⟩ (.int .i64 ((line:Int)+1)) (Nat.le_refl _);clear HR HO kE c0 c1 c2 c3 c4 c5 qf;generalize wb.setCell ⟨H,2,none⟩ (.int .i64 ((line:Int)+1))=wc at *;have c0:=hR.c0;have c1:=hR.c1;have c2:=hR.c2;have c3:=hR.c3;have c4:=hR.c4;have c5:=hR.c5;have HR:=aj.mk hR;have HO:=aj.mk hO;have kE:=aj.mk kJ;clear hR hO kJ;go_roundg (n - (i+1))
    case measure=>omega
    case rel =>
     refine ⟨i+1,line+1,v4,false,pre++E,[],by omega,⟨HI.out.on (n:=1) (dl:=1) HR.out (by rw [List.append_nil];exact HO.out) kE.out (Nat.le_refl _) (by omega) (Nat.le_refl _) ?_ (fun t ht=>?_) (fun f=>?_)⟩⟩
     ·have:=zq cur i (i+1) line
      rw [HE.out] at this;rw [List.flatten_append,List.length_append];simp only [List.length_nil];omega
     ·rw [List.append_nil,List.flatten_append] at ht
      rcases List.mem_append.1 ht with e | e
      ·exact HI.out.DR t (List.mem_append_left _ e)
      ·rw [<- HE.out] at e
       exact uG (fun t ht=>HI.out.DR t (List.mem_append_right _ ht)) _ _ _ t e
     ·rw [S.go,Gr.out];simp only;rw [if_neg (by rw [HCM.out];exact Bool.false_ne_true),S.qy,HE.out]
  have b1:(x==10)=false:=beq_eq_false_iff_ne.2 h10;by_cases h32:x=32
  ·have b2:(x==32)=true:=beq_iff_eq.2 h32
   have hxs:S.step ((bytesOf src).drop i)=.blank:=by rw [HDR.out,h32];simp [S.step]
   have Gr:=aj.mk hxs;clear hxs;go_upto_region 18 with (go_at_call 80;refine (HST.out _).mono ?_;rintro en w1 ⟨rfl,⟨q,rfl⟩⟩)
   have hR:nK H src i line v pre.flatten.length gap (wr.drewN q):=mE.out;have hO:(wr.drewN q).ownsRow (H+1) 53 6 v (pre.flatten++cur).length (dV (pre.flatten++cur)):=HI.out.own;have kJ:But (fun k=>H<=k) wr (wr.drewN q):=(But.refl _ wr).drewN q;clear c0 c1 c2 c3 c4 c5;generalize wr.drewN q=wq at *;have HR:=aj.mk hR;have HO:=aj.mk hO;have kE:=aj.mk kJ;clear hR hO kJ;have hR:=HR.out;have c0:=hR.c0;have c1:=hR.c1;have c2:=hR.c2;have c3:=hR.c3;have c4:=hR.c4;have c5:=hR.c5;clear hR;have qf:=HR.out.fr 5;go_upto_region 19 with (fail)
   have hR:=HR.out.Ob (true);have hO:=dn HO.out ((But.refl (·=H) wq).set ⟨H,5,none⟩ (.bool true) rfl) (fun k e h=>by have:=(HO.out.lt k h).1;omega);have kJ:=kE.out.set ⟨H,5,none⟩ (.bool true) (Nat.le_refl _);clear HR HO kE c0 c1 c2 c3 c4 c5 qf;generalize wq.setCell ⟨H,5,none⟩ (.bool true)=wa at *;have c0:=hR.c0;have c1:=hR.c1;have c2:=hR.c2;have c3:=hR.c3;have c4:=hR.c4;have c5:=hR.c5;have HR:=aj.mk hR;have HO:=aj.mk hO;have kE:=aj.mk kJ;clear hR hO kJ;have qf:=HR.out.fr 1;go_wp2_with fail
   have hR:=HR.out.set1 ((i:Int)+1);have hO:=dn HO.out ((But.refl (·=H) wa).set ⟨H,1,none⟩ (.int .i64 ((i:Int)+1)) rfl) (fun k e h=>by have:=(HO.out.lt k h).1;omega);have kJ:=kE.out.set ⟨H,1,none⟩ (.int .i64 ((i:Int)+1)) (Nat.le_refl _);clear HR HO kE c0 c1 c2 c3 c4 c5 qf;generalize wa.setCell ⟨H,1,none⟩ (.int .i64 ((i:Int)+1))=wb at *;have c0:=hR.c0;have c1:=hR.c1;have c2:=hR.c2;have c3:=hR.c3;have c4:=hR.c4;have c5:=hR.c5;have HR:=aj.mk hR;have HO:=aj.mk hO;have kE:=aj.mk kJ;clear hR hO kJ;go_roundg (n - (i+1))
   case measure=>omega
   case rel =>
    refine ⟨i+1,line,v,true,pre,cur,by omega,⟨HI.out.on (n:=1) (dl:=0) HR.out HO.out kE.out (Nat.le_refl _) (by omega) (Nat.zero_le _) (by omega) HI.out.DR (fun f=>?_)⟩⟩;rw [S.go,Gr.out];rfl
  have b2:(x==32)=false:=beq_eq_false_iff_ne.2 h32;cases nt with
  | true =>
   have hxs:S.step ((bytesOf src).drop i)=S.kT (S.lV ((bytesOf src).drop i) 0 0 1 0):=by
    have:=HNT.out;rw [HDR.out] at this |-
    simp only [S.step];rw [if_neg h10,if_neg h32,if_pos this]
   have hpc:=RA src (by have:=HN.out;omega) i line (by omega) hl1 (by omega) HNT.out (3*src.size+11) (by omega);rw [<- hxs] at hpc;obtain ⟨st,hst⟩:∃ st,S.step ((bytesOf src).drop i)=st:=⟨_,rfl⟩;rw [hst] at hpc;have Gr:=aj.mk hst;clear hxs;cases st with
   | fin=>exact hpc.elim
   | line=>exact hpc.elim
   | blank=>exact hpc.elim
   | tok k t e=>exact hpc.elim
   | err c dl =>
    have hc0:=S.BM hst;have HCM:=Lib.hid (fun W=>aJ.calls _ src (i:Int) (line:Int) _ _ _ _ _ W hpc);have g3:(((c:Nat):Int) != 0)=true:=bne_iff_ne.2 (by omega);clear hst hpc;go_upto_region 21 with (go_at_call 80;refine (HST.out _).mono ?_;rintro en w1 ⟨rfl,⟨q,rfl⟩⟩)
    have hR:nK H src i line v pre.flatten.length gap (wr.drewN q):=mE.out;have hO:(wr.drewN q).ownsRow (H+1) 53 6 v (pre.flatten++cur).length (dV (pre.flatten++cur)):=HI.out.own;have kJ:But (fun k=>H<=k) wr (wr.drewN q):=(But.refl _ wr).drewN q;clear c0 c1 c2 c3 c4 c5;generalize wr.drewN q=wq at *;have HR:=aj.mk hR;have HO:=aj.mk hO;have kE:=aj.mk kJ;clear hR hO kJ;have hR:=HR.out;have c0:=hR.c0;have c1:=hR.c1;have c2:=hR.c2;have c3:=hR.c3;have c4:=hR.c4;have c5:=hR.c5;clear hR;go_upto_region 22 with (go_at_call 83;refine (HCM.out _).mono ?_;rintro en w2 ⟨rfl,hb2⟩)
    have hbx:But (fun _=>False) wq (w2.alloc (.cells #[.int .i64 0,.string ⟨#[]⟩,.int .i64 0,.int .i64 c,.int .i64 ((line:Int)+(dl:Int))] 82)):=(But.of_below hb2).alloc _;have hR:=HR.out.but hbx (fun e=>e);have hO:=dn HO.out hbx (fun k e=>e.elim);have kJ:=kE.out.trans' (hbx.mono (fun _ _ e=>e.elim));have hX:=heap_alloc_new w2 (.cells #[.int .i64 0,.string ⟨#[]⟩,.int .i64 0,.int .i64 c,.int .i64 ((line:Int)+(dl:Int))] 82);obtain ⟨X,RQ⟩:∃ X,w2.heap.size=X:=⟨_,rfl⟩;have hHX:H < X:=by have:=HR.out.lt;have:=hb2.size;omega
    rw [RQ] at hX |-
    have HVX:aj (∀ k,v.ownBlock=some k->k < X):=⟨fun k e=>by have:=(HO.out.lt k e).2;have:=hb2.size;omega⟩;clear HR HO kE c0 c1 c2 c3 c4 c5 hbx RQ;generalize w2.alloc (.cells #[.int .i64 0,.string ⟨#[]⟩,.int .i64 0,.int .i64 c,.int .i64 ((line:Int)+(dl:Int))] 82)=wx at *;have c0:=hR.c0;have c1:=hR.c1;have c2:=hR.c2;have c3:=hR.c3;have c4:=hR.c4;have c5:=hR.c5;have x0:wx.cell? ⟨X,0,none⟩=some (.int .i64 0):=(au hX 0).trans rfl;have x1:wx.cell? ⟨X,1,none⟩=some (.string ⟨#[]⟩):=(au hX 1).trans rfl;have x2:wx.cell? ⟨X,2,none⟩=some (.int .i64 0):=(au hX 2).trans rfl;have x3:wx.cell? ⟨X,3,none⟩=some (.int .i64 c):=(au hX 3).trans rfl;have x4:wx.cell? ⟨X,4,none⟩=some (.int .i64 ((line:Int)+(dl:Int))):=(au hX 4).trans rfl;have HR:=aj.mk hR;have HO:=aj.mk hO;have kE:=aj.mk kJ;have HX:=aj.mk hX;clear hR hO kJ hX;have qW:=((HI.out.but.trans' kE.out).block B (by have:=VG.out;have:=pU.out;omega) (by have:=pU.out;omega)).trans HB1.out;have tJ:=((HI.out.but.trans' kE.out).block (B+1) (by have:=VG.out;have:=pU.out;omega) (by have:=pU.out;omega)).trans HB2.out;have b0_:wx.cell? ⟨B,0,none⟩=some (.string ⟨#[]⟩):=(au qW 0).trans rfl;have f0_:=aA qW 0;have b1_:wx.cell? ⟨B,1,none⟩=some (.int .i64 0):=(au qW 1).trans rfl;have f1_:=aA qW 1;have b2_:wx.cell? ⟨B,2,none⟩=some (.int .i64 0):=(au qW 2).trans rfl;have f2_:=aA qW 2;have b3_:wx.cell? ⟨B,3,none⟩=some (.slice none 0 0):=(au qW 3).trans rfl;have f3_:=aA qW 3;have b4_:wx.cell? ⟨B,4,none⟩=some (.int .i64 0):=(au qW 4).trans rfl;have f4_:=aA qW 4;have b5_:wx.cell? ⟨B,5,none⟩=some (.bool false):=(au qW 5).trans rfl;have f5_:=aA qW 5;have p0_:wx.cell? ⟨B+1,0,none⟩=some (.int .i64 0):=(au tJ 0).trans rfl;have g0_:=aA tJ 0;have p1_:wx.cell? ⟨B+1,1,none⟩=some (.string ⟨#[]⟩):=(au tJ 1).trans rfl;have g1_:=aA tJ 1;have p2_:wx.cell? ⟨B+1,2,none⟩=some (.int .i64 0):=(au tJ 2).trans rfl;have g2_:=aA tJ 2;have p3_:wx.cell? ⟨B+1,3,none⟩=some (.int .i64 0):=(au tJ 3).trans rfl;have g3_:=aA tJ 3;have p4_:wx.cell? ⟨B+1,4,none⟩=some (.int .i64 0):=(au tJ 4).trans rfl;have g4_:=aA tJ 4;obtain ⟨A,cc,rfl,-⟩:=jY HO.out;obtain ⟨LN,RP⟩:∃ LN,(pre.flatten++cur).length=LN:=⟨_,rfl⟩;obtain ⟨FN,XE⟩:∃ FN,pre.flatten.length=FN:=⟨_,rfl⟩;rw [RP] at c3;rw [XE] at c4;have e1_:¬ X=B:=by have:=pU.out;omega
    have e2_:¬ B=X:=by have:=pU.out;omega
    have e3_:¬ X=B+1:=by have:=pU.out;omega
    have e4_:¬ B+1=X:=by have:=pU.out;omega
    have e5_:¬ H=B:=by have:=pU.out;omega
    have e6_:¬ B=H:=by have:=pU.out;omega
    have e7_:¬ H=B+1:=by have:=pU.out;omega
    have e8_:¬ B+1=H:=by have:=pU.out;omega
    have HLN:=aj.mk RP;have HZB:=aj.mk qW;have HZP:=aj.mk tJ;clear RP XE qW tJ hlen hLL;have tZ:aj (S.tokens (bytesOf src)=pre.flatten++cur):=⟨(HI.out.err Gr.out).2⟩;have Lh:aj (tN (S.scan (bytesOf src)).err=(c:Int)):=⟨by rw [(HI.out.err Gr.out).1];rfl⟩;have HEL:aj (wB (S.scan (bytesOf src)).err=(line:Int)+(dl:Int)):=⟨by rw [(HI.out.err Gr.out).1];show ((line+dl:Nat):Int)=_;omega⟩;have HDN:aj (wx.ownsRow (H+1) 53 6 (.slice A LN cc) (pre.flatten++cur).length (dV (pre.flatten++cur))):=⟨by have:=HO.out;rw [HLN.out] at this |-;exact this⟩;go_upto_region 23 with (fail)
    go_region
    all_goals go_wp2_with fail
    all_goals exact FT LY.out pU.out HB0.out (HI.out.but.trans' kE.out) VG.out HZB.out HZP.out HDN.out tZ.out _ _ _ _ _ _ _ _ _ Lh.out HEL.out 1 _ rfl rfl
   | lV e dl =>
    obtain ⟨hpc,hdl⟩:=hpc;obtain ⟨e1,e2,e3⟩:=S.Ho hst;rw [List.length_drop,bytesOf_length] at e2;have HCM:=Lib.hid (fun W=>aJ.calls _ src (i:Int) (line:Int) _ _ _ _ _ W hpc);have hli:=Vz (src.extract i (i+e)) (by rw [ByteArray.size_extract];omega) (src.size+1) (by rw [ByteArray.size_extract];omega);rw [iT,Nat.add_sub_cancel_left,<- hdl] at hli;have HLI:=Lib.hid (fun W=>dA.calls _ (src.extract i (i+e)) (dl:Int) W hli);have hie:i+e<=n:=by have:=HN.out;omega
    clear hst hpc hdl hli;go_upto_region 21 with (go_at_call 80;refine (HST.out _).mono ?_;rintro en w1 ⟨rfl,⟨q,rfl⟩⟩)
    have hR:nK H src i line v pre.flatten.length gap (wr.drewN q):=mE.out;have hO:(wr.drewN q).ownsRow (H+1) 53 6 v (pre.flatten++cur).length (dV (pre.flatten++cur)):=HI.out.own;have kJ:But (fun k=>H<=k) wr (wr.drewN q):=(But.refl _ wr).drewN q;clear c0 c1 c2 c3 c4 c5;generalize wr.drewN q=wq at *;have HR:=aj.mk hR;have HO:=aj.mk hO;have kE:=aj.mk kJ;clear hR hO kJ;have hR:=HR.out;have c0:=hR.c0;have c1:=hR.c1;have c2:=hR.c2;have c3:=hR.c3;have c4:=hR.c4;have c5:=hR.c5;clear hR;go_upto_region 22 with (go_at_call 83;refine (HCM.out _).mono ?_;rintro en w2 ⟨rfl,hb2⟩)
    have hbx:But (fun _=>False) wq (w2.alloc (.cells #[.int .i64 0,.string ⟨#[]⟩,.int .i64 ((i:Int)+(e:Int)),.int .i64 0,.int .i64 0] 82)):=(But.of_below hb2).alloc _;have hR:=HR.out.but hbx (fun e=>e);have hO:=dn HO.out hbx (fun k e=>e.elim);have kJ:=kE.out.trans' (hbx.mono (fun _ _ e=>e.elim));have hX:=heap_alloc_new w2 (.cells #[.int .i64 0,.string ⟨#[]⟩,.int .i64 ((i:Int)+(e:Int)),.int .i64 0,.int .i64 0] 82);obtain ⟨X,RQ⟩:∃ X,w2.heap.size=X:=⟨_,rfl⟩;have hHX:H < X:=by have:=HR.out.lt;have:=hb2.size;omega
    rw [RQ] at hX |-
    have HVX:aj (∀ k,v.ownBlock=some k->k < X):=⟨fun k e=>by have:=(HO.out.lt k e).2;have:=hb2.size;omega⟩;clear HR HO kE c0 c1 c2 c3 c4 c5 hbx RQ;generalize w2.alloc (.cells #[.int .i64 0,.string ⟨#[]⟩,.int .i64 ((i:Int)+(e:Int)),.int .i64 0,.int .i64 0] 82)=wx at *;have c0:=hR.c0;have c1:=hR.c1;have c2:=hR.c2;have c3:=hR.c3;have c4:=hR.c4;have c5:=hR.c5;have x0:wx.cell? ⟨X,0,none⟩=some (.int .i64 0):=(au hX 0).trans rfl;have x1:wx.cell? ⟨X,1,none⟩=some (.string ⟨#[]⟩):=(au hX 1).trans rfl;have x2:wx.cell? ⟨X,2,none⟩=some (.int .i64 ((i:Int)+(e:Int))):=(au hX 2).trans rfl;have x3:wx.cell? ⟨X,3,none⟩=some (.int .i64 0):=(au hX 3).trans rfl;have x4:wx.cell? ⟨X,4,none⟩=some (.int .i64 0):=(au hX 4).trans rfl;have HR:=aj.mk hR;have HO:=aj.mk hO;have kE:=aj.mk kJ;have HX:=aj.mk hX;clear hR hO kJ hX;have q1:(i:Int)<=(i:Int)+(e:Int):=by omega
    have q2:(i:Int)+(e:Int)<=(n:Int):=by omega
    have q3:(0:Int)<=(i:Int)+(e:Int):=by omega
    have q4:IntKind.i64.wrap ((line:Int)+(dl:Int))=(line:Int)+(dl:Int):=vC _ (by omega) (by omega);have qt:((i:Int)+(e:Int)).toNat=i+e:=by omega
    have qf:=HR.out.fr 2;go_upto_region 24 with (fail)
    go_region_with ((go_at_call 84;refine (HLI.out _).mono ?_;rintro en w5 ⟨rfl,⟨q5,rfl⟩⟩))
    all_goals
     have hR:=(HR.out.drewN (1+q5)).set2 ((line:Int)+(dl:Int));have hO:=dn HO.out (((But.refl (·=H) wx).drewN (1+q5)).set ⟨H,2,none⟩ (.int .i64 ((line:Int)+(dl:Int))) rfl) (fun k e h=>by have:=(HO.out.lt k h).1;omega);have kJ:=(kE.out.drewN (1+q5)).set ⟨H,2,none⟩ (.int .i64 ((line:Int)+(dl:Int))) (Nat.le_refl _);have hX2:=((((But.refl (·=H) wx).drewN (1+q5)).set ⟨H,2,none⟩ (.int .i64 ((line:Int)+(dl:Int))) rfl).block X (Array.getElem?_eq_some_iff.1 HX.out).1 (by omega)).trans HX.out;clear HR HO kE HX c0 c1 c2 c3 c4 c5 x0 x1 x2 x3 x4 qf;generalize (wx.drewN (1+q5)).setCell ⟨H,2,none⟩ (.int .i64 ((line:Int)+(dl:Int)))=wa at *;have x2:wa.cell? ⟨X,2,none⟩=some (.int .i64 ((i:Int)+(e:Int))):=(au hX2 2).trans rfl;have c0:=hR.c0;have c1:=hR.c1;have c2:=hR.c2;have c3:=hR.c3;have c4:=hR.c4;have c5:=hR.c5;have HR:=aj.mk hR;have HO:=aj.mk hO;have kE:=aj.mk kJ;clear hR hO kJ hX2;have qf:=HR.out.fr 1;go_wp2_with fail
     have hR:=HR.out.set1 ((i:Int)+(e:Int));have hO:=dn HO.out ((But.refl (·=H) wa).set ⟨H,1,none⟩ (.int .i64 ((i:Int)+(e:Int))) rfl) (fun k e h=>by have:=(HO.out.lt k h).1;omega);have kJ:=kE.out.set ⟨H,1,none⟩ (.int .i64 ((i:Int)+(e:Int))) (Nat.le_refl _);clear HR HO kE c0 c1 c2 c3 c4 c5 qf;generalize wa.setCell ⟨H,1,none⟩ (.int .i64 ((i:Int)+(e:Int)))=wb at *;have c0:=hR.c0;have c1:=hR.c1;have c2:=hR.c2;have c3:=hR.c3;have c4:=hR.c4;have c5:=hR.c5;have HR:=aj.mk hR;have HO:=aj.mk hO;have kE:=aj.mk kJ;clear hR hO kJ;go_roundg (n - (i+e))
     case measure=>omega
     case rel =>
      refine ⟨i+e,line+dl,v,gap,pre,cur,by omega,⟨HI.out.on (n:=e) (dl:=dl) HR.out HO.out kE.out e1 (by omega) e3 (by omega) HI.out.DR (fun f=>?_)⟩⟩;rw [S.go,Gr.out]
  | false =>
   have hpc:=ZX src (by have:=HN.out;omega) i line hls (by rw [HBX.out];exact h10) (by rw [HBX.out];exact h32) HNT.out (8*src.size+3001) (by omega);obtain ⟨st,hst⟩:∃ st,S.step ((bytesOf src).drop i)=st:=⟨_,rfl⟩;rw [hst] at hpc;have Gr:=aj.mk hst;cases st with
   | fin=>exact hpc.elim
   | line=>exact hpc.elim
   | blank=>exact hpc.elim
   | lV e dl=>exact hpc.elim
   | err c dl =>
    obtain ⟨hpc,rfl⟩:=hpc;have hc0:=S.BM hst;have HPC:=Lib.hid (fun W=>aZ.calls _ src (i:Int) (line:Int) _ _ _ _ _ W hpc);have g3:(((c:Nat):Int) != 0)=true:=bne_iff_ne.2 (by omega);clear hst hpc;go_upto_region 5 with (go_at_call 80;refine (HST.out _).mono ?_;rintro en w1 ⟨rfl,⟨q,rfl⟩⟩)
    have hR:nK H src i line v pre.flatten.length gap (wr.drewN q):=mE.out;have hO:(wr.drewN q).ownsRow (H+1) 53 6 v (pre.flatten++cur).length (dV (pre.flatten++cur)):=HI.out.own;have kJ:But (fun k=>H<=k) wr (wr.drewN q):=(But.refl _ wr).drewN q;clear c0 c1 c2 c3 c4 c5;generalize wr.drewN q=wq at *;have HR:=aj.mk hR;have HO:=aj.mk hO;have kE:=aj.mk kJ;clear hR hO kJ;have hR:=HR.out;have c0:=hR.c0;have c1:=hR.c1;have c2:=hR.c2;have c3:=hR.c3;have c4:=hR.c4;have c5:=hR.c5;clear hR;go_upto_region 6 with (go_at_call 85;refine (HPC.out _).mono ?_;rintro en w2 ⟨rfl,hb2⟩)
    have hbx:But (fun _=>False) wq (w2.alloc (.cells #[.int .i64 0,.string ⟨#[]⟩,.int .i64 0,.int .i64 c,.int .i64 line] 82)):=(But.of_below hb2).alloc _;have hR:=HR.out.but hbx (fun e=>e);have hO:=dn HO.out hbx (fun k e=>e.elim);have kJ:=kE.out.trans' (hbx.mono (fun _ _ e=>e.elim));have hX:=heap_alloc_new w2 (.cells #[.int .i64 0,.string ⟨#[]⟩,.int .i64 0,.int .i64 c,.int .i64 line] 82);obtain ⟨X,RQ⟩:∃ X,w2.heap.size=X:=⟨_,rfl⟩;have hHX:H < X:=by have:=HR.out.lt;have:=hb2.size;omega
    rw [RQ] at hX |-
    have HVX:aj (∀ k,v.ownBlock=some k->k < X):=⟨fun k e=>by have:=(HO.out.lt k e).2;have:=hb2.size;omega⟩;clear HR HO kE c0 c1 c2 c3 c4 c5 hbx RQ;generalize w2.alloc (.cells #[.int .i64 0,.string ⟨#[]⟩,.int .i64 0,.int .i64 c,.int .i64 line] 82)=wx at *;have c0:=hR.c0;have c1:=hR.c1;have c2:=hR.c2;have c3:=hR.c3;have c4:=hR.c4;have c5:=hR.c5;have x0:wx.cell? ⟨X,0,none⟩=some (.int .i64 0):=(au hX 0).trans rfl;have x1:wx.cell? ⟨X,1,none⟩=some (.string ⟨#[]⟩):=(au hX 1).trans rfl;have x2:wx.cell? ⟨X,2,none⟩=some (.int .i64 0):=(au hX 2).trans rfl;have x3:wx.cell? ⟨X,3,none⟩=some (.int .i64 c):=(au hX 3).trans rfl;have x4:wx.cell? ⟨X,4,none⟩=some (.int .i64 line):=(au hX 4).trans rfl;have HR:=aj.mk hR;have HO:=aj.mk hO;have kE:=aj.mk kJ;have HX:=aj.mk hX;clear hR hO kJ hX;have qW:=((HI.out.but.trans' kE.out).block B (by have:=VG.out;have:=pU.out;omega) (by have:=pU.out;omega)).trans HB1.out;have tJ:=((HI.out.but.trans' kE.out).block (B+1) (by have:=VG.out;have:=pU.out;omega) (by have:=pU.out;omega)).trans HB2.out;have b0_:wx.cell? ⟨B,0,none⟩=some (.string ⟨#[]⟩):=(au qW 0).trans rfl;have f0_:=aA qW 0;have b1_:wx.cell? ⟨B,1,none⟩=some (.int .i64 0):=(au qW 1).trans rfl;have f1_:=aA qW 1;have b2_:wx.cell? ⟨B,2,none⟩=some (.int .i64 0):=(au qW 2).trans rfl;have f2_:=aA qW 2;have b3_:wx.cell? ⟨B,3,none⟩=some (.slice none 0 0):=(au qW 3).trans rfl;have f3_:=aA qW 3;have b4_:wx.cell? ⟨B,4,none⟩=some (.int .i64 0):=(au qW 4).trans rfl;have f4_:=aA qW 4;have b5_:wx.cell? ⟨B,5,none⟩=some (.bool false):=(au qW 5).trans rfl;have f5_:=aA qW 5;have p0_:wx.cell? ⟨B+1,0,none⟩=some (.int .i64 0):=(au tJ 0).trans rfl;have g0_:=aA tJ 0;have p1_:wx.cell? ⟨B+1,1,none⟩=some (.string ⟨#[]⟩):=(au tJ 1).trans rfl;have g1_:=aA tJ 1;have p2_:wx.cell? ⟨B+1,2,none⟩=some (.int .i64 0):=(au tJ 2).trans rfl;have g2_:=aA tJ 2;have p3_:wx.cell? ⟨B+1,3,none⟩=some (.int .i64 0):=(au tJ 3).trans rfl;have g3_:=aA tJ 3;have p4_:wx.cell? ⟨B+1,4,none⟩=some (.int .i64 0):=(au tJ 4).trans rfl;have g4_:=aA tJ 4;obtain ⟨A,cc,rfl,-⟩:=jY HO.out;obtain ⟨LN,RP⟩:∃ LN,(pre.flatten++cur).length=LN:=⟨_,rfl⟩;obtain ⟨FN,XE⟩:∃ FN,pre.flatten.length=FN:=⟨_,rfl⟩;rw [RP] at c3;rw [XE] at c4;have e1_:¬ X=B:=by have:=pU.out;omega
    have e2_:¬ B=X:=by have:=pU.out;omega
    have e3_:¬ X=B+1:=by have:=pU.out;omega
    have e4_:¬ B+1=X:=by have:=pU.out;omega
    have e5_:¬ H=B:=by have:=pU.out;omega
    have e6_:¬ B=H:=by have:=pU.out;omega
    have e7_:¬ H=B+1:=by have:=pU.out;omega
    have e8_:¬ B+1=H:=by have:=pU.out;omega
    have HLN:=aj.mk RP;have HZB:=aj.mk qW;have HZP:=aj.mk tJ;clear RP XE qW tJ hlen hLL;have tZ:aj (S.tokens (bytesOf src)=pre.flatten++cur):=⟨(HI.out.err Gr.out).2⟩;have Lh:aj (tN (S.scan (bytesOf src)).err=(c:Int)):=⟨by rw [(HI.out.err Gr.out).1];rfl⟩;have HEL:aj (wB (S.scan (bytesOf src)).err=(line:Int)):=⟨by rw [(HI.out.err Gr.out).1];rfl⟩;have HDN:aj (wx.ownsRow (H+1) 53 6 (.slice A LN cc) (pre.flatten++cur).length (dV (pre.flatten++cur))):=⟨by have:=HO.out;rw [HLN.out] at this |-;exact this⟩;go_upto_region 7 with (fail)
    go_region
    all_goals go_wp2_with fail
    all_goals exact FT LY.out pU.out HB0.out (HI.out.but.trans' kE.out) VG.out HZB.out HZP.out HDN.out tZ.out _ _ _ _ _ _ _ _ _ Lh.out HEL.out 1 _ rfl rfl
   | tok k t e =>
    obtain ⟨e1,e2,hby,k1,k3⟩:=S.ug (fun y hy=>gK src y (List.mem_of_mem_drop hy)) hst;rw [List.length_drop,bytesOf_length] at e2;have HPC:=Lib.hid (fun W=>aZ.calls _ src (i:Int) (line:Int) _ _ _ _ _ W hpc);have hie:i+e<=n:=by have:=HN.out;omega
    have adL:=aj.mk hby;have DT:aj (∃ tx,strOfNums t=tx):=⟨⟨_,rfl⟩⟩;clear hst hpc hby;go_upto_region 5 with (go_at_call 80;refine (HST.out _).mono ?_;rintro en w1 ⟨rfl,⟨q,rfl⟩⟩)
    have hR:nK H src i line v pre.flatten.length gap (wr.drewN q):=mE.out;have hO:(wr.drewN q).ownsRow (H+1) 53 6 v (pre.flatten++cur).length (dV (pre.flatten++cur)):=HI.out.own;have kJ:But (fun k=>H<=k) wr (wr.drewN q):=(But.refl _ wr).drewN q;clear c0 c1 c2 c3 c4 c5;generalize wr.drewN q=wq at *;have HR:=aj.mk hR;have HO:=aj.mk hO;have kE:=aj.mk kJ;clear hR hO kJ;have hR:=HR.out;have c0:=hR.c0;have c1:=hR.c1;have c2:=hR.c2;have c3:=hR.c3;have c4:=hR.c4;have c5:=hR.c5;clear hR;go_upto_region 6 with (go_at_call 85;refine (HPC.out _).mono ?_;rintro en w2 ⟨rfl,hb2⟩)
    have hbx:But (fun _=>False) wq (w2.alloc (.cells #[.int .i64 k,.string (strOfNums t),.int .i64 ((i:Int)+(e:Int)),.int .i64 0,.int .i64 0] 82)):=(But.of_below hb2).alloc _;have hR:=HR.out.but hbx (fun e=>e);have hO:=dn HO.out hbx (fun k e=>e.elim);have kJ:=kE.out.trans' (hbx.mono (fun _ _ e=>e.elim));have hX:=heap_alloc_new w2 (.cells #[.int .i64 k,.string (strOfNums t),.int .i64 ((i:Int)+(e:Int)),.int .i64 0,.int .i64 0] 82);obtain ⟨X,RQ⟩:∃ X,w2.heap.size=X:=⟨_,rfl⟩;have hHX:H < X:=by have:=HR.out.lt;have:=hb2.size;omega
    rw [RQ] at hX |-
    have HVX:aj (∀ k,v.ownBlock=some k->k < X):=⟨fun k e=>by have:=(HO.out.lt k e).2;have:=hb2.size;omega⟩;clear HR HO kE c0 c1 c2 c3 c4 c5 hbx RQ;generalize w2.alloc (.cells #[.int .i64 k,.string (strOfNums t),.int .i64 ((i:Int)+(e:Int)),.int .i64 0,.int .i64 0] 82)=wx at *;have c0:=hR.c0;have c1:=hR.c1;have c2:=hR.c2;have c3:=hR.c3;have c4:=hR.c4;have c5:=hR.c5;have x0:wx.cell? ⟨X,0,none⟩=some (.int .i64 k):=(au hX 0).trans rfl;have x1:wx.cell? ⟨X,1,none⟩=some (.string (strOfNums t)):=(au hX 1).trans rfl;have x2:wx.cell? ⟨X,2,none⟩=some (.int .i64 ((i:Int)+(e:Int))):=(au hX 2).trans rfl;have x3:wx.cell? ⟨X,3,none⟩=some (.int .i64 0):=(au hX 3).trans rfl;have x4:wx.cell? ⟨X,4,none⟩=some (.int .i64 0):=(au hX 4).trans rfl;have HR:=aj.mk hR;have HO:=aj.mk hO;have kE:=aj.mk kJ;have HX:=aj.mk hX;clear hR hO kJ hX;have hput:=put.calls H (H+1) src i line v pre.flatten.length gap (pre.flatten++cur) k t (i+e) 0 0 wx HR.out HO.out (Nat.lt_succ_self _) (by omega) (by rw [List.length_append];omega) (by have:=HI.out.hs;have:=kE.out.size;omega) HI.out.DR adL.out;rw [(put_eq pre cur gap k t line i e).1,(put_eq pre cur gap k t line i e).2] at hput;obtain ⟨NX,hNX⟩:∃ NX,IY pre cur gap k t line i e=NX:=⟨_,rfl⟩;have hnl:=ZY (gap:=gap) (k:=k) (t:=t) (line:=line) (cur:=cur) (pre:=pre) hlen e1;have hnb:=RN (gap:=gap) (k:=k) (t:=t) (line:=line) (i:=i) (e:=e) HI.out.DR adL.out;have hng:=fun f=>adJ (pre:=pre) (cur:=cur) (gap:=gap) (line:=line) (i:=i) Gr.out f
    rw [hNX] at hput hnl hnb;simp only [hNX] at hng;have HPT:=Lib.hid hput;have HNL:=aj.mk hnl;have HNB:=aj.mk hnb;have HNG:=aj.mk hng;clear hput hnl hnb hng hNX;go_upto_region 9 with (go_at_call 86;refine HPT.out.mono ?_;rintro en w5 ⟨rfl,v5,hR,hO,hb5,hv5⟩)
    have hX5:=(hb5.block X (Array.getElem?_eq_some_iff.1 HX.out).1 (fun e=>by
     rcases e with e | e
     ·omega
     ·have:=HVX.out X e;omega)).trans HX.out
    have kJ:But (fun k=>H<=k) wr w5:=kE.out.trans hb5 (fun _ _ e=>e) (fun k _ e=>by
     rcases e with e | e
     ·rw [e];exact Nat.le_refl _
     ·have:=(HO.out.lt k e).1;omega)
    clear HR HO kE HX c0 c1 c2 c3 c4 c5 x0 x1 x2 x3 x4 hb5 hv5 HPT;have x2:w5.cell? ⟨X,2,none⟩=some (.int .i64 ((i:Int)+(e:Int))):=(au hX5 2).trans rfl;have c0:=hR.c0;have c1:=hR.c1;have c2:=hR.c2;have c3:=hR.c3;have c4:=hR.c4;have c5:=hR.c5;have HR:=aj.mk hR;have HO:=aj.mk hO;have kE:=aj.mk kJ;clear hR hO kJ hX5;have qf:=HR.out.fr 1;go_wp2_with fail
    have hR:=HR.out.set1 ((i:Int)+(e:Int));have hO:=dn HO.out ((But.refl (·=H) w5).set ⟨H,1,none⟩ (.int .i64 ((i:Int)+(e:Int))) rfl) (fun k e h=>by have:=(HO.out.lt k h).1;omega);have kJ:=kE.out.set ⟨H,1,none⟩ (.int .i64 ((i:Int)+(e:Int))) (Nat.le_refl _);clear HR HO kE c0 c1 c2 c3 c4 c5 qf;generalize w5.setCell ⟨H,1,none⟩ (.int .i64 ((i:Int)+(e:Int)))=wb at *;have c0:=hR.c0;have c1:=hR.c1;have c2:=hR.c2;have c3:=hR.c3;have c4:=hR.c4;have c5:=hR.c5;have HR:=aj.mk hR;have HO:=aj.mk hO;have kE:=aj.mk kJ;clear hR hO kJ;go_roundg (n - (i+e))
    case measure=>omega
    case rel=>exact ⟨i+e,line,v5,false,NX.1,NX.2,by omega,⟨HI.out.on (n:=e) (dl:=0) HR.out HO.out kE.out e1 (by omega) (Nat.zero_le _) HNL.out HNB.out HNG.out⟩⟩
end Go.Proofs.YtkkpjonfaflkmaaGreatDoor.T
