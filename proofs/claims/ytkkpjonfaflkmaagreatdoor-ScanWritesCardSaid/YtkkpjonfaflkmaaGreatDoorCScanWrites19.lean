/- A part of the proof of ScanWrites. -/
import Derived.Test.YtkkpjonfaflkmaaGreatDoorCScanWrites18
set_option linter.all false
namespace Go.Proofs.YtkkpjonfaflkmaaGreatDoor.S
def lW (l:List Tk):List Tk:=l.filter fun t=>!decide (t.kind=4)
def kt (t:Tk):KT:=(t.kind,t.text)
def Yu (l:List KT):List KT:=if l.getLast?=some (3,[44]) then l.dropLast else l
def lX (P:List KT):List KT:=P.filter fun x=>!decide (x=(3,[59]))
def own (cur P:List KT):List KT:=if P=[] then Yu cur else cur++(if P.getLast?=some (3,[44]) then (lX P).dropLast else lX P)
theorem Ug (l:List Tk):comma l=decide ((l.map kt).getLast?=some (3,[44])):=by
 unfold comma;rw [List.getLast?_map];cases l.getLast? with
 | none=>rfl
 | some t =>
  simp only [Option.map_some,Option.some.injEq,kt,Prod.mk.injEq];rw [<- Bool.decide_and]
theorem abU (l:List Tk):(cut l).map kt=Yu (l.map kt):=by
 unfold cut Yu;rw [Ug];by_cases h:(l.map kt).getLast?=some (3,[44])
 ·rw [if_pos h,if_pos (decide_eq_true h),List.map_dropLast]
 ·rw [if_neg h,if_neg (by simpa using h)]
theorem Mr {l:List Tk} (h:∀ t∈l,t.kind≠4):lW l=l:=by
 unfold lW;exact List.filter_eq_self.2 fun t ht=>by simp [h t ht]
theorem Ed (l m:List Tk):lW (l++m)=lW l++lW m:=List.filter_append ..
theorem vU {l:List Tk} (h:∀ t∈l,t.kind≠4) (i j n:Nat):lW (emit l i j n).flatten=l:=by
 unfold emit;by_cases e:l=[]
 ·subst e;rfl
 rw [if_neg e];simp only [List.flatten_cons,List.flatten_nil,List.append_nil];rw [Ed,Mr h];simp [lW,oK]
theorem Yv {l:List Tk} {t:Tk} (h:t∈cut l):t∈l:=by
 unfold cut at h;split at h
 ·exact (List.dropLast_sublist l).subset h
 ·exact h
theorem lF {x:KT} (h:x≠(3,[59])) (P:List KT):lX (x::P)=x::lX P:=by
 unfold lX;rw [List.filter_cons_of_pos (by simpa using h)]
theorem tL (P:List KT):lX ((3,[59])::P)=lX P:=by
 unfold lX;rw [List.filter_cons_of_neg (by simp)]
theorem oH (x:KT) {P:List KT} (h:P≠[]):(x::P).getLast?=P.getLast?:=by
 rcases P with _ | ⟨a,P⟩
 ·exact absurd rfl h
 ·rw [List.getLast?_cons_cons]
theorem nN:∀ {P:List KT},P.getLast?=some (3,[44])->∃ Q,lX P=Q++[(3,[44])]
 | [],h=>by cases h
 | [x],h=>by
  simp only [List.getLast?_singleton,Option.some.injEq] at h;subst h;exact ⟨[],by decide⟩
 | x::y::P,h=>by
  rw [oH x (by simp)] at h;obtain ⟨Q,hQ⟩:=nN h;by_cases e:x=(3,[59])
  ·subst e;rw [tL];exact ⟨Q,hQ⟩
  ·rw [lF e,hQ];exact ⟨x::Q,rfl⟩
theorem Uh (cur P:List KT):own cur ((3,[59])::P)=cur++own [] P:=by
 by_cases h:P=[]
 ·subst h
  have:own cur [(3,[59])]=cur++[]:=by
   unfold own;rw [if_neg (by simp),if_neg (by decide)];rfl
  rw [this];rfl
 unfold own;rw [if_neg (by simp),if_neg h,oH _ h,tL,List.nil_append]
theorem Ui {x:KT} (h1:x≠(3,[59])) (h2:x≠(3,[44])) (cur P:List KT):own cur (x::P)=cur++[x]++own [] P:=by
 by_cases h:P=[]
 ·subst h
  have e1:own cur [x]=cur++[x]:=by
   unfold own;rw [if_neg (by simp),if_neg (by simpa using h2),lF h1];rfl
  have e2:own [] []=[]:=rfl;rw [e1,e2,List.append_nil]
 unfold own;rw [if_neg (by simp),if_neg h,oH _ h,lF h1,List.nil_append,List.append_assoc];by_cases hl:P.getLast?=some (3,[44])
 ·rw [if_pos hl,if_pos hl]
  obtain ⟨Q,hQ⟩:=nN hl;rw [hQ];congr 1
  rw [<- List.cons_append,List.dropLast_concat,List.dropLast_concat];rfl
 ·rw [if_neg hl,if_neg hl];rfl
theorem Na {x:KT} (h1:x≠(3,[59])) (cur P:List KT):own cur (x::P)=own (cur++[x]) P:=by
 by_cases h:P=[]
 ·subst h
  unfold own Yu;rw [if_neg (by simp),if_pos rfl,List.getLast?_concat,List.getLast?_singleton,lF h1];by_cases e:x=(3,[44])
  ·subst e
   rw [if_pos rfl,if_pos rfl,List.dropLast_concat];show cur++[]=cur
   rw [List.append_nil]
  ·rw [if_neg (by simpa using e),if_neg (by simpa using e)];rfl
 unfold own;rw [if_neg (by simp),if_neg h,oH _ h,lF h1,List.append_assoc];by_cases hl:P.getLast?=some (3,[44])
 ·rw [if_pos hl,if_pos hl]
  obtain ⟨Q,hQ⟩:=nN hl;rw [hQ];congr 1
  rw [<- List.cons_append,List.dropLast_concat,List.dropLast_concat];rfl
 ·rw [if_neg hl,if_neg hl];rfl
def Told (o:Out) (cur:List KT) (p:Option (List KT)):Prop:=match p with
 | none=>o.err≠none
 | some P=>o.err=none/\(lW o.cl.flatten).map kt=own cur P
theorem JI {o:Out} {l:List Tk} {cls:List (List Tk)} {p:Option (List KT)} {cur c2:List KT} (h:Told o c2 p) (hl:(lW cls.flatten)=l) (f:List KT->List KT) (hf:∀ P,own cur (f P)=l.map kt++own c2 P):Told (o.pre cls) cur (p.map f):=by
 cases p with
 | none=>exact h
 | some P =>
  refine ⟨h.1,?_⟩;show (lW (cls++o.cl).flatten).map kt=_
  rw [List.flatten_append,Ed,List.map_append,hl,h.2,hf]
theorem Uj:∀ (f:Nat) (xs:List Int) (i line:Nat) (cur:List Tk) (gap:Bool),(∀ x∈xs,0<=x/\x < 256)->(10:Int) ∉ xs->xs.length < f->(∀ t∈cur,t.kind≠4)->Told (go f xs i line cur gap) (cur.map kt) (uW f xs)
 | 0,xs,i,line,cur,gap,_,_,h,_=>absurd h (Nat.not_lt_zero _)
 | f+1,xs,i,line,cur,gap,hb,h10,hf,hk=>by
  have hbd:∀ n,∀ x∈xs.drop n,0<=x/\x < 256:=fun n x hx=>hb x (List.mem_of_mem_drop hx)
  have ajh:∀ n,(10:Int) ∉ xs.drop n:=fun n hx=>h10 (List.mem_of_mem_drop hx)
  have ih:=fun n (h1:1<=n) (h2:n<=xs.length) i line cur gap hk=>Uj f (xs.drop n) i line cur gap (hbd n) (ajh n) (by rw [List.length_drop];omega) hk
  rw [go,uW];cases hs:step xs with
  | fin =>
   refine ⟨rfl,?_⟩;show (lW (emit (cut cur) i i line).flatten).map kt=_
   rw [vU (fun t ht=>hk t (Yv ht)),abU];rfl
  | line=>obtain ⟨t,rfl⟩:=DZ hs;exact absurd List.mem_cons_self h10
  | blank =>
   have hx:1<=xs.length:=qm (by rw [hs];intro e;cases e);exact ih 1 (Nat.le_refl _) hx _ _ _ _ hk
  | jD n dl =>
   obtain ⟨g1,g2,-⟩:=sP hs;exact ih n g1 g2 _ _ _ _ hk
  | err c dl=>exact fun e=>by cases e
  | tok k t n =>
   obtain ⟨g1,g2,-,g3,g4⟩:=kR hb hs;simp only;by_cases hsc:k=3/\t=[59]
   ·rw [if_pos hsc]
    obtain ⟨rfl,rfl⟩:=hsc;exact JI (ih n g1 g2 _ _ [] _ (fun _ h=>by cases h)) (vU hk _ _ _) _ (fun P=>Uh _ _)
   rw [if_neg hsc];have hx:(k,t)≠((3,[59]):KT):=fun e=>hsc (by cases e;exact ⟨rfl,rfl⟩)
   have hk2:∀ (g:Bool),∀ u∈cur++[(⟨k,t,g,line,i,i+n⟩:Tk)],u.kind≠4:=fun g u hu=>by
    rcases List.mem_append.1 hu with e | e
    ·exact hk u e
    ·rw [List.mem_singleton.1 e];show k≠4;omega
   by_cases hl:label (cur++[⟨k,t,gap&&!decide (cur=[]),line,i,i+n⟩])=true
   ·rw [if_pos hl]
    have hx2:(k,t)≠((3,[44]):KT):=fun e=>by
     cases e
     rcases cur with _ | ⟨a,_ | ⟨b,cur⟩⟩
     ·simp [label] at hl
     ·simp [label] at hl
     ·simp [label] at hl
    refine JI (ih n g1 g2 _ _ [] _ (fun _ h=>by cases h)) (vU (hk2 _) _ _ _) _ (fun P=>?_);rw [Ui hx hx2,List.map_append];rfl
   rw [if_neg hl];have:=ih n g1 g2 (i+n) line (cur++[⟨k,t,gap&&!decide (cur=[]),line,i,i+n⟩]) false (hk2 _);cases hp:uW f (xs.drop n) with
   | none=>rw [hp] at this;exact this
   | some P =>
    rw [hp] at this;refine ⟨this.1,?_⟩;rw [this.2,Na hx,List.map_append];rfl
theorem Uk {xs:List Int} (hb:∀ x∈xs,0<=x/\x < 256) (h10:(10:Int) ∉ xs):Told (scan xs) [] (uW (xs.length+1) xs) :=
 Uj _ xs 0 1 [] false hb h10 (Nat.lt_succ_self _) (fun _ h=>by cases h)
theorem Ms {xs t:List Int} {k n:Nat} (h:step xs=.tok k t n) (hl:(xs.take n).getLast?=some 44):k=3/\t=[44]:=by
 obtain ⟨c,r,rfl,c1,c2,c3,hk⟩:=oP h;rcases hk with ⟨rfl,hq,hl2⟩ | ⟨rfl,-,hc,hs⟩ | ⟨rfl,hq,hc,hs⟩
 ·exfalso
  obtain ⟨v,U,S,e3,e4,e5,e6⟩:=wX hl2;rcases e6 with ⟨hx,hn⟩ | ⟨hx,hn⟩
  ·have:(c::r).take n=(c::U)++[c]:=by
    rw [e3,hn,show c::(U++c::S)=((c::U)++[c])++S by simp];exact List.take_left' (by simp)
   rw [this,List.getLast?_concat] at hl;simp only [Option.some.injEq] at hl;omega
  ·rcases S with _ | ⟨b,S⟩
   ·exact absurd rfl hx
   have:(c::r).take n=(c::(U++[c]))++[b]:=by
    rw [e3,hn,show c::(U++c::b::S)=((c::(U++[c]))++[b])++S by simp];exact List.take_left' (by simp)
   rw [this,List.getLast?_concat] at hl;simp only [Option.some.injEq] at hl;subst hl;apply hx
   rcases S with _ | ⟨e,S⟩
   ·rfl
   ·exact TG (by decide)
 ·exfalso
  obtain ⟨g1,g2,g3⟩:=qU hs;obtain ⟨M,S,e3,hM,hS,hor⟩:=qR (c::r);rw [<- g1] at hor;rcases hor with ⟨hl2,hx⟩ | ⟨g,D,T,rfl,hm,hg,hD,hd,hT,hl2⟩
  ·have:(c::r).take n=M:=by rw [e3,hl2];exact List.take_left
   rw [this] at hl;have:=hM 44 (List.mem_of_getLast? hl);cases this
  ·have:(c::r).take n=M++g::D:=by
    rw [e3,show M++g::(D++T)=(M++g::D)++T by simp];exact List.take_left' (by simp;omega)
   rw [this] at hl;rcases List.eq_nil_or_concat D with rfl | ⟨D',d,rfl⟩
   ·exact hD rfl
   ·rw [List.concat_eq_append,show M++g::(D'++[d])=(M++g::D')++[d] by simp,List.getLast?_concat] at hl
    simp only [Option.some.injEq] at hl;subst hl;have:=hd 44 (by simp);cases this
 ·obtain ⟨g1,g2,g3⟩:=nM hs
  have he:=oG _ _ g3;rw [he,g2,List.take_left] at hl;have key:∀ p∈signs,p.getLast?=some 44->p=[44]:=by decide
  exact ⟨rfl,key t g1 hl⟩
theorem Am:∀ (xs:List Int) (i d l b i' l' b':Nat),jD xs i d l b=.done i' l' b'->(xs.take (i' - i)).getLast?=some 47
 | [],_,_,_,_,_,_,_=>fun h=>by cases h
 | [_],_,_,_,_,_,_,_=>fun h=>by cases h
 | c::e::t,i,d,l,b,i',l',b'=>fun h=>by
  have hbd:=eH _ _ _ _ _ _ _ _ h;rw [jD] at h;by_cases h1:c=47/\e=42
  ·rw [if_pos h1] at h
   have h2:=Am t _ _ _ _ _ _ _ h;have h3:=eH t _ _ _ _ _ _ _ h;rw [show i' - i=(i' - (i+2))+1+1 by omega,List.take_succ_cons,List.take_succ_cons];rw [List.getLast?_cons,List.getLast?_cons,h2];rfl
  rw [if_neg h1] at h;by_cases h2:c=42/\e=47
  ·rw [if_pos h2] at h
   by_cases h3:d=1
   ·rw [if_pos h3] at h;cases h
    rw [show i+2 - i=2 by omega];simp [h2.2]
   rw [if_neg h3] at h;have h2:=Am t _ _ _ _ _ _ _ h;have h3:=eH t _ _ _ _ _ _ _ h;rw [show i' - i=(i' - (i+2))+1+1 by omega,List.take_succ_cons,List.take_succ_cons];rw [List.getLast?_cons,List.getLast?_cons,h2];rfl
  rw [if_neg h2] at h;have h2:=Am (e::t) _ _ _ _ _ _ _ h;have h3:=eH (e::t) _ _ _ _ _ _ _ h;rw [show i' - i=(i' - (i+1))+1 by omega,List.take_succ_cons,List.getLast?_cons,h2];rfl
 termination_by xs=>xs.length
theorem xq {xs:List Int} {n dl:Nat} (h:step xs=.jD n dl):∃ l b,jD xs 0 0 1 0=.done n l b:=by
 rcases xs with _ | ⟨c,r⟩
 ·cases h
 simp only [step] at h;have key:∀ k R,gK k R≠.jD n dl:=fun k R e=>by cases R<;>cases e
 by_cases h1:c=10
 ·rw [if_pos h1] at h;cases h
 rw [if_neg h1] at h;by_cases h2:c=32
 ·rw [if_pos h2] at h;cases h
 rw [if_neg h2] at h;by_cases h3:dQ (c::r)=true
 ·rw [if_pos h3] at h
  cases hR:jD (c::r) 0 0 1 0 with
  | eof=>rw [hR] at h;cases h
  | done i l b =>
   rw [hR] at h;simp only [gX] at h;by_cases hb:b=0
   ·rw [if_pos hb] at h
    cases h
    exact ⟨_,_,rfl⟩
   ·rw [if_neg hb] at h;cases h
 rw [if_neg h3] at h;by_cases h4:c=39\/c=34
 ·rw [if_pos h4] at h;exact (key _ _ h).elim
 rw [if_neg h4] at h;by_cases h5:sym c=true
 ·rw [if_pos h5] at h;exact (key _ _ h).elim
 rw [if_neg h5] at h;exact (key _ _ h).elim
theorem JJ (a:Int) (t:List Int):step (a::t)≠.fin:=by
 have ht:∀ k r,gK k r≠.fin:=fun k r=>by cases r<;>simp [gK]
 have hc:∀ r,gX r≠.fin:=fun r=>by
  cases r with
  | eof=>simp [gX]
  | done i l b=>simp only [gX];split<;>simp
 simp only [step];split
 ·simp
 ·split
  ·simp
  ·split
   ·exact hc _
   ·split
    ·exact ht _ _
    ·split
     ·exact ht _ _
     ·exact ht _ _
theorem Qq {xs:List Int} {n:Nat} (h:xs.drop n≠[]):(xs.drop n).getLast?=xs.getLast?:=by
 conv=>{ rhs;rw [<- List.take_append_drop n xs] }
 rw [List.getLast?_append];cases hg:(xs.drop n).getLast? with
 | none=>exact absurd (List.getLast?_eq_none_iff.1 hg) h
 | some y=>rfl
theorem Ee:∀ (f:Nat) (xs:List Int) (P:List KT),(∀ x∈xs,0<=x/\x < 256)->uW f xs=some P->xs.getLast?=some 44->P.getLast?=some (3,[44])
 | 0,_,_,_,h,_=>by cases h
 | f+1,xs,P,hb,h,hl=>by
  rw [uW] at h;have hne:∀ n,(xs.take n).getLast?=some 44\/xs.drop n≠[]:=fun n=>by
   by_cases e:xs.drop n=[]
   ·left
    have:=List.take_append_drop n xs;rw [e,List.append_nil] at this;rw [this];exact hl
   ·exact .inr e
  have ih:=fun n (hn:xs.drop n≠[]) (P:List KT) (hp:uW f (xs.drop n)=some P)=>Ee f (xs.drop n) P (fun x hx=>hb x (List.mem_of_mem_drop hx)) hp (by rw [Qq hn];exact hl)
  cases hs:step xs with
  | fin =>
   rcases xs with _ | ⟨a,t⟩
   ·cases hl
   ·exact absurd hs (JJ a t)
  | line =>
   rw [hs] at h;obtain ⟨t,rfl⟩:=DZ hs;rcases hne 1 with e | e
   ·simp at e
   ·exact ih 1 e P h
  | blank =>
   rw [hs] at h;obtain ⟨t,rfl⟩:=Md hs;rcases hne 1 with e | e
   ·simp at e
   ·exact ih 1 e P h
  | jD n dl =>
   rw [hs] at h;rcases hne n with e | e
   ·obtain ⟨l,b,hc⟩:=xq hs
    have:=Am xs 0 0 1 0 n l b hc;rw [Nat.sub_zero,e] at this;cases this
   ·exact ih n e P h
  | err c dl=>rw [hs] at h;cases h
  | tok k t n =>
   rw [hs] at h;simp only at h;cases hr:uW f (xs.drop n) with
   | none=>rw [hr] at h;cases h
   | some P' =>
    rw [hr] at h;cases h
    rcases hne n with e | e
    ·obtain ⟨rfl,rfl⟩:=Ms hs e
     by_cases hd:xs.drop n=[]
     ·rw [hd] at hr
      have:P'=[]:=by
       cases f with
       | zero=>cases hr
       | succ f=>simp only [uW,step] at hr;cases hr;rfl
      subst this;rfl
     rw [oH]
     ·exact ih n hd P' hr
     ·intro e2
      subst e2;have:=ih n hd [] hr;cases this
    ·rw [oH]
     ·exact ih n e P' hr
     ·intro e2
      subst e2;have:=ih n e [] hr;cases this
def yV (l:List KT):Bool:=decide (l.getLast?=some (3,[44]))
def JK (l:List KT):Bool :=
 (scan (spl l)).err.isSome||!decide ((lW (tokens (spl l))).map kt=if yV l=true/\(lW (tokens (spl l))).length+1=l.length then l.take (l.length - 1) else l)
theorem BX:∀ P:List KT,(spl (lX P)).length+P.count (3,[59])=(spl P).length
 | []=>rfl
 | x::P=>by
  have ih:=BX P;by_cases e:x=(3,[59])
  ·subst e
   rw [tL,List.count_cons_self,jV,List.length_append,show (zX (3,[59])).length=1 from rfl];omega
  rw [lF e,List.count_cons_of_ne (by simpa using e),jV,jV,List.length_append,List.length_append];omega
theorem zI {P:List KT} (h:P.count (3,[59])=0):lX P=P:=by
 unfold lX;refine List.filter_eq_self.2 fun x hx=>?_
 rw [List.count_eq_zero] at h;by_cases e:x=(3,[59])
 ·subst e;exact absurd hx h
 ·simpa using e
theorem Qr {l:List KT} (hb:∀ x∈spl l,0<=x/\x < 256) (h10:(10:Int) ∉ spl l) (hs:((3,[59]):KT) ∉ l):JK l=false <-> Rd l:=by
 have ht:=Uk hb h10;unfold JK;constructor
 ·intro h
  rw [Bool.or_eq_false_iff] at h;obtain ⟨h1,h2⟩:=h;cases hp:uW ((spl l).length+1) (spl l) with
  | none =>
   rw [hp] at ht;have ht:(scan (spl l)).err≠none:=ht;cases he:(scan (spl l)).err with
   | none=>exact absurd he ht
   | some p=>rw [he] at h1;cases h1
  | some P =>
   rw [hp] at ht;obtain ⟨h3,h4⟩:=ht;have h4:(lW (tokens (spl l))).map kt=own [] P:=h4;have h2:(lW (tokens (spl l))).map kt=if yV l=true/\(lW (tokens (spl l))).length+1=l.length then l.take (l.length - 1) else l:=by simpa using h2
   rw [h4] at h2;have hlen:=oo _ _ _ hb hp;have hcnt:=BX P;have hP:lX P=l->P=l:=fun e=>by
    rw [e] at hcnt;rw [<- e,zI (by omega)]
   refine yO ((spl l).length+1) l hb ?_;rw [hp];congr 1
   by_cases hc:yV l=true/\(lW (tokens (spl l))).length+1=l.length
   ·rw [if_pos hc] at h2
    have hlast:l.getLast?=some (3,[44]):=of_decide_eq_true hc.1;obtain ⟨l',rfl⟩:∃ l',l=l'++[(3,[44])]:=by
     rcases List.eq_nil_or_concat l with rfl | ⟨a,x,rfl⟩
     ·cases hlast
     ·rw [List.concat_eq_append] at hlast |-
      rw [List.getLast?_concat] at hlast;cases hlast
      exact ⟨a,rfl⟩
    have hx:(spl (l'++[(3,[44])])).getLast?=some 44:=by
     rw [Od];show (spl l'++[44]).getLast?=_
     exact List.getLast?_concat
    have hPl:=Ee _ _ _ hb hp hx;have hPn:P≠[]:=fun e=>by subst e;cases hPl
    unfold own at h2;rw [if_neg hPn,if_pos hPl,List.nil_append,List.length_append,List.length_singleton,Nat.add_sub_cancel,List.take_left] at h2;obtain ⟨Q,hQ⟩:=nN hPl;apply hP
    rw [hQ] at h2 |-
    rw [List.dropLast_concat] at h2;rw [h2]
   rw [if_neg hc] at h2;apply hP
   by_cases hPn:P=[]
   ·subst hPn;exact h2
   unfold own at h2;rw [if_neg hPn,List.nil_append] at h2;by_cases hPl:P.getLast?=some (3,[44])
   ·rw [if_pos hPl] at h2
    obtain ⟨Q,hQ⟩:=nN hPl;rw [hQ,List.dropLast_concat] at h2;subst h2;rw [hQ,Od] at hcnt;have:(spl Q++spl [(3,[44])]).length=(spl Q).length+1:=by rw [List.length_append];rfl
    omega
   ·rw [if_neg hPl] at h2;exact h2
 ·intro h
  have hp:=yP ((spl l).length+1) l hb (Nat.lt_succ_self _) h;rw [hp] at ht;obtain ⟨h3,h4⟩:=ht;have h4:(lW (tokens (spl l))).map kt=own [] l:=h4;have h5:=congrArg List.length h4;rw [List.length_map] at h5;rw [h3,h4,h5];have hns:lX l=l:=zI (List.count_eq_zero.2 hs);by_cases hl:l=[]
  ·subst hl;decide
  by_cases hc:l.getLast?=some (3,[44])
  ·have ho:own [] l=l.take (l.length - 1):=by
    unfold own;rw [if_neg hl,if_pos hc,hns,List.nil_append,List.dropLast_eq_take]
   have hlp:0 < l.length:=List.length_pos_iff.2 hl;rw [ho,if_pos ⟨decide_eq_true hc,by rw [List.length_take];omega⟩];simp
  have ho:own [] l=l:=by
   unfold own;rw [if_neg hl,if_neg hc,hns,List.nil_append]
  rw [ho,if_neg (fun e=>hc (of_decide_eq_true e.1))];simp
def afa (p x:Tk):Prop:=kt p=(3,[47])->x.gap=false->∀ c r,zX (kt x)=c::r->c≠47/\c≠42
def Ef:List Tk->Prop
 | p::x::l=>afa p x/\Ef (x::l)
 | _=>True
theorem BZ:∀ (l:List Tk) (x:Tk),Ef l->(∀ p,l.getLast?=some p->afa p x)->Ef (l++[x])
 | [],_,_,_=>trivial
 | [p],x,_,h=>⟨h p rfl,trivial⟩
 | p::q::l,x,h,hx=>⟨h.1,BZ (q::l) x h.2 (fun r hr=>hx r (by rw [List.getLast?_cons_cons];exact hr))⟩
theorem Eh:∀ (l m:List Tk),Ef (l++m)->Ef l
 | [],_,_=>trivial
 | [p],_,_=>trivial
 | p::q::l,m,h=>⟨h.1,Eh (q::l) m h.2⟩
structure uX (b:List Tk):Prop where
 good:∀ t∈b,Good (kt t)
 lab:∀ j,j < b.length->label (b.take j)=false
 hd:∀ t,b.head?=some t->t.gap=false
 sl:Ef b
structure tN (cur:List Tk) (gap:Bool) (xs:List Int):Prop where
 cls:uX cur
 lab:label cur=false
 lnk:∀ p,cur.getLast?=some p->kt p=(3,[47])->gap=true\/∀ c r,xs=c::r->c≠47/\c≠42
theorem uX.pre {a b:List Tk} (h:uX (a++b)):uX a:=by
 refine ⟨fun t ht=>h.good t (List.mem_append_left _ ht),fun j hj=>?_,fun t ht=>h.hd t ?_,Eh a b h.sl⟩
 ·have:=h.lab j (by rw [List.length_append];omega)
  rwa [List.take_append_of_le_length (by omega)] at this
 ·rw [List.head?_append,ht];rfl
theorem uX.dropLast {a:List Tk} (h:uX a):uX a.dropLast:=by
 rcases List.eq_nil_or_concat a with rfl | ⟨l,x,rfl⟩
 ·exact h
 ·rw [List.concat_eq_append] at h |-
  rw [List.dropLast_concat];exact h.pre
theorem tN.nil (gap:Bool) (xs:List Int):tN [] gap xs:=⟨⟨by simp,by simp,by simp,trivial⟩,rfl,by simp⟩
theorem tN.all {cur:List Tk} {gap:Bool} {xs:List Int} (h:tN cur gap xs):∀ j,label (cur.take j)=false:=fun j=>by
 by_cases e:j < cur.length
 ·exact h.cls.lab j e
 ·rw [List.take_of_length_le (by omega)];exact h.lab
theorem Mt {r:List Int} {t:List Int} {n:Nat} (h:gJ (47::47::r)=.ok t n):t=[47,47]:=by
 have:gJ (47::47::r)=.ok [47,47] 2:=by simp [gJ,signs,List.find?,List.isPrefixOf]
 rw [this] at h;cases h;rfl
theorem tN.put {cur:List Tk} {gap:Bool} {xs t:List Int} {k n line i:Nat} (hb:∀ x∈xs,0<=x/\x < 256) (h:tN cur gap xs) (hs:step xs=.tok k t n) (hne:¬ (k=3/\t=[59])) :
  uX (cur++[⟨k,t,gap&&!decide (cur=[]),line,i,i+n⟩])/\∀ p,(cur++[(⟨k,t,gap&&!decide (cur=[]),line,i,i+n⟩:Tk)]).getLast?=some p->kt p=(3,[47])->∀ c r,xs.drop n=c::r->c≠47/\c≠42:=by
 have hg:=FY hb hs hne;obtain ⟨c,r,rfl,c1,c2,c3,hk⟩:=oP hs;refine ⟨⟨fun u hu=>?_,fun j hj=>?_,fun u hu=>?_,BZ _ _ h.cls.sl fun p hp he Jj=>?_⟩,fun p hp he=>?_⟩
 ·rcases List.mem_append.1 hu with e | e
  ·exact h.cls.good u e
  ·rw [List.mem_singleton.1 e];exact hg
 ·have:=h.all j
  rw [List.length_append,List.length_singleton] at hj;rw [List.take_append_of_le_length (by omega)];exact this
 ·cases cur with
  | nil=>simp only [List.nil_append,List.head?_cons,Option.some.injEq] at hu;subst hu;simp
  | cons a l=>exact h.cls.hd u hu
 ·have hcur:cur≠[]:=fun e=>by subst e;cases hp
  have Jj:gap=false:=by
   have Jj:(gap&&!decide (cur=[]))=false:=Jj;rw [decide_eq_false hcur] at Jj;simpa using Jj
  have hx:c≠47/\c≠42:=by
   rcases h.lnk p hp he with e | e
   ·rw [Jj] at e;cases e
   ·exact e c r rfl
  intro d s hd
  have hd:zX (k,t)=d::s:=hd;rcases hk with ⟨rfl,hq,hl⟩ | ⟨rfl,-,hc,hs⟩ | ⟨rfl,hq,hc,hs⟩
  ·rw [xg] at hd
   unfold quote at hd;injection hd with e1 e2
   rcases Fg t with e | e<;>rw [e] at e1<;>omega
  ·rw [tH (by decide)] at hd
   obtain ⟨g1,g2,g3⟩:=qU hs;rw [g2] at hd;cases n with
   | zero=>simp at hd
   | succ n =>
    simp only [List.take_succ_cons,List.map_cons,List.cons.injEq] at hd;rw [<- hd.1];have:=Eb (c:=up c) (by rw [Mf];exact hc);exact ⟨this.2.2.1,this.2.2.2.1⟩
  ·rw [tH (by decide)] at hd
   obtain ⟨g1,g2,g3⟩:=nM hs;have:=oG _ _ g3;rw [hd] at this;simp only [List.cons_append,List.cons.injEq] at this;rw [<- this.1];exact hx
 ·rw [List.getLast?_concat] at hp
  simp only [Option.some.injEq] at hp;subst hp;simp only [kt,Prod.mk.injEq] at he;obtain ⟨rfl,rfl⟩:=he;rcases hk with ⟨h2,-⟩ | ⟨h2,-⟩ | ⟨-,hq,hc,hs⟩
  ·cases h2
  ·cases h2
  obtain ⟨g1,g2,g3⟩:=nM hs;have he:=oG _ _ g3;simp only [List.length_cons,List.length_nil,List.cons_append,List.nil_append,List.cons.injEq] at he g2;obtain ⟨rfl,-⟩:=he;subst g2;intro d s hd
  simp only [Nat.zero_add,List.drop_succ_cons,List.drop_zero] at hd;subst hd;refine ⟨?_,?_⟩
  ·rintro rfl
   have:=Mt hs;cases this
  ·rintro rfl
   cases c3
def abV (cl:List Tk):Prop:=∃ b e,cl=b++[e]/\b≠[]/\uX b/\e.kind=4/\e.text=[]/\e.gap=false
theorem Ao {b:List Tk} (h:uX b) (i j l:Nat):∀ cl∈emit b i j l,abV cl:=by
 intro cl hc
 unfold emit at hc;by_cases e:b=[]
 ·rw [if_pos e] at hc;cases hc
 rw [if_neg e,List.mem_singleton] at hc;exact ⟨b,_,hc,e,h,rfl,rfl,rfl⟩
theorem Ul:∀ (f:Nat) (xs:List Int) (i line:Nat) (cur:List Tk) (gap:Bool),(∀ x∈xs,0<=x/\x < 256)->tN cur gap xs->(go f xs i line cur gap).err=none->∀ cl∈(go f xs i line cur gap).cl,abV cl
 | 0,xs,i,line,cur,gap,_,_,_=>by simp [go]
 | f+1,xs,i,line,cur,gap,hb,h,he=>by
  have hbd:∀ n,∀ x∈xs.drop n,0<=x/\x < 256:=fun n x hx=>hb x (List.mem_of_mem_drop hx)
  have ih:=fun n i line cur gap hc he=>Ul f (xs.drop n) i line cur gap (hbd n) hc he
  rw [go] at he |-
  cases hs:step xs with
  | fin =>
   refine Ao ?_ _ _ _;unfold cut;split
   ·exact h.cls.dropLast
   ·exact h.cls
  | err c dl=>rw [hs] at he;cases he
  | line =>
   rw [hs] at he;simp only at he |-
   by_cases hc:comma cur=true
   ·rw [if_pos hc] at he |-
    refine ih 1 _ _ _ _ ⟨h.cls.dropLast,?_,fun _ _ _=>.inl rfl⟩ he;rw [List.dropLast_eq_take];exact h.all _
   rw [if_neg hc] at he |-
   intro cl hcl
   rcases List.mem_append.1 hcl with e | e
   ·exact Ao h.cls _ _ _ cl e
   ·exact ih 1 _ _ _ _ (tN.nil _ _) he cl e
  | blank =>
   rw [hs] at he;exact ih 1 _ _ _ _ ⟨h.cls,h.lab,fun _ _ _=>.inl rfl⟩ he
  | jD n dl =>
   rw [hs] at he;refine ih n _ _ _ _ ⟨h.cls,h.lab,fun p hp hk=>?_⟩ he;rcases h.lnk p hp hk with e | e
   ·exact .inl e
   ·exfalso
    obtain ⟨l,b,hc⟩:=xq hs;rcases xs with _ | ⟨c,r⟩
    ·cases hs
    have hx:=e c r rfl;simp only [step] at hs;have key:∀ k R,gK k R≠.jD n dl:=fun k R e=>by cases R<;>cases e
    by_cases h1:c=10
    ·rw [if_pos h1] at hs;cases hs
    rw [if_neg h1] at hs;by_cases h2:c=32
    ·rw [if_pos h2] at hs;cases hs
    rw [if_neg h2,if_neg (by rw [BR hx.1];decide)] at hs;by_cases h4:c=39\/c=34
    ·rw [if_pos h4] at hs;exact (key _ _ hs).elim
    rw [if_neg h4] at hs;by_cases h5:sym c=true
    ·rw [if_pos h5] at hs;exact (key _ _ hs).elim
    rw [if_neg h5] at hs;exact (key _ _ hs).elim
  | tok k t n =>
   rw [hs] at he;simp only at he |-
   by_cases hsc:k=3/\t=[59]
   ·rw [if_pos hsc] at he |-
    intro cl hcl
    rcases List.mem_append.1 hcl with e | e
    ·exact Ao h.cls _ _ _ cl e
    ·exact ih n _ _ _ _ (tN.nil _ _) he cl e
   rw [if_neg hsc] at he |-
   obtain ⟨p1,p2⟩:=h.put (line:=line) (i:=i) hb hs hsc;by_cases hl:label (cur++[⟨k,t,gap&&!decide (cur=[]),line,i,i+n⟩])=true
   ·rw [if_pos hl] at he |-
    intro cl hcl
    rcases List.mem_append.1 hcl with e | e
    ·exact Ao p1 _ _ _ cl e
    ·exact ih n _ _ _ _ (tN.nil _ _) he cl e
   rw [if_neg hl] at he |-
   exact ih n _ _ _ _ ⟨p1,by simpa using hl,fun p hp hk=>.inr (p2 p hp hk)⟩ he
theorem JL {xs:List Int} (hb:∀ x∈xs,0<=x/\x < 256) (he:(scan xs).err=none):∀ cl∈(scan xs).cl,abV cl :=
 Ul _ _ _ _ _ _ hb (tN.nil _ _) he
theorem Ca {x:KT} (h:Good x):∀ y∈x.2,0<=y/\y < 256:=by
 intro y hy
 obtain ⟨k,t⟩:=x;have hb:=h.2.2;by_cases e:k=2
 ·subst e
  rw [xg] at hb;refine hb y ?_;unfold quote Da;refine List.mem_cons_of_mem _ (List.mem_append_left _ (List.mem_flatMap.2 ⟨y,hy,?_⟩));by_cases e:y=wh t
  ·rw [if_pos e,e];simp
  ·rw [if_neg e];simp
 ·rw [tH e] at hb;exact hb y hy
theorem Good.step {x:KT} (h:Good x):step (zX x)=.tok x.1 x.2 (zX x).length:=h.1
theorem Good.ne {x:KT} (h:Good x):zX x≠[]:=fun e=>by
 have:=h.1;rw [e] at this;cases this
theorem Good.aji {x:KT} (h:Good x):(10:Int) ∉ zX x:=by
 have:=(TP h.1).1;rwa [List.take_length] at this
theorem tO {l:List KT} (h:∀ x∈l,Good x):(∀ x∈spl l,0<=x/\x < 256)/\(10:Int) ∉ spl l/\((3,[59]):KT) ∉ l:=by
 refine ⟨fun y hy=>?_,fun hy=>?_,fun hy=>(h _ hy).2.1 rfl⟩
 ·obtain ⟨x,hx,hy⟩:=List.mem_flatMap.1 hy
  exact (h x hx).2.2 y hy
 ·obtain ⟨x,hx,hy⟩:=List.mem_flatMap.1 hy
  exact (h x hx).aji hy
theorem pR (o:Out) (a b:List (List Tk)):(o.pre a).pre b=o.pre (b++a):=by simp [Out.pre]
end Go.Proofs.YtkkpjonfaflkmaaGreatDoor.S
namespace Go.Proofs.YtkkpjonfaflkmaaGreatDoor.T
open Go.RowKit Go.Proofs.aj.aI Go.Proofs.aj.aY Go.Proofs.aj.bq
attribute [local go_sem] eY eZ gH gI dV dW fq fu
def gu.f (a0:ByteArray):Option (Int):=if (a0.size:Int) > 20000 then (some 3) else (some 0)
set_option maxHeartbeats 8000000 in
set_option maxRecDepth 100000 in
theorem gu.calls (a0:ByteArray) (r:Int) (w:World) (h:gu.f a0=some r) :
  Calls Tryz.prog 50 #[.string a0] w fun e w'=>e=.returned (.int .i64 r)/\aG w w':=by
 have H:(if (a0.size:Int) > 20000 then (some 3) else (some 0))=some r:=h;clear h;by_cases c2:(a0.size:Int) > 20000
 ·rw [if_pos c2] at H
  have kX:decide (20000 < (a0.size:Int))=true:=decide_eq_true c2;have Fv:decide (20000 < a0.size)=true:=decide_eq_true (by omega);clear c2;obtain rfl:=Option.some.inj H;go_enter Tryz.func50,Tryz.ntmps50
  go_wp2;go_ret;exact ⟨by first | rfl | (simp;done) | (simp [*];done),by repeat (first | exact aG.refl _ | apply aG.step)⟩
 rw [if_neg c2] at H;have kX:decide (20000 < (a0.size:Int))=false:=decide_eq_false c2;have Fv:decide (20000 < a0.size)=false:=decide_eq_false (by omega);clear c2;obtain rfl:=Option.some.inj H;go_enter Tryz.func50,Tryz.ntmps50
 go_wp2;go_ret;exact ⟨by first | rfl | (simp;done) | (simp [*];done),by repeat (first | exact aG.refl _ | apply aG.step)⟩
end Go.Proofs.YtkkpjonfaflkmaaGreatDoor.T
namespace Go.Proofs.YtkkpjonfaflkmaaGreatDoor.T
open Go.RowKit Go.Maps Go.Proofs.aj.aI Go.Proofs.aj.aY Go.Proofs.aj.bq
def vV (o:Option (Nat × Nat)):Int:=match o with | none=>0 | some p=>p.1
def zY (o:Option (Nat × Nat)):Int:=match o with | none=>0 | some p=>p.2
theorem FZ (o:Option (Nat × Nat)):Qc o=#[.int .i64 (vV o),.int .i64 (zY o)]:=by
 cases o with
 | none=>rfl
 | some p=>rfl
theorem kr {fn:Func} {t u v x:Tmp} (h:fn.results=#[.tmp t,.tmp u,.tmp v,.tmp x]) (tmps:Array Value) (P:Program) (w:World) :
  (results fn tmps).run P w=.ok (.tuple #[tmps.getD t undef,tmps.getD u undef,tmps.getD v undef,tmps.getD x undef]) w:=by
 simp [results,h,Sem.run_bind,Sem.run_pure,Result.andThen]
def dP.f (a0:ByteArray):Option (List dh × Int × Int × Int) :=
 if a0.size<=20000 then
  (if vV (S.scan (bytesOf a0)).err=0 then some ((S.tokens (bytesOf a0)).map toS,0,0,0) else some ((S.tokens (bytesOf a0)).map toS,vV (S.scan (bytesOf a0)).err,zY (S.scan (bytesOf a0)).err,7))
 else some ([],0,0,3)
set_option maxRecDepth 100000 in
set_option maxHeartbeats 4000000 in
theorem dP.calls (a0:ByteArray) (r1:List dh) (r2 r3 r4:Int) (w:World) (hT:dR w) (h:dP.f a0=some (r1,r2,r3,r4)) :
  Calls Tryz.prog 17 #[.string a0] w fun e w'=>∃ v0:Value,e=.returned (.tuple #[v0,.int .i64 r2,.int .i64 r3,.int .i64 r4])/\Kd.R jP 53 w' w.heap.size (fun _=>True) v0 r1/\Below w.heap.size w w':=by
 have HT:=ah.mk hT;clear hT;by_cases hs:a0.size<=20000
 rotate_left
 ·have hlim:=gu.calls a0 3 w (by unfold gu.f;rw [if_pos (by omega)])
  have HLM:=Lib.hid hlim;unfold dP.f at h;rw [if_neg hs] at h;simp only [Option.some.injEq,Prod.mk.injEq] at h;obtain ⟨rfl,rfl,rfl,rfl⟩:=h;clear hlim;go_enter Tryz.func17,Tryz.ntmps17
  go_wp2_with (go_at_call 50;refine HLM.out.mono ?_;rintro e w' ⟨rfl,⟨⟨q,rfl⟩⟩⟩)
  refine bodyPost_ret (kr rfl _ _ _) rfl ?_;exact ⟨_,rfl,Kd.nG _ _ _ _ _,ak (Below.refl _ _) _⟩
 have hlim:=gu.calls a0 0 w (by unfold gu.f;rw [if_neg (by omega)]);have HLM:=Lib.hid hlim;have htk:=fun q=>qd.calls a0 (w.drewN q) (by omega) (HT.out.of_below (ak (Below.refl _ _) q))
 unfold dP.f at h;rw [if_pos hs] at h;obtain ⟨c,hc⟩:∃ c,vV (S.scan (bytesOf a0)).err=c:=⟨_,rfl⟩;obtain ⟨ln,hln⟩:∃ ln,zY (S.scan (bytesOf a0)).err=ln:=⟨_,rfl⟩;obtain ⟨ts,hts⟩:∃ ts,S.tokens (bytesOf a0)=ts:=⟨_,rfl⟩;simp only [FZ,hc,hln,hts] at htk h;have zR:=Lib.hid htk;clear hlim htk hc hln hts;have Xm:=Tryz.underlying76;go_enter Tryz.func17,Tryz.ntmps17
 go_upto_region 5 with (first | (go_at_call 50;refine HLM.out.mono ?_;rintro e w' ⟨rfl,⟨⟨q,rfl⟩⟩⟩) | (go_at_call 51;refine (zR.out _).mono ?_;rintro e w3 ⟨v,rfl,hown,hb⟩))
 have ha:Below w3.heap.size w3 (w3.alloc (.cells #[.int .i64 c,.int .i64 ln] 76)):=av (Below.refl _ _) _;have hn:=heap_alloc_new w3 (.cells #[.int .i64 c,.int .i64 ln] 76);have hR:Kd.R jP 53 (w3.alloc (.cells #[.int .i64 c,.int .i64 ln] 76)) w.heap.size (fun _=>True) v (ts.map toS):=aaf (bV hown ((But.refl (fun _=>False) w3).alloc _) (fun _ e=>e.elim));have hB:Below w.heap.size w (w3.alloc (.cells #[.int .i64 c,.int .i64 ln] 76)):=(Below.trans (ak (Below.refl _ _) q) hb).trans (ha.mono (by have:=hb.size;exact this));obtain ⟨T,hTz⟩:∃ T,w3.heap.size=T:=⟨_,rfl⟩;rw [hTz] at hn;try rw [hTz]
 have HR:=ah.mk hR;have HB:=ah.mk hB;clear ha hR hB hown hb hTz;generalize w3.alloc (.cells #[.int .i64 c,.int .i64 ln] 76)=W at *;have c0:W.cell? ⟨T,0,none⟩=some (.int .i64 c):=(au hn 0).trans rfl;have c1:W.cell? ⟨T,1,none⟩=some (.int .i64 ln):=(au hn 1).trans rfl;by_cases hc0:c=0
 ·subst hc0
  rw [if_pos rfl] at h;simp only [Option.some.injEq,Prod.mk.injEq] at h;obtain ⟨rfl,rfl,rfl,rfl⟩:=h;go_wp2;refine bodyPost_ret (kr rfl _ _ _) rfl ?_;exact ⟨_,rfl,HR.out,HB.out⟩
 have g0:(c != 0)=true:=bne_iff_ne.2 hc0;rw [if_neg hc0] at h;simp only [Option.some.injEq,Prod.mk.injEq] at h;obtain ⟨rfl,rfl,rfl,rfl⟩:=h;go_upto_region 6 with (fail)
 go_quiet (fail)
 go_wp2;refine bodyPost_ret (kr rfl _ _ _) rfl ?_;exact ⟨_,rfl,Kd.cB HR.out _,HB.out.trans (ak (Below.refl _ _) _)⟩
end Go.Proofs.YtkkpjonfaflkmaaGreatDoor.T
namespace Go.Proofs.YtkkpjonfaflkmaaGreatDoor.T
open Go.RowKit Go.Maps Go.Proofs.aj.aI Go.Proofs.aj.aY Go.Proofs.aj.bq
attribute [local go_sem] Oper.semAt_some
theorem Qs (P cur:List S.Tk) (h:cur≠[]):S.comma (P++cur)=S.comma cur:=by
 rcases List.eq_nil_or_concat cur with rfl | ⟨a,t,rfl⟩
 ·exact absurd rfl h
 ·rw [List.concat_eq_append,<- List.append_assoc]
  unfold S.comma;rw [List.getLast?_concat,List.getLast?_concat]
theorem Um (P cur:List S.Tk):Tp (P++cur) P.length=S.comma cur:=by
 unfold Tp;by_cases h:cur=[]
 ·subst h
  rw [List.append_nil,decide_eq_false (Nat.lt_irrefl _)];rfl
 have:0 < cur.length:=List.length_pos_iff.2 h;rw [decide_eq_true (by rw [List.length_append];omega),Qs P cur h];rfl
theorem aam (P cur:List S.Tk):ctL (P++cur) P.length=P++S.cut cur:=by
 unfold ctL S.cut;rw [Um];by_cases h:S.comma cur=true
 ·rw [if_pos h,if_pos h,List.dropLast_append_of_ne_nil]
  intro e;subst e;cases h
 ·rw [if_neg h,if_neg h]
theorem Oj (P cur:List S.Tk) (a b l:Nat):Kw (P++cur) P.length a b l=P++(S.emit cur a b l).flatten:=by
 unfold Kw S.emit;by_cases h:cur=[]
 ·subst h
  rw [if_pos rfl,if_neg (by simp)];simp
 have:0 < cur.length:=List.length_pos_iff.2 h;rw [if_neg h,if_pos (by rw [List.length_append];omega)];simp
theorem Yw (P cur:List S.Tk) (gap:Bool) (k:Nat) (t:List Int) (line i e:Nat):uK P.length gap (P++cur) k t line i e=⟨k,t,gap&&!decide (cur=[]),line,i,e⟩:=by
 unfold uK;have:decide (P.length < (P++cur).length)=!decide (cur=[]):=by
  by_cases h:cur=[]
  ·subst h;simp
  have:0 < cur.length:=List.length_pos_iff.2 h;rw [decide_eq_false h,decide_eq_true (by rw [List.length_append];omega)];rfl
 rw [this]
theorem Un (P cur:List S.Tk) (k:Nat) (t:List Int) (g:Bool) (line i e:Nat):Dc P.length (P++cur) k t=S.label (cur++[⟨k,t,g,line,i,e⟩]):=by
 unfold Dc;rcases cur with _ | ⟨a,_ | ⟨b,cur⟩⟩
 ·have e0:(P++([]:List S.Tk)).length≠P.length+1:=by simp
  rw [decide_eq_false e0];simp [S.label]
 ·have h1:((P++[a]).map (·.kind)).getD P.length 0=a.kind:=by
   rw [List.getD_eq_getElem?_getD,List.getElem?_map,List.getElem?_append_right (Nat.le_refl _),Nat.sub_self];rfl
  have e0:(P++[a]).length=P.length+1:=by simp
  rw [h1,decide_eq_true e0];show _=(decide (a.kind=1)&&decide (k=3)&&decide (t=[58]))
  cases decide (a.kind=1)<;>cases decide (k=3)<;>cases decide (t=[58])<;>rfl
 ·have e0:(P++a::b::cur).length≠P.length+1:=by simp
  rw [decide_eq_false e0];simp [S.label]
def JM (pre:List (List S.Tk)) (cur:List S.Tk) (gap:Bool) (k:Nat) (t:List Int) (line i n:Nat):List (List S.Tk) × List S.Tk :=
 if k=3/\t=[59] then (pre++S.emit cur i (i+n) line,[])
 else if S.label (cur++[⟨k,t,gap&&!decide (cur=[]),line,i,i+n⟩])=true then (pre++S.emit (cur++[⟨k,t,gap&&!decide (cur=[]),line,i,i+n⟩]) (i+n) (i+n) line,[])
 else (pre,cur++[⟨k,t,gap&&!decide (cur=[]),line,i,i+n⟩])
theorem put_eq (pre:List (List S.Tk)) (cur:List S.Tk) (gap:Bool) (k:Nat) (t:List Int) (line i n:Nat) :
  BH pre.flatten.length gap (pre.flatten++cur) k t line i (i+n)=(JM pre cur gap k t line i n).1.flatten++(JM pre cur gap k t line i n).2 /\
  FM pre.flatten.length gap (pre.flatten++cur) k t line i (i+n)=(JM pre cur gap k t line i n).1.flatten.length:=by
 have hL:BH pre.flatten.length gap (pre.flatten++cur) k t line i (i+n)=(JM pre cur gap k t line i n).1.flatten++(JM pre cur gap k t line i n).2:=by
  unfold BH JM;by_cases h1:k=3/\t=[59]
  ·rw [if_pos h1,if_pos h1,Oj];simp
  rw [if_neg h1,if_neg h1,Un _ _ _ _ (gap&&!decide (cur=[])) line i (i+n),Yw];by_cases h2:S.label (cur++[⟨k,t,gap&&!decide (cur=[]),line,i,i+n⟩])=true
  ·rw [if_pos h2,if_pos h2,List.append_assoc,Oj];simp
  ·rw [if_neg h2,if_neg h2];simp
 refine ⟨hL,?_⟩;unfold FM;rw [hL,Un _ _ _ _ (gap&&!decide (cur=[])) line i (i+n)];unfold JM;by_cases h1:k=3/\t=[59]
 ·rw [if_pos (.inl h1),if_pos h1];simp
 rw [if_neg h1];by_cases h2:S.label (cur++[⟨k,t,gap&&!decide (cur=[]),line,i,i+n⟩])=true
 ·rw [if_pos (.inr h2),if_pos h2];simp
 ·rw [if_neg (fun e=>e.elim h1 h2),if_neg h2]
theorem afb {xs:List Int} {pre:List (List S.Tk)} {cur:List S.Tk} {gap:Bool} {k:Nat} {t:List Int} {line i e:Nat} (h:S.step xs=.tok k t e) (f:Nat) :
  (S.go (f+1) xs i line cur gap).pre pre=(S.go f (xs.drop e) (i+e) line (JM pre cur gap k t line i e).2 false).pre (JM pre cur gap k t line i e).1:=by
 rw [S.go,h];simp only;unfold JM;by_cases h1:k=3/\t=[59]
 ·rw [if_pos h1,if_pos h1,S.pR]
 rw [if_neg h1,if_neg h1];by_cases h2:S.label (cur++[⟨k,t,gap&&!decide (cur=[]),line,i,i+e⟩])=true
 ·rw [if_pos h2,if_pos h2,S.pR]
 ·rw [if_neg h2,if_neg h2]
structure RI (W0:World) (H:Nat) (src:ByteArray) (i line:Nat) (v:Value) (gap:Bool) (pre:List (List S.Tk)) (cur:List S.Tk) (W:World):Prop where
 rd:nA H src i line v (pre.flatten.length:Nat) gap W
 own:W.ownsRow (H+1) 53 6 v (pre.flatten++cur).length (dG (pre.flatten++cur))
 but:But (fun k=>H<=k) W0 W
 hi:i<=src.size
 hl:1<=line/\line<=i+1
 len:pre.flatten.length+2*cur.length<=2*i
 DN:∀ t∈pre.flatten++cur,Bytes t
 go:∃ f,src.size - i < f/\S.scan (bytesOf src)=(S.go f ((bytesOf src).drop i) i line cur gap).pre pre
 hs:H+1<=W.heap.size
section
variable {W0:World} {H:Nat} {src:ByteArray} {i line:Nat} {v:Value} {gap:Bool} {pre:List (List S.Tk)} {cur:List S.Tk} {W W':World}
theorem RI.on (h:RI W0 H src i line v gap pre cur W) {v':Value} {Qa:Bool} {pre':List (List S.Tk)} {cur':List S.Tk} {n dl:Nat} (hR:nA H src ((i+n:Nat):Int) ((line+dl:Nat):Int) v' (pre'.flatten.length:Nat) Qa W')
  (hO:W'.ownsRow (H+1) 53 6 v' (pre'.flatten++cur').length (dG (pre'.flatten++cur'))) (hb:But (fun k=>H<=k) W W') (hn1:1<=n) (hn2:i+n<=src.size) (hdl:dl<=n)
  (hlen:pre'.flatten.length+2*cur'.length<=2*(i+n)) (hby:∀ t∈pre'.flatten++cur',Bytes t)
  (hgo:∀ f,(S.go (f+1) ((bytesOf src).drop i) i line cur gap).pre pre=(S.go f (((bytesOf src).drop i).drop n) (i+n) (line+dl) cur' Qa).pre pre') :
  RI W0 H src (i+n) (line+dl) v' Qa pre' cur' W':=by
 obtain ⟨f,h1,h2⟩:=h.go;obtain ⟨f,rfl⟩:∃ f',f=f'+1:=⟨f - 1,by omega⟩;refine ⟨hR,hO,h.but.trans' hb,hn2,⟨by have:=h.hl;omega,by have:=h.hl;omega⟩,hlen,hby,⟨f,by omega,?_⟩,Nat.le_trans h.hs hb.size⟩;rw [h2,hgo,List.drop_drop]
theorem tQ {cur:List S.Tk} (h:∀ t∈cur,Bytes t) (a b l:Nat):∀ t∈(S.emit cur a b l).flatten,Bytes t:=by
 intro t ht
 unfold S.emit at ht;by_cases e:cur=[]
 ·rw [if_pos e] at ht;cases ht
 rw [if_neg e] at ht;simp only [List.flatten_cons,List.flatten_nil,List.append_nil] at ht;rcases List.mem_append.1 ht with e2 | e2
 ·exact h t e2
 ·rw [List.mem_singleton.1 e2];intro x hx;cases hx
theorem yX (cur:List S.Tk) (a b l:Nat):(S.emit cur a b l).flatten.length<=2*cur.length:=by
 unfold S.emit;by_cases e:cur=[]
 ·rw [if_pos e];simp
 have:0 < cur.length:=List.length_pos_iff.2 e;rw [if_neg e];simp;omega
theorem abW {pre:List (List S.Tk)} {cur:List S.Tk} {gap:Bool} {k:Nat} {t:List Int} {line i e:Nat} (h:pre.flatten.length+2*cur.length<=2*i) (he:1<=e):(JM pre cur gap k t line i e).1.flatten.length+2*(JM pre cur gap k t line i e).2.length<=2*(i+e):=by
 unfold JM;split
 ·have:=yX cur i (i+e) line
  simp only [List.flatten_append,List.length_append,List.length_nil];omega
 ·split
  ·have:=yX (cur++[⟨k,t,gap&&!decide (cur=[]),line,i,i+e⟩]) (i+e) (i+e) line
   rw [List.length_append,List.length_singleton] at this;simp only [List.flatten_append,List.length_append,List.length_nil];omega
  ·simp only [List.length_append,List.length_singleton]
   omega
theorem Uo {pre:List (List S.Tk)} {cur:List S.Tk} {gap:Bool} {k:Nat} {t:List Int} {line i e:Nat} (h:∀ t∈pre.flatten++cur,Bytes t) (ht:∀ x∈t,0<=x/\x < 256):∀ u∈(JM pre cur gap k t line i e).1.flatten++(JM pre cur gap k t line i e).2,Bytes u:=by
 have hp:∀ t∈pre.flatten,Bytes t:=fun t ht=>h t (List.mem_append_left _ ht)
 have hc:∀ t∈cur,Bytes t:=fun t ht=>h t (List.mem_append_right _ ht)
 have hc2:∀ u∈cur++[(⟨k,t,gap&&!decide (cur=[]),line,i,i+e⟩:S.Tk)],Bytes u:=fun u hu=>by
  rcases List.mem_append.1 hu with e | e
  ·exact hc u e
  ·rw [List.mem_singleton.1 e];exact ht
 unfold JM;intro u hu
 split at hu
 ·simp only [List.flatten_append,List.append_nil] at hu
  rcases List.mem_append.1 hu with e | e
  ·exact hp u e
  ·exact tQ hc _ _ _ u e
 ·split at hu
  ·simp only [List.flatten_append,List.append_nil] at hu
   rcases List.mem_append.1 hu with e | e
   ·exact hp u e
   ·exact tQ hc2 _ _ _ u e
  ·rcases List.mem_append.1 hu with e | e
   ·exact hp u e
   ·exact hc2 u e
theorem RI.err (h:RI W0 H src i line v gap pre cur W) {c dl:Nat} (hs:S.step ((bytesOf src).drop i)=.err c dl):(S.scan (bytesOf src)).err=some (c,line+dl)/\S.tokens (bytesOf src)=pre.flatten++cur:=by
 obtain ⟨f,h1,h2⟩:=h.go;obtain ⟨f,rfl⟩:∃ f',f=f'+1:=⟨f - 1,by omega⟩;unfold S.tokens;rw [h2,S.go,hs];refine ⟨rfl,?_⟩;show (pre++(if cur=[] then [] else [cur])).flatten=_
 by_cases e:cur=[]
 ·rw [if_pos e,e];simp
 ·rw [if_neg e];simp
theorem RI.fin (h:RI W0 H src i line v gap pre cur W) (hi:src.size=i):(S.scan (bytesOf src)).err=none/\S.tokens (bytesOf src)=pre.flatten++(S.emit (S.cut cur) i i line).flatten:=by
 obtain ⟨f,h1,h2⟩:=h.go;obtain ⟨f,rfl⟩:∃ f',f=f'+1:=⟨f - 1,by omega⟩;have hd:(bytesOf src).drop i=[]:=List.drop_of_length_le (by rw [bytesOf_length];omega);unfold S.tokens;rw [h2,S.go,hd];refine ⟨rfl,?_⟩;show (pre++S.emit (S.cut cur) i i line).flatten=_
 rw [List.flatten_append]
end
theorem AJ {P:Program} {fn:Func} {p q:Tmp} {ty ty2:TypeId} (h:fn.results=#[.cell p ty,.cell q ty2]) (tmps:Array Value) (w:World) (g g2:Nat) (t t2:TypeId) (cs cs2:Array Value) (fr fr2:Nat × Nat) (d d2:TypeDesc)
  (hp:tmps.getD p undef=.pointer (some ⟨g,0,none⟩)) (hq:tmps.getD q undef=.pointer (some ⟨g2,0,none⟩)) (hg:w.heap[g]?=some (.cells cs t fr)) (hg2:w.heap[g2]?=some (.cells cs2 t2 fr2))
  (hu:P.underlying ty=some d) (hd:(match d with | .struct _ | .array _ _=>true | _=>false)=true) (hi:(P.info? ty).map (·.size)=some cs.size)
  (hu2:P.underlying ty2=some d2) (hd2:(match d2 with | .struct _ | .array _ _=>true | _=>false)=true) (hi2:(P.info? ty2).map (·.size)=some cs2.size) :
  (results fn tmps).run P w=.ok (.tuple #[.agg cs,.agg cs2]) w:=by
 have hp':tmps[p]?.getD undef=.pointer (some ⟨g,0,none⟩):=by simpa using hp
 have hq':tmps[q]?.getD undef=.pointer (some ⟨g2,0,none⟩):=by simpa using hq
 simp [results,h,hp',hq',asAddr,Sem.run_bind,run_loadVar_row w g t ty cs fr d hg hu hd hi,run_loadVar_row w g2 t2 ty2 cs2 fr2 d2 hg2 hu2 hd2 hi2,Result.andThen]
def Ei (wx:World) (B:Nat) (src:ByteArray) (i line:Int) (v:Value) (F:Int) (gap:Bool) (k:Int) (t:ByteArray) (e c l:Int):World :=
 ((((((((((wx.setCell ⟨B,0,none⟩ (.string src)).setCell ⟨B,1,none⟩ (.int .i64 i)).setCell ⟨B,2,none⟩ (.int .i64 line)).setCell ⟨B,3,none⟩ v).setCell ⟨B,4,none⟩ (.int .i64 F)).setCell ⟨B,5,none⟩ (.bool gap)).setCell ⟨B+1,0,none⟩ (.int .i64 k)).setCell ⟨B+1,1,none⟩ (.string t)).setCell ⟨B+1,2,none⟩ (.int .i64 e)).setCell ⟨B+1,3,none⟩ (.int .i64 c)).setCell ⟨B+1,4,none⟩ (.int .i64 l)
theorem JN {wx:World} {B:Nat} (src:ByteArray) (i line:Int) (v:Value) (F:Int) (gap:Bool) (k:Int) (t:ByteArray) (e c l:Int) {a0 a1 a2 a3 a4 a5 z0 z1 z2 z3 z4:Value}
  (h1:wx.heap[B]?=some (.cells #[a0,a1,a2,a3,a4,a5] 80 (0,0))) (h2:wx.heap[B+1]?=some (.cells #[z0,z1,z2,z3,z4] 82 (0,0))) :
  (Ei wx B src i line v F gap k t e c l).heap[B]?=some (.cells #[.string src,.int .i64 i,.int .i64 line,v,.int .i64 F,.bool gap] 80 (0,0)) /\
  (Ei wx B src i line v F gap k t e c l).heap[B+1]?=some (.cells #[.int .i64 k,.string t,.int .i64 e,.int .i64 c,.int .i64 l] 82 (0,0)) /\
  But (fun k=>k=B\/k=B+1) wx (Ei wx B src i line v F gap k t e c l):=by
 have e1:=aW (cs:=#[a0,a1,a2,a3,a4,a5]) (cs':=#[.string src,a1,a2,a3,a4,a5]) h1 0 (.string src) rfl;have e2:=aW (cs':=#[.string src,.int .i64 i,a2,a3,a4,a5]) e1 1 (.int .i64 i) rfl;have e3:=aW (cs':=#[.string src,.int .i64 i,.int .i64 line,a3,a4,a5]) e2 2 (.int .i64 line) rfl;have e4:=aW (cs':=#[.string src,.int .i64 i,.int .i64 line,v,a4,a5]) e3 3 v rfl;have e5:=aW (cs':=#[.string src,.int .i64 i,.int .i64 line,v,.int .i64 F,a5]) e4 4 (.int .i64 F) rfl;have e6:=aW (cs':=#[.string src,.int .i64 i,.int .i64 line,v,.int .i64 F,.bool gap]) e5 5 (.bool gap) rfl;have b1:But (·=B) wx ((((((wx.setCell ⟨B,0,none⟩ (.string src)).setCell ⟨B,1,none⟩ (.int .i64 i)).setCell ⟨B,2,none⟩ (.int .i64 line)).setCell ⟨B,3,none⟩ v).setCell ⟨B,4,none⟩ (.int .i64 F)).setCell ⟨B,5,none⟩ (.bool gap)):=((((((But.refl (·=B) wx).set ⟨B,0,none⟩ (.string src) rfl).set ⟨B,1,none⟩ (.int .i64 i) rfl).set ⟨B,2,none⟩ (.int .i64 line) rfl).set ⟨B,3,none⟩ v rfl).set ⟨B,4,none⟩ (.int .i64 F) rfl).set ⟨B,5,none⟩ (.bool gap) rfl;have h2':=(b1.block (B+1) (Array.getElem?_eq_some_iff.1 h2).1 (by omega)).trans h2;have d1:=aW (cs:=#[z0,z1,z2,z3,z4]) (cs':=#[.int .i64 k,z1,z2,z3,z4]) h2' 0 (.int .i64 k) rfl;have d2:=aW (cs':=#[.int .i64 k,.string t,z2,z3,z4]) d1 1 (.string t) rfl;have d3:=aW (cs':=#[.int .i64 k,.string t,.int .i64 e,z3,z4]) d2 2 (.int .i64 e) rfl;have d4:=aW (cs':=#[.int .i64 k,.string t,.int .i64 e,.int .i64 c,z4]) d3 3 (.int .i64 c) rfl;have d5:=aW (cs':=#[.int .i64 k,.string t,.int .i64 e,.int .i64 c,.int .i64 l]) d4 4 (.int .i64 l) rfl;have b2:=(((((But.refl (·=B+1) ((((((wx.setCell ⟨B,0,none⟩ (.string src)).setCell ⟨B,1,none⟩ (.int .i64 i)).setCell ⟨B,2,none⟩ (.int .i64 line)).setCell ⟨B,3,none⟩ v).setCell ⟨B,4,none⟩ (.int .i64 F)).setCell ⟨B,5,none⟩ (.bool gap))).set ⟨B+1,0,none⟩ (.int .i64 k) rfl).set ⟨B+1,1,none⟩ (.string t) rfl).set ⟨B+1,2,none⟩ (.int .i64 e) rfl).set ⟨B+1,3,none⟩ (.int .i64 c) rfl).set ⟨B+1,4,none⟩ (.int .i64 l) rfl;exact ⟨(b2.block B (Array.getElem?_eq_some_iff.1 e6).1 (by omega)).trans e6,d5,b1.trans b2 (fun _ _ e=>.inl e) (fun _ _ e=>.inr e)⟩
def Mv (w:World) (src:ByteArray) (en:Ending) (w':World):Prop :=
 ∃ (i line first:Int) (v:Value) (gap:Bool) (pk:Int) (pt:ByteArray) (pe:Int),en=.returned (.tuple #[.agg #[.string src,.int .i64 i,.int .i64 line,v,.int .i64 first,.bool gap],.agg #[.int .i64 pk,.string pt,.int .i64 pe,.int .i64 (vV (S.scan (bytesOf src)).err),.int .i64 (zY (S.scan (bytesOf src)).err)]]) /\
  w'.ownsRow (w.heap.size+3) 53 6 v (S.tokens (bytesOf src)).length (dG (S.tokens (bytesOf src)))/\Below w.heap.size w w'
theorem Ga {w W2 wx:World} {B H:Nat} {src:ByteArray} {v:Value} {L:List S.Tk} {a0 a1 a2 a3 a4 a5 z0 z1 z2 z3 z4:Value} (hB:w.heap.size=B) (hH:B+2=H) (hb0:Below B w W2) (hbx:But (fun k=>H<=k) W2 wx) (hsz:W2.heap.size=H)
  (h1:wx.heap[B]?=some (.cells #[a0,a1,a2,a3,a4,a5] 80 (0,0))) (h2:wx.heap[B+1]?=some (.cells #[z0,z1,z2,z3,z4] 82 (0,0)))
  (hO:wx.ownsRow (H+1) 53 6 v L.length (dG L)) (hT:S.tokens (bytesOf src)=L) (i line F:Int) (gap:Bool) (k:Int) (t:ByteArray) (e c l:Int) (hc:vV (S.scan (bytesOf src)).err=c) (hl:zY (S.scan (bytesOf src)).err=l) (q:Nat)
  (tmps:Array Value) (hp:tmps.getD 2 undef=.pointer (some ⟨B,0,none⟩)) (hq:tmps.getD 3 undef=.pointer (some ⟨B+1,0,none⟩)) :
  bodyPost Tryz.prog Tryz.f52 (fun en w'=>Mv w src en w') Exit.ret { tmps:=tmps,defers:=[] } ((Ei wx B src i line v F gap k t e c l).drewN q):=by
 obtain ⟨g1,g2,g3⟩:=JN src i line v F gap k t e c l h1 h2;generalize Ei wx B src i line v F gap k t e c l=wl at *;have g1':(wl.drewN q).heap[B]?=_:=g1;have g2':(wl.drewN q).heap[B+1]?=_:=g2;refine bodyPost_ret (AJ (fn:=Tryz.f52) (p:=2) (q:=3) (ty:=80) (ty2:=82) rfl tmps _ B (B+1) 80 82 #[.string src,.int .i64 i,.int .i64 line,v,.int .i64 F,.bool gap] #[.int .i64 k,.string t,.int .i64 e,.int .i64 c,.int .i64 l] (0,0) (0,0) _ _ hp hq g1' g2' Tryz.underlying80 rfl (by kernel_rfl) Tryz.underlying82 rfl (by kernel_rfl)) rfl ?_;have hO2:=bV hO g3 (fun k hk h=>by
  have:=(hO.lt k h).1;omega)
 refine ⟨i,line,F,v,gap,k,t,e,by rw [hc,hl],?_,?_⟩
 ·rw [hT,hB,show B+3=H+1 by omega]
  exact hO2
 ·rw [hB]
  have hbw:Below B W2 wl:=by
   refine (hbx.trans g3 (C:=fun k=>B<=k) (fun k _ h=>by omega) (fun k _ h=>by omega)).jS (by omega) (fun k h e=>by omega)
  have:=hb0.trans hbw;exact ⟨this.os,this.tape,this.output,this.size,this.block⟩
theorem drewN_zero (w:World):w.drewN 0=w:=rfl
theorem Uq {w W2 wx:World} {B H:Nat} {src:ByteArray} {v:Value} {L:List S.Tk} {a0 a1 a2 a3 a4 a5 z0 z1 z2 z3 z4:Value} (hB:w.heap.size=B) (hH:B+2=H) (hb0:Below B w W2) (hbx:But (fun k=>H<=k) W2 wx) (hsz:W2.heap.size=H)
  (h1:wx.heap[B]?=some (.cells #[a0,a1,a2,a3,a4,a5] 80 (0,0))) (h2:wx.heap[B+1]?=some (.cells #[z0,z1,z2,z3,z4] 82 (0,0)))
  (hO:wx.ownsRow (H+1) 53 6 v L.length (dG L)) (hT:S.tokens (bytesOf src)=L) (i line F:Int) (gap:Bool) (k:Int) (t:ByteArray) (e c l:Int) (hc:vV (S.scan (bytesOf src)).err=c) (hl:zY (S.scan (bytesOf src)).err=l)
  (tmps:Array Value) (hp:tmps.getD 2 undef=.pointer (some ⟨B,0,none⟩)) (hq:tmps.getD 3 undef=.pointer (some ⟨B+1,0,none⟩)) :
  bodyPost Tryz.prog Tryz.f52 (fun en w'=>Mv w src en w') Exit.ret { tmps:=tmps,defers:=[] } (Ei wx B src i line v F gap k t e c l):=by
 have:=Ga hB hH hb0 hbx hsz h1 h2 hO hT i line F gap k t e c l hc hl 0 tmps hp hq;rwa [drewN_zero] at this
end Go.Proofs.YtkkpjonfaflkmaaGreatDoor.T
