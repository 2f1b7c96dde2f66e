/- A part of the proof of ScanWrites. -/
import Derived.Test.YtkkpjonfaflkmaaGreatDoorCScanWrites15
set_option linter.all false
namespace Go.Proofs.YtkkpjonfaflkmaaGreatDoor.S
abbrev KT:=Nat × List Int
def zX (x:KT):List Int:=if x.1=2 then quote x.2 else x.2
def spl (l:List KT):List Int:=l.flatMap zX
theorem jV (x:KT) (l:List KT):spl (x::l)=zX x++spl l:=by simp [spl]
theorem Od (l m:List KT):spl (l++m)=spl l++spl m:=by simp [spl]
theorem xg (t:List Int):zX (2,t)=quote t:=if_pos rfl
theorem tH {k:Nat} {t:List Int} (h:k≠2):zX (k,t)=t:=if_neg h
theorem Me (v:List Int) (q:Int) (hq:q=39\/q=34):v.count (wh v)<=v.count q:=by
 unfold wh;by_cases h:v.count 34 < v.count 39
 ·rw [if_pos h];rcases hq with rfl | rfl<;>omega
 ·rw [if_neg h];rcases hq with rfl | rfl<;>omega
theorem Ea:∀ v:List Int,v.count 34+v.count 39<=v.length
 | []=>by simp
 | c::v=>by
  have:=Ea v;rw [List.count_cons,List.count_cons,List.length_cons];by_cases h:c=34
  ·subst h
   rw [if_pos (by decide),if_neg (by decide)];omega
  rw [if_neg (by simpa using h)];split<;>omega
theorem TS (v:List Int):2*v.count (wh v)<=v.length:=by
 have h1:=Me v 39 (.inl rfl);have h2:=Me v 34 (.inr rfl);have h3:=Ea v;omega
theorem FW (q:Int):∀ (xs:List Int) (i:Nat) (acc v:List Int) (j:Nat),lit q xs i acc=some (v,j)->∃ w,v=acc++w/\j=i+w.length+w.count q
 | [],_,_,_,_=>fun h=>by cases h
 | [c],i,acc,v,j=>fun h=>by
  rw [lit] at h;by_cases h1:c=10
  ·rw [if_pos h1] at h;cases h
  rw [if_neg h1] at h;by_cases h2:c=q
  ·rw [if_pos h2] at h;cases h
   exact ⟨[],by simp,by simp⟩
  ·rw [if_neg h2] at h;cases h
 | c::d::t,i,acc,v,j=>fun h=>by
  rw [lit] at h;by_cases h1:c=10
  ·rw [if_pos h1] at h;cases h
  rw [if_neg h1] at h;by_cases h2:c=q
  ·rw [if_pos h2] at h
   by_cases h3:d=q
   ·rw [if_pos h3] at h
    obtain ⟨w,e1,e2⟩:=FW q t (i+2) (acc++[q]) v j h;refine ⟨q::w,by rw [e1];simp,?_⟩;rw [e2,List.length_cons,List.count_cons_self];omega
   rw [if_neg h3] at h;cases h;exact ⟨[],by simp,by simp⟩
  rw [if_neg h2] at h;obtain ⟨w,e1,e2⟩:=FW q (d::t) (i+1) (acc++[c]) v j h;refine ⟨c::w,by rw [e1];simp,?_⟩;rw [e2,List.length_cons,List.count_cons_of_ne (by simpa using h2)];omega
theorem zH (base:Int) (w:Nat):∀ (k:Nat) (xs v:List Int),lK base w k xs=some v->v.length=k
 | 0,xs,v,h=>by cases h;rfl
 | k+1,xs,v,h=>by
  rw [lK] at h;cases hg:su base (xs.take w) 0 with
  | none=>rw [hg] at h;cases h
  | some n =>
   rw [hg] at h;simp only at h;by_cases hp:iT n=true
   ·rw [if_pos hp] at h
    cases hr:lK base w k (xs.drop w) with
    | none=>rw [hr] at h;cases h
    | some u =>
     rw [hr] at h;simp only [Option.map_some,Option.some.injEq] at h;subst h;rw [List.length_cons,zH base w k _ u hr]
   ·rw [if_neg hp] at h;cases h
theorem Dh {v u:List Int} {sx:Nat} (h:eU v sx=some u):2*u.length<=v.length:=by
 have key:∀ (b:Int) (w:Nat),2<=w->decode b w v=some u->2*u.length<=v.length:=by
  intro b w hw h
  unfold decode at h;by_cases hm:v.length % w≠0
  ·rw [if_pos hm] at h;cases h
  rw [if_neg hm] at h;rw [zH _ _ _ _ _ h];have h1:=Nat.div_mul_le_self v.length w;have h2:v.length / w*2<=v.length / w*w:=Nat.mul_le_mul_left _ hw;omega
 unfold eU at h;by_cases hs:sx=4
 ·rw [if_pos hs] at h;exact key _ _ (by omega) h
 ·rw [if_neg hs] at h;exact key _ _ (by omega) h
theorem oP {xs t:List Int} {k n:Nat} (h:step xs=.tok k t n):∃ c r,xs=c::r/\c≠10/\c≠32/\dQ xs=false /\
  ((k=2/\(c=39\/c=34)/\dZ xs=.ok t n)\/(k=1/\¬ (c=39\/c=34)/\sym c=true/\iH xs=.ok t n)\/(k=3/\¬ (c=39\/c=34)/\sym c=false/\gJ xs=.ok t n)):=by
 rcases xs with _ | ⟨c,r⟩
 ·cases h
 refine ⟨c,r,rfl,?_⟩;simp only [step] at h;by_cases h1:c=10
 ·rw [if_pos h1] at h;cases h
 rw [if_neg h1] at h;by_cases h2:c=32
 ·rw [if_pos h2] at h;cases h
 rw [if_neg h2] at h;by_cases h3:dQ (c::r)=true
 ·rw [if_pos h3] at h;exact (vL h).elim
 rw [if_neg h3] at h;refine ⟨h1,h2,by simpa using h3,?_⟩;by_cases h4:c=39\/c=34
 ·rw [if_pos h4] at h
  obtain ⟨rfl,hr⟩:=iM h;exact .inl ⟨rfl,h4,hr⟩
 rw [if_neg h4] at h;by_cases h5:sym c=true
 ·rw [if_pos h5] at h
  obtain ⟨rfl,hr⟩:=iM h;exact .inr (.inl ⟨rfl,h4,h5,hr⟩)
 rw [if_neg h5] at h;obtain ⟨rfl,hr⟩:=iM h;exact .inr (.inr ⟨rfl,h4,by simpa using h5,hr⟩)
theorem JA {c:Int} {r t:List Int} {n:Nat} (hc:c=39\/c=34) (h:dZ (c::r)=.ok t n):step (c::r)=.tok 2 t n:=by
 have h3:dQ (c::r)=false:=by
  rcases r with _ | ⟨d,r⟩
  ·rfl
  ·rcases hc with rfl | rfl<;>rfl
 simp only [step];rw [if_neg (by omega),if_neg (by omega),if_neg (by rw [h3];decide),if_pos hc,h];rfl
theorem Eb {c:Int} (h:sym c=true):c≠10/\c≠32/\c≠47/\c≠42/\¬ (c=39\/c=34):=by
 refine ⟨?_,?_,?_,?_,?_⟩
 ·rintro rfl;cases h
 ·rintro rfl;cases h
 ·rintro rfl;cases h
 ·rintro rfl;cases h
 ·rintro (rfl | rfl)<;>cases h
theorem BR {c:Int} {r:List Int} (h:c≠47):dQ (c::r)=false:=by
 rcases r with _ | ⟨d,r⟩
 ·rfl
 ·simp [dQ,h]
theorem JB {c:Int} {r t:List Int} {n:Nat} (hc:sym c=true) (h:iH (c::r)=.ok t n):step (c::r)=.tok 1 t n:=by
 obtain ⟨f1,f2,f3,f4,f5⟩:=Eb hc;simp only [step];rw [if_neg f1,if_neg f2,if_neg (by rw [BR f3];decide),if_neg f5,if_pos hc,h];rfl
theorem qU {xs t:List Int} {n:Nat} (h:iH xs=.ok t n):n=dH xs/\t=(xs.take n).map up/\n<=40:=by
 unfold iH at h;by_cases h4:40 < dH xs
 ·rw [if_pos h4] at h;cases h
 rw [if_neg h4] at h;cases h;exact ⟨rfl,rfl,by omega⟩
theorem nM {xs t:List Int} {n:Nat} (h:gJ xs=.ok t n):t∈signs/\n=t.length/\t.isPrefixOf xs=true:=by
 unfold gJ at h;cases hf:signs.find? (fun x=>x.isPrefixOf xs) with
 | none=>rw [hf] at h;cases h
 | some l =>
  rw [hf] at h;cases h
  exact ⟨List.mem_of_find?_eq_some hf,rfl,by simpa using List.find?_some hf⟩
theorem JC {xs t:List Int} {k n:Nat} (hb:∀ x∈xs,0<=x/\x < 256) (h:step xs=.tok k t n):(zX (k,t)).length<=n:=by
 obtain ⟨c,r,rfl,-,-,-,hk⟩:=oP h;rcases hk with ⟨rfl,hq,hl⟩ | ⟨rfl,-,-,hs⟩ | ⟨rfl,-,-,hs⟩
 ·rw [xg,qH]
  simp only [dZ] at hl;cases hlit:lit c r 1 [] with
  | none=>rw [hlit] at hl;cases hl
  | some p =>
   obtain ⟨v,i⟩:=p;rw [hlit] at hl;simp only at hl;obtain ⟨w,e1,e2⟩:=FW c r 1 [] v i hlit;rw [List.nil_append] at e1;subst e1;by_cases hp:v.all iT=true
   rotate_left
   ·rw [if_neg hp] at hl;cases hl
   rw [if_pos hp] at hl;by_cases hsx:sfx ((c::r).drop (i+1))=0
   ·rw [if_pos hsx] at hl
    obtain ⟨rfl,rfl⟩:=oF hl;have:=Me t c hq;omega
   rw [if_neg hsx] at hl;cases hd:eU v (sfx ((c::r).drop (i+1))) with
   | none=>rw [hd] at hl;cases hl
   | some u =>
    rw [hd] at hl;obtain ⟨rfl,rfl⟩:=oF hl;have h1:=Dh hd;have h2:=TS t;omega
 ·obtain ⟨e1,e2,e3⟩:=qU hs
  rw [tH (by decide),e2,List.length_map,List.length_take];omega
 ·obtain ⟨e1,e2,e3⟩:=nM hs
  rw [tH (by decide)];omega
def uW:Nat->List Int->Option (List KT)
 | 0,_=>none
 | f+1,xs=>match step xs with
  | .fin=>some []
  | .line=>uW f (xs.drop 1)
  | .blank=>uW f (xs.drop 1)
  | .jD n _=>uW f (xs.drop n)
  | .tok k t n=>(uW f (xs.drop n)).map ((k,t)::·)
  | .err _ _=>none
theorem fQ {xs:List Int} (hb:∀ x∈xs,0<=x/\x < 256) (n:Nat):∀ x∈xs.drop n,0<=x/\x < 256:=fun x hx=>hb x (List.mem_of_mem_drop hx)
theorem oo:∀ (f:Nat) (xs:List Int) (l:List KT),(∀ x∈xs,0<=x/\x < 256)->uW f xs=some l->(spl l).length<=xs.length
 | 0,_,_,_,h=>by cases h
 | f+1,xs,l,hb,h=>by
  rw [uW] at h;cases hs:step xs with
  | fin=>rw [hs] at h;cases h;simp [spl]
  | line=>rw [hs] at h;have:=oo f _ l (fQ hb 1) h;rw [List.length_drop] at this;omega
  | blank=>rw [hs] at h;have:=oo f _ l (fQ hb 1) h;rw [List.length_drop] at this;omega
  | jD n d=>rw [hs] at h;have:=oo f _ l (fQ hb n) h;rw [List.length_drop] at this;omega
  | err c d=>rw [hs] at h;cases h
  | tok k t n =>
   rw [hs] at h;simp only at h;cases hr:uW f (xs.drop n) with
   | none=>rw [hr] at h;cases h
   | some l' =>
    rw [hr] at h;cases h
    have h1:=oo f _ l' (fQ hb n) hr;have h2:=JC hb hs;have h3:=(kR hb hs).2.1;rw [List.length_drop] at h1;rw [jV,List.length_append];omega
def Rd:List KT->Prop
 | []=>True
 | x::l=>step (zX x++spl l)=.tok x.1 x.2 (zX x).length/\Rd l
theorem yO:∀ (f:Nat) (l:List KT),(∀ x∈spl l,0<=x/\x < 256)->uW f (spl l)=some l->Rd l
 | 0,_,_,h=>by cases h
 | f+1,[],hb,h=>trivial
 | f+1,x::l,hb,h=>by
  rw [uW] at h;have hpos:step (spl (x::l))≠.fin->1<=(spl (x::l)).length:=qm;cases hs:step (spl (x::l)) with
  | fin=>rw [hs] at h;cases h
  | line =>
   rw [hs] at h hpos;have h1:=oo f _ _ (fQ hb 1) h;rw [List.length_drop] at h1;have:=hpos (by simp);omega
  | blank =>
   rw [hs] at h hpos;have h1:=oo f _ _ (fQ hb 1) h;rw [List.length_drop] at h1;have:=hpos (by simp);omega
  | jD n d =>
   rw [hs] at h hpos;have h1:=oo f _ _ (fQ hb n) h;rw [List.length_drop] at h1;have:=hpos (by simp);have:=sP hs;omega
  | err c d=>rw [hs] at h;cases h
  | tok k t n =>
   rw [hs] at h;simp only at h;cases hr:uW f ((spl (x::l)).drop n) with
   | none=>rw [hr] at h;cases h
   | some l' =>
    rw [hr] at h;simp only [Option.map_some,Option.some.injEq,List.cons.injEq] at h;obtain ⟨rfl,rfl⟩:=h;have h1:=oo f _ _ (fQ hb n) hr;have h2:=JC hb hs;have h3:=(kR hb hs).2.1;rw [List.length_drop] at h1;have hsl:(spl ((k,t)::l')).length=(zX (k,t)).length+(spl l').length:=by rw [jV,List.length_append]
    have hn:n=(zX (k,t)).length:=by omega
    subst hn;rw [jV,List.drop_left] at hr;rw [jV] at hs;exact ⟨hs,yO f l' (fun x hx=>hb x (by rw [jV];exact List.mem_append_right _ hx)) hr⟩
theorem yP:∀ (f:Nat) (l:List KT),(∀ x∈spl l,0<=x/\x < 256)->(spl l).length < f->Rd l->uW f (spl l)=some l
 | 0,_,_,h,_=>absurd h (Nat.not_lt_zero _)
 | f+1,[],hb,h,_=>rfl
 | f+1,x::l,hb,hf,h=>by
  obtain ⟨h1,h2⟩:=h;rw [jV] at hb hf |-
  rw [uW,h1];simp only;rw [List.drop_left];have h3:=(kR hb h1).1;rw [yP f l (fun x hx=>hb x (List.mem_append_right _ hx)) (by rw [List.length_append] at hf;omega) h2];rfl
theorem Mf (c:Int):sym (up c)=sym c:=by
 unfold up;by_cases h:97<=c/\c<=122
 ·rw [if_pos h]
  have h1:sym c=true:=by simp [sym,h.1,h.2]
  have h2:sym (c - 32)=true:=by
   have a:(65:Int)<=c - 32:=by omega
   have b:c - 32<=90:=by omega
   simp [sym,a,b]
  rw [h1,h2]
 ·rw [if_neg h]
theorem TT {c:Int} (h:¬ (97<=c/\c<=122)):up c=c:=if_neg h
theorem FX (c:Int):kH (up c)=kH c:=by
 unfold up;by_cases h:97<=c/\c<=122
 ·rw [if_pos h]
  have a:¬ c<=57:=by omega
  have b:¬ c - 32<=57:=by omega
  simp [kH,a,b]
 ·rw [if_neg h]
theorem Oe (d:Int) (hd:¬ (65<=d/\d<=90)) (hd2:¬ (97<=d/\d<=122)) (c:Int):decide (up c=d)=decide (c=d):=by
 unfold up;by_cases h:97<=c/\c<=122
 ·rw [if_pos h];exact decide_eq_decide.2 (by omega)
 ·rw [if_neg h]
theorem aiY (c:Int):(decide (up c=69)||decide (up c=101))=(decide (c=69)||decide (c=101)):=by
 unfold up;by_cases h:97<=c/\c<=122
 ·rw [if_pos h,<- Bool.decide_or,<- Bool.decide_or];exact decide_eq_decide.2 (by omega)
 ·rw [if_neg h]
theorem aeL (c:Int):up (up c)=up c:=by
 have:¬ (97<=up c/\up c<=122):=by
  unfold up;by_cases h:97<=c/\c<=122
  ·rw [if_pos h];omega
  ·rw [if_neg h];exact h
 exact TT this
theorem Mg (p:Int->Bool) (hp:∀ c,p (up c)=p c):∀ xs:List Int,run p (xs.map up)=run p xs
 | []=>rfl
 | c::xs=>by rw [List.map_cons,run,run,hp,Mg p hp xs]
theorem XL (xs:List Int):nI (xs.map up)=nI xs:=by
 rcases xs with _ | ⟨c,_ | ⟨d,t⟩⟩
 ·rfl
 ·rfl
 ·simp only [List.map_cons,nI]
  rw [FX,Oe 43 (by omega) (by omega),Oe 45 (by omega) (by omega)]
theorem JD:∀ xs:List Int,(xs.map up).count 46=xs.count 46
 | []=>rfl
 | c::xs=>by
  rw [List.map_cons,List.count_cons,List.count_cons,JD xs];have h:=decide_eq_decide.1 (Oe 46 (by omega) (by omega) c);by_cases e:c=46
  ·rw [if_pos (beq_iff_eq.2 (h.2 e)),if_pos (beq_iff_eq.2 e)]
  ·rw [if_neg (fun x=>e (h.1 (beq_iff_eq.1 x))),if_neg (fun x=>e (beq_iff_eq.1 x))]
theorem XM (xs:List Int):ni (xs.map up)=ni xs:=by
 unfold ni;rw [List.getLast?_map];cases xs.getLast? with
 | none=>rfl
 | some e =>
  simp only [Option.map_some];rw [aiY,<- List.map_dropLast,JD,List.all_map,List.any_map];congr 2
  ·congr 1
   apply List.all_congr rfl
   intro c
   simp only [Function.comp];rw [FX,Oe 46 (by omega) (by omega)]
  ·apply List.any_congr rfl
   intro c
   simp only [Function.comp];exact FX c
theorem Qj (xs:List Int):dH (xs.map up)=dH xs:=by
 unfold dH;rw [Mg sym Mf,<- List.map_take,<- List.map_drop,<- List.map_drop,XM,XL,Mg kH FX]
theorem Mh (xs:List Int):dH (xs.take (dH xs))=dH xs/\dH xs<=xs.length:=by
 obtain ⟨M,R,e1,hM,hR,hor⟩:=qR xs;rcases hor with ⟨hl,hx⟩ | ⟨g,D,S,rfl,hm,hg,hD,hd,hS,hl⟩
 ·rw [hl]
  subst e1;rw [List.take_left];have:=FU (M:=M) (R:=[]) hM (fun e s h=>by cases h) (fun h=>by simp [nI] at h);rw [List.append_nil] at this;exact ⟨this,by simp⟩
 ·rw [hl]
  have e2:xs=(M++g::D)++S:=by rw [e1];simp
  have e3:(M++g::D).length=M.length+1+D.length:=by simp;omega
  rw [<- e3];have:=Ju (M:=M) (D:=D) (S:=[]) hM hm hg hD hd (fun e s h=>by cases h);rw [List.append_nil] at this;rw [e2,List.take_left,this,e3];exact ⟨rfl,by rw [List.length_append];omega⟩
theorem Mi:∀ t∈signs,step t=.tok 3 t t.length:=by decide
theorem Qk {v:List Int} (hp:v.all iT=true) (hl:v.length<=1000):∀ R:List Int,R.head?≠some (wh v)->sfx R=0->dZ (quote v++R)=.ok v (quote v).length:=by
 have hq:wh v≠10:=by rcases Fg v with e | e<;>rw [e]<;>decide
 have hn:∀ x∈v,x≠10:=fun x hx e=>by
  subst e;have:=List.all_eq_true.1 hp 10 hx;cases this
 have key:∀ (q:Int),q≠10->∀ (xs acc:List Int) (i:Nat) (R:List Int),(∀ x∈xs,x≠10)->R.head?≠some q->lit q (Da q xs++(q::R)) i acc=some (acc++xs,i+(Da q xs).length):=by
  intro q hq xs
  induction xs with
  | nil =>
   intro acc i R _ hR
   show lit q (q::R) i acc=_
   rcases R with _ | ⟨d,t⟩
   ·simp [lit,hq,Da]
   ·simp only [List.head?_cons,ne_eq,Option.some.injEq] at hR
    simp [lit,hq,hR,Da]
  | cons c xs ih =>
   intro acc i R h hR
   have ih:=fun acc i=>ih acc i R (fun x hx=>h x (by simp [hx])) hR
   rw [wP];by_cases e:c=q
   ·subst e
    rw [if_pos rfl];show lit c (c::c::(Da c xs++(c::R))) i acc=_
    rw [lit,if_neg hq,if_pos rfl,if_pos rfl,ih];simp;omega
   rw [if_neg e];show lit q (c::(Da q xs++(q::R))) i acc=_
   obtain ⟨d,t,hdt⟩:∃ d t,Da q xs++(q::R)=d::t:=by
    cases Da q xs with
    | nil=>exact ⟨_,_,rfl⟩
    | cons a b=>exact ⟨_,_,rfl⟩
   have ih2:=ih (acc++[c]) (i+1);rw [hdt] at ih2 |-
   rw [lit,if_neg (h c (by simp)),if_neg e,ih2];simp;omega
 intro R hR hs
 have h:=key (wh v) hq v [] 1 R hn hR;have hd:(quote v++R).drop (1+(Da (wh v) v).length+1)=R:=by
  have:(quote v).length=1+(Da (wh v) v).length+1:=by unfold quote;simp;omega
  rw [<- this,List.drop_left]
 have hqt:quote v++R=wh v::(Da (wh v) v++(wh v::R)):=by unfold quote;simp
 rw [hqt] at hd |-
 rw [List.nil_append] at h;simp only [dZ,h,hp,if_true];rw [hd,if_pos hs];unfold jR;rw [if_neg (by omega)];congr 1
 unfold quote;simp;omega
def Good (x:KT):Prop:=step (zX x)=.tok x.1 x.2 (zX x).length/\x≠(3,[59])/\∀ y∈zX x,0<=y/\y < 256
theorem BS {q:Int} {r t:List Int} {n:Nat} (h:dZ (q::r)=.ok t n):t.all iT=true/\t.length<=1000:=by
 have he:∀ {v:List Int} {m:Nat},jR v m=.ok t n->t=v/\t.length<=1000:=fun {v m} h=>by
  unfold jR at h;by_cases hv:1000 < v.length
  ·rw [if_pos hv] at h;cases h
  ·rw [if_neg hv] at h;cases h;exact ⟨rfl,by omega⟩
 simp only [dZ] at h;cases hl:lit q r 1 [] with
 | none=>rw [hl] at h;cases h
 | some p =>
  obtain ⟨v,i⟩:=p;rw [hl] at h;simp only at h;by_cases hp:v.all iT=true
  rotate_left
  ·rw [if_neg hp] at h;cases h
  rw [if_pos hp] at h;by_cases hs:sfx ((q::r).drop (i+1))=0
  ·rw [if_pos hs] at h
   obtain ⟨rfl,h2⟩:=he h;exact ⟨hp,h2⟩
  rw [if_neg hs] at h;cases hd:eU v (sfx ((q::r).drop (i+1))) with
  | none=>rw [hd] at h;cases h
  | some u =>
   rw [hd] at h;obtain ⟨rfl,h2⟩:=he h;refine ⟨List.all_eq_true.2 ?_,h2⟩;have key:∀ (b:Int) (w:Nat),decode b w v=some t->∀ x∈t,iT x=true:=by
    intro b w h x hx
    unfold decode at h;by_cases hm:v.length % w≠0
    ·rw [if_pos hm] at h;cases h
    ·rw [if_neg hm] at h;exact Br _ _ _ _ _ h x hx
   unfold eU at hd;by_cases hx:sfx ((q::r).drop (i+1))=4
   ·rw [if_pos hx] at hd;exact key _ _ hd
   ·rw [if_neg hx] at hd;exact key _ _ hd
theorem FY {xs t:List Int} {k n:Nat} (hb:∀ x∈xs,0<=x/\x < 256) (h:step xs=.tok k t n) (hne:¬ (k=3/\t=[59])):Good (k,t):=by
 obtain ⟨b1,b2,b3,b4,b5⟩:=kR hb h;have hby:∀ y∈zX (k,t),0<=y/\y < 256:=by
  by_cases e:k=2
  ·subst e;rw [xg];exact pQ b3
  ·rw [tH e];exact b3
 refine ⟨?_,fun e=>hne (by cases e;exact ⟨rfl,rfl⟩),hby⟩;obtain ⟨c,r,rfl,c1,c2,c3,hk⟩:=oP h;rcases hk with ⟨rfl,hq,hl⟩ | ⟨rfl,-,hc,hs⟩ | ⟨rfl,-,-,hs⟩
 ·rw [xg]
  obtain ⟨h1,h2⟩:=BS hl;have:=Qk h1 h2 [] (by simp) rfl;rw [List.append_nil] at this;have hqo:wh t=39\/wh t=34:=(Fg t).symm;unfold quote at this |-
  exact JA hqo this
 ·rw [tH (by decide)]
  obtain ⟨e1,e2,e3⟩:=qU hs;obtain ⟨g1,g2⟩:=Mh (c::r);rw [<- e1] at g1 g2;have hsl:dH t=t.length:=by
   rw [e2,Qj,g1,List.length_map,List.length_take,Nat.min_eq_left g2]
  have htl:t.length=n:=by rw [e2,List.length_map,List.length_take,Nat.min_eq_left g2]
  have hst:iH t=.ok t t.length:=by
   unfold iH;rw [hsl,if_neg (by omega),List.take_length];congr 1
   rw [e2,List.map_map];exact List.map_congr_left fun a _=>aeL a
  obtain ⟨m,rfl⟩:∃ m,n=m+1:=⟨n - 1,by omega⟩;have hct:t=up c::(r.take m).map up:=by rw [e2];rfl
  rw [hct] at hst |-
  exact JB (by rw [Mf];exact hc) hst
 ·rw [tH (by decide)]
  exact Mi t (nM hs).1
end Go.Proofs.YtkkpjonfaflkmaaGreatDoor.S
namespace Go.Proofs.YtkkpjonfaflkmaaGreatDoor.T
open Go.RowKit Go.Proofs.aj.aI Go.Proofs.aj.aY Go.Proofs.aj.bq
attribute [local go_sem] eY eZ gH gI dV dW fq fu
def fT.f :Option (List ByteArray):=some (([(⟨#[92,61,61]⟩:ByteArray),(⟨#[92,62,62]⟩:ByteArray),(⟨#[92,60,60]⟩:ByteArray),(⟨#[62,62,61]⟩:ByteArray),(⟨#[60,60,61]⟩:ByteArray),(⟨#[42,42]⟩:ByteArray),(⟨#[47,47]⟩:ByteArray),(⟨#[124,124]⟩:ByteArray),(⟨#[38,38]⟩:ByteArray),(⟨#[61,61]⟩:ByteArray),(⟨#[92,61]⟩:ByteArray),(⟨#[92,62]⟩:ByteArray),(⟨#[92,60]⟩:ByteArray),(⟨#[62,61]⟩:ByteArray),(⟨#[60,61]⟩:ByteArray),(⟨#[62,62]⟩:ByteArray),(⟨#[60,60]⟩:ByteArray),(⟨#[62,60]⟩:ByteArray),(⟨#[60,62]⟩:ByteArray),(⟨#[43]⟩:ByteArray),(⟨#[45]⟩:ByteArray),(⟨#[42]⟩:ByteArray),(⟨#[47]⟩:ByteArray),(⟨#[37]⟩:ByteArray),(⟨#[124]⟩:ByteArray),(⟨#[38]⟩:ByteArray),(⟨#[61]⟩:ByteArray),(⟨#[62]⟩:ByteArray),(⟨#[60]⟩:ByteArray),(⟨#[92]⟩:ByteArray),(⟨#[40]⟩:ByteArray),(⟨#[41]⟩:ByteArray),(⟨#[44]⟩:ByteArray),(⟨#[58]⟩:ByteArray),(⟨#[59]⟩:ByteArray)]:List ByteArray))
set_option maxHeartbeats 8000000 in
set_option maxRecDepth 100000 in
theorem fT.calls  (r:List ByteArray) (w:World) (h:fT.f =some r) :
  Calls Tryz.prog 121 #[] w fun e w'=>∃ v0_:Value,e=.returned (v0_)/\Kd.R Kd.string 9 w' w.heap.size (fun _=>True) v0_ r/\Below w.heap.size w w':=by
 have HB:=ah.mk (Below.refl w.heap.size w);have H:(some (([(⟨#[92,61,61]⟩:ByteArray),(⟨#[92,62,62]⟩:ByteArray),(⟨#[92,60,60]⟩:ByteArray),(⟨#[62,62,61]⟩:ByteArray),(⟨#[60,60,61]⟩:ByteArray),(⟨#[42,42]⟩:ByteArray),(⟨#[47,47]⟩:ByteArray),(⟨#[124,124]⟩:ByteArray),(⟨#[38,38]⟩:ByteArray),(⟨#[61,61]⟩:ByteArray),(⟨#[92,61]⟩:ByteArray),(⟨#[92,62]⟩:ByteArray),(⟨#[92,60]⟩:ByteArray),(⟨#[62,61]⟩:ByteArray),(⟨#[60,61]⟩:ByteArray),(⟨#[62,62]⟩:ByteArray),(⟨#[60,60]⟩:ByteArray),(⟨#[62,60]⟩:ByteArray),(⟨#[60,62]⟩:ByteArray),(⟨#[43]⟩:ByteArray),(⟨#[45]⟩:ByteArray),(⟨#[42]⟩:ByteArray),(⟨#[47]⟩:ByteArray),(⟨#[37]⟩:ByteArray),(⟨#[124]⟩:ByteArray),(⟨#[38]⟩:ByteArray),(⟨#[61]⟩:ByteArray),(⟨#[62]⟩:ByteArray),(⟨#[60]⟩:ByteArray),(⟨#[92]⟩:ByteArray),(⟨#[40]⟩:ByteArray),(⟨#[41]⟩:ByteArray),(⟨#[44]⟩:ByteArray),(⟨#[58]⟩:ByteArray),(⟨#[59]⟩:ByteArray)]:List ByteArray)))=some r:=h;clear h;obtain ⟨aiZ,JE⟩:∃ y_:List ByteArray,y_=(([(⟨#[92,61,61]⟩:ByteArray),(⟨#[92,62,62]⟩:ByteArray),(⟨#[92,60,60]⟩:ByteArray),(⟨#[62,62,61]⟩:ByteArray),(⟨#[60,60,61]⟩:ByteArray),(⟨#[42,42]⟩:ByteArray),(⟨#[47,47]⟩:ByteArray),(⟨#[124,124]⟩:ByteArray),(⟨#[38,38]⟩:ByteArray),(⟨#[61,61]⟩:ByteArray),(⟨#[92,61]⟩:ByteArray),(⟨#[92,62]⟩:ByteArray),(⟨#[92,60]⟩:ByteArray),(⟨#[62,61]⟩:ByteArray),(⟨#[60,61]⟩:ByteArray),(⟨#[62,62]⟩:ByteArray),(⟨#[60,60]⟩:ByteArray),(⟨#[62,60]⟩:ByteArray),(⟨#[60,62]⟩:ByteArray),(⟨#[43]⟩:ByteArray),(⟨#[45]⟩:ByteArray),(⟨#[42]⟩:ByteArray),(⟨#[47]⟩:ByteArray),(⟨#[37]⟩:ByteArray),(⟨#[124]⟩:ByteArray),(⟨#[38]⟩:ByteArray),(⟨#[61]⟩:ByteArray),(⟨#[62]⟩:ByteArray),(⟨#[60]⟩:ByteArray),(⟨#[92]⟩:ByteArray),(⟨#[40]⟩:ByteArray),(⟨#[41]⟩:ByteArray),(⟨#[44]⟩:ByteArray),(⟨#[58]⟩:ByteArray),(⟨#[59]⟩:ByteArray)]:List ByteArray)):=⟨_,rfl⟩;replace H:(some aiZ)=some r:=by first | (rw [JE];with_reducible exact H) | (have qQ:=(Option.bind_some _ _).symm.trans H;rw [JE];with_reducible exact qQ) | (have qQ:=(Option.bind_some _ _).symm.trans H;with_reducible exact qQ) | with_reducible exact H | (rw [JE];exact H) | exact H
 have aak:=ah.mk JE;clear JE;obtain rfl:=Option.some.inj H;go_enter Tryz.func121,Tryz.ntmps121
 go_wp2_with (first | ((with_reducible refine fO (N:=1) rfl ?_);refine Kd.ZI Kd.string _ 9 ?hg (N:=1) ?hd (xs:=([(⟨#[92,61,61]⟩:ByteArray),(⟨#[92,62,62]⟩:ByteArray),(⟨#[92,60,60]⟩:ByteArray),(⟨#[62,62,61]⟩:ByteArray),(⟨#[60,60,61]⟩:ByteArray),(⟨#[42,42]⟩:ByteArray),(⟨#[47,47]⟩:ByteArray),(⟨#[124,124]⟩:ByteArray),(⟨#[38,38]⟩:ByteArray),(⟨#[61,61]⟩:ByteArray),(⟨#[92,61]⟩:ByteArray),(⟨#[92,62]⟩:ByteArray),(⟨#[92,60]⟩:ByteArray),(⟨#[62,61]⟩:ByteArray),(⟨#[60,61]⟩:ByteArray),(⟨#[62,62]⟩:ByteArray),(⟨#[60,60]⟩:ByteArray),(⟨#[62,60]⟩:ByteArray),(⟨#[60,62]⟩:ByteArray),(⟨#[43]⟩:ByteArray),(⟨#[45]⟩:ByteArray),(⟨#[42]⟩:ByteArray),(⟨#[47]⟩:ByteArray),(⟨#[37]⟩:ByteArray),(⟨#[124]⟩:ByteArray),(⟨#[38]⟩:ByteArray),(⟨#[61]⟩:ByteArray),(⟨#[62]⟩:ByteArray),(⟨#[60]⟩:ByteArray),(⟨#[92]⟩:ByteArray),(⟨#[40]⟩:ByteArray),(⟨#[41]⟩:ByteArray),(⟨#[44]⟩:ByteArray),(⟨#[58]⟩:ByteArray),(⟨#[59]⟩:ByteArray)]:List ByteArray)) (inner:=[.string (⟨#[92,61,61]⟩:ByteArray),.string (⟨#[92,62,62]⟩:ByteArray),.string (⟨#[92,60,60]⟩:ByteArray),.string (⟨#[62,62,61]⟩:ByteArray),.string (⟨#[60,60,61]⟩:ByteArray),.string (⟨#[42,42]⟩:ByteArray),.string (⟨#[47,47]⟩:ByteArray),.string (⟨#[124,124]⟩:ByteArray),.string (⟨#[38,38]⟩:ByteArray),.string (⟨#[61,61]⟩:ByteArray),.string (⟨#[92,61]⟩:ByteArray),.string (⟨#[92,62]⟩:ByteArray),.string (⟨#[92,60]⟩:ByteArray),.string (⟨#[62,61]⟩:ByteArray),.string (⟨#[60,61]⟩:ByteArray),.string (⟨#[62,62]⟩:ByteArray),.string (⟨#[60,60]⟩:ByteArray),.string (⟨#[62,60]⟩:ByteArray),.string (⟨#[60,62]⟩:ByteArray),.string (⟨#[43]⟩:ByteArray),.string (⟨#[45]⟩:ByteArray),.string (⟨#[42]⟩:ByteArray),.string (⟨#[47]⟩:ByteArray),.string (⟨#[37]⟩:ByteArray),.string (⟨#[124]⟩:ByteArray),.string (⟨#[38]⟩:ByteArray),.string (⟨#[61]⟩:ByteArray),.string (⟨#[62]⟩:ByteArray),.string (⟨#[60]⟩:ByteArray),.string (⟨#[92]⟩:ByteArray),.string (⟨#[40]⟩:ByteArray),.string (⟨#[41]⟩:ByteArray),.string (⟨#[44]⟩:ByteArray),.string (⟨#[58]⟩:ByteArray),.string (⟨#[59]⟩:ByteArray)]) (ok:=fun _=>True) (Dr:=fun _=>True) ?hr ?hp (fun _ hk=>hk) trivial (Below.refl _ _) (Nat.le_refl _) (by simp) ?_;(case hd=>rfl);(case hg=>rfl);(case hr=>first | (go_simp;done) | (go_simp;rfl));(case hp=>exact (dz.one (show Kd.M Kd.string _ _ _ (⟨#[92,61,61]⟩:ByteArray) [.string (⟨#[92,61,61]⟩:ByteArray)] from rfl) (dz.one (show Kd.M Kd.string _ _ _ (⟨#[92,62,62]⟩:ByteArray) [.string (⟨#[92,62,62]⟩:ByteArray)] from rfl) (dz.one (show Kd.M Kd.string _ _ _ (⟨#[92,60,60]⟩:ByteArray) [.string (⟨#[92,60,60]⟩:ByteArray)] from rfl) (dz.one (show Kd.M Kd.string _ _ _ (⟨#[62,62,61]⟩:ByteArray) [.string (⟨#[62,62,61]⟩:ByteArray)] from rfl) (dz.one (show Kd.M Kd.string _ _ _ (⟨#[60,60,61]⟩:ByteArray) [.string (⟨#[60,60,61]⟩:ByteArray)] from rfl) (dz.one (show Kd.M Kd.string _ _ _ (⟨#[42,42]⟩:ByteArray) [.string (⟨#[42,42]⟩:ByteArray)] from rfl) (dz.one (show Kd.M Kd.string _ _ _ (⟨#[47,47]⟩:ByteArray) [.string (⟨#[47,47]⟩:ByteArray)] from rfl) (dz.one (show Kd.M Kd.string _ _ _ (⟨#[124,124]⟩:ByteArray) [.string (⟨#[124,124]⟩:ByteArray)] from rfl) (dz.one (show Kd.M Kd.string _ _ _ (⟨#[38,38]⟩:ByteArray) [.string (⟨#[38,38]⟩:ByteArray)] from rfl) (dz.one (show Kd.M Kd.string _ _ _ (⟨#[61,61]⟩:ByteArray) [.string (⟨#[61,61]⟩:ByteArray)] from rfl) (dz.one (show Kd.M Kd.string _ _ _ (⟨#[92,61]⟩:ByteArray) [.string (⟨#[92,61]⟩:ByteArray)] from rfl) (dz.one (show Kd.M Kd.string _ _ _ (⟨#[92,62]⟩:ByteArray) [.string (⟨#[92,62]⟩:ByteArray)] from rfl) (dz.one (show Kd.M Kd.string _ _ _ (⟨#[92,60]⟩:ByteArray) [.string (⟨#[92,60]⟩:ByteArray)] from rfl) (dz.one (show Kd.M Kd.string _ _ _ (⟨#[62,61]⟩:ByteArray) [.string (⟨#[62,61]⟩:ByteArray)] from rfl) (dz.one (show Kd.M Kd.string _ _ _ (⟨#[60,61]⟩:ByteArray) [.string (⟨#[60,61]⟩:ByteArray)] from rfl) (dz.one (show Kd.M Kd.string _ _ _ (⟨#[62,62]⟩:ByteArray) [.string (⟨#[62,62]⟩:ByteArray)] from rfl) (dz.one (show Kd.M Kd.string _ _ _ (⟨#[60,60]⟩:ByteArray) [.string (⟨#[60,60]⟩:ByteArray)] from rfl) (dz.one (show Kd.M Kd.string _ _ _ (⟨#[62,60]⟩:ByteArray) [.string (⟨#[62,60]⟩:ByteArray)] from rfl) (dz.one (show Kd.M Kd.string _ _ _ (⟨#[60,62]⟩:ByteArray) [.string (⟨#[60,62]⟩:ByteArray)] from rfl) (dz.one (show Kd.M Kd.string _ _ _ (⟨#[43]⟩:ByteArray) [.string (⟨#[43]⟩:ByteArray)] from rfl) (dz.one (show Kd.M Kd.string _ _ _ (⟨#[45]⟩:ByteArray) [.string (⟨#[45]⟩:ByteArray)] from rfl) (dz.one (show Kd.M Kd.string _ _ _ (⟨#[42]⟩:ByteArray) [.string (⟨#[42]⟩:ByteArray)] from rfl) (dz.one (show Kd.M Kd.string _ _ _ (⟨#[47]⟩:ByteArray) [.string (⟨#[47]⟩:ByteArray)] from rfl) (dz.one (show Kd.M Kd.string _ _ _ (⟨#[37]⟩:ByteArray) [.string (⟨#[37]⟩:ByteArray)] from rfl) (dz.one (show Kd.M Kd.string _ _ _ (⟨#[124]⟩:ByteArray) [.string (⟨#[124]⟩:ByteArray)] from rfl) (dz.one (show Kd.M Kd.string _ _ _ (⟨#[38]⟩:ByteArray) [.string (⟨#[38]⟩:ByteArray)] from rfl) (dz.one (show Kd.M Kd.string _ _ _ (⟨#[61]⟩:ByteArray) [.string (⟨#[61]⟩:ByteArray)] from rfl) (dz.one (show Kd.M Kd.string _ _ _ (⟨#[62]⟩:ByteArray) [.string (⟨#[62]⟩:ByteArray)] from rfl) (dz.one (show Kd.M Kd.string _ _ _ (⟨#[60]⟩:ByteArray) [.string (⟨#[60]⟩:ByteArray)] from rfl) (dz.one (show Kd.M Kd.string _ _ _ (⟨#[92]⟩:ByteArray) [.string (⟨#[92]⟩:ByteArray)] from rfl) (dz.one (show Kd.M Kd.string _ _ _ (⟨#[40]⟩:ByteArray) [.string (⟨#[40]⟩:ByteArray)] from rfl) (dz.one (show Kd.M Kd.string _ _ _ (⟨#[41]⟩:ByteArray) [.string (⟨#[41]⟩:ByteArray)] from rfl) (dz.one (show Kd.M Kd.string _ _ _ (⟨#[44]⟩:ByteArray) [.string (⟨#[44]⟩:ByteArray)] from rfl) (dz.one (show Kd.M Kd.string _ _ _ (⟨#[58]⟩:ByteArray) [.string (⟨#[58]⟩:ByteArray)] from rfl) (dz.one (show Kd.M Kd.string _ _ _ (⟨#[59]⟩:ByteArray) [.string (⟨#[59]⟩:ByteArray)] from rfl) (dz.none _ _)))))))))))))))))))))))))))))))))))));intro alz w1 ho2 hb hg_ Tx;clear hg_ Tx;(first | rw [<- aak.out] at ho2 | (simp only [Int.reduceToNat] at ho2;rw [<- aak.out] at ho2));have bY:=ah.mk (Kd.nZ ho2 (bG (by with_reducible repeat (first | exact HB.out | apply av | apply ak | apply ay))));have dO:=ah.mk (aX (by with_reducible repeat (first | exact HB.out | apply av | apply ak | apply ay)) hb);clear HB;have aeM:=bY;have HB:=dO;clear bY dO;clear hb ho2))
 go_ret;exact ⟨_,by first | rfl | (simp [aJ,aK]<;>rfl) | (simp [*,aJ,aK]<;>rfl),by (with_reducible repeat (first | apply Kd.cO | apply Kd.cB | apply Kd.dF));exact aeM.out,by with_reducible repeat (first | exact HB.out | apply av | apply ak | apply ay)⟩
def bC.f (a0:ByteArray) (a1:Int) (a2:ByteArray):Option (Bool):=if (wrap64 (a1+(a2.size:Int))) > (a0.size:Int) then (some false) else (if 0<=a1 then (if a1<=(wrap64 (a1+(a2.size:Int))) then (if (wrap64 (a1+(a2.size:Int)))<=(a0.size:Int) then (some ((a0.extract (a1:Int).toNat ((wrap64 (a1+(a2.size:Int))):Int).toNat).toList==a2.toList)) else (none)) else (none)) else (none))
set_option maxHeartbeats 8000000 in
set_option maxRecDepth 100000 in
theorem bC.calls (a0:ByteArray) (a1:Int) (a2:ByteArray) (r:Bool) (w:World) (h:bC.f a0 a1 a2=some r) :
  Calls Tryz.prog 80 #[.string a0,.int .i64 a1,.string a2] w fun e w'=>e=.returned (.bool r)/\aG w w':=by
 have H:(if (wrap64 (a1+(a2.size:Int))) > (a0.size:Int) then (some false) else (if 0<=a1 then (if a1<=(wrap64 (a1+(a2.size:Int))) then (if (wrap64 (a1+(a2.size:Int)))<=(a0.size:Int) then (some ((a0.extract (a1:Int).toNat ((wrap64 (a1+(a2.size:Int))):Int).toNat).toList==a2.toList)) else (none)) else (none)) else (none)))=some r:=h;clear h;by_cases c4:(wrap64 (a1+(a2.size:Int))) > (a0.size:Int)
 ·rw [if_pos c4] at H
  have kP:decide ((a0.size:Int) < (wrap64 (a1+(a2.size:Int))))=true:=decide_eq_true c4;clear c4;obtain rfl:=Option.some.inj H;go_enter Tryz.func80,Tryz.ntmps80
  go_wp2;go_ret;exact ⟨by first | rfl | (simp;done) | (simp [*];done),by repeat (first | exact aG.refl _ | apply aG.step)⟩
 rw [if_neg c4] at H;have kP:decide ((a0.size:Int) < (wrap64 (a1+(a2.size:Int))))=false:=decide_eq_false c4;clear c4;by_cases c5:0<=a1
 rotate_left
 ·rw [if_neg c5] at H
  exact absurd H (by simp)
 rw [if_pos c5] at H;have kN:=eq_true c5;have EF:decide (0<=a1)=true:=decide_eq_true c5;clear c5;by_cases c6:a1<=(wrap64 (a1+(a2.size:Int)))
 rotate_left
 ·rw [if_neg c6] at H
  exact absurd H (by simp)
 rw [if_pos c6] at H;have lJ:=eq_true c6;have BA:decide (a1<=(wrap64 (a1+(a2.size:Int))))=true:=decide_eq_true c6;by_cases c7:(wrap64 (a1+(a2.size:Int)))<=(a0.size:Int)
 ·rw [if_pos c7] at H
  have sJ:=eq_true c7;have KS:decide ((wrap64 (a1+(a2.size:Int)))<=(a0.size:Int))=true:=decide_eq_true c7;obtain rfl:=Option.some.inj H;go_enter Tryz.func80,Tryz.ntmps80
  go_wp2;go_ret;exact ⟨by first | rfl | (simp;done) | (simp [*];done),by repeat (first | exact aG.refl _ | apply aG.step)⟩
 rw [if_neg c7] at H;exact absurd H (by simp)
end Go.Proofs.YtkkpjonfaflkmaaGreatDoor.T
