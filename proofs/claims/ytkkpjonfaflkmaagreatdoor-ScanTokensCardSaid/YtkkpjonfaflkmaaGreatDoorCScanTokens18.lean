/- For ScanTokens: its callees return what is said of them. -/
import Derived.Test.YtkkpjonfaflkmaaGreatDoorCScanTokens17
namespace Go.Proofs.YtkkpjonfaflkmaaGreatDoor.S
set_option linter.unusedSimpArgs false
set_option linter.unusedVariables false
def blank (c:Int):Bool:=decide (c=32)||decide (c=10)||decide (c=44)||decide (c=59)
def idle:List Int->Nat->Bool
 | [],d=>decide (d=0)
 | [c],d=>blank c&&decide (d=0)
 | c::e::t,d =>
  if c=47/\e=42 then idle t (d+1)
  else if 0 < d/\c=42/\e=47 then idle t (d - 1)
  else if 0 < d\/blank c=true then idle (e::t) d else false
theorem yh:∀ (xs:List Int) (i d l b i' l' b':Nat),lV xs i d l b=.done i' l' b'->(1<=d\/gV xs=true)->idle (xs.take (i' - i)) d=true/\l'=l+(xs.take (i' - i)).count 10
 | [],_,_,_,_,_,_,_,h,_=>by cases h
 | [_],_,_,_,_,_,_,_,h,_=>by cases h
 | c::e::t,i,d,l,b,i',l',b',h,hd=>by
  have hbd:=iV _ _ _ _ _ _ _ _ h;rw [lV] at h;by_cases h1:c=47/\e=42
  ·rw [if_pos h1] at h
   have hb2:=iV _ _ _ _ _ _ _ _ h;obtain ⟨g1,g2⟩:=yh t (i+2) (d+1) l b i' l' b' h (.inl (by omega));rw [show i' - i=(i' - (i+2))+1+1 by omega,List.take_succ_cons,List.take_succ_cons,idle,if_pos h1];refine ⟨g1,?_⟩;obtain ⟨rfl,rfl⟩:=h1;rw [List.count_cons,List.count_cons,if_neg (by decide),if_neg (by decide)];omega
  rw [if_neg h1] at h;have hd1:1<=d:=by
   rcases hd with hd | hd
   ·exact hd
   ·simp only [gV,Bool.and_eq_true,decide_eq_true_eq] at hd
    exact absurd hd h1
  by_cases h2:c=42/\e=47
  ·rw [if_pos h2] at h
   obtain ⟨rfl,rfl⟩:=h2;by_cases h3:d=1
   ·rw [if_pos h3] at h
    cases h
    subst h3;rw [show i+2 - i=0+1+1 by omega,List.take_succ_cons,List.take_succ_cons,List.take_zero];exact ⟨rfl,rfl⟩
   rw [if_neg h3] at h;have hb2:=iV _ _ _ _ _ _ _ _ h;obtain ⟨g1,g2⟩:=yh t (i+2) (d - 1) l b i' l' b' h (.inl (by omega));rw [show i' - i=(i' - (i+2))+1+1 by omega,List.take_succ_cons,List.take_succ_cons,idle,if_neg h1,if_pos ⟨by omega,rfl,rfl⟩];refine ⟨g1,?_⟩;rw [List.count_cons,List.count_cons,if_neg (by decide),if_neg (by decide)];omega
  rw [if_neg h2] at h;have hb2:=iV _ _ _ _ _ _ _ _ h;obtain ⟨g1,g2⟩:=yh (e::t) (i+1) d _ _ i' l' b' h (.inl hd1);obtain ⟨m,hm⟩:∃ m,i' - (i+1)=m+1:=⟨i' - (i+1) - 1,by omega⟩;rw [hm] at g1 g2;rw [List.take_succ_cons] at g1 g2;rw [show i' - i=m+1+1 by omega,List.take_succ_cons,List.take_succ_cons,idle,if_neg h1,if_neg (fun q=>h2 q.2),if_pos (.inl (by omega))];refine ⟨g1,?_⟩;rw [List.count_cons];rw [g2];by_cases h10:c=10
  ·rw [if_pos h10,if_pos (by simpa using h10)];omega
  ·rw [if_neg h10,if_neg (by simpa using h10)];omega
def seg (L:List Int) (a b:Nat):List Int:=(L.drop a).take (b - a)
structure akX (L:List Int) (e ln:Nat) (t:Tk):Prop where
 h1:e<=t.at_
 h2:t.at_<=t.to
 h3:t.to<=L.length
 h4:ln<=t.line
 h5:t.kind≠4->t.at_ < t.to
 h6:idle (seg L e t.at_) 0=true
 h7:t.line=1+(L.take t.at_).count 10
 h8:t.kind=3->seg L t.at_ t.to=t.text
def key (t:Tk):Nat × List Int × Bool:=(t.kind,t.text,t.gap)

abbrev KT:=Nat × List Int
def Mv (x:KT):List Int:=if x.1=2 then quote x.2 else x.2
def spl (l:List KT):List Int:=l.flatMap Mv
theorem Aq (t:List Int):Mv (2,t)=quote t:=if_pos rfl
theorem yZ {k:Nat} {t:List Int} (h:k≠2):Mv (k,t)=t:=if_neg h
theorem Cm {xs t:List Int} {k n:Nat} (h:step xs=.tok k t n):∃ c r,xs=c::r/\c≠10/\c≠32/\gV xs=false /\
  ((k=2/\(c=39\/c=34)/\fZ xs=.ok t n)\/(k=1/\¬ (c=39\/c=34)/\sym c=true/\jw xs=.ok t n)\/(k=3/\¬ (c=39\/c=34)/\sym c=false/\iY xs=.ok t n)):=by
 rcases xs with _ | ⟨c,r⟩
 ·cases h
 refine ⟨c,r,rfl,?_⟩;simp only [step] at h;by_cases h1:c=10
 ·rw [if_pos h1] at h;cases h
 rw [if_neg h1] at h;by_cases h2:c=32
 ·rw [if_pos h2] at h;cases h
 rw [if_neg h2] at h;by_cases h3:gV (c::r)=true
 ·rw [if_pos h3] at h;exact (BI h).elim
 rw [if_neg h3] at h;refine ⟨h1,h2,by simpa using h3,?_⟩;by_cases h4:c=39\/c=34
 ·rw [if_pos h4] at h
  obtain ⟨rfl,hr⟩:=lY h;exact .inl ⟨rfl,h4,hr⟩
 rw [if_neg h4] at h;by_cases h5:sym c=true
 ·rw [if_pos h5] at h
  obtain ⟨rfl,hr⟩:=lY h;exact .inr (.inl ⟨rfl,h4,h5,hr⟩)
 rw [if_neg h5] at h;obtain ⟨rfl,hr⟩:=lY h;exact .inr (.inr ⟨rfl,h4,by simpa using h5,hr⟩)
theorem Io {c:Int} {r t:List Int} {n:Nat} (hc:c=39\/c=34) (h:fZ (c::r)=.ok t n):step (c::r)=.tok 2 t n:=by
 have h3:gV (c::r)=false:=by
  rcases r with _ | ⟨d,r⟩
  ·rfl
  ·rcases hc with rfl | rfl<;>rfl
 simp only [step];rw [if_neg (by omega),if_neg (by omega),if_neg (by rw [h3];decide),if_pos hc,h];rfl
theorem DW {c:Int} (h:sym c=true):c≠10/\c≠32/\c≠47/\c≠42/\¬ (c=39\/c=34):=by
 refine ⟨?_,?_,?_,?_,?_⟩
 ·rintro rfl;cases h
 ·rintro rfl;cases h
 ·rintro rfl;cases h
 ·rintro rfl;cases h
 ·rintro (rfl | rfl)<;>cases h
theorem Cn {c:Int} {r:List Int} (h:c≠47):gV (c::r)=false:=by
 rcases r with _ | ⟨d,r⟩
 ·rfl
 ·simp [gV,h]
theorem Ip {c:Int} {r t:List Int} {n:Nat} (hc:sym c=true) (h:jw (c::r)=.ok t n):step (c::r)=.tok 1 t n:=by
 obtain ⟨f1,f2,f3,f4,f5⟩:=DW hc;simp only [step];rw [if_neg f1,if_neg f2,if_neg (by rw [Cn f3];decide),if_neg f5,if_pos hc,h];rfl
theorem Co {xs t:List Int} {n:Nat} (h:jw xs=.ok t n):n=gB xs/\t=(xs.take n).map up/\n<=40:=by
 unfold jw at h;by_cases h4:40 < gB xs
 ·rw [if_pos h4] at h;cases h
 rw [if_neg h4] at h;cases h;exact ⟨rfl,rfl,by omega⟩
theorem uz {xs t:List Int} {n:Nat} (h:iY xs=.ok t n):t∈signs/\n=t.length/\t.isPrefixOf xs=true:=by
 unfold iY at h;cases hf:signs.find? (fun x=>x.isPrefixOf xs) with
 | none=>rw [hf] at h;cases h
 | some l =>
  rw [hf] at h;cases h
  exact ⟨List.mem_of_find?_eq_some hf,rfl,by simpa using List.find?_some hf⟩
def Rd:List KT->Prop
 | []=>True
 | x::l=>step (Mv x++spl l)=.tok x.1 x.2 (Mv x).length/\Rd l
theorem KR (c:Int):sym (up c)=sym c:=by
 unfold up;by_cases h:97<=c/\c<=122
 ·rw [if_pos h]
  have h1:sym c=true:=by simp [sym,h.1,h.2]
  have h2:sym (c - 32)=true:=by
   have a:(65:Int)<=c - 32:=by omega
   have b:c - 32<=90:=by omega
   simp [sym,a,b]
  rw [h1,h2]
 ·rw [if_neg h]
theorem Rl {c:Int} (h:¬ (97<=c/\c<=122)):up c=c:=if_neg h
theorem FE (c:Int):lU (up c)=lU c:=by
 unfold up;by_cases h:97<=c/\c<=122
 ·rw [if_pos h]
  have a:¬ c<=57:=by omega
  have b:¬ c - 32<=57:=by omega
  simp [lU,a,b]
 ·rw [if_neg h]
theorem Mw (d:Int) (hd:¬ (65<=d/\d<=90)) (hd2:¬ (97<=d/\d<=122)) (c:Int):decide (up c=d)=decide (c=d):=by
 unfold up;by_cases h:97<=c/\c<=122
 ·rw [if_pos h];exact decide_eq_decide.2 (by omega)
 ·rw [if_neg h]
theorem ajo (c:Int):(decide (up c=69)||decide (up c=101))=(decide (c=69)||decide (c=101)):=by
 unfold up;by_cases h:97<=c/\c<=122
 ·rw [if_pos h,<- Bool.decide_or,<- Bool.decide_or];exact decide_eq_decide.2 (by omega)
 ·rw [if_neg h]
theorem acB (c:Int):up (up c)=up c:=by
 have:¬ (97<=up c/\up c<=122):=by
  unfold up;by_cases h:97<=c/\c<=122
  ·rw [if_pos h];omega
  ·rw [if_neg h];exact h
 exact Rl this
theorem KS (p:Int->Bool) (hp:∀ c,p (up c)=p c):∀ xs:List Int,run p (xs.map up)=run p xs
 | []=>rfl
 | c::xs=>by rw [List.map_cons,run,run,hp,KS p hp xs]
theorem UL (xs:List Int):rF (xs.map up)=rF xs:=by
 rcases xs with _ | ⟨c,_ | ⟨d,t⟩⟩
 ·rfl
 ·rfl
 ·simp only [List.map_cons,rF]
  rw [FE,Mw 43 (by omega) (by omega),Mw 45 (by omega) (by omega)]
theorem Iq:∀ xs:List Int,(xs.map up).count 46=xs.count 46
 | []=>rfl
 | c::xs=>by
  rw [List.map_cons,List.count_cons,List.count_cons,Iq xs];have h:=decide_eq_decide.1 (Mw 46 (by omega) (by omega) c);by_cases e:c=46
  ·rw [if_pos (beq_iff_eq.2 (h.2 e)),if_pos (beq_iff_eq.2 e)]
  ·rw [if_neg (fun x=>e (h.1 (beq_iff_eq.1 x))),if_neg (fun x=>e (beq_iff_eq.1 x))]
theorem UM (xs:List Int):sG (xs.map up)=sG xs:=by
 unfold sG;rw [List.getLast?_map];cases xs.getLast? with
 | none=>rfl
 | some e =>
  simp only [Option.map_some];rw [ajo,<- List.map_dropLast,Iq,List.all_map,List.any_map];congr 2
  ·congr 1
   apply List.all_congr rfl
   intro c
   simp only [Function.comp];rw [FE,Mw 46 (by omega) (by omega)]
  ·apply List.any_congr rfl
   intro c
   simp only [Function.comp];exact FE c
theorem Og (xs:List Int):gB (xs.map up)=gB xs:=by
 unfold gB;rw [KS sym KR,<- List.map_take,<- List.map_drop,<- List.map_drop,UM,UL,KS lU FE]
theorem KU (xs:List Int):gB (xs.take (gB xs))=gB xs/\gB xs<=xs.length:=by
 obtain ⟨M,R,e1,hM,hR,hor⟩:=Fx xs;rcases hor with ⟨hl,hx⟩ | ⟨g,D,S,rfl,hm,hg,hD,hd,hS,hl⟩
 ·rw [hl]
  subst e1;rw [List.take_left];have:=Fy (M:=M) (R:=[]) hM (fun e s h=>by cases h) (fun h=>by simp [rF] at h);rw [List.append_nil] at this;exact ⟨this,by simp⟩
 ·rw [hl]
  have e2:xs=(M++g::D)++S:=by rw [e1];simp
  have e3:(M++g::D).length=M.length+1+D.length:=by simp;omega
  rw [<- e3];have:=Il (M:=M) (D:=D) (S:=[]) hM hm hg hD hd (fun e s h=>by cases h);rw [List.append_nil] at this;rw [e2,List.take_left,this,e3];exact ⟨rfl,by rw [List.length_append];omega⟩
theorem KV:∀ t∈signs,step t=.tok 3 t t.length:=by decide
theorem Oh {v:List Int} (hp:v.all jP=true) (hl:v.length<=1000):∀ R:List Int,R.head?≠some (zZ v)->sfx R=0->fZ (quote v++R)=.ok v (quote v).length:=by
 have hq:zZ v≠10:=by rcases FC v with e | e<;>rw [e]<;>decide
 have hn:∀ x∈v,x≠10:=fun x hx e=>by
  subst e;have:=List.all_eq_true.1 hp 10 hx;cases this
 have key:∀ (q:Int),q≠10->∀ (xs acc:List Int) (i:Nat) (R:List Int),(∀ x∈xs,x≠10)->R.head?≠some q->lit q (Fz q xs++(q::R)) i acc=some (acc++xs,i+(Fz q xs).length):=by
  intro q hq xs
  induction xs with
  | nil =>
   intro acc i R _ hR
   show lit q (q::R) i acc=_
   rcases R with _ | ⟨d,t⟩
   ·simp [lit,hq,Fz]
   ·simp only [List.head?_cons,ne_eq,Option.some.injEq] at hR
    simp [lit,hq,hR,Fz]
  | cons c xs ih =>
   intro acc i R h hR
   have ih:=fun acc i=>ih acc i R (fun x hx=>h x (by simp [hx])) hR
   rw [Ck];by_cases e:c=q
   ·subst e
    rw [if_pos rfl];show lit c (c::c::(Fz c xs++(c::R))) i acc=_
    rw [lit,if_neg hq,if_pos rfl,if_pos rfl,ih];simp;omega
   rw [if_neg e];show lit q (c::(Fz q xs++(q::R))) i acc=_
   obtain ⟨d,t,hdt⟩:∃ d t,Fz q xs++(q::R)=d::t:=by
    cases Fz q xs with
    | nil=>exact ⟨_,_,rfl⟩
    | cons a b=>exact ⟨_,_,rfl⟩
   have ih2:=ih (acc++[c]) (i+1);rw [hdt] at ih2 |-
   rw [lit,if_neg (h c (by simp)),if_neg e,ih2];simp;omega
 intro R hR hs
 have h:=key (zZ v) hq v [] 1 R hn hR;have hd:(quote v++R).drop (1+(Fz (zZ v) v).length+1)=R:=by
  have:(quote v).length=1+(Fz (zZ v) v).length+1:=by unfold quote;simp;omega
  rw [<- this,List.drop_left]
 have hqt:quote v++R=zZ v::(Fz (zZ v) v++(zZ v::R)):=by unfold quote;simp
 rw [hqt] at hd |-
 rw [List.nil_append] at h;simp only [fZ,h,hp,if_true];rw [hd,if_pos hs];unfold iR;rw [if_neg (by omega)];congr 1
 unfold quote;simp;omega
def Good (x:KT):Prop:=step (Mv x)=.tok x.1 x.2 (Mv x).length/\x≠(3,[59])/\∀ y∈Mv x,0<=y/\y < 256
theorem KW {q:Int} {r t:List Int} {n:Nat} (h:fZ (q::r)=.ok t n):t.all jP=true/\t.length<=1000:=by
 have he:∀ {v:List Int} {m:Nat},iR v m=.ok t n->t=v/\t.length<=1000:=fun {v m} h=>by
  unfold iR at h;by_cases hv:1000 < v.length
  ·rw [if_pos hv] at h;cases h
  ·rw [if_neg hv] at h;cases h;exact ⟨rfl,by omega⟩
 simp only [fZ] at h;cases hl:lit q r 1 [] with
 | none=>rw [hl] at h;cases h
 | some p =>
  obtain ⟨v,i⟩:=p;rw [hl] at h;simp only at h;by_cases hp:v.all jP=true
  rotate_left
  ·rw [if_neg hp] at h;cases h
  rw [if_pos hp] at h;by_cases hs:sfx ((q::r).drop (i+1))=0
  ·rw [if_pos hs] at h
   obtain ⟨rfl,h2⟩:=he h;exact ⟨hp,h2⟩
  rw [if_neg hs] at h;cases hd:gT v (sfx ((q::r).drop (i+1))) with
  | none=>rw [hd] at h;cases h
  | some u =>
   rw [hd] at h;obtain ⟨rfl,h2⟩:=he h;refine ⟨List.all_eq_true.2 ?_,h2⟩;have key:∀ (b:Int) (w:Nat),decode b w v=some t->∀ x∈t,jP x=true:=by
    intro b w h x hx
    unfold decode at h;by_cases hm:v.length % w≠0
    ·rw [if_pos hm] at h;cases h
    ·rw [if_neg hm] at h;exact BH _ _ _ _ _ h x hx
   unfold gT at hd;by_cases hx:sfx ((q::r).drop (i+1))=4
   ·rw [if_pos hx] at hd;exact key _ _ hd
   ·rw [if_neg hx] at hd;exact key _ _ hd
theorem FH {xs t:List Int} {k n:Nat} (hb:∀ x∈xs,0<=x/\x < 256) (h:step xs=.tok k t n) (hne:¬ (k=3/\t=[59])):Good (k,t):=by
 obtain ⟨b1,b2,b3,b4,b5⟩:=ug hb h;have hby:∀ y∈Mv (k,t),0<=y/\y < 256:=by
  by_cases e:k=2
  ·subst e;rw [Aq];exact uy b3
  ·rw [yZ e];exact b3
 refine ⟨?_,fun e=>hne (by cases e;exact ⟨rfl,rfl⟩),hby⟩;obtain ⟨c,r,rfl,c1,c2,c3,hk⟩:=Cm h;rcases hk with ⟨rfl,hq,hl⟩ | ⟨rfl,-,hc,hs⟩ | ⟨rfl,-,-,hs⟩
 ·rw [Aq]
  obtain ⟨h1,h2⟩:=KW hl;have:=Oh h1 h2 [] (by simp) rfl;rw [List.append_nil] at this;have hqo:zZ t=39\/zZ t=34:=(FC t).symm;unfold quote at this |-
  exact Io hqo this
 ·rw [yZ (by decide)]
  obtain ⟨e1,e2,e3⟩:=Co hs;obtain ⟨g1,g2⟩:=KU (c::r);rw [<- e1] at g1 g2;have hsl:gB t=t.length:=by
   rw [e2,Og,g1,List.length_map,List.length_take,Nat.min_eq_left g2]
  have htl:t.length=n:=by rw [e2,List.length_map,List.length_take,Nat.min_eq_left g2]
  have hst:jw t=.ok t t.length:=by
   unfold jw;rw [hsl,if_neg (by omega),List.take_length];congr 1
   rw [e2,List.map_map];exact List.map_congr_left fun a _=>acB a
  obtain ⟨m,rfl⟩:∃ m,n=m+1:=⟨n - 1,by omega⟩;have hct:t=up c::(r.take m).map up:=by rw [e2];rfl
  rw [hct] at hst |-
  exact Ip (by rw [KR];exact hc) hst
 ·rw [yZ (by decide)]
  exact KV t (uz hs).1
end Go.Proofs.YtkkpjonfaflkmaaGreatDoor.S
namespace Go.Proofs.YtkkpjonfaflkmaaGreatDoor.T
open Go.RowKit Go.Proofs.ah.aT Go.Proofs.ah.bn Go.Proofs.ah.bA
set_option linter.unusedSimpArgs false
set_option linter.unusedVariables false
attribute [local go_sem] fB fC gI gJ eD eF fD fE   -- for this text's walks alone
def ig.f :Option (List ByteArray):=some (([(⟨#[92,61,61]⟩:ByteArray),(⟨#[92,62,62]⟩:ByteArray),(⟨#[92,60,60]⟩:ByteArray),(⟨#[62,62,61]⟩:ByteArray),(⟨#[60,60,61]⟩:ByteArray),(⟨#[42,42]⟩:ByteArray),(⟨#[47,47]⟩:ByteArray),(⟨#[124,124]⟩:ByteArray),(⟨#[38,38]⟩:ByteArray),(⟨#[61,61]⟩:ByteArray),(⟨#[92,61]⟩:ByteArray),(⟨#[92,62]⟩:ByteArray),(⟨#[92,60]⟩:ByteArray),(⟨#[62,61]⟩:ByteArray),(⟨#[60,61]⟩:ByteArray),(⟨#[62,62]⟩:ByteArray),(⟨#[60,60]⟩:ByteArray),(⟨#[62,60]⟩:ByteArray),(⟨#[60,62]⟩:ByteArray),(⟨#[43]⟩:ByteArray),(⟨#[45]⟩:ByteArray),(⟨#[42]⟩:ByteArray),(⟨#[47]⟩:ByteArray),(⟨#[37]⟩:ByteArray),(⟨#[124]⟩:ByteArray),(⟨#[38]⟩:ByteArray),(⟨#[61]⟩:ByteArray),(⟨#[62]⟩:ByteArray),(⟨#[60]⟩:ByteArray),(⟨#[92]⟩:ByteArray),(⟨#[40]⟩:ByteArray),(⟨#[41]⟩:ByteArray),(⟨#[44]⟩:ByteArray),(⟨#[58]⟩:ByteArray),(⟨#[59]⟩:ByteArray)]:List ByteArray))
set_option maxHeartbeats 8000000 in
set_option maxRecDepth 100000 in
theorem ig.calls  (r:List ByteArray) (w:World) (h:ig.f =some r) :
  Calls Tryz.prog 121 #[] w fun e w'=>∃ QB:Value,e=.returned (QB)/\Kd.R Kd.string 9 w' w.heap.size (fun _=>True) QB r/\Below w.heap.size w w':=by
 have HB:=aj.mk (Below.refl w.heap.size w);have H:(some (([(⟨#[92,61,61]⟩:ByteArray),(⟨#[92,62,62]⟩:ByteArray),(⟨#[92,60,60]⟩:ByteArray),(⟨#[62,62,61]⟩:ByteArray),(⟨#[60,60,61]⟩:ByteArray),(⟨#[42,42]⟩:ByteArray),(⟨#[47,47]⟩:ByteArray),(⟨#[124,124]⟩:ByteArray),(⟨#[38,38]⟩:ByteArray),(⟨#[61,61]⟩:ByteArray),(⟨#[92,61]⟩:ByteArray),(⟨#[92,62]⟩:ByteArray),(⟨#[92,60]⟩:ByteArray),(⟨#[62,61]⟩:ByteArray),(⟨#[60,61]⟩:ByteArray),(⟨#[62,62]⟩:ByteArray),(⟨#[60,60]⟩:ByteArray),(⟨#[62,60]⟩:ByteArray),(⟨#[60,62]⟩:ByteArray),(⟨#[43]⟩:ByteArray),(⟨#[45]⟩:ByteArray),(⟨#[42]⟩:ByteArray),(⟨#[47]⟩:ByteArray),(⟨#[37]⟩:ByteArray),(⟨#[124]⟩:ByteArray),(⟨#[38]⟩:ByteArray),(⟨#[61]⟩:ByteArray),(⟨#[62]⟩:ByteArray),(⟨#[60]⟩:ByteArray),(⟨#[92]⟩:ByteArray),(⟨#[40]⟩:ByteArray),(⟨#[41]⟩:ByteArray),(⟨#[44]⟩:ByteArray),(⟨#[58]⟩:ByteArray),(⟨#[59]⟩:ByteArray)]:List ByteArray)))=some r:=h;clear h;obtain ⟨ajp,Ir⟩:∃ y_:List ByteArray,y_=(([(⟨#[92,61,61]⟩:ByteArray),(⟨#[92,62,62]⟩:ByteArray),(⟨#[92,60,60]⟩:ByteArray),(⟨#[62,62,61]⟩:ByteArray),(⟨#[60,60,61]⟩:ByteArray),(⟨#[42,42]⟩:ByteArray),(⟨#[47,47]⟩:ByteArray),(⟨#[124,124]⟩:ByteArray),(⟨#[38,38]⟩:ByteArray),(⟨#[61,61]⟩:ByteArray),(⟨#[92,61]⟩:ByteArray),(⟨#[92,62]⟩:ByteArray),(⟨#[92,60]⟩:ByteArray),(⟨#[62,61]⟩:ByteArray),(⟨#[60,61]⟩:ByteArray),(⟨#[62,62]⟩:ByteArray),(⟨#[60,60]⟩:ByteArray),(⟨#[62,60]⟩:ByteArray),(⟨#[60,62]⟩:ByteArray),(⟨#[43]⟩:ByteArray),(⟨#[45]⟩:ByteArray),(⟨#[42]⟩:ByteArray),(⟨#[47]⟩:ByteArray),(⟨#[37]⟩:ByteArray),(⟨#[124]⟩:ByteArray),(⟨#[38]⟩:ByteArray),(⟨#[61]⟩:ByteArray),(⟨#[62]⟩:ByteArray),(⟨#[60]⟩:ByteArray),(⟨#[92]⟩:ByteArray),(⟨#[40]⟩:ByteArray),(⟨#[41]⟩:ByteArray),(⟨#[44]⟩:ByteArray),(⟨#[58]⟩:ByteArray),(⟨#[59]⟩:ByteArray)]:List ByteArray)):=⟨_,rfl⟩;replace H:(some ajp)=some r:=by first | (rw [Ir];with_reducible exact H) | (have wC:=(Option.bind_some _ _).symm.trans H;rw [Ir];with_reducible exact wC) | (have wC:=(Option.bind_some _ _).symm.trans H;with_reducible exact wC) | with_reducible exact H | (rw [Ir];exact H) | exact H
 have Xv:=aj.mk Ir;clear Ir;obtain rfl:=Option.some.inj H;go_enter Tryz.func121,Tryz.ntmps121
 go_wp2_with (first | ((with_reducible refine jW (N:=1) rfl ?_);refine Kd.aaF Kd.string _ 9 ?hg (N:=1) ?hd (xs:=([(⟨#[92,61,61]⟩:ByteArray),(⟨#[92,62,62]⟩:ByteArray),(⟨#[92,60,60]⟩:ByteArray),(⟨#[62,62,61]⟩:ByteArray),(⟨#[60,60,61]⟩:ByteArray),(⟨#[42,42]⟩:ByteArray),(⟨#[47,47]⟩:ByteArray),(⟨#[124,124]⟩:ByteArray),(⟨#[38,38]⟩:ByteArray),(⟨#[61,61]⟩:ByteArray),(⟨#[92,61]⟩:ByteArray),(⟨#[92,62]⟩:ByteArray),(⟨#[92,60]⟩:ByteArray),(⟨#[62,61]⟩:ByteArray),(⟨#[60,61]⟩:ByteArray),(⟨#[62,62]⟩:ByteArray),(⟨#[60,60]⟩:ByteArray),(⟨#[62,60]⟩:ByteArray),(⟨#[60,62]⟩:ByteArray),(⟨#[43]⟩:ByteArray),(⟨#[45]⟩:ByteArray),(⟨#[42]⟩:ByteArray),(⟨#[47]⟩:ByteArray),(⟨#[37]⟩:ByteArray),(⟨#[124]⟩:ByteArray),(⟨#[38]⟩:ByteArray),(⟨#[61]⟩:ByteArray),(⟨#[62]⟩:ByteArray),(⟨#[60]⟩:ByteArray),(⟨#[92]⟩:ByteArray),(⟨#[40]⟩:ByteArray),(⟨#[41]⟩:ByteArray),(⟨#[44]⟩:ByteArray),(⟨#[58]⟩:ByteArray),(⟨#[59]⟩:ByteArray)]:List ByteArray)) (inner:=[.string (⟨#[92,61,61]⟩:ByteArray),.string (⟨#[92,62,62]⟩:ByteArray),.string (⟨#[92,60,60]⟩:ByteArray),.string (⟨#[62,62,61]⟩:ByteArray),.string (⟨#[60,60,61]⟩:ByteArray),.string (⟨#[42,42]⟩:ByteArray),.string (⟨#[47,47]⟩:ByteArray),.string (⟨#[124,124]⟩:ByteArray),.string (⟨#[38,38]⟩:ByteArray),.string (⟨#[61,61]⟩:ByteArray),.string (⟨#[92,61]⟩:ByteArray),.string (⟨#[92,62]⟩:ByteArray),.string (⟨#[92,60]⟩:ByteArray),.string (⟨#[62,61]⟩:ByteArray),.string (⟨#[60,61]⟩:ByteArray),.string (⟨#[62,62]⟩:ByteArray),.string (⟨#[60,60]⟩:ByteArray),.string (⟨#[62,60]⟩:ByteArray),.string (⟨#[60,62]⟩:ByteArray),.string (⟨#[43]⟩:ByteArray),.string (⟨#[45]⟩:ByteArray),.string (⟨#[42]⟩:ByteArray),.string (⟨#[47]⟩:ByteArray),.string (⟨#[37]⟩:ByteArray),.string (⟨#[124]⟩:ByteArray),.string (⟨#[38]⟩:ByteArray),.string (⟨#[61]⟩:ByteArray),.string (⟨#[62]⟩:ByteArray),.string (⟨#[60]⟩:ByteArray),.string (⟨#[92]⟩:ByteArray),.string (⟨#[40]⟩:ByteArray),.string (⟨#[41]⟩:ByteArray),.string (⟨#[44]⟩:ByteArray),.string (⟨#[58]⟩:ByteArray),.string (⟨#[59]⟩:ByteArray)]) (ok:=fun _=>True) (Af:=fun _=>True) ?hr ?hp (fun _ hk=>hk) trivial (Below.refl _ _) (Nat.le_refl _) (by simp) ?_;(case hd=>rfl);(case hg=>rfl);(case hr=>first | (go_simp;done) | (go_simp;rfl));(case hp=>exact (dN.one (show Kd.M Kd.string _ _ _ (⟨#[92,61,61]⟩:ByteArray) [.string (⟨#[92,61,61]⟩:ByteArray)] from rfl) (dN.one (show Kd.M Kd.string _ _ _ (⟨#[92,62,62]⟩:ByteArray) [.string (⟨#[92,62,62]⟩:ByteArray)] from rfl) (dN.one (show Kd.M Kd.string _ _ _ (⟨#[92,60,60]⟩:ByteArray) [.string (⟨#[92,60,60]⟩:ByteArray)] from rfl) (dN.one (show Kd.M Kd.string _ _ _ (⟨#[62,62,61]⟩:ByteArray) [.string (⟨#[62,62,61]⟩:ByteArray)] from rfl) (dN.one (show Kd.M Kd.string _ _ _ (⟨#[60,60,61]⟩:ByteArray) [.string (⟨#[60,60,61]⟩:ByteArray)] from rfl) (dN.one (show Kd.M Kd.string _ _ _ (⟨#[42,42]⟩:ByteArray) [.string (⟨#[42,42]⟩:ByteArray)] from rfl) (dN.one (show Kd.M Kd.string _ _ _ (⟨#[47,47]⟩:ByteArray) [.string (⟨#[47,47]⟩:ByteArray)] from rfl) (dN.one (show Kd.M Kd.string _ _ _ (⟨#[124,124]⟩:ByteArray) [.string (⟨#[124,124]⟩:ByteArray)] from rfl) (dN.one (show Kd.M Kd.string _ _ _ (⟨#[38,38]⟩:ByteArray) [.string (⟨#[38,38]⟩:ByteArray)] from rfl) (dN.one (show Kd.M Kd.string _ _ _ (⟨#[61,61]⟩:ByteArray) [.string (⟨#[61,61]⟩:ByteArray)] from rfl) (dN.one (show Kd.M Kd.string _ _ _ (⟨#[92,61]⟩:ByteArray) [.string (⟨#[92,61]⟩:ByteArray)] from rfl) (dN.one (show Kd.M Kd.string _ _ _ (⟨#[92,62]⟩:ByteArray) [.string (⟨#[92,62]⟩:ByteArray)] from rfl) (dN.one (show Kd.M Kd.string _ _ _ (⟨#[92,60]⟩:ByteArray) [.string (⟨#[92,60]⟩:ByteArray)] from rfl) (dN.one (show Kd.M Kd.string _ _ _ (⟨#[62,61]⟩:ByteArray) [.string (⟨#[62,61]⟩:ByteArray)] from rfl) (dN.one (show Kd.M Kd.string _ _ _ (⟨#[60,61]⟩:ByteArray) [.string (⟨#[60,61]⟩:ByteArray)] from rfl) (dN.one (show Kd.M Kd.string _ _ _ (⟨#[62,62]⟩:ByteArray) [.string (⟨#[62,62]⟩:ByteArray)] from rfl) (dN.one (show Kd.M Kd.string _ _ _ (⟨#[60,60]⟩:ByteArray) [.string (⟨#[60,60]⟩:ByteArray)] from rfl) (dN.one (show Kd.M Kd.string _ _ _ (⟨#[62,60]⟩:ByteArray) [.string (⟨#[62,60]⟩:ByteArray)] from rfl) (dN.one (show Kd.M Kd.string _ _ _ (⟨#[60,62]⟩:ByteArray) [.string (⟨#[60,62]⟩:ByteArray)] from rfl) (dN.one (show Kd.M Kd.string _ _ _ (⟨#[43]⟩:ByteArray) [.string (⟨#[43]⟩:ByteArray)] from rfl) (dN.one (show Kd.M Kd.string _ _ _ (⟨#[45]⟩:ByteArray) [.string (⟨#[45]⟩:ByteArray)] from rfl) (dN.one (show Kd.M Kd.string _ _ _ (⟨#[42]⟩:ByteArray) [.string (⟨#[42]⟩:ByteArray)] from rfl) (dN.one (show Kd.M Kd.string _ _ _ (⟨#[47]⟩:ByteArray) [.string (⟨#[47]⟩:ByteArray)] from rfl) (dN.one (show Kd.M Kd.string _ _ _ (⟨#[37]⟩:ByteArray) [.string (⟨#[37]⟩:ByteArray)] from rfl) (dN.one (show Kd.M Kd.string _ _ _ (⟨#[124]⟩:ByteArray) [.string (⟨#[124]⟩:ByteArray)] from rfl) (dN.one (show Kd.M Kd.string _ _ _ (⟨#[38]⟩:ByteArray) [.string (⟨#[38]⟩:ByteArray)] from rfl) (dN.one (show Kd.M Kd.string _ _ _ (⟨#[61]⟩:ByteArray) [.string (⟨#[61]⟩:ByteArray)] from rfl) (dN.one (show Kd.M Kd.string _ _ _ (⟨#[62]⟩:ByteArray) [.string (⟨#[62]⟩:ByteArray)] from rfl) (dN.one (show Kd.M Kd.string _ _ _ (⟨#[60]⟩:ByteArray) [.string (⟨#[60]⟩:ByteArray)] from rfl) (dN.one (show Kd.M Kd.string _ _ _ (⟨#[92]⟩:ByteArray) [.string (⟨#[92]⟩:ByteArray)] from rfl) (dN.one (show Kd.M Kd.string _ _ _ (⟨#[40]⟩:ByteArray) [.string (⟨#[40]⟩:ByteArray)] from rfl) (dN.one (show Kd.M Kd.string _ _ _ (⟨#[41]⟩:ByteArray) [.string (⟨#[41]⟩:ByteArray)] from rfl) (dN.one (show Kd.M Kd.string _ _ _ (⟨#[44]⟩:ByteArray) [.string (⟨#[44]⟩:ByteArray)] from rfl) (dN.one (show Kd.M Kd.string _ _ _ (⟨#[58]⟩:ByteArray) [.string (⟨#[58]⟩:ByteArray)] from rfl) (dN.one (show Kd.M Kd.string _ _ _ (⟨#[59]⟩:ByteArray) [.string (⟨#[59]⟩:ByteArray)] from rfl) (dN.none _ _)))))))))))))))))))))))))))))))))))));intro alX w1 ho2 hb hg_ acC;clear hg_ acC;(first | rw [<- Xv.out] at ho2 | (simp only [Int.reduceToNat] at ho2;rw [<- Xv.out] at ho2));have dW:=aj.mk (Kd.nN ho2 (bR (by repeat (first | (with_reducible first | exact HB.out | apply ay | apply ak | apply aD) | exact HB.out))));have fF:=aj.mk (bH (by repeat (first | (with_reducible first | exact HB.out | apply ay | apply ak | apply aD) | exact HB.out)) hb);clear HB;have acD:=dW;have HB:=fF;clear dW fF;clear hb ho2))
 go_ret;exact ⟨_,by first | rfl | (simp [aV,aW]<;>rfl) | (simp [*,aV,aW]<;>rfl),by (with_reducible repeat (first | apply Kd.bW | apply Kd.bV | apply Kd.dw));exact acD.out,by repeat (first | (with_reducible first | exact HB.out | apply ay | apply ak | apply aD) | exact HB.out)⟩
def cK.j0:Nat->Int->Bool->Option (Int)
 | 0,_,_=>none
 | k+1,x0,x9=>if x9=true then (some (((x0 - 97) % 256)+10)) else (if x0>=65 then (if x0<=70 then (some (((x0 - 65) % 256)+10)) else (some (-1))) else (some (-1)))
def cK.f (k:Nat) (a0:Int):Option (Int):=(bB.f a0).bind fun Oi=>(if Oi=true then (some ((a0 - 48) % 256)) else (if a0>=97 then (cK.j0 k a0 (decide (a0<=102))) else (cK.j0 k a0 false)))
set_option maxHeartbeats 8000000 in
set_option maxRecDepth 100000 in
theorem cK.calls (k:Nat) (a0:Int) (r:Int) (w:World) (h:cK.f k a0=some r) :
  Calls Tryz.prog 134 #[.int .u8 a0] w fun e w'=>e=.returned (.int .i64 r)/\aM w w':=by
 have H:((bB.f a0).bind fun Oi=>(if Oi=true then (some ((a0 - 48) % 256)) else (if a0>=97 then (cK.j0 k a0 (decide (a0<=102))) else (cK.j0 k a0 false))))=some r:=h;clear h;replace H:=Option.bind_eq_some_iff.mp H;obtain ⟨Oi,CX,H⟩:=H;replace H:(if Oi=true then (some ((a0 - 48) % 256)) else (if a0>=97 then (cK.j0 k a0 (decide (a0<=102))) else (cK.j0 k a0 false)))=some r:=H;have A2:=aj.mk CX;clear CX;by_cases c3:Oi=true
 ·subst c3
  rw [if_pos rfl] at H;obtain rfl:=Option.some.inj H;go_enter Tryz.func134,Tryz.ntmps134
  go_wp2_with (first | ((with_reducible refine bg (f:=60) rfl ?_);refine cO (some 5) rfl rfl Tryz.func60 (by kernel_rfl) rfl #[.int .u8 a0] rfl (by (try simp only [List.map_toArray,List.map_cons,List.map_nil]);first | done | rfl | (simp only [List.length_drop,List.length_take];rfl)) ?_;(with_reducible refine (bB.calls a0 true _ A2.out).mono ?_);rintro e w' ⟨rfl,⟨nd,rfl⟩⟩;refine ⟨_,rfl,?_⟩))
  go_ret;exact ⟨by first | rfl | (simp;done) | (simp [*];done),by repeat (first | exact aM.refl _ | apply aM.step)⟩
 replace c3:=Bool.eq_false_iff.mpr c3;subst c3;rw [if_neg (show ¬ (false=true) by decide)] at H;have Ig:=aj.mk H;clear H;go_enter Tryz.func134,Tryz.ntmps134
 go_upto_region 3 with (first | ((with_reducible refine bg (f:=60) rfl ?_);refine cO (some 5) rfl rfl Tryz.func60 (by kernel_rfl) rfl #[.int .u8 a0] rfl (by (try simp only [List.map_toArray,List.map_cons,List.map_nil]);first | done | rfl | (simp only [List.length_drop,List.length_take];rfl)) ?_;(with_reducible refine (bB.calls a0 false _ A2.out).mono ?_);rintro e w' ⟨rfl,⟨nd,rfl⟩⟩;refine ⟨_,rfl,?_⟩))
 (try simp only [Act.put,List.setIfInBounds_toArray,List.set_cons_zero,List.set_cons_succ])
 go_cut [9] (fun v9 wc=>∃ (kq:Nat) (UN:Bool),v9=.bool UN/\aj (cK.j0 kq a0 UN=some r)/\aj (kq<=k)/\aM w wc)
 case first =>
  have H:=Ig.out;clear Ig;by_cases c5:a0>=97
  ·rw [if_pos c5] at H
   have nV:decide (97<=a0)=true:=decide_eq_true c5;clear c5
   (first | rw [nV] | (simp only [dx,dK];rw [nV]) | skip)
   have H':=aj.mk H;clear H;go_wp2;go_meet
   case rel=>exact ⟨_,(decide (a0<=102)),(by first | rfl | (simp;done) | (simp [*];done)),H',⟨by first | omega | exact Nat.le_refl _⟩,by repeat (first | exact aM.refl _ | apply aM.step)⟩
  rw [if_neg c5] at H;have nV:decide (97<=a0)=false:=decide_eq_false c5;clear c5
  (first | rw [nV] | (simp only [dx,dK];rw [nV]) | skip)
  have H':=aj.mk H;clear H;go_wp2;go_meet
  case rel=>exact ⟨_,(false),(by first | rfl | (simp;done) | (simp [*];done)),H',⟨by first | omega | exact Nat.le_refl _⟩,by repeat (first | exact aM.refl _ | apply aM.step)⟩
 case rest =>
  clear Ig;obtain ⟨kq,UN,rfl,HA,Jw,⟨mc3,rfl⟩⟩:=hcut;cases kq with
  | zero=>exact absurd HA.out (by simp [cK.j0])
  | succ yY =>
   have H:=HA.out;clear HA;simp only [cK.j0] at H;by_cases c6:UN=true
   ·subst c6
    rw [if_pos rfl] at H;obtain rfl:=Option.some.inj H;go_wp2;go_ret;exact ⟨by first | rfl | (simp;done) | (simp [*];done),by repeat (first | exact aM.refl _ | apply aM.step)⟩
   replace c6:=Bool.eq_false_iff.mpr c6;subst c6;rw [if_neg (show ¬ (false=true) by decide)] at H;by_cases c7:a0>=65
   rotate_left
   ·rw [if_neg c7] at H
    have sI:decide (65<=a0)=false:=decide_eq_false c7;clear c7;obtain rfl:=Option.some.inj H;go_wp2;go_ret;exact ⟨by first | rfl | (simp;done) | (simp [*];done),by repeat (first | exact aM.refl _ | apply aM.step)⟩
   rw [if_pos c7] at H;have sI:decide (65<=a0)=true:=decide_eq_true c7;clear c7;by_cases c8:a0<=70
   ·rw [if_pos c8] at H
    have yO:decide (a0<=70)=true:=decide_eq_true c8;clear c8;obtain rfl:=Option.some.inj H;go_wp2;go_ret;exact ⟨by first | rfl | (simp;done) | (simp [*];done),by repeat (first | exact aM.refl _ | apply aM.step)⟩
   rw [if_neg c8] at H;have yO:decide (a0<=70)=false:=decide_eq_false c8;clear c8;obtain rfl:=Option.some.inj H;go_wp2;go_ret;exact ⟨by first | rfl | (simp;done) | (simp [*];done),by repeat (first | exact aM.refl _ | apply aM.step)⟩
mutual
def bq.l0:Nat->ByteArray->Int->Int->List Int->Int->Option (ByteArray × Bool)
 | 0,_,_,_,_,_=>none
 | k+1,x0,x1,x2,x8,x9=>if x9 < (x0.size:Int) then (bq.l1 k x0 x1 x2 x8 x9 0 0) else (some (strOfNums x8,true))
def bq.l1:Nat->ByteArray->Int->Int->List Int->Int->Int->Int->Option (ByteArray × Bool)
 | 0,_,_,_,_,_,_,_=>none
 | k+1,x0,x1,x2,x8,x9,x10,wJ=>if wJ < x2 then (if 0<=(wrap64 (x9+wJ)) then (if (wrap64 (x9+wJ)) < (x0.size:Int) then ((cK.f k (bt x0 (wrap64 (x9+wJ)))).bind fun rC=>(if rC < 0 then (some ((⟨#[]⟩:ByteArray),false)) else (if rC>=x1 then (some ((⟨#[]⟩:ByteArray),false)) else (bq.l1 k x0 x1 x2 x8 x9 (wrap64 ((wrap64 (x10*x1))+rC)) (wrap64 (wJ+1)))))) else (none)) else (none)) else (if x10 < 32 then (some ((⟨#[]⟩:ByteArray),false)) else (if x10 > 126 then (some ((⟨#[]⟩:ByteArray),false)) else (if x8.length < 140737488355328 then (bq.l0 k x0 x1 x2 (x8++[(x10) % 256]) (wrap64 (x9+x2))) else (none))))
end
def bq.f (k:Nat) (a0:ByteArray) (a1:Int) (a2:Int):Option (ByteArray × Bool):=if a2=0 then (none) else (if ((a0.size:Int) % a2)=0 then (bq.l0 k a0 a1 a2 ([]:List Int) 0) else (some ((⟨#[]⟩:ByteArray),false)))
set_option maxHeartbeats 8000000 in
set_option maxRecDepth 100000 in
theorem bq.calls (k:Nat) (a0:ByteArray) (a1:Int) (a2:Int) (r1:ByteArray) (r2:Bool) (w:World) (h:bq.f k a0 a1 a2=some (r1,r2)) :
  Calls Tryz.prog 110 #[.string a0,.int .i64 a1,.int .i64 a2] w fun e w'=>e=.returned (.tuple #[.string r1,.bool r2])/\Below w.heap.size w w':=by
 have HB:=aj.mk (Below.refl w.heap.size w);have H:(if a2=0 then (none) else (if ((a0.size:Int) % a2)=0 then (bq.l0 k a0 a1 a2 ([]:List Int) 0) else (some ((⟨#[]⟩:ByteArray),false))))=some (r1,r2):=h;clear h;by_cases c4:a2=0
 ·rw [if_pos c4] at H
  exact absurd H (by simp)
 rw [if_neg c4] at H;have pF:(a2==0)=false:=beq_eq_false_iff_ne.mpr c4;have Et:(a2 != 0)=true:=bne_iff_ne.mpr c4;by_cases c5:((a0.size:Int) % a2)=0
 rotate_left
 ·rw [if_neg c5] at H
  have nV:(((a0.size:Int) % a2)==0)=false:=beq_eq_false_iff_ne.mpr c5;have JK:(((a0.size:Int) % a2) != 0)=true:=bne_iff_ne.mpr c5;simp only [Option.some.injEq,Prod.mk.injEq] at H;obtain ⟨rfl,rfl⟩:=H;go_enter Tryz.func110,Tryz.ntmps110
  go_wp2;go_ret2
  exact ⟨by first | rfl | (simp [aV,aW]<;>rfl) | (simp [*,aV,aW]<;>rfl),by repeat (first | (with_reducible first | exact HB.out | apply ay | apply ak | apply aD) | exact HB.out)⟩
 rw [if_pos c5] at H;have nV:(((a0.size:Int) % a2)==0)=true:=beq_iff_eq.mpr c5;have JK:(((a0.size:Int) % a2) != 0)=false:=bne_eq_false_iff_eq.mpr c5;clear c5;have H':=aj.mk H;clear H;go_enter Tryz.func110,Tryz.ntmps110
 go_wp2;go_loopg [8,9] k (fun kq v8 v9 w'=>∃ (dB:List Int) (za:Int),v9=.int .i64 za/\aj (bq.l0 kq a0 a1 a2 dB za=some (r1,r2))/\aj (kq<=k)/\aj (Kd.R (Kd.int .u8) 5 w' w.heap.size (fun _=>True) v8 dB)/\aj (Below w.heap.size w w'))
 case atStart=>exact ⟨(([]:List Int)),(0),(by first | rfl | (simp;done) | (simp [*];done)),H',⟨Nat.le_refl _⟩,⟨by first | exact Kd.rD _ _ _ _ _ | exact Kd.tT _ _ _ _ _ | exact Kd.xk _ _ _ _ _ | exact Kd.wS _ _ _ _ _ | exact Kd.wX _ _ _ _ _⟩,⟨by repeat (first | (with_reducible first | exact HB.out | apply ay | apply ak | apply aD) | exact HB.out)⟩⟩
 case round =>
  clear H';obtain ⟨dB,za,rfl,HA,jQ,gX,HB⟩:=hrel;cases gk with
  | zero=>exact absurd HA.out (by simp [bq.l0])
  | succ k1 =>
   have H:=HA.out;clear HA;simp only [bq.l0] at H;by_cases c6:za < (a0.size:Int)
   rotate_left
   ·rw [if_neg c6] at H
    have kP:decide (za < (a0.size:Int))=false:=decide_eq_false c6;clear c6;simp only [Option.some.injEq,Prod.mk.injEq] at H;obtain ⟨rfl,rfl⟩:=H;have akY:=rR (P:=Tryz.prog) Tryz.underlying100 Tryz.underlying5 Tryz.underlying9 (Kd.AQ gX.out);go_wp2;go_ret2
    exact ⟨by first | rfl | (simp [aV,aW]<;>rfl) | (simp [*,aV,aW]<;>rfl),by repeat (first | (with_reducible first | exact HB.out | apply ay | apply ak | apply aD) | exact HB.out)⟩
   rw [if_pos c6] at H;have kP:decide (za < (a0.size:Int))=true:=decide_eq_true c6;clear c6;have H':=aj.mk H;clear H;go_wp2;go_loopg [10,11] k1 (fun kq v10 v11 w'=>∃ (dL:Int) (uD:Int),v10=.int .i64 dL/\v11=.int .i64 uD/\aj (bq.l1 kq a0 a1 a2 dB za dL uD=some (r1,r2))/\aj (kq<=k1)/\aj (Kd.R (Kd.int .u8) 5 w' w.heap.size (fun _=>True) u8 dB)/\aj (Below w.heap.size w w'))
   case atStart=>exact ⟨(0),(0),(by first | rfl | (simp;done) | (simp [*];done)),(by first | rfl | (simp;done) | (simp [*];done)),H',⟨Nat.le_refl _⟩,⟨by (with_reducible repeat (first | apply Kd.bW | apply Kd.bV | apply Kd.dw));exact gX.out⟩,⟨by repeat (first | (with_reducible first | exact HB.out | apply ay | apply ak | apply aD) | exact HB.out)⟩⟩
   case round =>
    clear H';obtain ⟨dL,uD,rfl,rfl,HA,CY,gX,HB⟩:=hrel;cases gk with
    | zero=>exact absurd HA.out (by simp [bq.l1])
    | succ k2 =>
     have H:=HA.out;clear HA;simp only [bq.l1] at H;by_cases c7:uD < a2
     rotate_left
     ·rw [if_neg c7] at H
      have sI:decide (uD < a2)=false:=decide_eq_false c7;clear c7;by_cases c15:dL < 32
      ·rw [if_pos c15] at H
       have Dz:decide (dL < 32)=true:=decide_eq_true c15;clear c15;simp only [Option.some.injEq,Prod.mk.injEq] at H;obtain ⟨rfl,rfl⟩:=H;go_wp2;go_ret2
       exact ⟨by first | rfl | (simp [aV,aW]<;>rfl) | (simp [*,aV,aW]<;>rfl),by repeat (first | (with_reducible first | exact HB.out | apply ay | apply ak | apply aD) | exact HB.out)⟩
      rw [if_neg c15] at H;have Dz:decide (dL < 32)=false:=decide_eq_false c15;clear c15;by_cases c16:dL > 126
      ·rw [if_pos c16] at H
       have Br:decide (126 < dL)=true:=decide_eq_true c16;clear c16;simp only [Option.some.injEq,Prod.mk.injEq] at H;obtain ⟨rfl,rfl⟩:=H;go_wp2;go_ret2
       exact ⟨by first | rfl | (simp [aV,aW]<;>rfl) | (simp [*,aV,aW]<;>rfl),by repeat (first | (with_reducible first | exact HB.out | apply ay | apply ak | apply aD) | exact HB.out)⟩
      rw [if_neg c16] at H;have Br:decide (126 < dL)=false:=decide_eq_false c16;clear c16;by_cases c17:dB.length < 140737488355328
      rotate_left
      ·rw [if_neg c17] at H
       exact absurd H (by simp)
      rw [if_pos c17] at H;have acE:=aj.mk c17;clear c17;obtain ⟨acF,Iu⟩:∃ y_:List Int,y_=(dB++[(dL) % 256]):=⟨_,rfl⟩;replace H:(bq.l0 k2 a0 a1 a2 acF (wrap64 (za+a2)))=some (r1,r2):=by first | (rw [Iu];with_reducible exact H) | (have wC:=(Option.bind_some _ _).symm.trans H;rw [Iu];with_reducible exact wC) | (have wC:=(Option.bind_some _ _).symm.trans H;with_reducible exact wC) | with_reducible exact H | (rw [Iu];exact H) | exact H
      have acG:=aj.mk Iu;clear Iu;have H':=aj.mk H;clear H;go_wp2_with (first | ((with_reducible refine oM (b:=.append) (xs:=#[.tmp 54,.tmp 57]) rfl ?_);at_builtin;refine Kd.wR (Kd.int .u8) (w0:=w) w.heap.size rfl (.tmp 54) (.tmp 57) 100 5 (.int .u8 0) 1 rfl Tryz.underlying100 info5 rfl (by decide) (by omega) u8 dB ((dL) % 256) [.int .u8 ((dL) % 256)] (fun _=>True) (fun _=>False) rfl rfl ?aP (fun _ hk=>hk.elim) ?aF ?aO ?aB ?aS ?aL ?_;(case aP=>exact rfl);(case aB=>exact (by repeat (first | (with_reducible first | exact HB.out | apply ay | apply ak | apply aD) | exact HB.out)));(case aF=>exact (fun _ _=>trivial));(case aO=>exact (by (with_reducible repeat (first | apply Kd.bW | apply Kd.bV | apply Kd.dw));exact gX.out));(case aS=>exact (bR (by repeat (first | (with_reducible first | exact HB.out | apply ay | apply ak | apply aD) | exact HB.out))));(case aL=>have:=acE.out;omega);intro alY w18 ho hb hg hat;rw [<- acG.out] at ho;have dW:=aj.mk (hb);have fF:=aj.mk (ho);clear HB;clear gX;have HB:=dW;have acH:=fF;clear dW fF;clear ho hb hg hat))
      go_roundg k2
      case measure=>have:=jQ.out;have:=CY.out;omega
      case rel=>exact ⟨(acF),(wrap64 (za+a2)),(by first | rfl | (simp;done) | (simp [*];done)),H',⟨by have:=jQ.out;have:=CY.out;omega⟩,⟨by (with_reducible repeat (first | apply Kd.bW | apply Kd.bV | apply Kd.dw));exact acH.out⟩,⟨by repeat (first | (with_reducible first | exact HB.out | apply ay | apply ak | apply aD) | exact HB.out)⟩⟩
     rw [if_pos c7] at H;have sI:decide (uD < a2)=true:=decide_eq_true c7;clear c7;obtain ⟨Cq,Iw⟩:∃ j_:Int,(wrap64 (za+uD))=j_:=⟨_,rfl⟩;replace H:(if 0<=(Cq) then (if (Cq) < (a0.size:Int) then ((cK.f k2 (bt a0 (Cq))).bind fun rC=>(if rC < 0 then (some ((⟨#[]⟩:ByteArray),false)) else (if rC>=a1 then (some ((⟨#[]⟩:ByteArray),false)) else (bq.l1 k2 a0 a1 a2 dB za (wrap64 ((wrap64 (dL*a1))+rC)) (wrap64 (uD+1)))))) else (none)) else (none))=some (r1,r2):=by first | (rw [Iw] at H;exact H) | (simp only [Iw] at H |-;exact H)
     have akZ:(IntKind.i64.wrap (za+uD))=Cq:=(dx _).trans Iw;by_cases c9:0<=(Cq)
     rotate_left
     ·rw [if_neg c9] at H
      exact absurd H (by simp)
     rw [if_pos c9] at H;have Uy:decide (0<=(Cq))=true:=decide_eq_true c9;clear c9;by_cases c10:(Cq) < (a0.size:Int)
     rotate_left
     ·rw [if_neg c10] at H
      exact absurd H (by simp)
     rw [if_pos c10] at H;have tH:decide ((Cq) < (a0.size:Int))=true:=decide_eq_true c10;clear c10;replace H:=Option.bind_eq_some_iff.mp H;obtain ⟨rC,GN,H⟩:=H;replace H:(if rC < 0 then (some ((⟨#[]⟩:ByteArray),false)) else (if rC>=a1 then (some ((⟨#[]⟩:ByteArray),false)) else (bq.l1 k2 a0 a1 a2 dB za (wrap64 ((wrap64 (dL*a1))+rC)) (wrap64 (uD+1)))))=some (r1,r2):=H;have Yg:=aj.mk GN;clear GN;by_cases c13:rC < 0
     ·rw [if_pos c13] at H
      have DV:decide (rC < 0)=true:=decide_eq_true c13;clear c13;simp only [Option.some.injEq,Prod.mk.injEq] at H;obtain ⟨rfl,rfl⟩:=H;have Xw:0<=((Cq):Int):=of_decide_eq_true (by first | (with_reducible assumption) | assumption);have OX:(Cq) < (a0.size:Int):=of_decide_eq_true (by first | (with_reducible assumption) | assumption);have acI:=bY a0 (Cq);replace Xw:=eq_true Xw;replace OX:=eq_true OX;go_wp2_with (first | ((with_reducible refine bg (f:=134) rfl ?_);refine cO (some 35) rfl rfl Tryz.func134 (by kernel_rfl) rfl #[.int .u8 (bt a0 (Cq))] rfl (by (try simp only [List.map_toArray,List.map_cons,List.map_nil]);first | done | (simp only [Iw];rfl) | rfl | (simp only [List.length_drop,List.length_take];rfl)) ?_;(with_reducible refine (cK.calls k2 (bt a0 (Cq)) rC _ Yg.out).mono ?_);rintro e w' ⟨rfl,⟨nd,rfl⟩⟩;refine ⟨_,rfl,?_⟩))
      go_ret2
      exact ⟨by first | rfl | (simp [aV,aW]<;>rfl) | (simp only [<- Iw];first | rfl | (simp [aV,aW]<;>rfl)) | (simp [*,aV,aW]<;>rfl),by repeat (first | (with_reducible first | exact HB.out | apply ay | apply ak | apply aD) | exact HB.out)⟩
     rw [if_neg c13] at H;have DV:decide (rC < 0)=false:=decide_eq_false c13;clear c13;by_cases c14:rC>=a1
     ·rw [if_pos c14] at H
      have Bq:decide (a1<=rC)=true:=decide_eq_true c14;clear c14;simp only [Option.some.injEq,Prod.mk.injEq] at H;obtain ⟨rfl,rfl⟩:=H;have Xw:0<=((Cq):Int):=of_decide_eq_true (by first | (with_reducible assumption) | assumption);have OX:(Cq) < (a0.size:Int):=of_decide_eq_true (by first | (with_reducible assumption) | assumption);have acI:=bY a0 (Cq);replace Xw:=eq_true Xw;replace OX:=eq_true OX;go_wp2_with (first | ((with_reducible refine bg (f:=134) rfl ?_);refine cO (some 35) rfl rfl Tryz.func134 (by kernel_rfl) rfl #[.int .u8 (bt a0 (Cq))] rfl (by (try simp only [List.map_toArray,List.map_cons,List.map_nil]);first | done | (simp only [Iw];rfl) | rfl | (simp only [List.length_drop,List.length_take];rfl)) ?_;(with_reducible refine (cK.calls k2 (bt a0 (Cq)) rC _ Yg.out).mono ?_);rintro e w' ⟨rfl,⟨nd,rfl⟩⟩;refine ⟨_,rfl,?_⟩))
      go_ret2
      exact ⟨by first | rfl | (simp [aV,aW]<;>rfl) | (simp only [<- Iw];first | rfl | (simp [aV,aW]<;>rfl)) | (simp [*,aV,aW]<;>rfl),by repeat (first | (with_reducible first | exact HB.out | apply ay | apply ak | apply aD) | exact HB.out)⟩
     rw [if_neg c14] at H;have Bq:decide (a1<=rC)=false:=decide_eq_false c14;clear c14;have H':=aj.mk H;clear H;have Xw:0<=((Cq):Int):=of_decide_eq_true (by first | (with_reducible assumption) | assumption);have OX:(Cq) < (a0.size:Int):=of_decide_eq_true (by first | (with_reducible assumption) | assumption);have acI:=bY a0 (Cq);replace Xw:=eq_true Xw;replace OX:=eq_true OX;go_wp2_with (first | ((with_reducible refine bg (f:=134) rfl ?_);refine cO (some 35) rfl rfl Tryz.func134 (by kernel_rfl) rfl #[.int .u8 (bt a0 (Cq))] rfl (by (try simp only [List.map_toArray,List.map_cons,List.map_nil]);first | done | (simp only [Iw];rfl) | rfl | (simp only [List.length_drop,List.length_take];rfl)) ?_;(with_reducible refine (cK.calls k2 (bt a0 (Cq)) rC _ Yg.out).mono ?_);rintro e w' ⟨rfl,⟨nd,rfl⟩⟩;refine ⟨_,rfl,?_⟩))
     go_roundg k2
     case measure=>have:=jQ.out;have:=CY.out;omega
     case rel=>exact ⟨(wrap64 ((wrap64 (dL*a1))+rC)),(wrap64 (uD+1)),(by first | rfl | (simp;done) | (simp [*];done)),(by first | rfl | (simp;done) | (simp [*];done)),H',⟨by have:=jQ.out;have:=CY.out;omega⟩,⟨by (with_reducible repeat (first | apply Kd.bW | apply Kd.bV | apply Kd.dw));exact gX.out⟩,⟨by repeat (first | (with_reducible first | exact HB.out | apply ay | apply ak | apply aD) | exact HB.out)⟩⟩
def cZ.l0:Nat->ByteArray->Int->Option (Bool)
 | 0,_,_=>none
 | k+1,x0,x3=>if x3 < (x0.size:Int) then (if 0<=x3 then (if (bt x0 x3) < 32 then (some false) else (if (bt x0 x3) > 126 then (some false) else (cZ.l0 k x0 (wrap64 (x3+1))))) else (none)) else (some true)
def cZ.f (k:Nat) (a0:ByteArray):Option (Bool):=cZ.l0 k a0 0
set_option maxHeartbeats 8000000 in
set_option maxRecDepth 100000 in
theorem cZ.calls (k:Nat) (a0:ByteArray) (r:Bool) (w:World) (h:cZ.f k a0=some r) :
  Calls Tryz.prog 43 #[.string a0] w fun e w'=>e=.returned (.bool r)/\aM w w':=by
 have H:(cZ.l0 k a0 0)=some r:=h;clear h;have H':=aj.mk H;clear H;go_enter Tryz.func43,Tryz.ntmps43
 go_wp2;go_loopg [3] k (fun kq v3 w'=>∃ (gU:Int),v3=.int .i64 gU/\aj (cZ.l0 kq a0 gU=some r)/\aj (kq<=k)/\aM w w')
 case atStart=>exact ⟨(0),(by first | rfl | (simp;done) | (simp [*];done)),H',⟨Nat.le_refl _⟩,by repeat (first | exact aM.refl _ | apply aM.step)⟩
 case round =>
  clear H';obtain ⟨gU,rfl,HA,jQ,⟨m1,rfl⟩⟩:=hrel;cases gk with
  | zero=>exact absurd HA.out (by simp [cZ.l0])
  | succ k1 =>
   have H:=HA.out;clear HA;simp only [cZ.l0] at H;by_cases c2:gU < (a0.size:Int)
   rotate_left
   ·rw [if_neg c2] at H
    have oG:decide (gU < (a0.size:Int))=false:=decide_eq_false c2;clear c2;obtain rfl:=Option.some.inj H;go_wp2;go_ret;exact ⟨by first | rfl | (simp;done) | (simp [*];done),by repeat (first | exact aM.refl _ | apply aM.step)⟩
   rw [if_pos c2] at H;have oG:decide (gU < (a0.size:Int))=true:=decide_eq_true c2;clear c2;by_cases c3:0<=gU
   rotate_left
   ·rw [if_neg c3] at H
    exact absurd H (by simp)
   rw [if_pos c3] at H;have nU:decide (0<=gU)=true:=decide_eq_true c3;clear c3;by_cases c5:(bt a0 gU) < 32
   ·rw [if_pos c5] at H
    have nV:decide ((bt a0 gU) < 32)=true:=decide_eq_true c5;clear c5;obtain rfl:=Option.some.inj H;have p4:0<=(gU:Int):=of_decide_eq_true (by first | (with_reducible assumption) | assumption);have q4:gU < (a0.size:Int):=of_decide_eq_true (by first | (with_reducible assumption) | assumption);have hx4:=bY a0 gU;replace p4:=eq_true p4;replace q4:=eq_true q4;go_wp2;go_ret;exact ⟨by first | rfl | (simp;done) | (simp [*];done),by repeat (first | exact aM.refl _ | apply aM.step)⟩
   rw [if_neg c5] at H;have nV:decide ((bt a0 gU) < 32)=false:=decide_eq_false c5;clear c5;by_cases c7:(bt a0 gU) > 126
   ·rw [if_pos c7] at H
    have sI:decide (126 < (bt a0 gU))=true:=decide_eq_true c7;clear c7;obtain rfl:=Option.some.inj H;have p4:0<=(gU:Int):=of_decide_eq_true (by first | (with_reducible assumption) | assumption);have q4:gU < (a0.size:Int):=of_decide_eq_true (by first | (with_reducible assumption) | assumption);have hx4:=bY a0 gU;replace p4:=eq_true p4;replace q4:=eq_true q4;have p6:0<=(gU:Int):=of_decide_eq_true (by first | (with_reducible assumption) | assumption);have q6:gU < (a0.size:Int):=of_decide_eq_true (by first | (with_reducible assumption) | assumption);have hx6:=bY a0 gU;replace p6:=eq_true p6;replace q6:=eq_true q6;go_wp2;go_ret;exact ⟨by first | rfl | (simp;done) | (simp [*];done),by repeat (first | exact aM.refl _ | apply aM.step)⟩
   rw [if_neg c7] at H;have sI:decide (126 < (bt a0 gU))=false:=decide_eq_false c7;clear c7;have H':=aj.mk H;clear H;have p4:0<=(gU:Int):=of_decide_eq_true (by first | (with_reducible assumption) | assumption);have q4:gU < (a0.size:Int):=of_decide_eq_true (by first | (with_reducible assumption) | assumption);have hx4:=bY a0 gU;replace p4:=eq_true p4;replace q4:=eq_true q4;have p6:0<=(gU:Int):=of_decide_eq_true (by first | (with_reducible assumption) | assumption);have q6:gU < (a0.size:Int):=of_decide_eq_true (by first | (with_reducible assumption) | assumption);have hx6:=bY a0 gU;replace p6:=eq_true p6;replace q6:=eq_true q6;go_wp2;go_roundg k1
   case measure=>have:=jQ.out;omega
   case rel=>exact ⟨(wrap64 (gU+1)),(by first | rfl | (simp;done) | (simp [*];done)),H',⟨by have:=jQ.out;omega⟩,by repeat (first | exact aM.refl _ | apply aM.step)⟩
end Go.Proofs.YtkkpjonfaflkmaaGreatDoor.T
