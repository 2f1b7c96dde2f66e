/- A part of the proof of ScanWrites. -/
import Derived.Test.YtkkpjonfaflkmaaGreatDoorCScanWrites28
import Derived.Deep.Fields
set_option linter.all false
namespace Go.Proofs.YtkkpjonfaflkmaaGreatDoor.T
open Go.RowKit Go.Proofs.aj.aI Go.Proofs.aj.aY Go.Proofs.aj.bq
theorem Kt {xs:List Int} (hb:∀ x∈xs,0<=x/\x < 256) (he:(S.scan xs).err=none):(∀ t∈S.tokens xs,t.kind≠4->S.Good (S.kt t))/\∀ t,(S.tokens xs).getLast?=some t->t.kind=4:=by
 have hc:=S.JL hb he;unfold S.tokens;generalize (S.scan xs).cl=cls at hc;constructor
 ·intro t ht h4
  obtain ⟨cl,hcl,htc⟩:=List.mem_flatten.1 ht;obtain ⟨b,e,rfl,-,hok,hek,-⟩:=hc cl hcl;rcases List.mem_append.1 htc with h | h
  ·exact hok.good t h
  ·rw [List.mem_singleton.1 h] at h4;exact absurd hek h4
 ·intro t ht
  rcases List.eq_nil_or_concat cls with rfl | ⟨L,cl,rfl⟩
  ·simp at ht
  ·obtain ⟨b,e,rfl,-,-,hek,-⟩:=hc cl (by simp)
   simp at ht
   rw [<- ht];exact hek
theorem adr {l m:List dh} (h:sG jK l m=true):l.length=m.length/\∀ (i:Nat) (x y:dh),l[i]?=some x->m[i]?=some y->x.f0=y.f0/\bytesOf x.f1=bytesOf y.f1:=by
 induction l generalizing m with
 | nil=>cases m with
  | nil=>exact ⟨rfl,fun i x y h=>by simp at h⟩
  | cons y m=>cases h
 | cons a l ih=>cases m with
  | nil=>cases h
  | cons b m =>
   simp only [sG,Bool.and_eq_true] at h;obtain ⟨e,h2⟩:=ih h.2;refine ⟨by rw [List.length_cons,List.length_cons,e],fun i x y hx hy=>?_⟩;cases i with
   | zero =>
    simp only [List.getElem?_cons_zero,Option.some.injEq] at hx hy;subst hx hy;have h3:=h.1;simp only [jK,mX,Bool.and_eq_true,decide_eq_true_eq,beq_iff_eq] at h3;have:=(OO a b).2 h3.1;exact ⟨h3.1.1,congrArg Prod.snd this⟩
   | succ i =>
    rw [List.getElem?_cons_succ] at hx hy;exact h2 i x y hx hy
theorem ZH {xs:List Int} {l:List dh} (hb:∀ x∈xs,0<=x/\x < 256) (he:(S.scan xs).err=none) (h:sG jK ((S.tokens xs).map toS) l=true) :
  (∀ i,i < l.length->(bU l i).f0≠4->oV (bU l i))/\(0 < l.length->(bU l (l.length - 1)).f0=4):=by
 obtain ⟨hl,ha⟩:=adr h;rw [List.length_map] at hl;obtain ⟨hg,hlast⟩:=Kt hb he;have hbt:=Ep hb he;have key:∀ i,i < l.length->∃ t∈S.tokens xs,(S.tokens xs)[i]?=some t/\((t.kind:Nat):Int)=(bU l i).f0/\t.text=bytesOf (bU l i).f1:=fun i hi=>by
  have e1:(S.tokens xs)[i]?=some ((S.tokens xs)[i]'(by omega)):=List.getElem?_eq_getElem (by omega);have e2:l[i]?=some (bU l i):=by
   unfold bU aC;rw [Int.toNat_natCast,List.getD_eq_getElem?_getD,List.getElem?_eq_getElem hi];rfl
  have hm:(S.tokens xs)[i]'(by omega)∈S.tokens xs:=List.getElem_mem _;have h3:=ha i (toS ((S.tokens xs)[i]'(by omega))) (bU l i) (by rw [List.getElem?_map,e1];rfl) e2;refine ⟨_,hm,e1,h3.1,?_⟩;have h4:=h3.2;rw [show bytesOf (toS ((S.tokens xs)[i]'(by omega))).f1=((S.tokens xs)[i]'(by omega)).text from bW _ (hbt _ hm)] at h4;exact h4
 constructor
 ·intro i hi h4
  obtain ⟨t,hm,-,hk,htx⟩:=key i hi;refine ⟨by omega,?_⟩;have:=hg t hm (by omega);have e:Kq (bU l i)=S.kt t:=by
   unfold Kq S.kt;rw [<- hk,<- htx];rfl
  rw [e];exact this
 ·intro h0
  obtain ⟨t,hm,ht,hk,-⟩:=key (l.length - 1) (by omega);have:=hlast t (by rw [List.getLast?_eq_getElem?,hl];exact ht);omega
theorem Ku (l:List dh) (hl:l.length<=300) (hz:nV l<=20000) (ht:∀ t∈l,t.f1.size<=2100):∃ r1 r2,jv.f l=some (r1,r2)/\∀ k,500000 < k->eF.f k l=some (r1,0,[],r2):=by
 obtain ⟨W,hW⟩:∃ W,kU l=W:=⟨_,rfl⟩;obtain ⟨R,hR⟩:∃ R,(uM l l.length).2=R:=⟨_,rfl⟩;obtain ⟨f1,f2⟩:=uH l l.length (Nat.le_refl _);have hsz:=nO l (uM l l.length).1;rw [hR] at f2;have hWb:∀ x∈W,0<=x/\x < 256:=by rw [<- hW];exact (uF l l.length (Nat.le_refl _)).2.2
 have lnb:∀ (c:List dh) j,∀ x∈xX c j,0<=x/\x < 256:=fun c j=>by
  induction j with
  | zero=>simp [xX]
  | succ j ih =>
   intro x hx
   rw [xX] at hx;rcases List.mem_append.1 hx with hx | hx
   ·rcases List.mem_append.1 hx with hx | hx
    ·exact ih x hx
    ·unfold Ko at hx
     split at hx
     ·cases hx
     ·split at hx
      ·rw [List.mem_singleton.1 hx];omega
      ·split at hx
       ·simp only [List.mem_cons,List.not_mem_nil,or_false] at hx;omega
       ·cases hx
   ·exact Er _ x hx
 have lib:∀ c:List dh,∀ x∈vk c,0<=x/\x < 256:=fun c x hx=>by
  unfold vk at hx;rcases List.mem_append.1 hx with hx | hx
  ·rcases List.mem_append.1 hx with hx | hx
   ·exact lnb _ _ x hx
   ·split at hx
    ·rw [List.mem_singleton.1 hx];omega
    ·cases hx
  ·rw [List.mem_singleton.1 hx];omega
 have hRb:∀ x∈R,0<=x/\x < 256:=by
  rw [<- hR];have:∀ i,∀ x∈(uM l i).2,0<=x/\x < 256:=fun i=>by
   induction i with
   | zero=>simp [uM]
   | succ i ih =>
    rw [uM];split
    ·intro x hx
     rcases List.mem_append.1 hx with hx | hx
     ·exact ih x hx
     ·exact lib _ x hx
    ·exact ih
  exact this _
 have ads:∀ k,500000 < k->eF.f k l=Eo (strOfNums R) (sG jK ((S.tokens R).map toS) l):=fun k hk=>by
  unfold eF.f;have h0:=aaD l (by omega) hz ht k (by omega) l.length 0 (by omega);rw [hR] at h0;have htl:=S.qh (xs:=R) hRb;rw [if_pos (by omega),show Zh k l l.length 0 ⟨#[]⟩=some (strOfNums R) from h0,Option.bind_some,if_pos (by rw [rT];omega),bW _ hRb,Vt _ _ (by rw [List.length_map];omega) k (by rw [List.length_map];omega)];rfl
 have hEq:∀ X:List Int,(∀ x∈X,0<=x/\x < 256)->(S.scan X).err=none->sG jK ((S.tokens X).map toS) l=true->W=R:=fun X hX he hs=>by
  obtain ⟨g1,g2⟩:=ZH hX he hs;obtain ⟨-,w2,-⟩:=aaE l g1 l.length (Nat.le_refl _);rw [<- hW,<- hR];unfold kU;rw [w2];have e:(uM l l.length).1=l.length:=by
   cases hll:l.length with
   | zero=>rfl
   | succ n =>
    rw [uM];have:=g2 (by omega);rw [hll,Nat.add_sub_cancel] at this;rw [if_pos this]
  rw [e,Nat.sub_self];simp [xX]
 unfold jv.f;rw [if_pos ⟨by omega,hz⟩,hW];by_cases hw:(S.scan W).err=none/\sG jK ((S.tokens W).map toS) l=true
 ·have hWR:=hEq W hWb hw.1 hw.2
  rw [hWR] at hw |-
  rw [if_neg (by rw [hw.1,hw.2];simp)];have hc:vV (S.scan R).err=0:=by rw [hw.1];rfl
  by_cases hbig:20000 < R.length
  ·rw [if_pos hbig]
   refine ⟨_,_,rfl,fun k hk=>?_⟩;rw [ads k hk,hw.2];unfold Eo;rw [bW _ hRb,hc,rT,if_neg (by simp),if_pos hbig]
  rw [if_neg hbig];refine ⟨_,_,rfl,fun k hk=>?_⟩;rw [ads k hk,hw.2];unfold Eo;rw [bW _ hRb,hc,rT,if_neg (by simp),if_neg hbig]
 have hw1:(S.scan W).err.isSome=true\/sG jK ((S.tokens W).map toS) l=false:=by
  cases he:(S.scan W).err with
  | some p=>exact .inl rfl
  | none =>
   refine .inr ?_;cases hs:sG jK ((S.tokens W).map toS) l with
   | false=>rfl
   | true=>exact absurd ⟨he,hs⟩ hw
 rw [if_pos hw1];refine ⟨_,_,rfl,fun k hk=>?_⟩;rw [ads k hk];unfold Eo;rw [bW _ hRb,if_pos];cases he:(S.scan R).err with
 | some p =>
  refine .inl ?_;have:=S.wW (c:=p.1) (ln:=p.2) he;show ((p.1:Nat):Int)≠0
  omega
 | none =>
  refine .inr ?_;cases hs:sG jK ((S.tokens R).map toS) l with
  | false=>rfl
  | true =>
   have:=hEq R hRb he hs;rw [this] at hw;exact absurd ⟨he,hs⟩ hw
def Vu (l:List dh):Nat:=(l.map fun t=>t.f1.size).sum
theorem Vv (l:List dh) (hl:l.length<=140737488355328):∀ (n i s:Nat),i+n=l.length->s<=1100*i ->
  ∃ b,(∀ k,n < k->bP.l0 k l (s:Int) (i:Int)=some b)/\(b=true->l.length<=300/\(∀ t∈l.drop i,t.f1.size<=1100)/\s+Vu (l.drop i)<=4000)
 | 0,i,s,h,hs=>by
  have hd:l.drop i=[]:=List.drop_eq_nil_of_le (by omega);rw [hd];by_cases h3:l.length<=300
  ·refine ⟨decide ((s:Int)<=4000),fun k hk=>?_,fun hb=>⟨h3,by simp,?_⟩⟩
   ·obtain ⟨k,rfl⟩:∃ k',k=k'+1:=⟨k - 1,by omega⟩
    rw [bP.l0,if_neg (by omega),if_pos (by omega)]
   ·have:=of_decide_eq_true hb
    simp only [Vu,List.map_nil,List.sum_nil];omega
  refine ⟨false,fun k hk=>?_,fun hb=>by cases hb⟩;obtain ⟨k,rfl⟩:∃ k',k=k'+1:=⟨k - 1,by omega⟩;rw [bP.l0,if_neg (by omega),if_neg (by omega)]
 | n+1,i,s,h,hs=>by
  have e1:l.drop i=aC l (i:Int)::l.drop (i+1):=ig (by omega);have hw:wrap64 ((i:Int)+1)=((i+1:Nat):Int):=by unfold wrap64;omega
  rw [e1];by_cases hb:((aC l (i:Int)).f1.size:Int) > 1100
  ·refine ⟨false,fun k hk=>?_,fun hb=>by cases hb⟩
   obtain ⟨k,rfl⟩:∃ k',k=k'+1:=⟨k - 1,by omega⟩;rw [bP.l0,if_pos (by omega),if_pos (by omega),if_pos hb]
  have hw2:wrap64 ((s:Int)+((aC l (i:Int)).f1.size:Int))=((s+(aC l (i:Int)).f1.size:Nat):Int):=by unfold wrap64;omega
  obtain ⟨b,h1,h2⟩:=Vv l hl n (i+1) (s+(aC l (i:Int)).f1.size) (by omega) (by omega);refine ⟨b,fun k hk=>?_,fun hbt=>?_⟩
  ·obtain ⟨k,rfl⟩:∃ k',k=k'+1:=⟨k - 1,by omega⟩
   rw [bP.l0,if_pos (by omega),if_pos (by omega),if_neg hb,hw2,hw];exact h1 k (by omega)
  ·obtain ⟨a1,a2,a3⟩:=h2 hbt
   refine ⟨a1,fun t ht=>?_,?_⟩
   ·rcases List.mem_cons.1 ht with rfl | ht
    ·omega
    ·exact a2 t ht
   ·simp only [Vu,List.map_cons,List.sum_cons] at a3 |-
    omega
theorem OW:∀ l:List dh,nV l=2*Vu l+2*l.length
 | []=>rfl
 | x::l=>by
  have:=OW l;simp only [nV,Vu,List.map_cons,List.sum_cons,List.length_cons] at this |-
  omega
theorem aaF (l:List dh) (hl:l.length<=140737488355328):∃ b,(∀ k,l.length < k->bP.f k l=some b)/\(b=true->l.length<=300/\(∀ t∈l,t.f1.size<=2100)/\nV l<=20000):=by
 obtain ⟨b,h1,h2⟩:=Vv l hl l.length 0 0 (by omega) (by omega);refine ⟨b,h1,fun hb=>?_⟩;obtain ⟨a1,a2,a3⟩:=h2 hb;rw [List.drop_zero] at a2 a3;have:=OW l;exact ⟨a1,fun t ht=>by have:=a2 t ht;omega,by omega⟩
def aZ.Pure:Prop:=∀ (l0 l1:List dh),l0.length<=140737488355328->l1.length<=140737488355328->∃ k,aZ.f k l0 l1=some true
theorem zf:aZ.Pure:=fun l0 l1 h0 h1=>by
 have agi:∀ k x y,aZ.j0 (k+1) x y true=some true:=fun k x y=>by
  rw [aZ.j0,if_pos rfl];rfl
 obtain ⟨b0,f0,g0⟩:=aaF l0 h0;obtain ⟨b1,f1,g1⟩:=aaF l1 h1;refine ⟨l0.length+l1.length+600000+1,?_⟩;unfold aZ.f;rw [f0 _ (by omega),Option.bind_some];cases b0 with
 | false=>rw [if_neg Bool.false_ne_true];exact agi _ _ _
 | true =>
  rw [if_pos rfl,f1 _ (by omega),Option.bind_some];cases b1 with
  | false=>exact agi _ _ _
  | true =>
   obtain ⟨c1,c2,c3⟩:=g0 rfl;obtain ⟨d1,d2,d3⟩:=g1 rfl;obtain ⟨r1,r2,e1,e2⟩:=Ku l0 c1 c3 c2;show aZ.j0 (l0.length+l1.length+600000+1) l0 l1 false=some true
   rw [aZ.j0,if_neg Bool.false_ne_true,e1,Option.bind_some,e2 _ (by omega),Option.bind_some];have hss:iJ.f l0 l1=some (sG jK l0 l1):=if_pos (by omega);simp only [dS.f,Option.bind_some];rw [hss,Vt l0 l1 (by omega) _ (by omega),Option.bind_some,Option.bind_some];simp
theorem aZ.walk (P:aZ.Pure) (A0:Option Addr) (c0:Nat) (l0:List dh) (A1:Option Addr) (c1:Nat) (l1:List dh) (w:World) (hT:dR w) (hr0:Kd.C jP w A0 l0.length l0) (hc0:l0.length<=c0) (hr1:Kd.C jP w A1 l1.length l1) (hc1:l1.length<=c1) (h0:l0.length<=140737488355328) (h1:l1.length<=140737488355328) :
  Calls Tryz.prog 6 #[.slice A0 l0.length c0,.slice A1 l1.length c1] w fun e w'=>e=.returned (.bool true)/\Below w.heap.size w w':=by
 obtain ⟨k,h⟩:=P l0 l1 h0 h1;exact aZ.calls k A0 c0 l0 A1 c1 l1 true rfl w hT hr0 hc0 hr1 hc1 h
end Go.Proofs.YtkkpjonfaflkmaaGreatDoor.T
namespace Go.Proofs.YtkkpjonfaflkmaaGreatDoor.T
open Go.ChangeShapes Go.WideShapes Go.Deep Go.RowKit Go.Proofs.aj.aI Go.Proofs.aj.aY Go.Proofs.aj.bq
section
variable {H:Type} {enc:TypeId × Value->H} {w:World} {base:Nat} {spare:Nat->Bool} {held:Bool}
theorem MZ {P:Program} {t:TypeId} {fs:Array Field} {fuel:Nat} {cs:List Value} {x:DataW H × List MemPlace} (hu:P.underlying t=some (.struct fs)) (hone:oneCellFields P fs=true) (hC:P.cellsOf t=fs.size) (h:DataW.trod enc P w base spare held fuel t cs=some x) :
  cs.length=fs.size/\∃ n,∀ (i:Nat) (f:Field),fs[i]?=some f->∃ c y,cs[i]?=some c/\DataW.trod enc P w base spare held n f.type [c]=some y:=by
 obtain ⟨xs,n,_,hx,hC0,hlen,hg⟩:=DataW.trod_struct hu h;have hl:cs.length=fs.size:=hC0.trans hC;refine ⟨hl,n,fun i f hf=>?_⟩;have hi:i < fs.size:=(Array.getElem?_eq_some_iff.1 hf).1;obtain ⟨ho,hk⟩:=hone_of hone i f hf;have h1:=hg i f hf;rw [ho,hk,List.drop_eq_getElem_cons (show i < cs.length by omega)] at h1;exact ⟨_,_,List.getElem?_eq_getElem (by omega),h1.trans (List.getElem?_eq_getElem (show i < xs.length by omega))⟩
theorem agj {cs:List Value} {c0 c1 c2 c3 c4 c5:Value} (hl:cs.length=6) (h0:cs[0]?=some c0) (h1:cs[1]?=some c1) (h2:cs[2]?=some c2) (h3:cs[3]?=some c3) (h4:cs[4]?=some c4) (h5:cs[5]?=some c5):cs=[c0,c1,c2,c3,c4,c5]:=by
 match cs,hl with
 | [a,b,c,d,e,f],_=>simp at h0 h1 h2 h3 h4 h5;subst h0 h1 h2 h3 h4 h5;rfl
set_option maxRecDepth 100000 in
theorem Vw {fuel:Nat} {cs:List Value} {x:DataW H × List MemPlace} (h:DataW.trod enc Tryz.prog w base spare held fuel 53 cs=some x):∃ p:dh,cs=[.int .i64 p.f0,.string p.f1,.bool p.f2,.int .i64 p.f3,.int .i64 p.f4,.int .i64 p.f5]:=by
 obtain ⟨hl,n,hg⟩:=MZ Tryz.underlying53 (by kernel_rfl) (by kernel_rfl) h;obtain ⟨c0,y0,k0,h0⟩:=hg 0 _ rfl;obtain ⟨c1,y1,k1,h1⟩:=hg 1 _ rfl;obtain ⟨c2,y2,k2,h2⟩:=hg 2 _ rfl;obtain ⟨c3,y3,k3,h3⟩:=hg 3 _ rfl;obtain ⟨c4,y4,k4,h4⟩:=hg 4 _ rfl;obtain ⟨c5,y5,k5,h5⟩:=hg 5 _ rfl;obtain ⟨n0,e0,_⟩:=DataW.trod_int (k:=.i64) Tryz.underlying3 h0;obtain ⟨s1,e1,_⟩:=DataW.trod_string Tryz.underlying9 h1;obtain ⟨b2,e2,_⟩:=DataW.trod_bool Tryz.underlying4 h2;obtain ⟨n3,e3,_⟩:=DataW.trod_int (k:=.i64) Tryz.underlying3 h3;obtain ⟨n4,e4,_⟩:=DataW.trod_int (k:=.i64) Tryz.underlying3 h4;obtain ⟨n5,e5,_⟩:=DataW.trod_int (k:=.i64) Tryz.underlying3 h5;cases e0;cases e1;cases e2;cases e3;cases e4;cases e5
 exact ⟨⟨n0,s1,b2,n3,n4,n5⟩,agj hl k0 k1 k2 k3 k4 k5⟩
theorem OX {α:Type} {Q:Nat->α->Prop}:∀ n,(∀ i,i < n->∃ p,Q i p)->∃ l:List α,l.length=n/\∀ j p,l[j]?=some p->Q j p
 | 0,_=>⟨[],rfl,fun j p h=>by simp at h⟩
 | n+1,h=>by
  obtain ⟨l,hl,hq⟩:=OX n (fun i hi=>h i (by omega));obtain ⟨p,hp⟩:=h n (by omega);refine ⟨l++[p],by simp [hl],fun j q hj=>?_⟩;rcases Nat.lt_or_ge j n with hlt | hge
  ·rw [List.getElem?_append_left (by omega)] at hj;exact hq j q hj
  ·rw [List.getElem?_append_right (by omega)] at hj
   have hj0:j=n:=by
    have:=(List.getElem?_eq_some_iff.1 hj).1;simp at this
    omega
   subst hj0;simp [hl] at hj
   rw [<- hj];exact hp
theorem Ev {A:Option Addr} {n c:Nat} {d:DataW H} {p:List MemPlace} (h:DataW.Trod enc Tryz.prog w base spare held 24 (.slice A n c) d p) :
  ∃ l:List dh,l.length=n/\n<=c/\Kd.C jP w A n l/\(n=0\/∃ es sp,d=.slice es sp/\es.length=n):=by
 obtain ⟨fuel,hf⟩:=h;rcases open_slice Tryz.underlying24 hf with ⟨hcs,_⟩ | ⟨a,len,cap,m,k,D,Pl,hcs,_,hl,hm,hmm,hx,hi⟩
 ·simp [Value.cells] at hcs
  obtain ⟨rfl,rfl,rfl⟩:=hcs;exact ⟨[],rfl,Nat.le_refl _,⟨rfl,by omega,fun h=>absurd h (by omega)⟩,.inl rfl⟩
 ·simp [Value.cells] at hcs
  obtain ⟨rfl,rfl,rfl⟩:=hcs;have hC:Tryz.prog.cellsOf 53=6:=by kernel_rfl
  have hnm:n<=m:=by rw [hmm];split<;>omega
  obtain ⟨l,hln,hq⟩:=OX (Q:=fun i (p:dh)=>∀ j u,[Value.int .i64 p.f0,.string p.f1,.bool p.f2,.int .i64 p.f3,.int .i64 p.f4,.int .i64 p.f5][j]?=some u->w.cell? (a.add (i*6+j))=some u) n (fun i hin=>by
   obtain ⟨cs',hc,ht⟩:=hi i (by omega);rw [hC] at hc;obtain ⟨p,rfl⟩:=Vw ht;obtain ⟨_,hcl,hat⟩:=World.cells?_some hc;refine ⟨p,fun j u hu=>?_⟩;have hj:j < 6:=(List.getElem?_eq_some_iff.1 hu).1;rw [<- Go.Deep.add_add,hat j hj];exact hu)
  refine ⟨l,hln,hl,⟨hln,by simp only [maxLen] at hm;omega,fun _=>⟨a,rfl,fun j p hp=>⟨_,rfl,KO w p,hq j p hp⟩⟩⟩,.inr ⟨_,_,(Prod.mk.inj hx).1,by simp⟩⟩
end
end Go.Proofs.YtkkpjonfaflkmaaGreatDoor.T
