/- For ScanTokens: its callees return what is said of them. -/
import Derived.Test.YtkkpjonfaflkmaaGreatDoorCScanTokens27
namespace Go.Proofs.YtkkpjonfaflkmaaGreatDoor.T
open Go.RowKit Go.Proofs.ah.aT Go.Proofs.ah.bn Go.Proofs.ah.bA
set_option linter.unusedSimpArgs false
set_option linter.unusedVariables false
theorem Ei {Bs:List (List S.Tk)} {i:Nat} {b:List S.Tk} (h:Bs[i]?=some b):bE (Bs.map fun b=>b.map toS) (i:Int)=b.map toS:=by
 unfold bE;rw [Int.toNat_natCast,List.getD_eq_getElem?_getD,List.getElem?_map,h];rfl
theorem Jo (l:List gD) (hl:l.length<=1000000):∀ (m k i:Nat),i+m=l.length->m < k->bL.l0 k l l (i:Int)=some true
 | m,0,i,_,h=>absurd h (Nat.not_lt_zero _)
 | 0,k+1,i,h,_=>by rw [bL.l0,if_neg (by omega)]
 | m+1,k+1,i,h,hk=>by
  have ih:=Jo l hl m k (i+1) (by omega) (by omega);rw [bL.l0,if_pos (by omega),if_pos (by omega),if_pos (by omega),if_neg (by simp),oq (by omega),ih]
theorem AB (l:List gD) (hl:l.length<=1000000) (k:Nat) (hk:l.length < k):bL.f k l l=some true:=by
 unfold bL.f;rw [if_pos rfl];exact Jo l hl l.length k 0 (by omega) hk
theorem yF (l:List nQ) (hl:l.length<=1000000):∀ (m k i:Nat),i+m=l.length->m < k->bO.l0 k l l (i:Int)=some true
 | m,0,i,_,h=>absurd h (Nat.not_lt_zero _)
 | 0,k+1,i,h,_=>by rw [bO.l0,if_neg (by omega)]
 | m+1,k+1,i,h,hk=>by
  have ih:=yF l hl m k (i+1) (by omega) (by omega);rw [bO.l0,if_pos (by omega),if_pos (by omega),if_pos (by omega),if_neg (by simp),oq (by omega),ih]
theorem Jp (l:List nQ) (hl:l.length<=1000000) (k:Nat) (hk:l.length < k):bO.f k l l=some true:=by
 unfold bO.f;rw [if_pos rfl];exact yF l hl l.length k 0 (by omega) hk
def yG:List (List S.Tk)->List nQ
 | []=>[]
 | b::Bs=>if S.label b=true then ⟨(aU (b.map toS) 0).f1,(aU (b.map toS) 0).f3⟩::yG Bs else yG Bs
theorem Jq:∀ Bs,(yG Bs).length<=Bs.length
 | []=>Nat.le_refl _
 | b::Bs=>by
  have:=Jq Bs;unfold yG;split
  ·simp;omega
  ·simp;omega
theorem WK {b:List S.Tk} (h:S.label b=true):b.length=2:=by
 rcases b with _ | ⟨a,_ | ⟨c,_ | ⟨d,b⟩⟩⟩
 ·cases h
 ·cases h
 ·rfl
 ·cases h
theorem zB (Bs:List (List S.Tk)) (hb:∀ b∈Bs,∀ t∈b,Bytes t) (hl:Bs.length<=100000):∀ (m k i:Nat) (acc:List nQ),i+m=Bs.length->m < k->acc.length<=i ->
  bJ.l0 k acc (Bs.map fun b=>b.map toS) (Bs.length:Int) (i:Int)=some (acc++yG (Bs.drop i),0,0,0)
 | m,0,i,acc,_,h,_=>absurd h (Nat.not_lt_zero _)
 | 0,k+1,i,acc,h,_,_=>by
  rw [bJ.l0,if_neg (by omega),List.drop_of_length_le (by omega),yG,List.append_nil]
 | m+1,k+1,i,acc,h,hk,ha=>by
  have hi:i < Bs.length:=by omega
  obtain ⟨b,hbb⟩:∃ b,Bs[i]?=some b:=⟨_,List.getElem?_eq_getElem hi⟩;have hmem:b∈Bs:=List.mem_of_getElem? hbb;have hd:Bs.drop i=b::Bs.drop (i+1):=by
   rw [List.drop_eq_getElem_cons hi];congr 1
   rw [List.getElem?_eq_getElem hi] at hbb;exact Option.some.inj hbb
  rw [bJ.l0,if_pos (by omega),if_pos (by omega),if_pos (by rw [List.length_map];omega),Ei hbb,Mc b (hb b hmem),Option.bind_some,hd,yG,oq (by omega)];by_cases hL:S.label b=true
  ·have h2:=WK hL
   rw [if_pos hL,if_pos hL,if_pos (by rw [List.length_map];omega),if_pos (by omega),zB Bs hb hl m k (i+1) _ (by omega) (by omega) (by rw [List.length_append,List.length_singleton];omega)];simp
  ·rw [if_neg hL,if_neg hL,zB Bs hb hl m k (i+1) acc (by omega) (by omega) (by omega)]
theorem Jr (Bs:List (List S.Tk)) (hb:∀ b∈Bs,∀ t∈b,Bytes t) (hl:Bs.length<=100000):∀ (m k i:Nat) (acc:List nQ),i+m=Bs.length->m < k->acc.length<=i ->
  bD.l0 k (Bs.map fun b=>b.map toS) acc (i:Int)=some (acc++yG (Bs.drop i))
 | m,0,i,acc,_,h,_=>absurd h (Nat.not_lt_zero _)
 | 0,k+1,i,acc,h,_,_=>by
  rw [bD.l0,if_neg (by rw [List.length_map];omega),List.drop_of_length_le (by omega),yG,List.append_nil]
 | m+1,k+1,i,acc,h,hk,ha=>by
  have hi:i < Bs.length:=by omega
  obtain ⟨b,hbb⟩:∃ b,Bs[i]?=some b:=⟨_,List.getElem?_eq_getElem hi⟩;have hmem:b∈Bs:=List.mem_of_getElem? hbb;have hd:Bs.drop i=b::Bs.drop (i+1):=by
   rw [List.drop_eq_getElem_cons hi];congr 1
   rw [List.getElem?_eq_getElem hi] at hbb;exact Option.some.inj hbb
  have ih:=fun acc h=>Jr Bs hb hl m k (i+1) acc (by omega) (by omega) h
  rw [bD.l0,if_pos (by rw [List.length_map];omega),if_pos (by omega),Ei hbb,hd,yG,oq (by omega)];have hbs:=hb b hmem;rcases b with _ | ⟨a,_ | ⟨c,_ | ⟨d,b⟩⟩⟩
  ·rw [if_neg (by simp),if_neg (show ¬ S.label []=true from fun e=>by cases e),ih acc (by omega)]
  ·rw [if_neg (by simp),if_neg (show ¬ S.label [a]=true from fun e=>by cases e),ih acc (by omega)]
  ·have r0:aU (([a,c]:List S.Tk).map toS) 0=toS a:=rfl
   have r1:aU (([a,c]:List S.Tk).map toS) 1=toS c:=rfl;have hx:=str_eq (toS c).f1 [58];have hbc:bytesOf (toS c).f1=c.text:=fq _ (hbs c (by simp));rw [hbc] at hx;replace hx:((toS c).f1.toList==([58]:List UInt8))=decide (c.text=[58]):=hx;have hlab:S.label [a,c]=(decide (a.kind=1)&&decide (c.kind=3)&&decide (c.text=[58])):=rfl;rw [if_pos (by rfl),if_pos (by simp),r0,r1];by_cases h1:a.kind=1
   ·rw [if_pos (by show (a.kind:Int)=1;omega),if_pos (by simp)]
    by_cases h3:c.kind=3
    ·rw [if_pos (by show (c.kind:Int)=3;omega)]
     by_cases h5:c.text=[58]
     ·rw [if_pos (beq_iff_eq.1 (hx.trans (decide_eq_true h5))),if_pos (by omega),ih _ (by rw [List.length_append,List.length_singleton];omega),if_pos (by rw [hlab,decide_eq_true h1,decide_eq_true h3,decide_eq_true h5];rfl)]
      simp
     ·rw [if_neg (fun e=>h5 (of_decide_eq_true (hx.symm.trans (beq_iff_eq.2 e)))),ih acc (by omega),if_neg (by rw [hlab,decide_eq_false h5,Bool.and_false];exact Bool.false_ne_true)]
    ·rw [if_neg (by show ¬ (c.kind:Int)=3;omega),ih acc (by omega),if_neg (by rw [hlab,decide_eq_false h3,Bool.and_false,Bool.false_and];exact Bool.false_ne_true)]
   ·rw [if_neg (by show ¬ (a.kind:Int)=1;omega),ih acc (by omega),if_neg (by rw [hlab,decide_eq_false h1,Bool.false_and,Bool.false_and];exact Bool.false_ne_true)]
  ·rw [if_neg (by rw [List.length_map];simp only [List.length_cons];omega),if_neg (show ¬ S.label (a::c::d::b)=true from fun e=>by cases e),ih acc (by omega)]
theorem vX (P b:List S.Tk) (e:S.Tk) (Z:List S.Tk) (hk:∀ t∈b,t.kind≠4) (he:e.kind=4) (hl:(P++(b++e::Z)).length<=1000000) (acc:List (List gD)) (ha:acc.length<=1000000) (k:Nat) :
  ∀ (b2 b1:List S.Tk),b=b1++b2->bP.l0 (k+b2.length+1) ((P++(b++e::Z)).map toS) acc (P.length:Int) ((P.length+b1.length:Nat):Int)=bP.l0 k ((P++(b++e::Z)).map toS) (acc++[b.map toS]) ((P.length+b.length+1:Nat):Int) ((P.length+b.length+1:Nat):Int)
 | [],b1,hbb=>by
  rw [List.append_nil] at hbb;subst hbb;have hln:(P++(b++e::Z)).length=P.length+b.length+1+Z.length:=by simp;omega
  have hr:=rd_some (l:=P++(b++e::Z)) (i:=P.length+b.length) (t:=e) (by rw [List.getElem?_append_right (by omega),List.getElem?_append_right (by omega),show P.length+b.length - P.length - b.length=0 by omega];rfl);have htk:(((P++(b++e::Z)).map toS).take (((P.length+b.length:Nat):Int)).toNat).drop ((P.length:Int)).toNat=b.map toS:=by
   rw [Int.toNat_natCast,Int.toNat_natCast,List.map_append,List.map_append,<- List.append_assoc,List.take_left' (by simp),List.drop_left' (by simp)]
  rw [List.length_nil,Nat.add_zero,bP.l0,if_pos (by rw [List.length_map];omega),if_pos (by omega),hr,if_pos (by show (e.kind:Int)=4;omega),if_pos (by omega),if_pos (by omega),if_pos (by rw [List.length_map];omega),if_pos (by omega),htk,oq (by omega)]
 | x::b3,b1,hbb=>by
  have ih:=vX P b e Z hk he hl acc ha k b3 (b1++[x]) (by rw [hbb];simp);have hln:(P++(b++e::Z)).length=P.length+b.length+1+Z.length:=by simp;omega
  have hbl:b.length=b1.length+b3.length+1:=by rw [hbb];simp;omega
  have hr:=rd_some (l:=P++(b++e::Z)) (i:=P.length+b1.length) (t:=x) (by
   rw [List.getElem?_append_right (by omega),Nat.add_sub_cancel_left,List.getElem?_append_left (by omega),hbb,List.getElem?_append_right (Nat.le_refl _),Nat.sub_self];rfl)
  have hx:x.kind≠4:=hk x (by rw [hbb];simp);rw [show k+(x::b3).length+1=(k+b3.length+1)+1 by simp;omega,bP.l0,if_pos (by rw [List.length_map];omega),if_pos (by omega),hr,if_neg (by show ¬ (x.kind:Int)=4;omega),oq (by omega),show P.length+b1.length+1=P.length+(b1++[x]).length by simp;omega];exact ih
theorem CW:∀ (cls:List (List S.Tk)),(∀ cl∈cls,S.VE cl)->∀ (P:List S.Tk) (acc:List (List gD)) (k:Nat),(P++cls.flatten).length<=1000000->acc.length+cls.length<=1000000 ->
  bP.l0 (k+cls.flatten.length+1) ((P++cls.flatten).map toS) acc (P.length:Int) (P.length:Int)=some (acc++cls.map fun c=>c.dropLast.map toS)
 | [],_,P,acc,k,hl,_=>by
  rw [bP.l0,if_neg (by rw [List.length_map];simp)];simp
 | cl::cls,h,P,acc,k,hl,ha=>by
  obtain ⟨b,e,rfl,h1,h2,h3,h4,h5⟩:=h cl (by simp);have hk:∀ t∈b,t.kind≠4:=fun t ht=>by
   have:=S.ug (h2.good t ht).2.2 (h2.good t ht).1;have h4:t.kind<=3:=this.2.2.2.2;omega
  have e1:P++((b++[e])::cls).flatten=P++(b++e::cls.flatten):=by simp
  have e2:P++(b++e::cls.flatten)=(P++(b++[e]))++cls.flatten:=by simp
  have hcl:=vX P b e cls.flatten hk h3 (by rw [<- e1];exact hl) acc (by omega) (k+cls.flatten.length+1) b [] rfl;simp only [List.length_nil,Nat.add_zero] at hcl;have hfl:((b++[e])::cls).flatten.length=b.length+1+cls.flatten.length:=by simp;omega
  have hpl:(P++(b++[e])).length=P.length+b.length+1:=by simp;omega
  rw [e1,show k+((b++[e])::cls).flatten.length+1=(k+cls.flatten.length+1)+b.length+1 by omega,hcl,e2,<- hpl,CW cls (fun c hc=>h c (by simp [hc])) (P++(b++[e])) (acc++[b.map toS]) k (by rw [<- e2,<- e1];exact hl) (by rw [List.length_append,List.length_singleton];simp only [List.length_cons] at ha;omega)];simp
theorem Dr {xs:List Int} (hb:∀ x∈xs,0<=x/\x < 256) (he:(S.scan xs).err=none):(S.scan xs).cl.length<=(S.tokens xs).length:=by
 have h:=S.IX hb he;unfold S.tokens;generalize (S.scan xs).cl=cls at h;induction cls with
 | nil=>simp
 | cons c cls ih =>
  obtain ⟨b,e,rfl,h1,_⟩:=h c (by simp);have:=ih (fun c hc=>h c (by simp [hc]));simp only [List.flatten_cons,List.length_append,List.length_cons,List.length_nil] at this |-
  omega
theorem Js (l:List (List gD)) (hl:l.length<=100000) (hs:∀ c∈l,c.length<=100000):∀ (m k i:Nat),i+m=l.length->m+100001 < k->av.l0 k l l (i:Int)=some true
 | m,0,i,_,h=>absurd h (Nat.not_lt_zero _)
 | 0,k+1,i,h,hk=>by
  rw [av.l0,if_neg (by omega)];rfl
 | m+1,k+1,i,h,hk=>by
  have ih:=Js l hl hs m k (i+1) (by omega) (by omega);have hi:i < l.length:=by omega
  have hr:bE l (i:Int)=l[i]:=by
   unfold bE;rw [Int.toNat_natCast,List.getD_eq_getElem?_getD,List.getElem?_eq_getElem hi];rfl
  have hc:=hs _ (List.getElem_mem hi);rw [av.l0,if_pos (by omega),if_pos (by omega),if_pos (by omega),hr,AB _ (by omega) k (by omega),Option.bind_some,if_pos rfl,oq (by omega),ih]
theorem zC:av.Pure:=by
 intro a0 ha
 refine ⟨400000,?_⟩;have hshort:gZ.f a0=some (decide ((a0.size:Int)<=20100)):=rfl;unfold av.f;rw [hshort,Option.bind_some];by_cases hsh:(a0.size:Int)<=20100
 rotate_left
 ·rw [if_neg (by rw [decide_eq_false hsh];exact Bool.false_ne_true)]
  rfl
 rw [if_pos (decide_eq_true hsh)];by_cases hs:a0.size<=20000
 rotate_left
 ·have h1:dz.f a0=some ([],0,0,3):=if_neg hs
  have h2:eO.f a0=some ([],0,0,3):=if_neg hs;have h3:dR.f a0=some ([],0,0,3):=if_neg hs;have h4:bJ.f 400000 a0=some ([],0,0,3):=by unfold bJ.f;rw [h3];rfl
  have h5:=AB [] (Nat.zero_le _) 400000 (by decide);rw [h1,h2,h3];simp only [Option.bind_some];rw [h4];simp only [Option.bind_some];rw [h5];simp only [Option.bind_some,if_true];show av.j0 (399999+1) _ _ ((3:Int) != 3) _ _ _ 3=some true
  rw [av.j0,if_neg (by decide),if_neg (by decide)];rfl
 have hT:=Sn a0 hs;have hT2:eO.f a0=dz.f a0:=rfl;have hb:=gK a0;have htl:=S.rA hb;rw [bytesOf_length] at htl;rw [hT2,hT];simp only [Option.bind_some];cases he:(S.scan (bytesOf a0)).err with
 | some p =>
  have hcl:dR.f a0=some ([],(p.1:Int),(p.2:Int),7):=by unfold dR.f;rw [if_pos hs,he]
  have hlb:bJ.f 400000 a0=some ([],(p.1:Int),(p.2:Int),7):=by unfold bJ.f;rw [hcl];rfl
  have heq:=AB ((S.tokens (bytesOf a0)).map toS) (by rw [List.length_map];omega) 400000 (by rw [List.length_map];omega);have e1:tN (some p)=(p.1:Int):=rfl;have e2:wB (some p)=(p.2:Int):=rfl;rw [if_neg (show ¬ some p=none from fun e=>by cases e),hcl,e1,e2];simp only [Option.bind_some];rw [hlb];simp only [Option.bind_some];rw [heq];simp only [Option.bind_some,if_true];show av.j0 (399999+1) _ _ ((7:Int) != 7) _ _ _ 7=some true
  rw [av.j0,if_neg (by decide),if_neg (by decide)];rfl
 | none =>
  have hok:=S.IX hb he;obtain ⟨cls,hcls⟩:∃ cls,(S.scan (bytesOf a0)).cl=cls:=⟨_,rfl⟩;have hcn:=Dr hb he;have htk:S.tokens (bytesOf a0)=cls.flatten:=by unfold S.tokens;rw [hcls]
  rw [htk] at htl hcn |-
  rw [hcls] at hok hcn;have hcl:dR.f a0=some (cls.map (fun c=>c.dropLast.map toS),0,0,0):=by unfold dR.f;rw [if_pos hs,he,hcls]
  obtain ⟨Bs,hBs⟩:∃ Bs,cls.map (fun c=>c.dropLast)=Bs:=⟨_,rfl⟩;have hBm:cls.map (fun c=>c.dropLast.map toS)=Bs.map (fun b=>b.map toS):=by rw [<- hBs,List.map_map];rfl
  have hBl:Bs.length=cls.length:=by rw [<- hBs,List.length_map]
  have hBb:∀ b∈Bs,∀ t∈b,Bytes t:=fun b hbm t ht=>by
   rw [<- hBs] at hbm;obtain ⟨c,hc,rfl⟩:=List.mem_map.1 hbm;obtain ⟨b,e,rfl,h1,h2,_⟩:=hok c hc;rw [List.dropLast_concat] at ht;exact S.Lf (h2.good t ht)
  have hBn:∀ b∈Bs,b.length<=100000:=fun b hbm=>by
   rw [<- hBs] at hbm;obtain ⟨c,hc,rfl⟩:=List.mem_map.1 hbm;have:c.length<=cls.flatten.length:=by
    obtain ⟨s,t,e⟩:=List.append_of_mem hc;rw [e];simp;omega
   rw [List.length_dropLast];omega
  rw [hBm] at hcl;have hml:=Jq Bs;have hlb:bJ.f 400000 a0=some (yG Bs,0,0,0):=by
   unfold bJ.f;rw [hcl];simp only [Option.bind_some,if_true];rw [List.length_map];exact zB Bs hBb (by omega) Bs.length 400000 0 [] (by omega) (by omega) (Nat.zero_le _)
  have heq:=AB (cls.flatten.map toS) (by rw [List.length_map];omega) 400000 (by rw [List.length_map];omega);have hpt:bP.f 399999 (cls.flatten.map toS)=some (Bs.map fun b=>b.map toS):=by
   have:=CW cls hok [] [] (399998 - cls.flatten.length) (by rw [List.nil_append];omega) (by simp only [List.length_nil];omega);rw [show 399998 - cls.flatten.length+cls.flatten.length+1=399999 by omega] at this;rw [<- hBm];exact this
  have hmk:bD.f 399999 (Bs.map fun b=>b.map toS)=some (yG Bs):=Jr Bs hBb (by omega) Bs.length 399999 0 [] (by omega) (by omega) (Nat.zero_le _);have hsm:=Jp (yG Bs) (by omega) 399999 (by omega);rw [hcl];simp only [Option.bind_some];rw [hlb];simp only [Option.bind_some,if_true];rw [heq];simp only [Option.bind_some,if_true];show av.j0 (399999+1) (Bs.map fun b=>b.map toS) (yG Bs) ((0:Int) != 0) (cls.flatten.map toS) 0 0 0=some true
  rw [av.j0,if_neg (by decide),if_pos rfl,hpt];simp only [Option.bind_some,if_true];rw [hmk];simp only [Option.bind_some];rw [hsm];simp only [Option.bind_some];show av.j1 (399998+1) _ _ (!true)=some true
  rw [av.j1,if_neg (by decide)];exact Js _ (by rw [List.length_map];omega) (fun c hc=>by
   obtain ⟨b,hbm,rfl⟩:=List.mem_map.1 hc;rw [List.length_map];exact hBn b hbm) (Bs.map fun b=>b.map toS).length 399998 0 (by omega) (by rw [List.length_map];omega)
end Go.Proofs.YtkkpjonfaflkmaaGreatDoor.T
