/- A part of the proof of ScanWrites. -/
import Derived.Test.YtkkpjonfaflkmaaGreatDoorCScanWrites10
set_option linter.all false
namespace Go.Proofs.YtkkpjonfaflkmaaGreatDoor.T
open Go.RowKit Go.Maps Go.Proofs.aj.aI Go.Proofs.aj.aY Go.Proofs.aj.bq
attribute [local go_sem] Oper.semAt_some
def nA (H:Nat) (src:ByteArray) (i line:Int) (v:Value) (first:Int) (gap:Bool) (w:World):Prop:=w.heap[H]?=some (.cells #[.string src,.int .i64 i,.int .i64 line,v,.int .i64 first,.bool gap] 80 (0,0))
section
variable {H:Nat} {src:ByteArray} {i line first:Int} {v:Value} {gap:Bool} {w w':World}
theorem nA.c0 (h:nA H src i line v first gap w):w.cell? ⟨H,0,none⟩=some (.string src):=(au h 0).trans rfl
theorem nA.c1 (h:nA H src i line v first gap w):w.cell? ⟨H,1,none⟩=some (.int .i64 i):=(au h 1).trans rfl
theorem nA.c2 (h:nA H src i line v first gap w):w.cell? ⟨H,2,none⟩=some (.int .i64 line):=(au h 2).trans rfl
theorem nA.c3 (h:nA H src i line v first gap w):w.cell? ⟨H,3,none⟩=some v:=(au h 3).trans rfl
theorem nA.c4 (h:nA H src i line v first gap w):w.cell? ⟨H,4,none⟩=some (.int .i64 first):=(au h 4).trans rfl
theorem nA.c5 (h:nA H src i line v first gap w):w.cell? ⟨H,5,none⟩=some (.bool gap):=(au h 5).trans rfl
theorem nA.fr (h:nA H src i line v first gap w) (j:Nat):w.frozen? ⟨H,j,none⟩=false:=aA h j
theorem nA.lt (h:nA H src i line v first gap w):H < w.heap.size:=(Array.getElem?_eq_some_iff.1 h).1
theorem nA.but {A:Nat->Prop} (h:nA H src i line v first gap w) (hb:But A w w') (hA:¬ A H):nA H src i line v first gap w':=(hb.block _ h.lt hA).trans h
theorem nA.drewN (h:nA H src i line v first gap w) (n:Nat):nA H src i line v first gap (w.drewN n):=h
theorem nA.set1 (h:nA H src i line v first gap w) (x:Int):nA H src x line v first gap (w.setCell ⟨H,1,none⟩ (.int .i64 x)):=aW (cs:=#[.string src,.int .i64 i,.int .i64 line,v,.int .i64 first,.bool gap]) h 1 _ rfl
theorem nA.set2 (h:nA H src i line v first gap w) (x:Int):nA H src i x v first gap (w.setCell ⟨H,2,none⟩ (.int .i64 x)):=aW (cs:=#[.string src,.int .i64 i,.int .i64 line,v,.int .i64 first,.bool gap]) h 2 _ rfl
theorem nA.abD (h:nA H src i line v first gap w) (x:Value):nA H src i line x first gap (w.setCell ⟨H,3,none⟩ x):=aW (cs:=#[.string src,.int .i64 i,.int .i64 line,v,.int .i64 first,.bool gap]) h 3 _ rfl
theorem nA.aej (h:nA H src i line v first gap w) (x:Int):nA H src i line v x gap (w.setCell ⟨H,4,none⟩ (.int .i64 x)):=aW (cs:=#[.string src,.int .i64 i,.int .i64 line,v,.int .i64 first,.bool gap]) h 4 _ rfl
theorem nA.Qf (h:nA H src i line v first gap w) (x:Bool):nA H src i line v first x (w.setCell ⟨H,5,none⟩ (.bool x)):=aW (cs:=#[.string src,.int .i64 i,.int .i64 line,v,.int .i64 first,.bool gap]) h 5 _ rfl
end
theorem Jh {W:World} {base n:Nat} {v:Value} {xs:List Value} (h:W.ownsRow base 53 6 v n xs):(v=.slice none 0 0/\n=0)\/∃ g cap,v=.slice (some ⟨g,0,none⟩) n cap/\base<=g/\g < W.heap.size:=by
 rcases h.2 with ⟨rfl,e2⟩ | ⟨g,cap,cs,rfl,e⟩
 ·exact .inl ⟨rfl,e2⟩
 ·exact .inr ⟨g,cap,rfl,(h.lt g rfl).1,(h.lt g rfl).2⟩
theorem jC {W:World} {base n:Nat} {v:Value} {xs:List Value} (h:W.ownsRow base 53 6 v n xs):∃ A c,v=.slice A n c/\(A=none->n=0):=by
 rcases Jh h with ⟨rfl,rfl⟩ | ⟨g,cap,rfl,_⟩
 ·exact ⟨_,_,rfl,fun _=>rfl⟩
 ·exact ⟨_,_,rfl,fun e=>by cases e⟩
def Kw (L:List S.Tk) (first a b line:Nat):List S.Tk:=if first < L.length then L++[S.oK a b line] else L
set_option maxRecDepth 100000 in
set_option maxHeartbeats 4000000 in
theorem closed.calls (H base:Nat) (src:ByteArray) (i line:Int) (v:Value) (first:Nat) (gap:Bool) (L:List S.Tk) (a b ln:Nat) (w:World) (hR:nA H src i line v first gap w) (hO:w.ownsRow base 53 6 v L.length (dG L)) (hHb:H < base) (hl:L.length<=300000) (hf:first<=L.length) :
  Calls Tryz.prog 82 #[.pointer (some ⟨H,0,none⟩),.int .i64 a,.int .i64 b,.int .i64 ln] w fun e w'=>e=.returned (.tuple #[])/\∃ v',nA H src i line v' (Kw L first a b ln).length false w'/\w'.ownsRow base 53 6 v' (Kw L first a b ln).length (dG (Kw L first a b ln))/\But (fun k=>k=H\/v.ownBlock=some k) w w'/\(v'.ownBlock=v.ownBlock\/∃ k,v'.ownBlock=some k/\w.heap.size<=k):=by
 obtain ⟨A,c,rfl,hA⟩:=jC hO;have HR:=ah.mk hR;have HO:=ah.mk hO;have c3:=hR.c3;have c4:=hR.c4;obtain ⟨n,hn⟩:∃ n,L.length=n:=⟨_,rfl⟩;have HN:=ah.mk hn;rw [hn] at HO hl hf c3 |-
 rw [hn] at HR;clear hR hO hn hA;by_cases hlt:first < n
 rotate_left
 ·have g1:decide ((first:Int) < (n:Int))=false:=decide_eq_false (by omega)
  have g2:decide (first < n)=false:=decide_eq_false hlt;have hL2:Kw L first a b ln=L:=if_neg (by rw [HN.out];exact hlt)
  have HL2:=ah.mk hL2;have hHO:=fun k e=>(HO.out.lt k e).1
  have HHO:=ah.mk hHO;clear hL2 hHO;go_enter Tryz.func82,Tryz.ntmps82
  go_upto_region 0 with (fail)
  go_quiet (fail)
  have qf:=HR.out.fr 4;go_upto_region 3 with (fail)
  have Qg:=(HR.out.drewN nq).aej (n:Int);have HB3:=ah.mk (((But.refl (fun k=>k=H\/(Value.slice A n c).ownBlock=some k) w).drewN nq).set ⟨H,4,none⟩ (.int .i64 (n:Int)) (.inl rfl));have HO3:=ah.mk (bV HO.out (((But.refl (fun k=>k=H) w).drewN nq).set ⟨H,4,none⟩ (.int .i64 (n:Int)) rfl) (fun k e h=>by have:=HHO.out k h;omega));generalize (w.drewN nq).setCell ⟨H,4,none⟩ (.int .i64 (n:Int))=W3 at *;have q5:=Qg.c5;have qf5:=Qg.fr 5;have HR3:=ah.mk Qg;clear Qg;go_wp2;go_end0
  have hR4:=HR3.out.Qf false;refine ⟨rfl,.slice A n c,?_,?_,HB3.out.set _ _ (.inl rfl),.inl rfl⟩
  ·rw [HL2.out,HN.out];exact hR4
  ·rw [HL2.out,HN.out]
   exact bV HO3.out ((But.refl (fun k=>k=H) W3).set ⟨H,5,none⟩ (.bool false) rfl) (fun k e h=>by have:=HHO.out k h;omega)
 have g1:decide ((first:Int) < (n:Int))=true:=decide_eq_true (by omega);have g2:decide (first < n)=true:=decide_eq_true hlt;have hL2:Kw L first a b ln=L++[S.oK a b ln]:=if_pos (by rw [HN.out];exact hlt)
 have HL2:=ah.mk hL2;obtain ⟨i0,hi0,hz0',hz1,hz2⟩:=info_parts (show (Tryz.prog.info? 53).map (fun i=>(i.zero,i.size,i.bytes))=some (some (.agg DK),6,56) by kernel_rfl);go_enter Tryz.func82,Tryz.ntmps82
 go_upto_region 0 with (fail)
 go_quiet (fail)
 have HB1:ah (But (fun _=>False) w ((w.drewN nq).alloc (.cells #[.int .i64 4,.string ⟨#[]⟩,.bool false,.int .i64 ln,.int .i64 a,.int .i64 b] 53))):=⟨((But.refl _ w).drewN nq).alloc _⟩;have LP:=ah.mk (bV HO.out HB1.out (fun k e=>e.elim));have FL:=HR.out.but HB1.out (fun e=>e);have Xx:=ah.mk (heap_alloc_new (w.drewN nq) (.cells #[.int .i64 4,.string ⟨#[]⟩,.bool false,.int .i64 ln,.int .i64 a,.int .i64 b] 53));have Ik:=ah.mk (World.size_alloc (w.drewN nq) (.cells #[.int .i64 4,.string ⟨#[]⟩,.bool false,.int .i64 ln,.int .i64 a,.int .i64 b] 53));have hbase:base<=w.heap.size:=by
  rcases Jh HO.out with ⟨_,e⟩ | ⟨g,cap,_,h1,h2⟩
  ·omega
  ·omega
 have HR1:=ah.mk FL;have HF1:ah (∀ w1,((w.drewN nq).alloc (.cells #[.int .i64 4,.string ⟨#[]⟩,.bool false,.int .i64 ln,.int .i64 a,.int .i64 b] 53)).grownBy w1 (Value.slice A n c).ownBlock->nA H src i line (.slice A n c) first gap w1):=⟨fun w1 hg=>FL.but ((But.refl (fun k=>(Value.slice A n c).ownBlock=some k) _).grown hg (fun k e=>e)) (fun e=>by have:=(HO.out.lt H e).1;omega)⟩;clear FL;go_upto_region 2 with (at_builtin;refine wpList_append_own_at _ rfl (.tmp 22) (.tmp 27) 24 rfl base 53 i0 (.agg DK) 6 56 Tryz.underlying24 hi0 hz0' hz1 hz2 rfl (by decide) _ n (dG L) rfl LP.out ⟨w.heap.size,0,none⟩ 1 1 (Db (S.oK a b ln)) rfl rfl (fun j u hu=>by rw [add_plain];refine (au Xx.out j).trans ?_;simpa [Db,S.oK,strOfNums] using hu) (uE _) (by unfold maxLen;omega) (by omega) (by rw [Ik.out];show base<=w.heap.size+1;omega) ?_;intro v' w1 hown' hgrow _ hat;obtain ⟨A2,c2,rfl,-⟩:=jC hown';have FI:=ah.mk hown';have NP:=ah.mk hgrow;have HAT:=ah.mk hat;have hRw:=HF1.out w1 hgrow;have q3:=hRw.c3;have qf:=hRw.fr 3;have HRW:=ah.mk hRw;clear hRw hown' hgrow hat)
 have hR2:=HRW.out.abD (.slice A2 (n+1) c2);have hB2:But (fun k=>k=H\/(Value.slice A n c).ownBlock=some k) w (w1.setCell ⟨H,3,none⟩ (.slice A2 (n+1) c2)):=(((HB1.out.mono (fun k _ e=>e.elim)).grown NP.out (fun k e=>.inr e)).set _ _ (.inl rfl));have hO2:=bV FI.out ((But.refl (fun k=>k=H) w1).set ⟨H,3,none⟩ (.slice A2 (n+1) c2) rfl) (fun k e h=>by have:=(FI.out.lt k h).1;omega);have HB2:=ah.mk hB2;have HO2:=ah.mk hO2;have aiU:ah ((Value.slice A2 (n+1) c2).ownBlock=(Value.slice A n c).ownBlock\/∃ k,(Value.slice A2 (n+1) c2).ownBlock=some k/\w.heap.size<=k):=⟨by
  rcases HAT.out with e | e
  ·exact .inl e
  ·exact .inr ⟨_,e,by rw [Ik.out];show w.heap.size<=w.heap.size+1;omega⟩⟩
 clear hB2 hO2 HB1 LP Xx Ik HR1 HF1 NP HAT HRW FI;generalize w1.setCell ⟨H,3,none⟩ (.slice A2 (n+1) c2)=W2 at *;have q3:=hR2.c3;have q4:=hR2.c4;have qf:=hR2.fr 4;have HR2:=ah.mk hR2;clear hR2;go_upto_region 3 with (fail)
 have Qg:=HR2.out.aej ((n:Int)+1);have HB3:=ah.mk (HB2.out.set ⟨H,4,none⟩ (.int .i64 ((n:Int)+1)) (.inl rfl));have HO3:=ah.mk (bV HO2.out ((But.refl (fun k=>k=H) W2).set ⟨H,4,none⟩ (.int .i64 ((n:Int)+1)) rfl) (fun k e h=>by have:=(HO2.out.lt k h).1;omega));clear HB2 HO2 HR2;generalize W2.setCell ⟨H,4,none⟩ (.int .i64 ((n:Int)+1))=W3 at *;have q5:=Qg.c5;have qf5:=Qg.fr 5;have HR3:=ah.mk Qg;clear Qg;go_wp2;go_end0
 have hR4:=HR3.out.Qf false;refine ⟨rfl,.slice A2 (n+1) c2,?_,?_,HB3.out.set _ _ (.inl rfl),aiU.out⟩
 ·rw [HL2.out,List.length_append,HN.out];exact hR4
 ·rw [HL2.out,List.length_append,HN.out]
  have:=bV HO3.out ((But.refl (fun k=>k=H) W3).set ⟨H,5,none⟩ (.bool false) rfl) (fun k e h=>by have:=(HO3.out.lt k h).1;omega);simpa [dG] using this
theorem Tm {W:World} {base n c:Nat} {A:Option Addr} {L:List S.Tk} (h:W.ownsRow base 53 6 (.slice A n c) n (dG L)) {k:Nat} {t:S.Tk} (hk:L[k]?=some t) :
  ∃ ad,A=some ad/\W.cell? (ad.add (k*6))=some (.int .i64 t.kind)/\W.cell? ⟨(ad.add (k*6)).block,(ad.add (k*6)).off+1,none⟩=some (.string (strOfNums t.text)):=by
 have hlen:(dG L).length=n*6:=h.1;have hn:L.length=n:=by rw [nL] at hlen;omega
 have hkn:k < n:=by rw [<- hn];exact (List.getElem?_eq_some_iff.1 hk).1
 obtain ⟨e1,e2,hC⟩:=uU (cur:=L) (by rw [hn];exact h);rw [List.length_map,hn] at hC;obtain ⟨ad,e,x0,x1,-⟩:=bQ hC (k:Int) (by omega) (by omega);have hr:aC (L.map toS) (k:Int)=toS t:=by
  unfold aC;rw [Int.toNat_natCast,List.getD_eq_getElem?_getD,List.getElem?_map,hk];rfl
 rw [Int.toNat_natCast,hr] at x0 x1;exact ⟨ad,e,x0,x1⟩
theorem Tn {W:World} {base n c:Nat} {A:Option Addr} {L:List S.Tk} {t:S.Tk} (h:W.ownsRow base 53 6 (.slice A (n+1) c) (n+1) (dG (L++[t]))):W.ownsRow base 53 6 (.slice A n c) n (dG L):=by
 obtain ⟨h1,h2⟩:=h;have hx:dG (L++[t])=dG L++Db t:=by simp [dG]
 have ht:(Db t).length=6:=rfl;rw [hx,List.length_append,ht] at h1;rcases h2 with ⟨_,e⟩ | ⟨g,cap,cur,e1,e2,e3,e4,e5,e6,e7⟩
 ·omega
 ·cases e1
  refine ⟨by omega,.inr ⟨g,c,cur,rfl,e2,e3,by omega,e5,e6,?_⟩⟩;have:cur.toList.take (n*6)=(cur.toList.take ((n+1)*6)).take (n*6):=by rw [List.take_take,Nat.min_eq_left (by omega)]
  rw [this,e7,hx,List.take_left' (by omega)]
def Tp (L:List S.Tk) (first:Nat):Bool:=decide (first < L.length)&&S.comma L
def ctL (L:List S.Tk) (first:Nat):List S.Tk:=if Tp L first=true then L.dropLast else L
set_option maxRecDepth 100000 in
set_option maxHeartbeats 4000000 in
theorem continued.calls (H base:Nat) (src:ByteArray) (i line:Int) (v:Value) (first:Nat) (gap:Bool) (L:List S.Tk) (w:World) (hR:nA H src i line v first gap w) (hO:w.ownsRow base 53 6 v L.length (dG L)) (hHb:H < base) (hl:L.length<=300000) (hby:∀ t∈L,Bytes t) :
  Calls Tryz.prog 81 #[.pointer (some ⟨H,0,none⟩)] w fun e w'=>e=.returned (.bool (Tp L first))/\∃ v',nA H src i line v' first gap w'/\w'.ownsRow base 53 6 v' (ctL L first).length (dG (ctL L first))/\But (·=H) w w'/\v'.ownBlock=v.ownBlock:=by
 obtain ⟨A,c,rfl,hA⟩:=jC hO;have HR:=ah.mk hR;have HO:=ah.mk hO;have c3:=hR.c3;have c4:=hR.c4;have qf:=hR.fr 3;obtain ⟨n,hn⟩:∃ n,L.length=n:=⟨_,rfl⟩;have HN:=ah.mk hn;have Xz:=ah.mk hby;rw [hn] at HO hl c3 hA |-
 rw [hn] at HR;clear hR hO hby;by_cases hlt:first < n
 rotate_left
 ·have g1:decide ((first:Int) < (n:Int))=false:=decide_eq_false (by omega)
  have g2:decide (first < n)=false:=decide_eq_false hlt;have qo:ah (Tp L first=false):=⟨by unfold Tp;rw [HN.out,g2];rfl⟩;clear hA hn;go_enter Tryz.func81,Tryz.ntmps81
  go_wp2;go_ret;refine ⟨by rw [qo.out];rfl,_,HR.out,?_,But.refl _ _,rfl⟩;unfold ctL;rw [qo.out,if_neg Bool.false_ne_true,HN.out];exact HO.out
 have g1:decide ((first:Int) < (n:Int))=true:=decide_eq_true (by omega);have g2:decide (first < n)=true:=decide_eq_true hlt;obtain ⟨L',t,hLt⟩:∃ L' t,L=L'++[t]:=by
  rcases List.eq_nil_or_concat L with e | ⟨a,x,e⟩
  ·rw [e] at hn;simp at hn;omega
  ·exact ⟨a,x,by rw [e,List.concat_eq_append]⟩
 subst hLt;have ht:Bytes t:=Xz.out t (by simp);obtain ⟨m,hm⟩:∃ m,L'.length=m:=⟨_,rfl⟩;have hmn:n=m+1:=by rw [<- hn,List.length_append,hm];rfl
 obtain ⟨ad,rfl,x0,x1⟩:=Tm HO.out (k:=m) (t:=t) (by rw [List.getElem?_append_right (by omega),hm,Nat.sub_self];rfl);have hcm:Tp (L'++[t]) first=(decide (t.kind=3)&&decide (t.text=[44])):=by
  unfold Tp S.comma;rw [hn,g2,List.getLast?_concat];rfl
 have htx:=Ah ht 44;have hw:IntKind.i64.wrap ((n:Int) - 1)=(m:Int):=by rw [uq _ (by omega) (by omega)];omega
 have hw2:(n:Int) - 1=(m:Int):=by omega
 have hm0:(0:Int)<=(m:Int):=by omega
 have hm1:(m:Int) < (n:Int):=by omega
 have hm2:(m:Int)<=(n:Int):=by omega
 have hm3:m<=n:=by omega
 have hnc:n<=c:=by
  rcases HO.out.2 with ⟨e,_⟩ | ⟨g,cap,cur,e1,e2,e3,e4,_⟩
  ·cases e
  ·cases e1;exact e4
 have hmc:m<=c:=by omega
 have alr:(m:Int)<=(c:Int):=by omega
 have HM:=ah.mk hm;have HMN:=ah.mk hmn;have HCM:=ah.mk hcm;have hk3:t.kind=3\/t.kind≠3:=Decidable.em _;clear hcm hm hmn hn hA;generalize strOfNums t.text=tx at *;generalize htk:t.kind=tk at *;rcases hk3 with hk | hk
 ·have b1:((tk:Int)==3)=true:=beq_iff_eq.2 (by omega)
  by_cases hx:t.text=[44]
  ·have b2:(tx.toList==([44]:List UInt8))=true:=htx.trans (decide_eq_true hx)
   have qo:ah (Tp (L'++[t]) first=true):=⟨by rw [HCM.out,decide_eq_true hk,decide_eq_true hx];rfl⟩;clear htx hx hk HCM;go_enter Tryz.func81,Tryz.ntmps81
   go_wp2;go_ret;refine ⟨by rw [qo.out];rfl,.slice (some ad) m c,HR.out.abD _,?_,(But.refl _ _).set _ _ rfl,rfl⟩;unfold ctL;rw [qo.out,if_pos rfl,List.dropLast_concat,HM.out];have hO2:=HO.out;rw [HMN.out] at hO2;exact bV (Tn hO2) ((But.refl (·=H) w).set ⟨H,3,none⟩ (.slice (some ad) m c) rfl) (fun k e h=>by have:=(HO.out.lt k h).1;omega)
  have b2:(tx.toList==([44]:List UInt8))=false:=htx.trans (decide_eq_false hx);have qo:ah (Tp (L'++[t]) first=false):=⟨by rw [HCM.out,decide_eq_false hx,Bool.and_false]⟩;clear htx hx hk HCM;go_enter Tryz.func81,Tryz.ntmps81
  go_wp2;go_ret;refine ⟨by rw [qo.out];rfl,_,HR.out,?_,But.refl _ _,rfl⟩;unfold ctL;rw [qo.out,if_neg Bool.false_ne_true,HN.out];exact HO.out
 ·have b1:((tk:Int)==3)=false:=beq_eq_false_iff_ne.2 (by omega)
  have qo:ah (Tp (L'++[t]) first=false):=⟨by rw [HCM.out,decide_eq_false hk,Bool.false_and]⟩;clear htx hk HCM;go_enter Tryz.func81,Tryz.ntmps81
  go_wp2;go_ret;refine ⟨by rw [qo.out];rfl,_,HR.out,?_,But.refl _ _,rfl⟩;unfold ctL;rw [qo.out,if_neg Bool.false_ne_true,HN.out];exact HO.out
end Go.Proofs.YtkkpjonfaflkmaaGreatDoor.T
namespace Go.Proofs.YtkkpjonfaflkmaaGreatDoor.T
open Go
section
variable {P:Program} {ops:Array Oper} {Q:Exit->Act->World->Prop} {md:Region.Mode} {S:World->Prop} {m:Nat}
def nU (ops:Array Oper) (m j:Nat):Bool:=decide (m<=j)&&decide (j < ops.size)
def sI (P:Program) (md:Region.Mode) (ops:Array Oper) (Q:Exit->Act->World->Prop) (S:World->Prop) (m:Nat):Nat->Array Bool->Act->World->Prop
 | 0,listed,a,w=>Region.ready md ops listed=[]/\Q .normal a w
 | f+1,listed,a,w=>(Region.ready md ops listed=[]->Q .normal a w)/\∀ i∈Region.ready md ops listed,wpOp P ops Q i (fun a' w'=>(nU ops m i=false->S w')/\sI P md ops Q S m f (listed.setIfInBounds i true) a' w') a w
theorem Ji:∀ (f:Nat) (listed:Array Bool) (a:Act) (w:World),sI P md ops Q S m f listed a w->wpAny P md ops Q f listed a w
 | 0,_,_,_,h=>h
 | f+1,_,_,_,h=>⟨h.1,fun i hi=>wpOp_mono (fun a' w' h'=>Ji f _ a' w' h'.2) (h.2 i hi)⟩
theorem LQ {i:Nat} {oi:Oper} {v:Value} (hi:ops[i]?=some oi) (hsel:∀ (j:Nat) (o:Oper) cs b,ops[j]?=some o->o.op≠.select cs b)
  (hQ:∀ c a w,Q (.panic c) (a.put oi.dst v) w->Q (.panic c) a w)
  (hw:∀ j,nU ops m j=true->Region.waitsFor md ops j i=true) (hl:nU ops m i=false) :
  ∀ (f:Nat) (listed:Array Bool) (a:Act) (w:World),
   (∀ j oj,ops[j]?=some oj->j≠i->listed.getD j true=false->(∀ e∈oj.after,Region.binds md e=true->e.on≠i)->oi.apart ops oj=true) ->
   i∈Region.ready md ops listed->YieldsIf P ops S oi v a->S w ->
   sI P md ops Q S m f (listed.setIfInBounds i true) (a.put oi.dst v) w->sI P md ops Q S m (f+1) listed a w:=by
 intro f
 induction f with
 | zero =>
  intro listed a w _ hr hy hS H
  refine ⟨fun h=>(by rw [h] at hr;cases hr),fun j hj=>?_⟩;by_cases hji:j=i
  ·subst hji;exact hy.wpOp hi hS ⟨fun _=>hS,H⟩
  have:=ready_mono hj hji;rw [H.1] at this;cases this
 | succ f ih =>
  intro listed a w hfree hr hy hS H
  refine ⟨fun h=>(by rw [h] at hr;cases hr),fun j hj=>?_⟩;by_cases hji:j=i
  ·subst hji;exact hy.wpOp hi hS ⟨fun _=>hS,H⟩
  have h1:=H.2 j (ready_mono hj hji);obtain ⟨hjun,oj,hoj,hall⟩:=mem_ready.1 hj;have hnot:∀ e∈oj.after,Region.binds md e=true->e.on≠i:=fun e he hb heq=>by
   have h2:=hall e he hb;rw [heq,getD_both (mem_ready.1 hr).1] at h2;cases h2
  have hlj:nU ops m j=false:=by
   cases hd:nU ops m j with
   | false=>rfl
   | true =>
    obtain ⟨o2,ho2,e,he,hb,hon⟩:=Region.waitsFor_spec (hw j hd);have:o2=oj:=Option.some.inj (ho2.symm.trans hoj);subst this;exact absurd hon (hnot e he hb)
  have h2:=wpOp_putIf hoj (hfree j oj hoj hji hjun hnot) (fun cs b=>hsel i oi cs b hi) (fun cs b=>hsel j oj cs b hoj) hQ hy h1;have hfree':∀ k ok,ops[k]?=some ok->k≠i->(listed.setIfInBounds j true).getD k true=false ->
    (∀ e∈ok.after,Region.binds md e=true->e.on≠i)->oi.apart ops ok=true:=fun k ok hk hki hun hno=>by
   refine hfree k ok hk hki ?_ hno;by_cases hjk:j=k
   ·subst hjk;exact hjun
   ·rw [getD_set_ne true hjk] at hun;exact hun
  refine wpOp_mono (fun a' w' h3=>⟨h3.2.1,ih (listed.setIfInBounds j true) a' w' hfree' (ready_mono hr (Ne.symm hji)) h3.1 (h3.2.1 hlj) ?_⟩) h2;rw [Array.setIfInBounds_comm _ _ hji];exact h3.2.2
def BG (md:Region.Mode) (ops:Array Oper) (m i:Nat):Bool:=decide (i < m)&&(List.range ops.size).all fun j=>decide (j < m)||Region.waitsFor md ops j i
theorem uV {i:Nat} (h:BG md ops m i=true):(∀ j,nU ops m j=true->Region.waitsFor md ops j i=true)/\nU ops m i=false:=by
 simp only [BG,Bool.and_eq_true,decide_eq_true_eq] at h;refine ⟨fun j hj=>?_,?_⟩
 ·simp only [nU,Bool.and_eq_true,decide_eq_true_eq] at hj
  have:=List.all_eq_true.1 h.2 j (List.mem_range.2 hj.2);simp only [Bool.or_eq_true,decide_eq_true_eq] at this;rcases this with e | e
  ·omega
  ·exact e
 ·unfold nU
  rw [decide_eq_false (by omega),Bool.false_and]
theorem aT {i:Nat} {oi:Oper} {v:Value} {f:Nat} {listed:Array Bool} {a:Act} {w:World} (hi:ops[i]?=some oi)
  (hs:Region.noSelect ops=true) (hf:Region.free md ops listed i=true) (hr:(Region.ready md ops listed).contains i=true) (hl:BG md ops m i=true)
  (hQ:∀ c a w,Q (.panic c) (a.put oi.dst v) w->Q (.panic c) a w) (hS:S w) (hy:YieldsIf P ops S oi v a)
  (h:sI P md ops Q S m f (listed.setIfInBounds i true) (a.put oi.dst v) w):sI P md ops Q S m (f+1) listed a w :=
 LQ hi (Region.noSelect_spec hs) hQ (uV hl).1 (uV hl).2 f listed a w (Region.free_spec hi hf) (by simpa using hr) hy hS h
theorem qw {k:Nat} {o:Oper} {f:Nat} {listed:Array Bool} {a:Act} {w:World} (hr:Region.ready md ops listed=[k]) (ho:ops[k]?=some o)
  (h:∀ K:Act->World->Prop,(∀ a' w',S w'->sI P md ops Q S m f (listed.setIfInBounds k true) a' w'->K a' w')->if Region.wanted o (yielded ops a.tmps)=true then o.wp P a w K Q else K (a.put o.dst undef) w) :
  sI P md ops Q S m (f+1) listed a w:=by
 refine ⟨fun h0=>(by rw [hr] at h0;cases h0),fun i hi=>?_⟩;rw [hr] at hi;obtain rfl:i=k:=by simpa using hi
 have:=h (fun a' w'=>(nU ops m i=false->S w')/\sI P md ops Q S m f (listed.setIfInBounds i true) a' w') (fun a' w' hs ht=>⟨fun _=>hs,ht⟩);unfold wpOp;simp only [ho];split
 ·rename_i hw;rw [if_pos hw] at this;exact .inl this
 ·rename_i hw;rw [if_neg hw] at this;exact this
theorem ko {k:Nat} {o:Oper} {f:Nat} {listed:Array Bool} {a:Act} {w:World} (hr:Region.ready md ops listed=[k]) (ho:ops[k]?=some o) (hl:nU ops m k=true)
  (h:∀ K:Act->World->Prop,(∀ a' w',sI P md ops Q S m f (listed.setIfInBounds k true) a' w'->K a' w')->if Region.wanted o (yielded ops a.tmps)=true then o.wp P a w K Q else K (a.put o.dst undef) w) :
  sI P md ops Q S m (f+1) listed a w:=by
 refine ⟨fun h0=>(by rw [hr] at h0;cases h0),fun i hi=>?_⟩;rw [hr] at hi;obtain rfl:i=k:=by simpa using hi
 have:=h (fun a' w'=>(nU ops m i=false->S w')/\sI P md ops Q S m f (listed.setIfInBounds i true) a' w') (fun a' w' ht=>⟨fun e=>absurd (hl.symm.trans e) (by decide),ht⟩);unfold wpOp;simp only [ho];split
 ·rename_i hw;rw [if_pos hw] at this;exact .inl this
 ·rename_i hw;rw [if_neg hw] at this;exact this
theorem yH {listed:Array Bool} {a:Act} {w:World} (hr:Region.ready md ops listed=[]) (h:Q .normal a w):∀ f,sI P md ops Q S m f listed a w
 | 0=>⟨hr,h⟩
 | _+1=>⟨fun _=>h,by rw [hr];simp⟩
theorem sU {id:Nat} {a:Act} {w:World} (S:World->Prop) (m:Nat) (hm:P.follows .mixedOrders=true) (h:sI P .any ops Q S m ops.size (Array.replicate ops.size false) a w.drew):(Code.region id ops true).wp P Q a w :=
 wp_region_any hm (Ji _ _ _ _ h)
end
end Go.Proofs.YtkkpjonfaflkmaaGreatDoor.T
