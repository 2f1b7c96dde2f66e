/- For ScanTokens: its callees return what is said of them. -/
import Derived.Test.YtkkpjonfaflkmaaGreatDoorCScanTokens9
namespace Go.Proofs.YtkkpjonfaflkmaaGreatDoor.T
open Go.RowKit Go.Maps Go.Proofs.ah.aT Go.Proofs.ah.bn Go.Proofs.ah.bA
set_option linter.unusedSimpArgs false
set_option linter.unusedVariables false
attribute [local go_sem] Oper.semAt_some
def Kk (G:Nat->Prop) (W:World) (hs:List Value) (cls:List (List S.Tk)):Prop :=
 hs.length=cls.length/\∀ (j:Nat) (h:Value) (c:List S.Tk),hs[j]?=some h->cls[j]?=some c->∃ g cs,h=.slice (some ⟨g,0,none⟩) c.length c.length/\G g/\W.heap[g]?=some (.cells cs 53 (0,0))/\cs.toList.take (c.length*6)=dV c/\c.length<=300000
structure Xc (w0:World) (H:Nat) (rd:Loop) (v:Value) (hs:List Value) (G:Nat->Prop) (pre:List (List S.Tk)) (W:World):Prop where
 out:W.heap[H]?=some (.cells #[v] 31 (0,0))
 YH:W.heap[H+4]?=some (.deferred (some []))
 lop:W.heap[H+5]?=some (.loop rd)
 own:W.ownsRow (H+6) 24 1 v hs.length hs
 els:Kk G W hs (pre.map List.dropLast)
 one:∀ u∈hs,u.oneCell'=true
 pne:pre.length<=pre.flatten.length
 gs:∀ g,G g->H<=g/\g < W.heap.size/\v.ownBlock≠some g/\g≠H/\g≠H+4/\g≠H+5
 below:Below H w0 W
def pV (H:Nat) (v:Value) (G:Nat->Prop) (k:Nat):Prop:=k < H\/k=H\/k=H+4\/k=H+5\/v.ownBlock=some k\/G k
def ClJ (w0:World) (H:Nat) (rd:Loop) (pre:List (List S.Tk)) (F:Nat->Prop) (W:World):Prop:=∃ v hs G,F=pV H v G/\Xc w0 H rd v hs G pre W
theorem Kk.keep {G:Nat->Prop} {W W':World} {hs:List Value} {cls:List (List S.Tk)} (h:Kk G W hs cls) (hk:∀ g,G g->g < W.heap.size->W'.heap[g]?=W.heap[g]?):Kk G W' hs cls :=
 ⟨h.1,fun j u c hu hc=>by
  obtain ⟨g,cs,e1,e2,e3,e4⟩:=h.2 j u c hu hc;exact ⟨g,cs,e1,e2,(hk g e2 (Array.getElem?_eq_some_iff.1 e3).1).trans e3,e4⟩⟩
theorem Xc.lw {w0:World} {H:Nat} {rd:Loop} {v:Value} {hs:List Value} {G:Nat->Prop} {pre:List (List S.Tk)} {W:World} (h:Xc w0 H rd v hs G pre W):H+5 < W.heap.size:=(Array.getElem?_eq_some_iff.1 h.lop).1
theorem rM {W W':World} {e base n size:Nat} {v:Value} {xs:List Value} {A:Nat->Prop} (h:W.ownsRow base e size v n xs) (hb:But A W W') (hA:∀ k,A k->v.ownBlock≠some k):W'.ownsRow base e size v n xs:=by
 obtain ⟨h1,h2⟩:=h;refine ⟨h1,h2.imp id ?_⟩;rintro ⟨g,cap,cur,hv,hbg,hg,rest⟩
 have hlt:g < W.heap.size:=(Array.getElem?_eq_some_iff.1 hg).1;exact ⟨g,cap,cur,hv,hbg,(hb.block g hlt (fun e=>hA g e (by rw [hv];rfl))).trans hg,rest⟩
theorem Xc.keep {w0:World} {H:Nat} {rd:Loop} {v:Value} {hs:List Value} {G:Nat->Prop} {pre:List (List S.Tk)} {W W':World} (h:Xc w0 H rd v hs G pre W) (hb:But (fun k=>¬ pV H v G k) W W'):Xc w0 H rd v hs G pre W':=by
 have Sy:=h.lw;have hk:∀ k,pV H v G k->k < W.heap.size->W'.heap[k]?=W.heap[k]?:=fun k hf hl=>hb.block k hl (fun e=>e hf)
 exact ⟨(hk H (.inr (.inl rfl)) (by omega)).trans h.out,(hk _ (.inr (.inr (.inl rfl))) (by omega)).trans h.YH,(hk _ (.inr (.inr (.inr (.inl rfl)))) (by omega)).trans h.lop,rM h.own hb (fun k e e2=>e (.inr (.inr (.inr (.inr (.inl e2)))))),
  h.els.keep (fun g hg hl=>hk g (.inr (.inr (.inr (.inr (.inr hg))))) hl),h.one,h.pne,fun g hg=>by obtain ⟨a,b,c⟩:=h.gs g hg;exact ⟨a,Nat.lt_of_lt_of_le b hb.size,c⟩,h.below.trans (hb.ku (by omega) (fun k hk e=>e (.inl hk)))⟩
theorem TS {WB w1:World} {OB t:Nat} {cs:Array Value} {vo:Value} (hg:WB.grownBy w1 vo.ownBlock) (h:WB.heap[OB]?=some (.cells cs t (0,0))) (hne:∀ k,vo.ownBlock=some k->k≠OB):w1.heap[OB]?=some (.cells cs t (0,0)) :=
 (hg.block OB (Array.getElem?_eq_some_iff.1 h).1 (fun e=>hne OB e.symm rfl)).trans h
theorem Xc.next {w0:World} {H g2 c2:Nat} {rd rb:Loop} {v v':Value} {hs:List Value} {G:Nat->Prop} {pre:List (List S.Tk)} {cl:List S.Tk} {base:Nat} {W X w1:World} (h:Xc w0 H rd v hs G pre W) (hne:cl≠[]) (hrow:W.ownsRow base 53 6 (.slice (some ⟨g2,0,none⟩) cl.length c2) cl.length (dV cl))
  (EN:∀ k,pV H v G k->k≠g2) (hcl:cl.length<=300000) (hX:But (fun _=>False) (W.putObj (H+5) (.loop rb)) X)
  (ho:w1.ownsRow (H+6) 24 1 v' (hs.length+1) (hs++[.slice (some ⟨g2,0,none⟩) (cl.length - 1) (cl.length - 1)])) (hg:X.grownBy w1 v.ownBlock) (hv:v'.ownBlock=v.ownBlock\/v'.ownBlock=some X.heap.size) :
  (w1.setCell ⟨H,0,none⟩ v').heap[H+5]?=some (.loop rb)/\(ClJ w0 H rd (pre++[cl]) (pV H v' (fun k=>G k\/k=g2)) ((w1.setCell ⟨H,0,none⟩ v').putObj (H+5) (.loop rd))/\But (pV H v G) W ((w1.setCell ⟨H,0,none⟩ v').putObj (H+5) (.loop rd))/\∀ k,pV H v' (fun k=>G k\/k=g2) k->pV H v G k\/W.heap.size<=k\/k=g2):=by
 have Sy:=h.lw;have hge:∀ k,v.ownBlock=some k->H+6<=k:=fun k e=>(h.own.lt k e).1
 have hge':∀ k,v'.ownBlock=some k->H+6<=k:=fun k e=>(ho.lt k e).1
 have hpl:(W.putObj (H+5) (.loop rb)).heap.size=W.heap.size:=World.putObj_size;have b1:But (fun k=>k=H+5\/k=H\/v.ownBlock=some k) W (W.putObj (H+5) (.loop rb)):=(But.refl (fun k=>k=H+5\/k=H\/v.ownBlock=some k) W).putObj _ _ (.inl rfl);have b1x:=b1.trans hX (C:=fun k=>k=H+5\/k=H\/v.ownBlock=some k) (fun _ _ e=>e) (fun _ _ e=>e.elim);have b2:=b1x.grown hg (fun k e=>.inr (.inr e));have b3:=b2.set ⟨H,0,none⟩ v' (.inr (.inl rfl));have b4:=b3.putObj (H+5) (.loop rd) (.inl rfl);have hsX:W.heap.size<=X.heap.size:=b1x.size;have hs1:W.heap.size<=w1.heap.size:=b2.size;have hl1:w1.heap[H+5]?=some (.loop rb):=(hg.block (H+5) (by omega) (fun e=>by have:=hge _ e.symm;omega)).trans ((hX.block (H+5) (by rw [hpl];omega) (fun e=>e)).trans (World.putObj_heap_same (by omega)));have hl2:(w1.setCell ⟨H,0,none⟩ v').heap[H+5]?=some (.loop rb):=(Below.heap_setCell _ ⟨H,0,none⟩ _ (H+5) (by show H+5≠H;omega)).trans hl1;have abr:g2 < W.heap.size:=(hrow.lt g2 rfl).2;have hnx:∀ k,k≠H+5->k≠H->v.ownBlock≠some k->k < W.heap.size->((w1.setCell ⟨H,0,none⟩ v').putObj (H+5) (.loop rd)).heap[k]?=W.heap[k]?:=fun k a b c hl=>b4.block k hl (fun e=>by
  rcases e with e | e | e
  ·exact a e
  ·exact b e
  ·exact c e)
 have hv5:v.ownBlock≠some (H+4):=fun e=>by have:=hge _ e;omega
 have abt:v.ownBlock≠some g2:=fun e=>EN g2 (.inr (.inr (.inr (.inr (.inl e))))) rfl
 have hd1:=fun e:g2=H=>EN g2 (.inr (.inl e)) rfl
 have hd2:=fun e:g2=H+4=>EN g2 (.inr (.inr (.inl e))) rfl
 have hd3:=fun e:g2=H+5=>EN g2 (.inr (.inr (.inr (.inl e)))) rfl
 have hd4:H<=g2:=by
  rcases Nat.lt_or_ge g2 H with e | e
  ·exact absurd rfl (EN g2 (.inl e))
  ·exact e
 refine ⟨hl2,⟨v',hs++[.slice (some ⟨g2,0,none⟩) (cl.length - 1) (cl.length - 1)],_,rfl,?_,(hnx (H+4) (by omega) (by omega) hv5 (by omega)).trans h.YH,World.putObj_heap_same (Array.getElem?_eq_some_iff.1 hl2).1,?_,?_,?_,?_,?_,h.below.trans (b4.ku (by omega) (fun k hk e=>by rcases e with e | e | e;omega;omega;have:=hge k e;omega))⟩,b4.mono (fun k _ e=>?_),fun k hk=>?_⟩
 ·refine (World.putObj_heap_other (by omega)).trans ?_
  exact aR (cs:=#[v]) ((hg.block H (by omega) (fun e=>by have:=hge _ e.symm;omega)).trans ((hX.block H (by rw [hpl];omega) (fun e=>e)).trans ((World.putObj_heap_other (by omega)).trans h.out))) 0 _ rfl
 ·rw [List.length_append]
  refine rM ho (((But.refl (fun k=>k=H\/k=H+5) w1).set ⟨H,0,none⟩ v' (.inl rfl)).putObj (H+5) (.loop rd) (.inr rfl)) (fun k e e2=>?_);have:=hge' k e2;omega
 ·refine ⟨by rw [List.length_append,List.map_append,List.length_append,h.els.1];rfl,fun j u c hu hc=>?_⟩
  rw [List.map_append] at hc;rcases Nat.lt_or_ge j hs.length with hj | hj
  ·rw [List.getElem?_append_left hj] at hu
   rw [List.getElem?_append_left (by rw [<- h.els.1];exact hj)] at hc;obtain ⟨g,cs,e1,e2,e3,e4⟩:=h.els.2 j u c hu hc;obtain ⟨q1,q2,q3,q4,q5,q6⟩:=h.gs g e2;exact ⟨g,cs,e1,.inl e2,(hnx g q6 q4 q3 q2).trans e3,e4⟩
  ·rw [List.getElem?_append_right hj] at hu
   rw [List.getElem?_append_right (by rw [<- h.els.1];exact hj),<- h.els.1] at hc;have hj0:j - hs.length=0:=by
    rcases Nat.lt_or_ge 0 (j - hs.length) with e | e
    ·rw [List.getElem?_eq_none (by simp only [List.length_cons,List.length_nil];omega)] at hu;cases hu
    ·omega
   rw [hj0] at hu hc;simp only [List.getElem?_cons_zero,Option.some.injEq,List.map_cons,List.map_nil] at hu hc;subst hu hc;rcases hrow.2 with ⟨e,_⟩ | ⟨g,cap,cs,e,_,hgg,_,_,_,htk⟩
   ·cases e
   ·simp only [Value.slice.injEq,Option.some.injEq,Addr.mk.injEq,and_true,true_and] at e
    obtain ⟨rfl,rfl⟩:=e;refine ⟨g2,cs,by rw [List.length_dropLast],.inr rfl,(hnx g2 hd3 hd1 abt abr).trans hgg,?_,by rw [List.length_dropLast];omega⟩;have e1:cl.dropLast=cl.take (cl.length - 1):=List.dropLast_eq_take;rw [List.length_dropLast,e1,<- DL,<- htk,List.take_take];congr 1
    have:=List.length_pos_iff.2 hne;omega
 ·intro u hu
  rcases List.mem_append.1 hu with e | e
  ·exact h.one u e
  ·rw [List.mem_singleton.1 e];rfl
 ·have:=h.pne
  have:=List.length_pos_iff.2 hne;simp only [List.flatten_append,List.flatten_cons,List.flatten_nil,List.append_nil,List.length_append,List.length_cons,List.length_nil];omega
 ·intro g hgg
  have alQ:W.heap.size<=((w1.setCell ⟨H,0,none⟩ v').putObj (H+5) (.loop rd)).heap.size:=b4.size;have hnv:∀ k,k < W.heap.size->v.ownBlock≠some k->v'.ownBlock≠some k:=fun k hk hn e=>by
   rcases hv with hv | hv
   ·exact hn (by rw [<- hv,e])
   ·rw [hv] at e;cases e;omega
  rcases hgg with e | rfl
  ·obtain ⟨q1,q2,q3,q4,q5,q6⟩:=h.gs g e
   exact ⟨q1,by omega,hnv g q2 q3,q4,q5,q6⟩
  ·exact ⟨hd4,by omega,hnv _ abr abt,hd1,hd2,hd3⟩
 ·rcases e with e | e | e
  ·exact .inr (.inr (.inr (.inl e)))
  ·exact .inr (.inl e)
  ·exact .inr (.inr (.inr (.inr (.inl e))))
 ·rcases hk with e | e | e | e | e | e
  ·exact .inl (.inl e)
  ·exact .inl (.inr (.inl e))
  ·exact .inl (.inr (.inr (.inl e)))
  ·exact .inl (.inr (.inr (.inr (.inl e))))
  ·rcases hv with hv | hv
   ·exact .inl (.inr (.inr (.inr (.inr (.inl (by rw [<- hv,e]))))))
   ·rw [hv] at e;cases e;exact .inr (.inl (by omega))
  ·rcases e with e | e
   ·exact .inl (.inr (.inr (.inr (.inr (.inr e)))))
   ·exact .inr (.inr e)
end Go.Proofs.YtkkpjonfaflkmaaGreatDoor.T
