/- A part of the proof of ScanWrites. -/
import Derived.Test.YtkkpjonfaflkmaaGreatDoorCScanWrites19
set_option linter.all false
namespace Go.Proofs.YtkkpjonfaflkmaaGreatDoor.T
open Go.RowKit Go.Proofs.aj.aI Go.Proofs.aj.aY Go.Proofs.aj.bq
attribute [local go_sem] Oper.semAt_some
theorem Cr {P:Program} {fn:Func} {p q r:Tmp} {tp tq tr:TypeId} (h:fn.results=#[.cell p tp,.cell q tq,.cell r tr]) (tmps:Array Value) (w:World) (a b c:Addr) (u v x:Value)
  (hp:tmps.getD p undef=.pointer (some a)) (hq:tmps.getD q undef=.pointer (some b)) (hr:tmps.getD r undef=.pointer (some c)) (hu:(loadVar tp a).run P w=.ok u w) (hv:(loadVar tq b).run P w=.ok v w) (hx:(loadVar tr c).run P w=.ok x w) :
  (results fn tmps).run P w=.ok (.tuple #[u,v,x]) w:=by
 have hp':tmps[p]?.getD undef=.pointer (some a):=by simpa using hp
 have hq':tmps[q]?.getD undef=.pointer (some b):=by simpa using hq
 have hr':tmps[r]?.getD undef=.pointer (some c):=by simpa using hr
 simp [results,h,hp',hq',hr',asAddr,Sem.run_bind,hu,hv,hx,Result.andThen]
set_option maxRecDepth 100000 in
set_option maxHeartbeats 400000 in
theorem Ct (p q r:Value) (W:World) :
  CallsD Tryz.prog 69 #[p,q,r] .returning W fun e u' W'=>e=.returned (.tuple #[])/\u'=.returning/\W'=W:=by
 refine callsD_of_wpS Tryz.func69 rfl fun c₀ cs hu=>?_
 simp only [Tryz.ntmps69,List.size_toArray,List.length_cons,List.length_nil,Nat.reduceAdd,Nat.reduceSub,Array.replicate_succ,Array.replicate_zero,List.push_toArray,List.append_toArray,List.nil_append,List.cons_append];apply wpS_seq
 apply wpS_region
 simp [wpOpsS,go_sem,recoverD,hu,Tryz.ntmps69,Exit.thenS]
 refine wpS_of_wp ?_;generalize hQ:(fun (e:Exit) (a':Act) (w':World)=>_)=Q;go_wp2;rw [<- hQ];refine ⟨rfl,.returning,?_,_,results_none rfl _ _ _,rfl,rfl,rfl⟩;rw [<- hu]
set_option maxRecDepth 100000 in
set_option maxHeartbeats 4000000 in
theorem Ke (c ln:Int) {A B C:Nat} {s0:ByteArray} {x0 y0:Int} (W:World) (hA:W.heap[A]?=some (.cells #[.string s0] 9 (0,0))) (hB:W.heap[B]?=some (.cells #[.int .i64 x0] 3 (0,0))) (hC:W.heap[C]?=some (.cells #[.int .i64 y0] 25 (0,0))) (hne:A≠B/\A≠C/\B≠C) :
  CallsD Tryz.prog 69 #[.pointer (some ⟨A,0,none⟩),.pointer (some ⟨B,0,none⟩),.pointer (some ⟨C,0,none⟩)] (.panicking [{ v:=fl c ln,recovered:=false }]) W fun e u' W' =>
   e=.returned (.tuple #[])/\u'=.panicking [{ v:=fl c ln,recovered:=true }]/\W'.heap[A]?=some (.cells #[.string ⟨#[]⟩] 9 (0,0))/\W'.heap[B]?=some (.cells #[.int .i64 c] 3 (0,0))/\W'.heap[C]?=some (.cells #[.int .i64 7] 25 (0,0))/\But (fun k=>k=A\/k=B\/k=C) W W':=by
 have HA:=ah.mk hA;have HB:=ah.mk hB;have HC:=ah.mk hC;have hta:∀ X:World,(Instr.typeAssert (.iface 76 (.agg #[.int .i64 c,.int .i64 ln])) 20 76 true).run Tryz.prog X=.ok (.tuple #[.agg #[.int .i64 c,.int .i64 ln],.bool true]) X:=fun X=>by kernel_rfl
 have Xm:=Tryz.underlying76;clear hA hB hC;refine callsD_of_wpS Tryz.func69 rfl fun c₀ cs hu=>?_
 simp only [Tryz.ntmps69,List.size_toArray,List.length_cons,List.length_nil,Nat.reduceAdd,Nat.reduceSub,Array.replicate_succ,Array.replicate_zero,List.push_toArray,List.append_toArray,List.nil_append,List.cons_append];apply wpS_seq
 apply wpS_region
 simp [wpOpsS,go_sem,recoverD,hu,Tryz.ntmps69,Exit.thenS,fl]
 refine wpS_of_wp ?_;generalize hQ:(fun (e:Exit) (a':Act) (w':World)=>_)=Q;go_upto_region 5 with (fail)
 have hb1:But (fun _=>False) W (W.alloc (.cells #[.int .i64 c,.int .i64 ln] 76)):=(But.refl _ W).alloc _;have hn1:=heap_alloc_new W (.cells #[.int .i64 c,.int .i64 ln] 76);have hf1:∀ (k:Nat) (o:Obj),W.heap[k]?=some o->(W.alloc (.cells #[.int .i64 c,.int .i64 ln] 76)).heap[k]?=some o:=fun k o h=>(hb1.block k (Array.getElem?_eq_some_iff.1 h).1 (fun e=>e)).trans h
 have hA1:=hf1 _ _ HA.out;have hB1:=hf1 _ _ HB.out;have Uy:=hf1 _ _ HC.out;have hlt:A < W.heap.size/\B < W.heap.size/\C < W.heap.size:=⟨(Array.getElem?_eq_some_iff.1 HA.out).1,(Array.getElem?_eq_some_iff.1 HB.out).1,(Array.getElem?_eq_some_iff.1 HC.out).1⟩;obtain ⟨H,hH⟩:∃ H,W.heap.size=H:=⟨_,rfl⟩;rw [hH] at hn1 hlt |-
 have HB1:=ah.mk hb1;clear hf1 hta hH HA HB HC hb1;generalize W.alloc (.cells #[.int .i64 c,.int .i64 ln] 76)=W1 at *;have e0:W1.cell? ⟨H,0,none⟩=some (.int .i64 c):=(au hn1 0).trans rfl;have a0:W1.cell? ⟨A,0,none⟩=some (.string s0):=(au hA1 0).trans rfl;have b0:W1.cell? ⟨B,0,none⟩=some (.int .i64 x0):=(au hB1 0).trans rfl;have c0:W1.cell? ⟨C,0,none⟩=some (.int .i64 y0):=(au Uy 0).trans rfl;have fa:=aA hA1 0;have fb:=aA hB1 0;have fc:=aA Uy 0;obtain ⟨n1,n2,n3⟩:=hne;obtain ⟨l1,l2,l3⟩:=hlt;have hfin:ah ((((W1.setCell ⟨A,0,none⟩ (.string ⟨#[]⟩)).setCell ⟨B,0,none⟩ (.int .i64 c)).setCell ⟨C,0,none⟩ (.int .i64 7)).heap[A]?=some (.cells #[.string ⟨#[]⟩] 9 (0,0))/\(((W1.setCell ⟨A,0,none⟩ (.string ⟨#[]⟩)).setCell ⟨B,0,none⟩ (.int .i64 c)).setCell ⟨C,0,none⟩ (.int .i64 7)).heap[B]?=some (.cells #[.int .i64 c] 3 (0,0)) /\
   (((W1.setCell ⟨A,0,none⟩ (.string ⟨#[]⟩)).setCell ⟨B,0,none⟩ (.int .i64 c)).setCell ⟨C,0,none⟩ (.int .i64 7)).heap[C]?=some (.cells #[.int .i64 7] 25 (0,0))/\But (fun k=>k=A\/k=B\/k=C) W (((W1.setCell ⟨A,0,none⟩ (.string ⟨#[]⟩)).setCell ⟨B,0,none⟩ (.int .i64 c)).setCell ⟨C,0,none⟩ (.int .i64 7))):=⟨by
  have k1:(W1.setCell ⟨A,0,none⟩ (.string ⟨#[]⟩)).heap[A]?=some (.cells #[.string ⟨#[]⟩] 9 (0,0)):=aW hA1 0 _ rfl;have k2:(W1.setCell ⟨A,0,none⟩ (.string ⟨#[]⟩)).heap[B]?=some (.cells #[.int .i64 x0] 3 (0,0)):=(Below.heap_setCell _ ⟨A,0,none⟩ _ B (by show B≠A;omega)).trans hB1;have k3:(W1.setCell ⟨A,0,none⟩ (.string ⟨#[]⟩)).heap[C]?=some (.cells #[.int .i64 y0] 25 (0,0)):=(Below.heap_setCell _ ⟨A,0,none⟩ _ C (by show C≠A;omega)).trans Uy;have k4:=aW k2 0 (.int .i64 c) rfl;have k5:=(Below.heap_setCell (W1.setCell ⟨A,0,none⟩ (.string ⟨#[]⟩)) ⟨B,0,none⟩ (.int .i64 c) A (by show A≠B;omega)).trans k1;have k6:=(Below.heap_setCell (W1.setCell ⟨A,0,none⟩ (.string ⟨#[]⟩)) ⟨B,0,none⟩ (.int .i64 c) C (by show C≠B;omega)).trans k3;refine ⟨(Below.heap_setCell _ ⟨C,0,none⟩ _ A (by show A≠C;omega)).trans k5,(Below.heap_setCell _ ⟨C,0,none⟩ _ B (by show B≠C;omega)).trans k4,aW k6 0 _ rfl,?_⟩;exact ((((HB1.out.mono (fun _ _ e=>e.elim)).set _ _ (.inl rfl)).set _ _ (.inr (.inl rfl))).set _ _ (.inr (.inr rfl)))⟩
 clear hA1 hB1 Uy hn1;go_region
 all_goals go_wp2
 all_goals rw [<- hQ]
 all_goals obtain ⟨f1,f2,f3,f4⟩:=hfin.out
 all_goals first
  | exact ⟨rfl,_,rfl,_,results_none rfl _ _ _,rfl,rfl,f1,f2,f3,f4⟩
  | exact ⟨rfl,_,rfl,_,results_none rfl _ _ _,rfl,rfl,f1,f2,f3,f4.drew⟩
def Hq (a0:ByteArray):S.TR->ByteArray × Int × Int
 | .err c=>(⟨#[]⟩,c,7)
 | .ok t n=>if n < a0.size then (⟨#[]⟩,0,2) else (strOfNums t,0,0)
def oQ.f (a0:ByteArray):Option (ByteArray × Int × Int) :=
 if 100000 < a0.size then none
 else if a0.size=0\/(bt a0 0≠39/\bt a0 0≠34) then some (⟨#[]⟩,0,2) else some (Hq a0 (S.dZ (bytesOf a0)))
theorem xG {W:World} {H:Nat} {s:ByteArray} {x y:Int} (tmps:Array Value) (h0:W.heap[H]?=some (.cells #[.string s] 9 (0,0))) (h1:W.heap[H+1]?=some (.cells #[.int .i64 x] 3 (0,0))) (h2:W.heap[H+1+1]?=some (.cells #[.int .i64 y] 25 (0,0)))
  (t2:tmps.getD 2 undef=.pointer (some ⟨H,0,none⟩)) (t3:tmps.getD 3 undef=.pointer (some ⟨H+1,0,none⟩)) (t4:tmps.getD 4 undef=.pointer (some ⟨H+1+1,0,none⟩)) :
  (results Tryz.f32 tmps).run Tryz.prog W=.ok (.tuple #[.string s,.int .i64 x,.int .i64 y]) W:=by
 have e0:W.cell? ⟨H,0,none⟩=some (.string s):=(au h0 0).trans rfl;have e1:W.cell? ⟨H+1,0,none⟩=some (.int .i64 x):=(au h1 0).trans rfl;have e2:W.cell? ⟨H+1+1,0,none⟩=some (.int .i64 y):=(au h2 0).trans rfl;exact Cr rfl _ _ _ _ _ _ _ _ t2 t3 t4 (by simp [go_sem,loadVar,e0]) (by simp [go_sem,loadVar,e1]) (by simp [go_sem,loadVar,e2])
structure Vb (w:World) (H:Nat) (s:ByteArray) (x y:Int) (W:World):Prop where
 b0:W.heap[H]?=some (.cells #[.string s] 9 (0,0))
 b1:W.heap[H+1]?=some (.cells #[.int .i64 x] 3 (0,0))
 b2:W.heap[H+1+1]?=some (.cells #[.int .i64 y] 25 (0,0))
 bl:Below H w W
theorem Vb.put {w:World} {H:Nat} {s s':ByteArray} {x y x' y':Int} {W:World} (h:Vb w H s x y W) (hw:H<=w.heap.size):Vb w H s' x' y' (((W.setCell ⟨H,0,none⟩ (.string s')).setCell ⟨H+1,0,none⟩ (.int .i64 x')).setCell ⟨H+1+1,0,none⟩ (.int .i64 y')):=by
 have k1:(W.setCell ⟨H,0,none⟩ (.string s')).heap[H]?=some (.cells #[.string s'] 9 (0,0)):=aW h.b0 0 _ rfl;have k2:(W.setCell ⟨H,0,none⟩ (.string s')).heap[H+1]?=some (.cells #[.int .i64 x] 3 (0,0)):=(Below.heap_setCell _ ⟨H,0,none⟩ _ (H+1) (by show H+1≠H;omega)).trans h.b1;have k3:(W.setCell ⟨H,0,none⟩ (.string s')).heap[H+1+1]?=some (.cells #[.int .i64 y] 25 (0,0)):=(Below.heap_setCell _ ⟨H,0,none⟩ _ (H+1+1) (by show H+1+1≠H;omega)).trans h.b2;have k4:=aW k2 0 (.int .i64 x') rfl;have k5:=(Below.heap_setCell (W.setCell ⟨H,0,none⟩ (.string s')) ⟨H+1,0,none⟩ (.int .i64 x') H (by show H≠H+1;omega)).trans k1;have k6:=(Below.heap_setCell (W.setCell ⟨H,0,none⟩ (.string s')) ⟨H+1,0,none⟩ (.int .i64 x') (H+1+1) (by show H+1+1≠H+1;omega)).trans k3;refine ⟨(Below.heap_setCell _ ⟨H+1+1,0,none⟩ _ H (by show H≠H+1+1;omega)).trans k5,(Below.heap_setCell _ ⟨H+1+1,0,none⟩ _ (H+1) (by show H+1≠H+1+1;omega)).trans k4,aW k6 0 _ rfl,?_⟩;have:But (fun k=>H<=k) W (((W.setCell ⟨H,0,none⟩ (.string s')).setCell ⟨H+1,0,none⟩ (.int .i64 x')).setCell ⟨H+1+1,0,none⟩ (.int .i64 y')):=(((But.refl _ W).set _ _ (Nat.le_refl H)).set _ _ (by show H<=H+1;omega)).set _ _ (by show H<=H+1+1;omega);exact h.bl.trans (this.jS (Nat.le_trans hw h.bl.size) (fun k hk e=>by omega))
theorem Vb.but {w:World} {H:Nat} {s:ByteArray} {x y:Int} {W W':World} {A:Nat->Prop} (h:Vb w H s x y W) (hb:But A W W') (hw:H<=w.heap.size) (hA:∀ k,A k->H+3<=k):Vb w H s x y W':=by
 have hk:∀ k (o:Obj),k < H+3->W.heap[k]?=some o->W'.heap[k]?=some o:=fun k o hk h=>(hb.block k (Array.getElem?_eq_some_iff.1 h).1 (fun e=>by have:=hA k e;omega)).trans h
 exact ⟨hk _ _ (by omega) h.b0,hk _ _ (by omega) h.b1,hk _ _ (by omega) h.b2,h.bl.trans (hb.jS (Nat.le_trans hw h.bl.size) (fun k hk e=>by have:=hA k e;omega))⟩
theorem Vb.ajQ {w:World} {H:Nat} {s s':ByteArray} {x y:Int} {W:World} (h:Vb w H s x y W) (hw:H<=w.heap.size):Vb w H s' x y (W.setCell ⟨H,0,none⟩ (.string s')):=by
 have:But (fun k=>H<=k) W (W.setCell ⟨H,0,none⟩ (.string s')):=(But.refl _ W).set _ _ (Nat.le_refl H);exact ⟨aW h.b0 0 _ rfl,(Below.heap_setCell _ ⟨H,0,none⟩ _ (H+1) (by show H+1≠H;omega)).trans h.b1,(Below.heap_setCell _ ⟨H,0,none⟩ _ (H+1+1) (by show H+1+1≠H;omega)).trans h.b2,h.bl.trans (this.jS (Nat.le_trans hw h.bl.size) (fun k hk e=>by omega))⟩
theorem acW (w:World):Vb w w.heap.size ⟨#[]⟩ 0 0 (((w.alloc (.cells #[.string ⟨#[]⟩] 9)).alloc (.cells #[.int .i64 0] 3)).alloc (.cells #[.int .i64 0] 25))/\(((w.alloc (.cells #[.string ⟨#[]⟩] 9)).alloc (.cells #[.int .i64 0] 3)).alloc (.cells #[.int .i64 0] 25)).heap.size=w.heap.size+1+1+1:=by
 have s1:=World.size_alloc w (.cells #[.string ⟨#[]⟩] 9);have s2:=World.size_alloc (w.alloc (.cells #[.string ⟨#[]⟩] 9)) (.cells #[.int .i64 0] 3);have s3:=World.size_alloc ((w.alloc (.cells #[.string ⟨#[]⟩] 9)).alloc (.cells #[.int .i64 0] 3)) (.cells #[.int .i64 0] 25);have n1:=heap_alloc_new w (.cells #[.string ⟨#[]⟩] 9);have n2:=heap_alloc_new (w.alloc (.cells #[.string ⟨#[]⟩] 9)) (.cells #[.int .i64 0] 3);have n3:=heap_alloc_new ((w.alloc (.cells #[.string ⟨#[]⟩] 9)).alloc (.cells #[.int .i64 0] 3)) (.cells #[.int .i64 0] 25);have o1:=((But.refl (fun _=>False) (w.alloc (.cells #[.string ⟨#[]⟩] 9))).alloc (.cells #[.int .i64 0] 3)).block w.heap.size (by omega) (fun e=>e);have o2:=((But.refl (fun _=>False) ((w.alloc (.cells #[.string ⟨#[]⟩] 9)).alloc (.cells #[.int .i64 0] 3))).alloc (.cells #[.int .i64 0] 25)).block w.heap.size (by omega) (fun e=>e);have o3:=((But.refl (fun _=>False) ((w.alloc (.cells #[.string ⟨#[]⟩] 9)).alloc (.cells #[.int .i64 0] 3))).alloc (.cells #[.int .i64 0] 25)).block (w.heap.size+1) (by omega) (fun e=>e);rw [s1] at n2;rw [s2,s1] at n3;exact ⟨⟨o2.trans (o1.trans n1),o3.trans n2,n3,av (av (av (Below.refl _ _) _) _) _⟩,by omega⟩
set_option maxRecDepth 100000 in
set_option maxHeartbeats 4000000 in
theorem oQ.calls (a0:ByteArray) (r1:ByteArray) (r2 r3:Int) (w:World) (h:oQ.f a0=some (r1,r2,r3)) :
  Calls Tryz.prog 32 #[.string a0] w fun e w'=>e=.returned (.tuple #[.string r1,.int .i64 r2,.int .i64 r3])/\Below w.heap.size w w':=by
 unfold oQ.f at h;have hmf:∀ (fn:Fn) (first cap:Array Value) (w:World),(Instr.makeFunc fn first cap).run Tryz.prog w=.ok (.func fn first cap) w:=fun _ _ _ _=>rfl
 by_cases hbig:100000 < a0.size
 ·rw [if_pos hbig] at h;cases h
 rw [if_neg hbig] at h;obtain ⟨v0,vs⟩:=acW w;have za:=ah.mk v0;have QG:=ah.mk (uo a0);obtain ⟨n,hn⟩:∃ n,a0.size=n:=⟨_,rfl⟩;have hlb:(bytesOf a0).length=n:=by rw [bytesOf_length];exact hn
 by_cases h0:n=0
 ·rw [if_pos (.inl (hn.trans h0))] at h
  simp only [Option.some.injEq,Prod.mk.injEq] at h;obtain ⟨rfl,rfl,rfl⟩:=h;have he:(a0.toList==([]:List UInt8))=true:=by rw [QG.out];exact decide_eq_true (List.length_eq_zero_iff.1 (hlb.trans h0))
  clear QG hlb hn h0 hbig v0;go_enter_defers Tryz.func32,Tryz.ntmps32
  go_upto_region 1 with (fail)
  obtain ⟨H,hH⟩:∃ H,w.heap.size=H:=⟨_,rfl⟩;rw [hH] at za vs |-
  generalize ((w.alloc (.cells #[.string ⟨#[]⟩] 9)).alloc (.cells #[.int .i64 0] 3)).alloc (.cells #[.int .i64 0] 25)=W0 at *;have a0c:W0.cell? ⟨H,0,none⟩=some (.string ⟨#[]⟩):=(au za.out.b0 0).trans rfl;have b0c:W0.cell? ⟨H+1,0,none⟩=some (.int .i64 0):=(au za.out.b1 0).trans rfl;have c0c:W0.cell? ⟨H+1+1,0,none⟩=some (.int .i64 0):=(au za.out.b2 0).trans rfl;have fa:=aA za.out.b0 0;have fb:=aA za.out.b1 0;have fc:=aA za.out.b2 0;have HF:=ah.mk (za.out.put (s':=⟨#[]⟩) (x':=0) (y':=2) (Nat.le_of_eq hH.symm));go_wp2_with fail
  exact ⟨_,xG _ HF.out.b0 HF.out.b1 HF.out.b2 rfl rfl rfl,rfl,by rw [hH];exact HF.out.bl⟩
 have he:(a0.toList==([]:List UInt8))=false:=by rw [QG.out];exact decide_eq_false (fun e=>h0 (by rw [<- hlb,e];rfl))
 have hl:0 < a0.size:=by omega
 have hx:((a0[0]'hl).toNat:Int)=bt a0 0:=by simp [bt,hl]
 by_cases hq:bt a0 0≠39/\bt a0 0≠34
 ·rw [if_pos (.inr hq)] at h
  simp only [Option.some.injEq,Prod.mk.injEq] at h;obtain ⟨rfl,rfl,rfl⟩:=h;generalize bt a0 0=y at hx hq;have g1:(y != 39)=true:=bne_iff_ne.2 hq.1;have g2:(y != 34)=true:=bne_iff_ne.2 hq.2;clear QG hlb h0 hbig v0 hq;go_enter_defers Tryz.func32,Tryz.ntmps32
  go_upto_region 1 with (fail)
  obtain ⟨H,hH⟩:∃ H,w.heap.size=H:=⟨_,rfl⟩;rw [hH] at za vs |-
  generalize ((w.alloc (.cells #[.string ⟨#[]⟩] 9)).alloc (.cells #[.int .i64 0] 3)).alloc (.cells #[.int .i64 0] 25)=W0 at *;have a0c:W0.cell? ⟨H,0,none⟩=some (.string ⟨#[]⟩):=(au za.out.b0 0).trans rfl;have b0c:W0.cell? ⟨H+1,0,none⟩=some (.int .i64 0):=(au za.out.b1 0).trans rfl;have c0c:W0.cell? ⟨H+1+1,0,none⟩=some (.int .i64 0):=(au za.out.b2 0).trans rfl;have fa:=aA za.out.b0 0;have fb:=aA za.out.b1 0;have fc:=aA za.out.b2 0;have HF:=ah.mk (za.out.put (s':=⟨#[]⟩) (x':=0) (y':=2) (Nat.le_of_eq hH.symm));go_wp2_with fail
  exact ⟨_,xG _ HF.out.b0 HF.out.b1 HF.out.b2 rfl rfl rfl,rfl,by rw [hH];exact HF.out.bl⟩
 rw [if_neg (by rintro (e | e);omega;exact hq e)] at h;have h:=Option.some.inj h;generalize hy:bt a0 0=y at hx hq;have hor:y=39\/y=34:=by omega
 have VD:=Lib.hid (fun W m hW=>oN.calls (w.heap.size+1+1+1) a0 m 0 1 W (by omega) (by omega) (by omega) hW);rw [List.drop_zero] at VD;clear QG hlb h0 hbig v0 hq hy;cases hst:S.dZ (bytesOf a0) with
 | err c =>
  rw [hst] at h VD;simp only [Hq,Prod.mk.injEq] at h;obtain ⟨rfl,rfl,rfl⟩:=h;clear hst;rcases hor with rfl | rfl
  all_goals
   go_enter_defers Tryz.func32,Tryz.ntmps32
   go_upto_region 1 with (fail)
   obtain ⟨H,hH⟩:∃ H,w.heap.size=H:=⟨_,rfl⟩;rw [hH] at za vs VD |-
   generalize ((w.alloc (.cells #[.string ⟨#[]⟩] 9)).alloc (.cells #[.int .i64 0] 3)).alloc (.cells #[.int .i64 0] 25)=W0 at *;have a0c:W0.cell? ⟨H,0,none⟩=some (.string ⟨#[]⟩):=(au za.out.b0 0).trans rfl;have b0c:W0.cell? ⟨H+1,0,none⟩=some (.int .i64 0):=(au za.out.b1 0).trans rfl;have c0c:W0.cell? ⟨H+1+1,0,none⟩=some (.int .i64 0):=(au za.out.b2 0).trans rfl;have fa:=aA za.out.b0 0;have fb:=aA za.out.b1 0;have fc:=aA za.out.b2 0;have hsc:Sc (H+1+1+1) a0 ((0:Nat):Int) ((1:Nat):Int) (.map none) (W0.alloc (.cells #[.string a0,.int .i64 0,.int .i64 1,.map none] 93)):=by
    have:=heap_alloc_new W0 (.cells #[.string a0,.int .i64 0,.int .i64 1,.map none] 93);rw [vs] at this;exact this
   have uR:=ah.mk hsc;have HVA:=ah.mk (za.out.but (A:=fun k=>H+3<=k) ((But.refl _ W0).alloc (.cells #[.string a0,.int .i64 0,.int .i64 1,.map none] 93)) (Nat.le_of_eq hH.symm) (fun k e=>e));clear hsc a0c b0c c0c fa fb fc;go_wp2_with (go_at_call 70;refine (VD.out _ _ uR.out).mono ?_;rintro e w3 ⟨hb3,hp3⟩;obtain ⟨rfl,_⟩:=(show _/\_ from hp3);unfold Fails)
   have VK:=HVA.out.but hb3 (Nat.le_of_eq hH.symm) (fun k e=>by have:=show k=H+1+1+1 from e;omega);refine leaves_cons (f:=69) (args:=#[.pointer (some ⟨H,0,none⟩),.pointer (some ⟨H+1,0,none⟩),.pointer (some ⟨H+1+1,0,none⟩)]) (by simp) (by simp [go_sem]) ?_;refine (Ke c 1 w3 VK.b0 VK.b1 VK.b2 ⟨by omega,by omega,by omega⟩).mono ?_;rintro e u' w'' ⟨rfl,rfl,k0,k1,k2,hb4⟩
   simp only [Leaves,settle,List.dropWhile_nil];have hbl:=VK.bl.trans (hb4.jS (B:=H) (by have:=VK.bl.size;omega) (fun k hk e=>by rcases e with e | e | e<;>omega));exact ⟨_,xG _ k0 k1 k2 rfl rfl rfl,rfl,by rw [hH];exact hbl⟩
 | ok t m =>
  rw [hst] at h VD;clear hst;rcases hor with rfl | rfl
  all_goals
   go_enter_defers Tryz.func32,Tryz.ntmps32
   go_upto_region 1 with (fail)
   obtain ⟨H,hH⟩:∃ H,w.heap.size=H:=⟨_,rfl⟩;rw [hH] at za vs VD |-
   generalize ((w.alloc (.cells #[.string ⟨#[]⟩] 9)).alloc (.cells #[.int .i64 0] 3)).alloc (.cells #[.int .i64 0] 25)=W0 at *;have hsc:Sc (H+1+1+1) a0 ((0:Nat):Int) ((1:Nat):Int) (.map none) (W0.alloc (.cells #[.string a0,.int .i64 0,.int .i64 1,.map none] 93)):=by
    have:=heap_alloc_new W0 (.cells #[.string a0,.int .i64 0,.int .i64 1,.map none] 93);rw [vs] at this;exact this
   have uR:=ah.mk hsc;have HVA:=ah.mk (za.out.but (A:=fun k=>H+3<=k) ((But.refl _ W0).alloc (.cells #[.string a0,.int .i64 0,.int .i64 1,.map none] 93)) (Nat.le_of_eq hH.symm) (fun k e=>e));clear hsc;have oW:=ah.mk hH;have HPP:ah (∀ w3:World,But (·=H+1+1+1) (W0.alloc (.cells #[.string a0,.int .i64 0,.int .i64 1,.map none] 93)) w3->Vb w H ⟨#[]⟩ 0 0 w3):=⟨fun w3 hb3=>HVA.out.but hb3 (Nat.le_of_eq hH.symm) (fun k e=>by have:=show k=H+1+1+1 from e;omega)⟩;have hxa:ah (((a0[0]'hl).toNat:Int)=_):=⟨hx⟩;go_upto_region 6 with (go_at_call 70;refine (VD.out _ _ uR.out).mono ?_;rintro e w3 ⟨hb3,hp3⟩;obtain ⟨rfl,hs3⟩:=(show _/\_ from hp3);have VK:=HPP.out _ hb3;have a0c:w3.cell? ⟨H,0,none⟩=some (.string ⟨#[]⟩):=(au VK.b0 0).trans rfl;have fa:=aA VK.b0 0)
   rw [Nat.zero_add] at hs3;have Zi:=ah.mk (VK.ajQ (s':=strOfNums t) (Nat.le_of_eq oW.out.symm));have hs4:Sc (H+1+1+1) a0 m ((1:Nat):Int) (.map none) (w3.setCell ⟨H,0,none⟩ (.string (strOfNums t))):=(Below.heap_setCell w3 ⟨H,0,none⟩ (.string (strOfNums t)) (H+1+1+1) (by show H+1+1+1≠H;omega)).trans hs3;clear hp3 hb3 hs3 VK a0c fa HPP uR HVA VD hxa hx hl za vs he;obtain ⟨st,hst⟩:∃ st,strOfNums t=st:=⟨_,rfl⟩;simp only [hst] at Zi hs4 h |-
   generalize w3.setCell ⟨H,0,none⟩ (.string st)=w4 at *;have a0c:w4.cell? ⟨H,0,none⟩=some (.string st):=(au Zi.out.b0 0).trans rfl;have b0c:w4.cell? ⟨H+1,0,none⟩=some (.int .i64 0):=(au Zi.out.b1 0).trans rfl;have c0c:w4.cell? ⟨H+1+1,0,none⟩=some (.int .i64 0):=(au Zi.out.b2 0).trans rfl;have fa:=aA Zi.out.b0 0;have fb:=aA Zi.out.b1 0;have fc:=aA Zi.out.b2 0;have d1:=hs4.c1;clear hs4;by_cases hm:m < n
   ·have g3:decide ((m:Int) < (n:Int))=true:=decide_eq_true (by omega)
    have g4:decide (m < n)=true:=decide_eq_true hm;simp only [Hq] at h;rw [if_pos (by omega)] at h;simp only [Prod.mk.injEq] at h;obtain ⟨rfl,rfl,rfl⟩:=h;have HF:=ah.mk (Zi.out.put (s':=⟨#[]⟩) (x':=0) (y':=2) (Nat.le_of_eq oW.out.symm));clear hH;go_wp2_with fail
    refine leaves_cons (f:=69) (args:=#[.pointer (some ⟨H,0,none⟩),.pointer (some ⟨H+1,0,none⟩),.pointer (some ⟨H+1+1,0,none⟩)]) (by simp) (by simp [go_sem]) ?_;refine (Ct _ _ _ _).mono ?_;rintro e u' w'' ⟨rfl,rfl,rfl⟩
    simp only [Leaves,settle];exact ⟨_,xG _ HF.out.b0 HF.out.b1 HF.out.b2 rfl rfl rfl,rfl,by rw [oW.out];exact HF.out.bl⟩
   have g3:decide ((m:Int) < (n:Int))=false:=decide_eq_false (by omega);have g4:decide (m < n)=false:=decide_eq_false hm;simp only [Hq] at h;rw [if_neg (by omega)] at h;simp only [Prod.mk.injEq,hst] at h;obtain ⟨rfl,rfl,rfl⟩:=h;have HF:=ah.mk (Zi.out.put (s':=st) (x':=0) (y':=0) (Nat.le_of_eq oW.out.symm));clear hH;go_wp2_with fail
   refine leaves_cons (f:=69) (args:=#[.pointer (some ⟨H,0,none⟩),.pointer (some ⟨H+1,0,none⟩),.pointer (some ⟨H+1+1,0,none⟩)]) (by simp) (by simp [go_sem]) ?_;refine (Ct _ _ _ _).mono ?_;rintro e u' w'' ⟨rfl,rfl,rfl⟩
   simp only [Leaves,settle];exact ⟨_,xG _ HF.out.b0 HF.out.b1 HF.out.b2 rfl rfl rfl,rfl,by rw [oW.out];exact HF.out.bl⟩
end Go.Proofs.YtkkpjonfaflkmaaGreatDoor.T
namespace Go.Proofs.YtkkpjonfaflkmaaGreatDoor.T
open Go.RowKit Go.Proofs.aj.aI Go.Proofs.aj.aY Go.Proofs.aj.bq
theorem Ve {W:World} {base:Nat} {ok:Nat->Prop} (xs:List ByteArray):dz (Kd.string.M W base ok) 1 xs (xs.map Value.string):=by
 refine ⟨by rw [List.length_map,Nat.mul_one],fun j p hj=>?_⟩;have hjl:j < (xs.map Value.string).length:=by rw [List.length_map];exact (List.getElem?_eq_some_iff.1 hj).1
 have e:((xs.map Value.string).drop (j*1)).take 1=[.string p]:=by
  rw [Nat.mul_one,List.drop_eq_getElem_cons hjl];have:(xs.map Value.string)[j]=.string p:=by
   have h1:(xs.map Value.string)[j]?=some (.string p):=by rw [List.getElem?_map,hj];rfl
   rw [List.getElem?_eq_getElem hjl] at h1;exact Option.some.inj h1
  simp [this]
 rw [e];exact rfl
def strings_Split.f (a0 a1:ByteArray):Option (List ByteArray):=if a0.size<=100000/\1<=a1.size then some (Lib.splitB a1 0 (Lib.countB a0 a1) a0) else none
theorem strings_Split.calls (a0 a1:ByteArray) (r:List ByteArray) (w:World) (hT:dR w) (h:strings_Split.f a0 a1=some r) :
  Calls Tryz.prog 62 #[.string a0,.string a1] w fun e w'=>∃ v0:Value,e=.returned v0/\Kd.R Kd.string 9 w' w.heap.size (fun _=>True) v0 r/\Below w.heap.size w w':=by
 unfold strings_Split.f at h;split at h
 ·next hc =>
  have h:=Option.some.inj h;subst h;obtain ⟨m,hm⟩:=hT.most;refine (Tryz.strings_Split a0 a1 m w (by omega) hm hc.2).mono ?_;rintro e w' ⟨rfl,rfl⟩
  have hl:=Lib.splitB_all a1 hc.2 0 (Lib.countB a0 a1) a0 rfl;have hn:=heap_alloc_new w (.cells ((Lib.splitB a1 0 (Lib.countB a0 a1) a0).map Value.string).toArray 9);have hcb:Lib.countB a0 a1+1<=maxLen:=by
   have:=Lib.countB_le a1 hc.2 a0.size a0 (Nat.le_refl _);unfold maxLen;omega
  generalize Lib.splitB a1 0 (Lib.countB a0 a1) a0=xs at *;have ho:(w.alloc (.cells (xs.map Value.string).toArray 9)).ownsRow w.heap.size 9 1 (.slice (some ⟨w.heap.size,0,none⟩) (Lib.countB a0 a1+1) (Lib.countB a0 a1+1)) xs.length (xs.map Value.string):=by
   refine ⟨by rw [List.length_map,Nat.mul_one],.inr ⟨w.heap.size,Lib.countB a0 a1+1,_,by rw [hl],Nat.le_refl _,hn,by rw [hl];exact Nat.le_refl _,hcb,by simp [hl],?_⟩⟩;rw [Nat.mul_one,List.take_of_length_le (by simp)]
  exact ⟨_,rfl,⟨fun _ _=>trivial,xs.map Value.string,ho,Ve _⟩,av (Below.refl _ _) _⟩
 ·cases h
end Go.Proofs.YtkkpjonfaflkmaaGreatDoor.T
namespace Go.Proofs.YtkkpjonfaflkmaaGreatDoor.T
open Go.RowKit Go.Proofs.aj.aI Go.Proofs.aj.aY Go.Proofs.aj.bq
attribute [local go_sem] eY eZ gH gI dV dW fq fu
def rP.f (a0:ByteArray):Option (ByteArray × List ByteArray × Int):=(iN.f a0).bind fun qy=>(if qy.2.2=0 then (if qy.2.1=3 then (some (qy.1,([]:List ByteArray),0)) else (if qy.2.1=4 then ((strings_Cut.f qy.1 (⟨#[46]⟩:ByteArray)).bind fun tT=>(if tT.1.size+1<=9223372036854775807 then ((strings_Split.f tT.2.1 (⟨#[46]⟩:ByteArray)).bind fun Dm=>(some (tT.1++(⟨#[46]⟩:ByteArray),Dm,0))) else (none))) else (some ((⟨#[]⟩:ByteArray),([]:List ByteArray),2)))) else (some ((⟨#[]⟩:ByteArray),([]:List ByteArray),qy.2.2)))
set_option maxHeartbeats 8000000 in
set_option maxRecDepth 100000 in
theorem rP.calls (a0:ByteArray) (r1:ByteArray) (r2:List ByteArray) (r3:Int) (w:World) (hT:dR w) (h:rP.f a0=some (r1,r2,r3)) :
  Calls Tryz.prog 27 #[.string a0] w fun e w'=>∃ v1_:Value,e=.returned (.tuple #[.string r1,v1_,.int .i64 r3])/\Kd.R Kd.string 9 w' w.heap.size (fun _=>True) v1_ r2/\Below w.heap.size w w':=by
 have HB:=ah.mk (Below.refl w.heap.size w);have H:((iN.f a0).bind fun qy=>(if qy.2.2=0 then (if qy.2.1=3 then (some (qy.1,([]:List ByteArray),0)) else (if qy.2.1=4 then ((strings_Cut.f qy.1 (⟨#[46]⟩:ByteArray)).bind fun tT=>(if tT.1.size+1<=9223372036854775807 then ((strings_Split.f tT.2.1 (⟨#[46]⟩:ByteArray)).bind fun Dm=>(some (tT.1++(⟨#[46]⟩:ByteArray),Dm,0))) else (none))) else (some ((⟨#[]⟩:ByteArray),([]:List ByteArray),2)))) else (some ((⟨#[]⟩:ByteArray),([]:List ByteArray),qy.2.2))))=some (r1,r2,r3):=h;clear h;replace H:=Option.bind_eq_some_iff.mp H;obtain ⟨⟨Kg,uL,t138⟩,EY,H⟩:=H;replace H:(if t138=0 then (if uL=3 then (some (Kg,([]:List ByteArray),0)) else (if uL=4 then ((strings_Cut.f Kg (⟨#[46]⟩:ByteArray)).bind fun tT=>(if tT.1.size+1<=9223372036854775807 then ((strings_Split.f tT.2.1 (⟨#[46]⟩:ByteArray)).bind fun Dm=>(some (tT.1++(⟨#[46]⟩:ByteArray),Dm,0))) else (none))) else (some ((⟨#[]⟩:ByteArray),([]:List ByteArray),2)))) else (some ((⟨#[]⟩:ByteArray),([]:List ByteArray),t138)))=some (r1,r2,r3):=H;have A2:=ah.mk EY;clear EY;by_cases c3:t138=0
 rotate_left
 ·rw [if_neg c3] at H
  have nH:(t138==0)=false:=beq_eq_false_iff_ne.mpr c3;have zN:(t138 != 0)=true:=bne_iff_ne.mpr c3;simp only [Option.some.injEq,Prod.mk.injEq] at H;obtain ⟨rfl,rfl,rfl⟩:=H;go_enter Tryz.func27,Tryz.ntmps27
  go_wp2_with (first | ((with_reducible refine aQ (f:=25) rfl ?_);refine bL (some 13) rfl rfl Tryz.func25 (by kernel_rfl) rfl #[.string a0] rfl (by (try simp only [List.map_toArray,List.map_cons,List.map_nil]);first | done | rfl) ?_;(with_reducible refine (iN.calls a0 Kg uL t138 _ A2.out).mono ?_);rintro e VA ⟨rfl,hb⟩;refine ⟨_,rfl,?_⟩;have bY:=ah.mk (aX (by with_reducible repeat (first | exact HB.out | apply av | apply ak | apply ay)) hb);clear HB;have HB:=bY;clear bY;(try clear hb);(try clear hb2);(try clear hk);(try clear hi)))
  go_ret3
  exact ⟨_,by first | rfl | (simp [aJ,aK]<;>rfl) | (simp [*,aJ,aK]<;>rfl),by first | exact Kd.nG _ _ _ _ _ | exact Kd.pJ _ _ _ _ _ | exact Kd.rX _ _ _ _ _ | exact Kd.rU _ _ _ _ _ | exact Kd.rW _ _ _ _ _,by with_reducible repeat (first | exact HB.out | apply av | apply ak | apply ay)⟩
 rw [if_pos c3] at H;have nH:(t138==0)=true:=beq_iff_eq.mpr c3;have zN:(t138 != 0)=false:=bne_eq_false_iff_eq.mpr c3;clear c3;by_cases c4:uL=3
 ·rw [if_pos c4] at H
  have kP:(uL==3)=true:=beq_iff_eq.mpr c4;have CW:(uL != 3)=false:=bne_eq_false_iff_eq.mpr c4;clear c4;simp only [Option.some.injEq,Prod.mk.injEq] at H;obtain ⟨rfl,rfl,rfl⟩:=H;go_enter Tryz.func27,Tryz.ntmps27
  go_wp2_with (first | ((with_reducible refine aQ (f:=25) rfl ?_);refine bL (some 13) rfl rfl Tryz.func25 (by kernel_rfl) rfl #[.string a0] rfl (by (try simp only [List.map_toArray,List.map_cons,List.map_nil]);first | done | rfl) ?_;(with_reducible refine (iN.calls a0 Kg uL t138 _ A2.out).mono ?_);rintro e w5 ⟨rfl,hb⟩;refine ⟨_,rfl,?_⟩;have bY:=ah.mk (aX (by with_reducible repeat (first | exact HB.out | apply av | apply ak | apply ay)) hb);clear HB;have HB:=bY;clear bY;(try clear hb);(try clear hb2);(try clear hk);(try clear hi)))
  go_ret3
  exact ⟨_,by first | rfl | (simp [aJ,aK]<;>rfl) | (simp [*,aJ,aK]<;>rfl),by first | exact Kd.nG _ _ _ _ _ | exact Kd.pJ _ _ _ _ _ | exact Kd.rX _ _ _ _ _ | exact Kd.rU _ _ _ _ _ | exact Kd.rW _ _ _ _ _,by with_reducible repeat (first | exact HB.out | apply av | apply ak | apply ay)⟩
 rw [if_neg c4] at H;have kP:(uL==3)=false:=beq_eq_false_iff_ne.mpr c4;have CW:(uL != 3)=true:=bne_iff_ne.mpr c4;by_cases c6:uL=4
 rotate_left
 ·rw [if_neg c6] at H
  have lJ:(uL==4)=false:=beq_eq_false_iff_ne.mpr c6;have BA:(uL != 4)=true:=bne_iff_ne.mpr c6;simp only [Option.some.injEq,Prod.mk.injEq] at H;obtain ⟨rfl,rfl,rfl⟩:=H;go_enter Tryz.func27,Tryz.ntmps27
  go_wp2_with (first | ((with_reducible refine aQ (f:=25) rfl ?_);refine bL (some 13) rfl rfl Tryz.func25 (by kernel_rfl) rfl #[.string a0] rfl (by (try simp only [List.map_toArray,List.map_cons,List.map_nil]);first | done | rfl) ?_;(with_reducible refine (iN.calls a0 Kg uL t138 _ A2.out).mono ?_);rintro e ZT ⟨rfl,hb⟩;refine ⟨_,rfl,?_⟩;have bY:=ah.mk (aX (by with_reducible repeat (first | exact HB.out | apply av | apply ak | apply ay)) hb);clear HB;have HB:=bY;clear bY;(try clear hb);(try clear hb2);(try clear hk);(try clear hi)))
  go_ret3
  exact ⟨_,by first | rfl | (simp [aJ,aK]<;>rfl) | (simp [*,aJ,aK]<;>rfl),by first | exact Kd.nG _ _ _ _ _ | exact Kd.pJ _ _ _ _ _ | exact Kd.rX _ _ _ _ _ | exact Kd.rU _ _ _ _ _ | exact Kd.rW _ _ _ _ _,by with_reducible repeat (first | exact HB.out | apply av | apply ak | apply ay)⟩
 rw [if_pos c6] at H;have lJ:(uL==4)=true:=beq_iff_eq.mpr c6;have BA:(uL != 4)=false:=bne_eq_false_iff_eq.mpr c6;clear c6;replace H:=Option.bind_eq_some_iff.mp H;obtain ⟨⟨t139,Zj,t141⟩,RJ,H⟩:=H;replace H:(if t139.size+1<=9223372036854775807 then ((strings_Split.f Zj (⟨#[46]⟩:ByteArray)).bind fun Dm=>(some (t139++(⟨#[46]⟩:ByteArray),Dm,0))) else (none))=some (r1,r2,r3):=H;have A7:=ah.mk RJ;clear RJ;by_cases c8:t139.size+1<=9223372036854775807
 rotate_left
 ·rw [if_neg c8] at H
  exact absurd H (by simp)
 rw [if_pos c8] at H;have zO:=eq_true c8;have Iu:decide (t139.size+1<=9223372036854775807)=true:=decide_eq_true c8;try have amu:(9223372036854775807 < t139.size+1)=False:=eq_false (Nat.not_lt.2 c8)
 replace H:=Option.bind_eq_some_iff.mp H;obtain ⟨Dm,RF,H⟩:=H;replace H:(some (t139++(⟨#[46]⟩:ByteArray),Dm,0))=some (r1,r2,r3):=H;have A9:=ah.mk RF;clear RF;simp only [Option.some.injEq,Prod.mk.injEq] at H;obtain ⟨rfl,rfl,rfl⟩:=H;go_enter Tryz.func27,Tryz.ntmps27
 go_wp2_with (first | ((with_reducible refine aQ (f:=25) rfl ?_);refine bL (some 13) rfl rfl Tryz.func25 (by kernel_rfl) rfl #[.string a0] rfl (by (try simp only [List.map_toArray,List.map_cons,List.map_nil]);first | done | rfl) ?_;(with_reducible refine (iN.calls a0 Kg uL t138 _ A2.out).mono ?_);rintro e Ij ⟨rfl,hb⟩;refine ⟨_,rfl,?_⟩;have bY:=ah.mk (aX (by with_reducible repeat (first | exact HB.out | apply av | apply ak | apply ay)) hb);clear HB;have HB:=bY;clear bY;(try clear hb);(try clear hb2);(try clear hk);(try clear hi)) | ((with_reducible refine aQ (f:=61) rfl ?_);refine bL (some 30) rfl rfl Tryz.func61 (by kernel_rfl) rfl #[.string Kg,.string (⟨#[46]⟩:ByteArray)] rfl (by (try simp only [List.map_toArray,List.map_cons,List.map_nil]);first | done | rfl) ?_;(with_reducible refine (strings_Cut.calls Kg (⟨#[46]⟩:ByteArray) t139 Zj t141 _ (dR.of_below hT (by with_reducible repeat (first | exact HB.out | apply av | apply ak | apply ay))) A7.out).mono ?_);rintro e w' ⟨rfl,⟨nd,rfl⟩⟩;refine ⟨_,rfl,?_⟩) | ((with_reducible refine aQ (f:=62) rfl ?_);refine bL (some 37) rfl rfl Tryz.func62 (by kernel_rfl) rfl #[.string Zj,.string (⟨#[46]⟩:ByteArray)] rfl (by (try simp only [List.map_toArray,List.map_cons,List.map_nil]);first | done | rfl) ?_;(with_reducible refine (strings_Split.calls Zj (⟨#[46]⟩:ByteArray) Dm _ (dR.of_below hT (by with_reducible repeat (first | exact HB.out | apply av | apply ak | apply ay))) A9.out).mono ?_);rintro e w11 ⟨v143,rfl,ho0,hb⟩;refine ⟨_,rfl,?_⟩;have bY:=ah.mk (Kd.nZ ho0 (bG (by with_reducible repeat (first | exact HB.out | apply av | apply ak | apply ay))));have dO:=ah.mk (aX (by with_reducible repeat (first | exact HB.out | apply av | apply ak | apply ay)) hb);clear HB;have afP:=bY;have HB:=dO;clear bY dO;(try clear hb);(try clear hb2);(try clear hk);(try clear hi);(try clear ho0)))
 go_ret3
 exact ⟨_,by first | rfl | (simp [aJ,aK]<;>rfl) | (simp [*,aJ,aK]<;>rfl),by (with_reducible repeat (first | apply Kd.cO | apply Kd.cB | apply Kd.dF));exact afP.out,by with_reducible repeat (first | exact HB.out | apply av | apply ak | apply ay)⟩
end Go.Proofs.YtkkpjonfaflkmaaGreatDoor.T
namespace Go.Proofs.YtkkpjonfaflkmaaGreatDoor.T
open Go.RowKit Go.Maps Go.Proofs.aj.aI Go.Proofs.aj.aY Go.Proofs.aj.bq
attribute [local go_sem] Oper.semAt_some
def MO (G:Nat->Prop) (W:World) (hs:List Value) (cls:List (List S.Tk)):Prop :=
 hs.length=cls.length/\∀ (j:Nat) (h:Value) (c:List S.Tk),hs[j]?=some h->cls[j]?=some c->∃ g cs,h=.slice (some ⟨g,0,none⟩) c.length c.length/\G g/\W.heap[g]?=some (.cells cs 53 (0,0))/\cs.toList.take (c.length*6)=dG c/\c.length<=300000
structure ClI (w0:World) (H:Nat) (rd:Loop) (v:Value) (hs:List Value) (G:Nat->Prop) (pre:List (List S.Tk)) (W:World):Prop where
 out:W.heap[H]?=some (.cells #[v] 31 (0,0))
 dfr:W.heap[H+4]?=some (.deferred (some []))
 lop:W.heap[H+5]?=some (.loop rd)
 own:W.ownsRow (H+6) 24 1 v hs.length hs
 els:MO G W hs (pre.map List.dropLast)
 one:∀ u∈hs,u.oneCell'=true
 pne:pre.length<=pre.flatten.length
 gs:∀ g,G g->H<=g/\g < W.heap.size/\v.ownBlock≠some g/\g≠H/\g≠H+4/\g≠H+5
 below:Below H w0 W
def oZ (H:Nat) (v:Value) (G:Nat->Prop) (k:Nat):Prop:=k < H\/k=H\/k=H+4\/k=H+5\/v.ownBlock=some k\/G k
def ClJ (w0:World) (H:Nat) (rd:Loop) (pre:List (List S.Tk)) (F:Nat->Prop) (W:World):Prop:=∃ v hs G,F=oZ H v G/\ClI w0 H rd v hs G pre W
theorem MO.keep {G:Nat->Prop} {W W':World} {hs:List Value} {cls:List (List S.Tk)} (h:MO G W hs cls) (hk:∀ g,G g->g < W.heap.size->W'.heap[g]?=W.heap[g]?):MO G W' hs cls :=
 ⟨h.1,fun j u c hu hc=>by
  obtain ⟨g,cs,e1,e2,e3,e4⟩:=h.2 j u c hu hc;exact ⟨g,cs,e1,e2,(hk g e2 (Array.getElem?_eq_some_iff.1 e3).1).trans e3,e4⟩⟩
theorem ClI.lw {w0:World} {H:Nat} {rd:Loop} {v:Value} {hs:List Value} {G:Nat->Prop} {pre:List (List S.Tk)} {W:World} (h:ClI w0 H rd v hs G pre W):H+5 < W.heap.size:=(Array.getElem?_eq_some_iff.1 h.lop).1
theorem qA {W W':World} {e base n size:Nat} {v:Value} {xs:List Value} {A:Nat->Prop} (h:W.ownsRow base e size v n xs) (hb:But A W W') (hA:∀ k,A k->v.ownBlock≠some k):W'.ownsRow base e size v n xs:=by
 obtain ⟨h1,h2⟩:=h;refine ⟨h1,h2.imp id ?_⟩;rintro ⟨g,cap,cur,hv,hbg,hg,rest⟩
 have hlt:g < W.heap.size:=(Array.getElem?_eq_some_iff.1 hg).1;exact ⟨g,cap,cur,hv,hbg,(hb.block g hlt (fun e=>hA g e (by rw [hv];rfl))).trans hg,rest⟩
theorem ClI.keep {w0:World} {H:Nat} {rd:Loop} {v:Value} {hs:List Value} {G:Nat->Prop} {pre:List (List S.Tk)} {W W':World} (h:ClI w0 H rd v hs G pre W) (hb:But (fun k=>¬ oZ H v G k) W W'):ClI w0 H rd v hs G pre W':=by
 have VE:=h.lw;have hk:∀ k,oZ H v G k->k < W.heap.size->W'.heap[k]?=W.heap[k]?:=fun k hf hl=>hb.block k hl (fun e=>e hf)
 exact ⟨(hk H (.inr (.inl rfl)) (by omega)).trans h.out,(hk _ (.inr (.inr (.inl rfl))) (by omega)).trans h.dfr,(hk _ (.inr (.inr (.inr (.inl rfl)))) (by omega)).trans h.lop,qA h.own hb (fun k e e2=>e (.inr (.inr (.inr (.inr (.inl e2)))))),
  h.els.keep (fun g hg hl=>hk g (.inr (.inr (.inr (.inr (.inr hg))))) hl),h.one,h.pne,fun g hg=>by obtain ⟨a,b,c⟩:=h.gs g hg;exact ⟨a,Nat.lt_of_lt_of_le b hb.size,c⟩,h.below.trans (hb.jS (by omega) (fun k hk e=>e (.inl hk)))⟩
theorem Zk {WB w1:World} {OB t:Nat} {cs:Array Value} {vo:Value} (hg:WB.grownBy w1 vo.ownBlock) (h:WB.heap[OB]?=some (.cells cs t (0,0))) (hne:∀ k,vo.ownBlock=some k->k≠OB):w1.heap[OB]?=some (.cells cs t (0,0)) :=
 (hg.block OB (Array.getElem?_eq_some_iff.1 h).1 (fun e=>hne OB e.symm rfl)).trans h
theorem ClI.next {w0:World} {H g2 c2:Nat} {rd rb:Loop} {v v':Value} {hs:List Value} {G:Nat->Prop} {pre:List (List S.Tk)} {cl:List S.Tk} {base:Nat} {W X w1:World} (h:ClI w0 H rd v hs G pre W) (hne:cl≠[]) (hrow:W.ownsRow base 53 6 (.slice (some ⟨g2,0,none⟩) cl.length c2) cl.length (dG cl))
  (FJ:∀ k,oZ H v G k->k≠g2) (hcl:cl.length<=300000) (hX:But (fun _=>False) (W.putObj (H+5) (.loop rb)) X)
  (ho:w1.ownsRow (H+6) 24 1 v' (hs.length+1) (hs++[.slice (some ⟨g2,0,none⟩) (cl.length - 1) (cl.length - 1)])) (hg:X.grownBy w1 v.ownBlock) (hv:v'.ownBlock=v.ownBlock\/v'.ownBlock=some X.heap.size) :
  (w1.setCell ⟨H,0,none⟩ v').heap[H+5]?=some (.loop rb)/\(ClJ w0 H rd (pre++[cl]) (oZ H v' (fun k=>G k\/k=g2)) ((w1.setCell ⟨H,0,none⟩ v').putObj (H+5) (.loop rd))/\But (oZ H v G) W ((w1.setCell ⟨H,0,none⟩ v').putObj (H+5) (.loop rd))/\∀ k,oZ H v' (fun k=>G k\/k=g2) k->oZ H v G k\/W.heap.size<=k\/k=g2):=by
 have VE:=h.lw;have hge:∀ k,v.ownBlock=some k->H+6<=k:=fun k e=>(h.own.lt k e).1
 have hge':∀ k,v'.ownBlock=some k->H+6<=k:=fun k e=>(ho.lt k e).1
 have hpl:(W.putObj (H+5) (.loop rb)).heap.size=W.heap.size:=World.putObj_size;have b1:But (fun k=>k=H+5\/k=H\/v.ownBlock=some k) W (W.putObj (H+5) (.loop rb)):=(But.refl (fun k=>k=H+5\/k=H\/v.ownBlock=some k) W).putObj _ _ (.inl rfl);have b1x:=b1.trans hX (C:=fun k=>k=H+5\/k=H\/v.ownBlock=some k) (fun _ _ e=>e) (fun _ _ e=>e.elim);have b2:=b1x.grown hg (fun k e=>.inr (.inr e));have b3:=b2.set ⟨H,0,none⟩ v' (.inr (.inl rfl));have b4:=b3.putObj (H+5) (.loop rd) (.inl rfl);have hsX:W.heap.size<=X.heap.size:=b1x.size;have hs1:W.heap.size<=w1.heap.size:=b2.size;have hl1:w1.heap[H+5]?=some (.loop rb):=(hg.block (H+5) (by omega) (fun e=>by have:=hge _ e.symm;omega)).trans ((hX.block (H+5) (by rw [hpl];omega) (fun e=>e)).trans (World.putObj_heap_same (by omega)));have hl2:(w1.setCell ⟨H,0,none⟩ v').heap[H+5]?=some (.loop rb):=(Below.heap_setCell _ ⟨H,0,none⟩ _ (H+5) (by show H+5≠H;omega)).trans hl1;have afQ:g2 < W.heap.size:=(hrow.lt g2 rfl).2;have hnx:∀ k,k≠H+5->k≠H->v.ownBlock≠some k->k < W.heap.size->((w1.setCell ⟨H,0,none⟩ v').putObj (H+5) (.loop rd)).heap[k]?=W.heap[k]?:=fun k a b c hl=>b4.block k hl (fun e=>by
  rcases e with e | e | e
  ·exact a e
  ·exact b e
  ·exact c e)
 have hv5:v.ownBlock≠some (H+4):=fun e=>by have:=hge _ e;omega
 have afR:v.ownBlock≠some g2:=fun e=>FJ g2 (.inr (.inr (.inr (.inr (.inl e))))) rfl
 have hd1:=fun e:g2=H=>FJ g2 (.inr (.inl e)) rfl
 have hd2:=fun e:g2=H+4=>FJ g2 (.inr (.inr (.inl e))) rfl
 have hd3:=fun e:g2=H+5=>FJ g2 (.inr (.inr (.inr (.inl e)))) rfl
 have hd4:H<=g2:=by
  rcases Nat.lt_or_ge g2 H with e | e
  ·exact absurd rfl (FJ g2 (.inl e))
  ·exact e
 refine ⟨hl2,⟨v',hs++[.slice (some ⟨g2,0,none⟩) (cl.length - 1) (cl.length - 1)],_,rfl,?_,(hnx (H+4) (by omega) (by omega) hv5 (by omega)).trans h.dfr,World.putObj_heap_same (Array.getElem?_eq_some_iff.1 hl2).1,?_,?_,?_,?_,?_,h.below.trans (b4.jS (by omega) (fun k hk e=>by rcases e with e | e | e;omega;omega;have:=hge k e;omega))⟩,b4.mono (fun k _ e=>?_),fun k hk=>?_⟩
 ·refine (World.putObj_heap_other (by omega)).trans ?_
  exact aW (cs:=#[v]) ((hg.block H (by omega) (fun e=>by have:=hge _ e.symm;omega)).trans ((hX.block H (by rw [hpl];omega) (fun e=>e)).trans ((World.putObj_heap_other (by omega)).trans h.out))) 0 _ rfl
 ·rw [List.length_append]
  refine qA ho (((But.refl (fun k=>k=H\/k=H+5) w1).set ⟨H,0,none⟩ v' (.inl rfl)).putObj (H+5) (.loop rd) (.inr rfl)) (fun k e e2=>?_);have:=hge' k e2;omega
 ·refine ⟨by rw [List.length_append,List.map_append,List.length_append,h.els.1];rfl,fun j u c hu hc=>?_⟩
  rw [List.map_append] at hc;rcases Nat.lt_or_ge j hs.length with hj | hj
  ·rw [List.getElem?_append_left hj] at hu
   rw [List.getElem?_append_left (by rw [<- h.els.1];exact hj)] at hc;obtain ⟨g,cs,e1,e2,e3,e4⟩:=h.els.2 j u c hu hc;obtain ⟨q1,q2,q3,q4,q5,q6⟩:=h.gs g e2;exact ⟨g,cs,e1,.inl e2,(hnx g q6 q4 q3 q2).trans e3,e4⟩
  ·rw [List.getElem?_append_right hj] at hu
   rw [List.getElem?_append_right (by rw [<- h.els.1];exact hj),<- h.els.1] at hc;have hj0:j - hs.length=0:=by
    rcases Nat.lt_or_ge 0 (j - hs.length) with e | e
    ·rw [List.getElem?_eq_none (by simp only [List.length_cons,List.length_nil];omega)] at hu;cases hu
    ·omega
   rw [hj0] at hu hc;simp only [List.getElem?_cons_zero,Option.some.injEq,List.map_cons,List.map_nil] at hu hc;subst hu hc;rcases hrow.2 with ⟨e,_⟩ | ⟨g,cap,cs,e,_,hgg,_,_,_,htk⟩
   ·cases e
   ·simp only [Value.slice.injEq,Option.some.injEq,Addr.mk.injEq,and_true,true_and] at e
    obtain ⟨rfl,rfl⟩:=e;refine ⟨g2,cs,by rw [List.length_dropLast],.inr rfl,(hnx g2 hd3 hd1 afR afQ).trans hgg,?_,by rw [List.length_dropLast];omega⟩;have e1:cl.dropLast=cl.take (cl.length - 1):=List.dropLast_eq_take;rw [List.length_dropLast,e1,<- DL,<- htk,List.take_take];congr 1
    have:=List.length_pos_iff.2 hne;omega
 ·intro u hu
  rcases List.mem_append.1 hu with e | e
  ·exact h.one u e
  ·rw [List.mem_singleton.1 e];rfl
 ·have:=h.pne
  have:=List.length_pos_iff.2 hne;simp only [List.flatten_append,List.flatten_cons,List.flatten_nil,List.append_nil,List.length_append,List.length_cons,List.length_nil];omega
 ·intro g hgg
  have amv:W.heap.size<=((w1.setCell ⟨H,0,none⟩ v').putObj (H+5) (.loop rd)).heap.size:=b4.size;have hnv:∀ k,k < W.heap.size->v.ownBlock≠some k->v'.ownBlock≠some k:=fun k hk hn e=>by
   rcases hv with hv | hv
   ·exact hn (by rw [<- hv,e])
   ·rw [hv] at e;cases e;omega
  rcases hgg with e | rfl
  ·obtain ⟨q1,q2,q3,q4,q5,q6⟩:=h.gs g e
   exact ⟨q1,by omega,hnv g q2 q3,q4,q5,q6⟩
  ·exact ⟨hd4,by omega,hnv _ afQ afR,hd1,hd2,hd3⟩
 ·rcases e with e | e | e
  ·exact .inr (.inr (.inr (.inl e)))
  ·exact .inr (.inl e)
  ·exact .inr (.inr (.inr (.inr (.inl e))))
 ·rcases hk with e | e | e | e | e | e
  ·exact .inl (.inl e)
  ·exact .inl (.inr (.inl e))
  ·exact .inl (.inr (.inr (.inl e)))
  ·exact .inl (.inr (.inr (.inr (.inl e))))
  ·rcases hv with hv | hv
   ·exact .inl (.inr (.inr (.inr (.inr (.inl (by rw [<- hv,e]))))))
   ·rw [hv] at e;cases e;exact .inr (.inl (by omega))
  ·rcases e with e | e
   ·exact .inl (.inr (.inr (.inr (.inr (.inr e)))))
   ·exact .inr (.inr e)
end Go.Proofs.YtkkpjonfaflkmaaGreatDoor.T
