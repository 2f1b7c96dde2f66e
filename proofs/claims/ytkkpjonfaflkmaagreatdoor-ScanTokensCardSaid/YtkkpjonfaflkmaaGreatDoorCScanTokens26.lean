/- For ScanTokens: its callees return what is said of them. -/
import Derived.Test.YtkkpjonfaflkmaaGreatDoorCScanTokens25
namespace Go.Proofs.YtkkpjonfaflkmaaGreatDoor.T
open Go.RowKit Go.Proofs.ah.aT Go.Proofs.ah.bn Go.Proofs.ah.bA
set_option linter.unusedSimpArgs false
set_option linter.unusedVariables false
attribute [local go_sem] Oper.semAt_some
theorem CO {P:Program} {fn:Func} {p q r:Tmp} {tp tq tr:TypeId} (h:fn.results=#[.cell p tp,.cell q tq,.cell r tr]) (tmps:Array Value) (w:World) (a b c:Addr) (u v x:Value)
  (hp:tmps.getD p undef=.pointer (some a)) (hq:tmps.getD q undef=.pointer (some b)) (hr:tmps.getD r undef=.pointer (some c)) (hu:(loadVar tp a).run P w=.ok u w) (hv:(loadVar tq b).run P w=.ok v w) (hx:(loadVar tr c).run P w=.ok x w) :
  (results fn tmps).run P w=.ok (.tuple #[u,v,x]) w:=by
 have hp':tmps[p]?.getD undef=.pointer (some a):=by simpa using hp
 have hq':tmps[q]?.getD undef=.pointer (some b):=by simpa using hq
 have hr':tmps[r]?.getD undef=.pointer (some c):=by simpa using hr
 simp [results,h,hp',hq',hr',asAddr,Sem.run_bind,hu,hv,hx,Result.andThen]
set_option maxRecDepth 100000 in
set_option maxHeartbeats 400000 in
theorem CP (p q r:Value) (W:World) :
  CallsD Tryz.prog 69 #[p,q,r] .returning W fun e u' W'=>e=.returned (.tuple #[])/\u'=.returning/\W'=W:=by
 refine callsD_of_wpS Tryz.func69 rfl fun c₀ cs hu=>?_
 simp only [Tryz.ntmps69,List.size_toArray,List.length_cons,List.length_nil,Nat.reduceAdd,Nat.reduceSub,Array.replicate_succ,Array.replicate_zero,List.push_toArray,List.append_toArray,List.nil_append,List.cons_append];apply wpS_seq
 apply wpS_region
 simp [wpOpsS,go_sem,recoverD,hu,Tryz.ntmps69,Exit.thenS]
 refine wpS_of_wp ?_;generalize hQ:(fun (e:Exit) (a':Act) (w':World)=>_)=Q;go_wp2;rw [<- hQ];refine ⟨rfl,.returning,?_,_,results_none rfl _ _ _,rfl,rfl,rfl⟩;rw [<- hu]
set_option maxRecDepth 100000 in
set_option maxHeartbeats 4000000 in
theorem Jg (c ln:Int) {A B C:Nat} {s0:ByteArray} {x0 y0:Int} (W:World) (hA:W.heap[A]?=some (.cells #[.string s0] 9 (0,0))) (hB:W.heap[B]?=some (.cells #[.int .i64 x0] 3 (0,0))) (hC:W.heap[C]?=some (.cells #[.int .i64 y0] 25 (0,0))) (hne:A≠B/\A≠C/\B≠C) :
  CallsD Tryz.prog 69 #[.pointer (some ⟨A,0,none⟩),.pointer (some ⟨B,0,none⟩),.pointer (some ⟨C,0,none⟩)] (.panicking [{ v:=fl c ln,recovered:=false }]) W fun e u' W' =>
   e=.returned (.tuple #[])/\u'=.panicking [{ v:=fl c ln,recovered:=true }]/\W'.heap[A]?=some (.cells #[.string ⟨#[]⟩] 9 (0,0))/\W'.heap[B]?=some (.cells #[.int .i64 c] 3 (0,0))/\W'.heap[C]?=some (.cells #[.int .i64 7] 25 (0,0))/\But (fun k=>k=A\/k=B\/k=C) W W':=by
 have HA:=aj.mk hA;have HB:=aj.mk hB;have HC:=aj.mk hC;have hta:∀ X:World,(Instr.typeAssert (.iface 76 (.agg #[.int .i64 c,.int .i64 ln])) 20 76 true).run Tryz.prog X=.ok (.tuple #[.agg #[.int .i64 c,.int .i64 ln],.bool true]) X:=fun X=>by kernel_rfl
 have TD:=Tryz.underlying76;clear hA hB hC;refine callsD_of_wpS Tryz.func69 rfl fun c₀ cs hu=>?_
 simp only [Tryz.ntmps69,List.size_toArray,List.length_cons,List.length_nil,Nat.reduceAdd,Nat.reduceSub,Array.replicate_succ,Array.replicate_zero,List.push_toArray,List.append_toArray,List.nil_append,List.cons_append];apply wpS_seq
 apply wpS_region
 simp [wpOpsS,go_sem,recoverD,hu,Tryz.ntmps69,Exit.thenS,fl]
 refine wpS_of_wp ?_;generalize hQ:(fun (e:Exit) (a':Act) (w':World)=>_)=Q;go_upto_region 5 with (fail)
 have hb1:But (fun _=>False) W (W.alloc (.cells #[.int .i64 c,.int .i64 ln] 76)):=(But.refl _ W).alloc _;have hn1:=heap_alloc_new W (.cells #[.int .i64 c,.int .i64 ln] 76);have hf1:∀ (k:Nat) (o:Obj),W.heap[k]?=some o->(W.alloc (.cells #[.int .i64 c,.int .i64 ln] 76)).heap[k]?=some o:=fun k o h=>(hb1.block k (Array.getElem?_eq_some_iff.1 h).1 (fun e=>e)).trans h
 have hA1:=hf1 _ _ HA.out;have hB1:=hf1 _ _ HB.out;have Sb:=hf1 _ _ HC.out;have hlt:A < W.heap.size/\B < W.heap.size/\C < W.heap.size:=⟨(Array.getElem?_eq_some_iff.1 HA.out).1,(Array.getElem?_eq_some_iff.1 HB.out).1,(Array.getElem?_eq_some_iff.1 HC.out).1⟩;obtain ⟨H,hH⟩:∃ H,W.heap.size=H:=⟨_,rfl⟩;rw [hH] at hn1 hlt |-
 have HB1:=aj.mk hb1;clear hf1 hta hH HA HB HC hb1;generalize W.alloc (.cells #[.int .i64 c,.int .i64 ln] 76)=W1 at *;have e0:W1.cell? ⟨H,0,none⟩=some (.int .i64 c):=(au hn1 0).trans rfl;have a0:W1.cell? ⟨A,0,none⟩=some (.string s0):=(au hA1 0).trans rfl;have b0:W1.cell? ⟨B,0,none⟩=some (.int .i64 x0):=(au hB1 0).trans rfl;have c0:W1.cell? ⟨C,0,none⟩=some (.int .i64 y0):=(au Sb 0).trans rfl;have fa:=aA hA1 0;have fb:=aA hB1 0;have fc:=aA Sb 0;obtain ⟨n1,n2,n3⟩:=hne;obtain ⟨l1,l2,l3⟩:=hlt;have hfin:aj ((((W1.setCell ⟨A,0,none⟩ (.string ⟨#[]⟩)).setCell ⟨B,0,none⟩ (.int .i64 c)).setCell ⟨C,0,none⟩ (.int .i64 7)).heap[A]?=some (.cells #[.string ⟨#[]⟩] 9 (0,0))/\(((W1.setCell ⟨A,0,none⟩ (.string ⟨#[]⟩)).setCell ⟨B,0,none⟩ (.int .i64 c)).setCell ⟨C,0,none⟩ (.int .i64 7)).heap[B]?=some (.cells #[.int .i64 c] 3 (0,0)) /\
   (((W1.setCell ⟨A,0,none⟩ (.string ⟨#[]⟩)).setCell ⟨B,0,none⟩ (.int .i64 c)).setCell ⟨C,0,none⟩ (.int .i64 7)).heap[C]?=some (.cells #[.int .i64 7] 25 (0,0))/\But (fun k=>k=A\/k=B\/k=C) W (((W1.setCell ⟨A,0,none⟩ (.string ⟨#[]⟩)).setCell ⟨B,0,none⟩ (.int .i64 c)).setCell ⟨C,0,none⟩ (.int .i64 7))):=⟨by
  have k1:(W1.setCell ⟨A,0,none⟩ (.string ⟨#[]⟩)).heap[A]?=some (.cells #[.string ⟨#[]⟩] 9 (0,0)):=aR hA1 0 _ rfl;have k2:(W1.setCell ⟨A,0,none⟩ (.string ⟨#[]⟩)).heap[B]?=some (.cells #[.int .i64 x0] 3 (0,0)):=(Below.heap_setCell _ ⟨A,0,none⟩ _ B (by show B≠A;omega)).trans hB1;have k3:(W1.setCell ⟨A,0,none⟩ (.string ⟨#[]⟩)).heap[C]?=some (.cells #[.int .i64 y0] 25 (0,0)):=(Below.heap_setCell _ ⟨A,0,none⟩ _ C (by show C≠A;omega)).trans Sb;have k4:=aR k2 0 (.int .i64 c) rfl;have k5:=(Below.heap_setCell (W1.setCell ⟨A,0,none⟩ (.string ⟨#[]⟩)) ⟨B,0,none⟩ (.int .i64 c) A (by show A≠B;omega)).trans k1;have k6:=(Below.heap_setCell (W1.setCell ⟨A,0,none⟩ (.string ⟨#[]⟩)) ⟨B,0,none⟩ (.int .i64 c) C (by show C≠B;omega)).trans k3;refine ⟨(Below.heap_setCell _ ⟨C,0,none⟩ _ A (by show A≠C;omega)).trans k5,(Below.heap_setCell _ ⟨C,0,none⟩ _ B (by show B≠C;omega)).trans k4,aR k6 0 _ rfl,?_⟩;exact ((((HB1.out.mono (fun _ _ e=>e.elim)).set _ _ (.inl rfl)).set _ _ (.inr (.inl rfl))).set _ _ (.inr (.inr rfl)))⟩
 clear hA1 hB1 Sb hn1;go_region
 all_goals go_wp2
 all_goals rw [<- hQ]
 all_goals obtain ⟨f1,f2,f3,f4⟩:=hfin.out
 all_goals first
  | exact ⟨rfl,_,rfl,_,results_none rfl _ _ _,rfl,rfl,f1,f2,f3,f4⟩
  | exact ⟨rfl,_,rfl,_,results_none rfl _ _ _,rfl,rfl,f1,f2,f3,f4.drew⟩
def Gb (a0:ByteArray):S.TR->ByteArray × Int × Int
 | .err c=>(⟨#[]⟩,c,7)
 | .ok t n=>if n < a0.size then (⟨#[]⟩,0,2) else (strOfNums t,0,0)
def pQ.f (a0:ByteArray):Option (ByteArray × Int × Int) :=
 if 100000 < a0.size then none
 else if a0.size=0\/(bt a0 0≠39/\bt a0 0≠34) then some (⟨#[]⟩,0,2) else some (Gb a0 (S.fZ (bytesOf a0)))
theorem yC {W:World} {H:Nat} {s:ByteArray} {x y:Int} (tmps:Array Value) (h0:W.heap[H]?=some (.cells #[.string s] 9 (0,0))) (h1:W.heap[H+1]?=some (.cells #[.int .i64 x] 3 (0,0))) (h2:W.heap[H+1+1]?=some (.cells #[.int .i64 y] 25 (0,0)))
  (t2:tmps.getD 2 undef=.pointer (some ⟨H,0,none⟩)) (t3:tmps.getD 3 undef=.pointer (some ⟨H+1,0,none⟩)) (t4:tmps.getD 4 undef=.pointer (some ⟨H+1+1,0,none⟩)) :
  (results Tryz.f32 tmps).run Tryz.prog W=.ok (.tuple #[.string s,.int .i64 x,.int .i64 y]) W:=by
 have e0:W.cell? ⟨H,0,none⟩=some (.string s):=(au h0 0).trans rfl;have e1:W.cell? ⟨H+1,0,none⟩=some (.int .i64 x):=(au h1 0).trans rfl;have e2:W.cell? ⟨H+1+1,0,none⟩=some (.int .i64 y):=(au h2 0).trans rfl;exact CO rfl _ _ _ _ _ _ _ _ t2 t3 t4 (by simp [go_sem,loadVar,e0]) (by simp [go_sem,loadVar,e1]) (by simp [go_sem,loadVar,e2])
structure Vb (w:World) (H:Nat) (s:ByteArray) (x y:Int) (W:World):Prop where
 b0:W.heap[H]?=some (.cells #[.string s] 9 (0,0))
 b1:W.heap[H+1]?=some (.cells #[.int .i64 x] 3 (0,0))
 b2:W.heap[H+1+1]?=some (.cells #[.int .i64 y] 25 (0,0))
 bl:Below H w W
theorem Vb.put {w:World} {H:Nat} {s s':ByteArray} {x y x' y':Int} {W:World} (h:Vb w H s x y W) (hw:H<=w.heap.size):Vb w H s' x' y' (((W.setCell ⟨H,0,none⟩ (.string s')).setCell ⟨H+1,0,none⟩ (.int .i64 x')).setCell ⟨H+1+1,0,none⟩ (.int .i64 y')):=by
 have k1:(W.setCell ⟨H,0,none⟩ (.string s')).heap[H]?=some (.cells #[.string s'] 9 (0,0)):=aR h.b0 0 _ rfl;have k2:(W.setCell ⟨H,0,none⟩ (.string s')).heap[H+1]?=some (.cells #[.int .i64 x] 3 (0,0)):=(Below.heap_setCell _ ⟨H,0,none⟩ _ (H+1) (by show H+1≠H;omega)).trans h.b1;have k3:(W.setCell ⟨H,0,none⟩ (.string s')).heap[H+1+1]?=some (.cells #[.int .i64 y] 25 (0,0)):=(Below.heap_setCell _ ⟨H,0,none⟩ _ (H+1+1) (by show H+1+1≠H;omega)).trans h.b2;have k4:=aR k2 0 (.int .i64 x') rfl;have k5:=(Below.heap_setCell (W.setCell ⟨H,0,none⟩ (.string s')) ⟨H+1,0,none⟩ (.int .i64 x') H (by show H≠H+1;omega)).trans k1;have k6:=(Below.heap_setCell (W.setCell ⟨H,0,none⟩ (.string s')) ⟨H+1,0,none⟩ (.int .i64 x') (H+1+1) (by show H+1+1≠H+1;omega)).trans k3;refine ⟨(Below.heap_setCell _ ⟨H+1+1,0,none⟩ _ H (by show H≠H+1+1;omega)).trans k5,(Below.heap_setCell _ ⟨H+1+1,0,none⟩ _ (H+1) (by show H+1≠H+1+1;omega)).trans k4,aR k6 0 _ rfl,?_⟩;have:But (fun k=>H<=k) W (((W.setCell ⟨H,0,none⟩ (.string s')).setCell ⟨H+1,0,none⟩ (.int .i64 x')).setCell ⟨H+1+1,0,none⟩ (.int .i64 y')):=(((But.refl _ W).set _ _ (Nat.le_refl H)).set _ _ (by show H<=H+1;omega)).set _ _ (by show H<=H+1+1;omega);exact h.bl.trans (this.ku (Nat.le_trans hw h.bl.size) (fun k hk e=>by omega))
theorem Vb.but {w:World} {H:Nat} {s:ByteArray} {x y:Int} {W W':World} {A:Nat->Prop} (h:Vb w H s x y W) (hb:But A W W') (hw:H<=w.heap.size) (hA:∀ k,A k->H+3<=k):Vb w H s x y W':=by
 have hk:∀ k (o:Obj),k < H+3->W.heap[k]?=some o->W'.heap[k]?=some o:=fun k o hk h=>(hb.block k (Array.getElem?_eq_some_iff.1 h).1 (fun e=>by have:=hA k e;omega)).trans h
 exact ⟨hk _ _ (by omega) h.b0,hk _ _ (by omega) h.b1,hk _ _ (by omega) h.b2,h.bl.trans (hb.ku (Nat.le_trans hw h.bl.size) (fun k hk e=>by have:=hA k e;omega))⟩
theorem Vb.akc {w:World} {H:Nat} {s s':ByteArray} {x y:Int} {W:World} (h:Vb w H s x y W) (hw:H<=w.heap.size):Vb w H s' x y (W.setCell ⟨H,0,none⟩ (.string s')):=by
 have:But (fun k=>H<=k) W (W.setCell ⟨H,0,none⟩ (.string s')):=(But.refl _ W).set _ _ (Nat.le_refl H);exact ⟨aR h.b0 0 _ rfl,(Below.heap_setCell _ ⟨H,0,none⟩ _ (H+1) (by show H+1≠H;omega)).trans h.b1,(Below.heap_setCell _ ⟨H,0,none⟩ _ (H+1+1) (by show H+1+1≠H;omega)).trans h.b2,h.bl.trans (this.ku (Nat.le_trans hw h.bl.size) (fun k hk e=>by omega))⟩
theorem aaq (w:World):Vb w w.heap.size ⟨#[]⟩ 0 0 (((w.alloc (.cells #[.string ⟨#[]⟩] 9)).alloc (.cells #[.int .i64 0] 3)).alloc (.cells #[.int .i64 0] 25))/\(((w.alloc (.cells #[.string ⟨#[]⟩] 9)).alloc (.cells #[.int .i64 0] 3)).alloc (.cells #[.int .i64 0] 25)).heap.size=w.heap.size+1+1+1:=by
 have s1:=World.size_alloc w (.cells #[.string ⟨#[]⟩] 9);have s2:=World.size_alloc (w.alloc (.cells #[.string ⟨#[]⟩] 9)) (.cells #[.int .i64 0] 3);have s3:=World.size_alloc ((w.alloc (.cells #[.string ⟨#[]⟩] 9)).alloc (.cells #[.int .i64 0] 3)) (.cells #[.int .i64 0] 25);have n1:=heap_alloc_new w (.cells #[.string ⟨#[]⟩] 9);have n2:=heap_alloc_new (w.alloc (.cells #[.string ⟨#[]⟩] 9)) (.cells #[.int .i64 0] 3);have n3:=heap_alloc_new ((w.alloc (.cells #[.string ⟨#[]⟩] 9)).alloc (.cells #[.int .i64 0] 3)) (.cells #[.int .i64 0] 25);have o1:=((But.refl (fun _=>False) (w.alloc (.cells #[.string ⟨#[]⟩] 9))).alloc (.cells #[.int .i64 0] 3)).block w.heap.size (by omega) (fun e=>e);have o2:=((But.refl (fun _=>False) ((w.alloc (.cells #[.string ⟨#[]⟩] 9)).alloc (.cells #[.int .i64 0] 3))).alloc (.cells #[.int .i64 0] 25)).block w.heap.size (by omega) (fun e=>e);have o3:=((But.refl (fun _=>False) ((w.alloc (.cells #[.string ⟨#[]⟩] 9)).alloc (.cells #[.int .i64 0] 3))).alloc (.cells #[.int .i64 0] 25)).block (w.heap.size+1) (by omega) (fun e=>e);rw [s1] at n2;rw [s2,s1] at n3;exact ⟨⟨o2.trans (o1.trans n1),o3.trans n2,n3,ay (ay (ay (Below.refl _ _) _) _) _⟩,by omega⟩
set_option maxRecDepth 100000 in
set_option maxHeartbeats 4000000 in
theorem pQ.calls (a0:ByteArray) (r1:ByteArray) (r2 r3:Int) (w:World) (h:pQ.f a0=some (r1,r2,r3)) :
  Calls Tryz.prog 32 #[.string a0] w fun e w'=>e=.returned (.tuple #[.string r1,.int .i64 r2,.int .i64 r3])/\Below w.heap.size w w':=by
 unfold pQ.f at h;have hmf:∀ (fn:Fn) (first cap:Array Value) (w:World),(Instr.makeFunc fn first cap).run Tryz.prog w=.ok (.func fn first cap) w:=fun _ _ _ _=>rfl
 by_cases hbig:100000 < a0.size
 ·rw [if_pos hbig] at h;cases h
 rw [if_neg hbig] at h;obtain ⟨v0,vs⟩:=aaq w;have zA:=aj.mk v0;have OZ:=aj.mk (uR a0);obtain ⟨n,hn⟩:∃ n,a0.size=n:=⟨_,rfl⟩;have hlb:(bytesOf a0).length=n:=by rw [bytesOf_length];exact hn
 by_cases h0:n=0
 ·rw [if_pos (.inl (hn.trans h0))] at h
  simp only [Option.some.injEq,Prod.mk.injEq] at h;obtain ⟨rfl,rfl,rfl⟩:=h;have he:(a0.toList==([]:List UInt8))=true:=by rw [OZ.out];exact decide_eq_true (List.length_eq_zero_iff.1 (hlb.trans h0))
  clear OZ hlb hn h0 hbig v0;go_enter_defers Tryz.func32,Tryz.ntmps32
  go_upto_region 1 with (fail)
  obtain ⟨H,hH⟩:∃ H,w.heap.size=H:=⟨_,rfl⟩;rw [hH] at zA vs |-
  generalize ((w.alloc (.cells #[.string ⟨#[]⟩] 9)).alloc (.cells #[.int .i64 0] 3)).alloc (.cells #[.int .i64 0] 25)=W0 at *;have a0c:W0.cell? ⟨H,0,none⟩=some (.string ⟨#[]⟩):=(au zA.out.b0 0).trans rfl;have b0c:W0.cell? ⟨H+1,0,none⟩=some (.int .i64 0):=(au zA.out.b1 0).trans rfl;have c0c:W0.cell? ⟨H+1+1,0,none⟩=some (.int .i64 0):=(au zA.out.b2 0).trans rfl;have fa:=aA zA.out.b0 0;have fb:=aA zA.out.b1 0;have fc:=aA zA.out.b2 0;have HF:=aj.mk (zA.out.put (s':=⟨#[]⟩) (x':=0) (y':=2) (Nat.le_of_eq hH.symm));go_wp2_with fail
  exact ⟨_,yC _ HF.out.b0 HF.out.b1 HF.out.b2 rfl rfl rfl,rfl,by rw [hH];exact HF.out.bl⟩
 have he:(a0.toList==([]:List UInt8))=false:=by rw [OZ.out];exact decide_eq_false (fun e=>h0 (by rw [<- hlb,e];rfl))
 have hl:0 < a0.size:=by omega
 have hx:((a0[0]'hl).toNat:Int)=bt a0 0:=by simp [bt,hl]
 by_cases hq:bt a0 0≠39/\bt a0 0≠34
 ·rw [if_pos (.inr hq)] at h
  simp only [Option.some.injEq,Prod.mk.injEq] at h;obtain ⟨rfl,rfl,rfl⟩:=h;generalize bt a0 0=y at hx hq;have g1:(y != 39)=true:=bne_iff_ne.2 hq.1;have g2:(y != 34)=true:=bne_iff_ne.2 hq.2;clear OZ hlb h0 hbig v0 hq;go_enter_defers Tryz.func32,Tryz.ntmps32
  go_upto_region 1 with (fail)
  obtain ⟨H,hH⟩:∃ H,w.heap.size=H:=⟨_,rfl⟩;rw [hH] at zA vs |-
  generalize ((w.alloc (.cells #[.string ⟨#[]⟩] 9)).alloc (.cells #[.int .i64 0] 3)).alloc (.cells #[.int .i64 0] 25)=W0 at *;have a0c:W0.cell? ⟨H,0,none⟩=some (.string ⟨#[]⟩):=(au zA.out.b0 0).trans rfl;have b0c:W0.cell? ⟨H+1,0,none⟩=some (.int .i64 0):=(au zA.out.b1 0).trans rfl;have c0c:W0.cell? ⟨H+1+1,0,none⟩=some (.int .i64 0):=(au zA.out.b2 0).trans rfl;have fa:=aA zA.out.b0 0;have fb:=aA zA.out.b1 0;have fc:=aA zA.out.b2 0;have HF:=aj.mk (zA.out.put (s':=⟨#[]⟩) (x':=0) (y':=2) (Nat.le_of_eq hH.symm));go_wp2_with fail
  exact ⟨_,yC _ HF.out.b0 HF.out.b1 HF.out.b2 rfl rfl rfl,rfl,by rw [hH];exact HF.out.bl⟩
 rw [if_neg (by rintro (e | e);omega;exact hq e)] at h;have h:=Option.some.inj h;generalize hy:bt a0 0=y at hx hq;have hor:y=39\/y=34:=by omega
 have SF:=Lib.hid (fun W m hW=>pJ.calls (w.heap.size+1+1+1) a0 m 0 1 W (by omega) (by omega) (by omega) hW);rw [List.drop_zero] at SF;clear OZ hlb h0 hbig v0 hq hy;cases hst:S.fZ (bytesOf a0) with
 | err c =>
  rw [hst] at h SF;simp only [Gb,Prod.mk.injEq] at h;obtain ⟨rfl,rfl,rfl⟩:=h;clear hst;rcases hor with rfl | rfl
  all_goals
   go_enter_defers Tryz.func32,Tryz.ntmps32
   go_upto_region 1 with (fail)
   obtain ⟨H,hH⟩:∃ H,w.heap.size=H:=⟨_,rfl⟩;rw [hH] at zA vs SF |-
   generalize ((w.alloc (.cells #[.string ⟨#[]⟩] 9)).alloc (.cells #[.int .i64 0] 3)).alloc (.cells #[.int .i64 0] 25)=W0 at *;have a0c:W0.cell? ⟨H,0,none⟩=some (.string ⟨#[]⟩):=(au zA.out.b0 0).trans rfl;have b0c:W0.cell? ⟨H+1,0,none⟩=some (.int .i64 0):=(au zA.out.b1 0).trans rfl;have c0c:W0.cell? ⟨H+1+1,0,none⟩=some (.int .i64 0):=(au zA.out.b2 0).trans rfl;have fa:=aA zA.out.b0 0;have fb:=aA zA.out.b1 0;have fc:=aA zA.out.b2 0;have hsc:Sc (H+1+1+1) a0 ((0:Nat):Int) ((1:Nat):Int) (.map none) (W0.alloc (.cells #[.string a0,.int .i64 0,.int .i64 1,.map none] 93)):=by
    have:=heap_alloc_new W0 (.cells #[.string a0,.int .i64 0,.int .i64 1,.map none] 93);rw [vs] at this;exact this
   have wP:=aj.mk hsc;have HVA:=aj.mk (zA.out.but (A:=fun k=>H+3<=k) ((But.refl _ W0).alloc (.cells #[.string a0,.int .i64 0,.int .i64 1,.map none] 93)) (Nat.le_of_eq hH.symm) (fun k e=>e));clear hsc a0c b0c c0c fa fb fc;go_wp2_with (go_at_call 70;refine (SF.out _ _ wP.out).mono ?_;rintro e w3 ⟨hb3,hp3⟩;obtain ⟨rfl,_⟩:=(show _/\_ from hp3);unfold Fails)
   have SI:=HVA.out.but hb3 (Nat.le_of_eq hH.symm) (fun k e=>by have:=show k=H+1+1+1 from e;omega);refine leaves_cons (f:=69) (args:=#[.pointer (some ⟨H,0,none⟩),.pointer (some ⟨H+1,0,none⟩),.pointer (some ⟨H+1+1,0,none⟩)]) (by simp) (by simp [go_sem]) ?_;refine (Jg c 1 w3 SI.b0 SI.b1 SI.b2 ⟨by omega,by omega,by omega⟩).mono ?_;rintro e u' w'' ⟨rfl,rfl,k0,k1,k2,hb4⟩
   simp only [Leaves,settle,List.dropWhile_nil];have hbl:=SI.bl.trans (hb4.ku (B:=H) (by have:=SI.bl.size;omega) (fun k hk e=>by rcases e with e | e | e<;>omega));exact ⟨_,yC _ k0 k1 k2 rfl rfl rfl,rfl,by rw [hH];exact hbl⟩
 | ok t m =>
  rw [hst] at h SF;clear hst;rcases hor with rfl | rfl
  all_goals
   go_enter_defers Tryz.func32,Tryz.ntmps32
   go_upto_region 1 with (fail)
   obtain ⟨H,hH⟩:∃ H,w.heap.size=H:=⟨_,rfl⟩;rw [hH] at zA vs SF |-
   generalize ((w.alloc (.cells #[.string ⟨#[]⟩] 9)).alloc (.cells #[.int .i64 0] 3)).alloc (.cells #[.int .i64 0] 25)=W0 at *;have hsc:Sc (H+1+1+1) a0 ((0:Nat):Int) ((1:Nat):Int) (.map none) (W0.alloc (.cells #[.string a0,.int .i64 0,.int .i64 1,.map none] 93)):=by
    have:=heap_alloc_new W0 (.cells #[.string a0,.int .i64 0,.int .i64 1,.map none] 93);rw [vs] at this;exact this
   have wP:=aj.mk hsc;have HVA:=aj.mk (zA.out.but (A:=fun k=>H+3<=k) ((But.refl _ W0).alloc (.cells #[.string a0,.int .i64 0,.int .i64 1,.map none] 93)) (Nat.le_of_eq hH.symm) (fun k e=>e));clear hsc;have pU:=aj.mk hH;have HPP:aj (∀ w3:World,But (·=H+1+1+1) (W0.alloc (.cells #[.string a0,.int .i64 0,.int .i64 1,.map none] 93)) w3->Vb w H ⟨#[]⟩ 0 0 w3):=⟨fun w3 hb3=>HVA.out.but hb3 (Nat.le_of_eq hH.symm) (fun k e=>by have:=show k=H+1+1+1 from e;omega)⟩;have hxa:aj (((a0[0]'hl).toNat:Int)=_):=⟨hx⟩;go_upto_region 6 with (go_at_call 70;refine (SF.out _ _ wP.out).mono ?_;rintro e w3 ⟨hb3,hp3⟩;obtain ⟨rfl,hs3⟩:=(show _/\_ from hp3);have SI:=HPP.out _ hb3;have a0c:w3.cell? ⟨H,0,none⟩=some (.string ⟨#[]⟩):=(au SI.b0 0).trans rfl;have fa:=aA SI.b0 0)
   rw [Nat.zero_add] at hs3;have Wd:=aj.mk (SI.akc (s':=strOfNums t) (Nat.le_of_eq pU.out.symm));have hs4:Sc (H+1+1+1) a0 m ((1:Nat):Int) (.map none) (w3.setCell ⟨H,0,none⟩ (.string (strOfNums t))):=(Below.heap_setCell w3 ⟨H,0,none⟩ (.string (strOfNums t)) (H+1+1+1) (by show H+1+1+1≠H;omega)).trans hs3;clear hp3 hb3 hs3 SI a0c fa HPP wP HVA SF hxa hx hl zA vs he;obtain ⟨st,hst⟩:∃ st,strOfNums t=st:=⟨_,rfl⟩;simp only [hst] at Wd hs4 h |-
   generalize w3.setCell ⟨H,0,none⟩ (.string st)=w4 at *;have a0c:w4.cell? ⟨H,0,none⟩=some (.string st):=(au Wd.out.b0 0).trans rfl;have b0c:w4.cell? ⟨H+1,0,none⟩=some (.int .i64 0):=(au Wd.out.b1 0).trans rfl;have c0c:w4.cell? ⟨H+1+1,0,none⟩=some (.int .i64 0):=(au Wd.out.b2 0).trans rfl;have fa:=aA Wd.out.b0 0;have fb:=aA Wd.out.b1 0;have fc:=aA Wd.out.b2 0;have d1:=hs4.c1;clear hs4;by_cases hm:m < n
   ·have g3:decide ((m:Int) < (n:Int))=true:=decide_eq_true (by omega)
    have g4:decide (m < n)=true:=decide_eq_true hm;simp only [Gb] at h;rw [if_pos (by omega)] at h;simp only [Prod.mk.injEq] at h;obtain ⟨rfl,rfl,rfl⟩:=h;have HF:=aj.mk (Wd.out.put (s':=⟨#[]⟩) (x':=0) (y':=2) (Nat.le_of_eq pU.out.symm));clear hH;go_wp2_with fail
    refine leaves_cons (f:=69) (args:=#[.pointer (some ⟨H,0,none⟩),.pointer (some ⟨H+1,0,none⟩),.pointer (some ⟨H+1+1,0,none⟩)]) (by simp) (by simp [go_sem]) ?_;refine (CP _ _ _ _).mono ?_;rintro e u' w'' ⟨rfl,rfl,rfl⟩
    simp only [Leaves,settle];exact ⟨_,yC _ HF.out.b0 HF.out.b1 HF.out.b2 rfl rfl rfl,rfl,by rw [pU.out];exact HF.out.bl⟩
   have g3:decide ((m:Int) < (n:Int))=false:=decide_eq_false (by omega);have g4:decide (m < n)=false:=decide_eq_false hm;simp only [Gb] at h;rw [if_neg (by omega)] at h;simp only [Prod.mk.injEq,hst] at h;obtain ⟨rfl,rfl,rfl⟩:=h;have HF:=aj.mk (Wd.out.put (s':=st) (x':=0) (y':=0) (Nat.le_of_eq pU.out.symm));clear hH;go_wp2_with fail
   refine leaves_cons (f:=69) (args:=#[.pointer (some ⟨H,0,none⟩),.pointer (some ⟨H+1,0,none⟩),.pointer (some ⟨H+1+1,0,none⟩)]) (by simp) (by simp [go_sem]) ?_;refine (CP _ _ _ _).mono ?_;rintro e u' w'' ⟨rfl,rfl,rfl⟩
   simp only [Leaves,settle];exact ⟨_,yC _ HF.out.b0 HF.out.b1 HF.out.b2 rfl rfl rfl,rfl,by rw [pU.out];exact HF.out.bl⟩
end Go.Proofs.YtkkpjonfaflkmaaGreatDoor.T
namespace Go.Proofs.YtkkpjonfaflkmaaGreatDoor.T
open Go.RowKit Go.Proofs.ah.aT Go.Proofs.ah.bn Go.Proofs.ah.bA
set_option linter.unusedSimpArgs false
set_option linter.unusedVariables false
theorem Sg {W:World} {base:Nat} {ok:Nat->Prop} (xs:List ByteArray):dN (Kd.string.M W base ok) 1 xs (xs.map Value.string):=by
 refine ⟨by rw [List.length_map,Nat.mul_one],fun j p hj=>?_⟩;have hjl:j < (xs.map Value.string).length:=by rw [List.length_map];exact (List.getElem?_eq_some_iff.1 hj).1
 have e:((xs.map Value.string).drop (j*1)).take 1=[.string p]:=by
  rw [Nat.mul_one,List.drop_eq_getElem_cons hjl];have:(xs.map Value.string)[j]=.string p:=by
   have h1:(xs.map Value.string)[j]?=some (.string p):=by rw [List.getElem?_map,hj];rfl
   rw [List.getElem?_eq_getElem hjl] at h1;exact Option.some.inj h1
  simp [this]
 rw [e];exact rfl
def strings_Split.f (a0 a1:ByteArray):Option (List ByteArray):=if a0.size<=100000/\1<=a1.size then some (Lib.splitB a1 0 (Lib.countB a0 a1) a0) else none
theorem strings_Split.calls (a0 a1:ByteArray) (r:List ByteArray) (w:World) (hT:eU w) (h:strings_Split.f a0 a1=some r) :
  Calls Tryz.prog 62 #[.string a0,.string a1] w fun e w'=>∃ v0:Value,e=.returned v0/\Kd.R Kd.string 9 w' w.heap.size (fun _=>True) v0 r/\Below w.heap.size w w':=by
 unfold strings_Split.f at h;split at h
 ·next hc =>
  have h:=Option.some.inj h;subst h;obtain ⟨m,hm⟩:=hT.most;refine (Tryz.strings_Split a0 a1 m w (by omega) hm hc.2).mono ?_;rintro e w' ⟨rfl,rfl⟩
  have hl:=Lib.splitB_all a1 hc.2 0 (Lib.countB a0 a1) a0 rfl;have hn:=heap_alloc_new w (.cells ((Lib.splitB a1 0 (Lib.countB a0 a1) a0).map Value.string).toArray 9);have hcb:Lib.countB a0 a1+1<=maxLen:=by
   have:=Lib.countB_le a1 hc.2 a0.size a0 (Nat.le_refl _);unfold maxLen;omega
  generalize Lib.splitB a1 0 (Lib.countB a0 a1) a0=xs at *;have ho:(w.alloc (.cells (xs.map Value.string).toArray 9)).ownsRow w.heap.size 9 1 (.slice (some ⟨w.heap.size,0,none⟩) (Lib.countB a0 a1+1) (Lib.countB a0 a1+1)) xs.length (xs.map Value.string):=by
   refine ⟨by rw [List.length_map,Nat.mul_one],.inr ⟨w.heap.size,Lib.countB a0 a1+1,_,by rw [hl],Nat.le_refl _,hn,by rw [hl];exact Nat.le_refl _,hcb,by simp [hl],?_⟩⟩;rw [Nat.mul_one,List.take_of_length_le (by simp)]
  exact ⟨_,rfl,⟨fun _ _=>trivial,xs.map Value.string,ho,Sg _⟩,ay (Below.refl _ _) _⟩
 ·cases h
end Go.Proofs.YtkkpjonfaflkmaaGreatDoor.T
namespace Go.Proofs.YtkkpjonfaflkmaaGreatDoor.T
open Go.RowKit Go.Proofs.ah.aT Go.Proofs.ah.bn Go.Proofs.ah.bA
set_option linter.unusedSimpArgs false
set_option linter.unusedVariables false
attribute [local go_sem] fB fC gI gJ eD eF fD fE   -- for this text's walks alone
def tu.f (a0:ByteArray):Option (ByteArray × List ByteArray × Int):=(jr.f a0).bind fun rQ=>(if rQ.2.2=0 then (if rQ.2.1=3 then (some (rQ.1,([]:List ByteArray),0)) else (if rQ.2.1=4 then ((strings_Cut.f rQ.1 (⟨#[46]⟩:ByteArray)).bind fun uJ=>(if uJ.1.size+1<=9223372036854775807 then ((strings_Split.f uJ.2.1 (⟨#[46]⟩:ByteArray)).bind fun Dq=>(some (uJ.1++(⟨#[46]⟩:ByteArray),Dq,0))) else (none))) else (some ((⟨#[]⟩:ByteArray),([]:List ByteArray),2)))) else (some ((⟨#[]⟩:ByteArray),([]:List ByteArray),rQ.2.2)))
set_option maxHeartbeats 8000000 in
set_option maxRecDepth 100000 in
theorem tu.calls (a0:ByteArray) (r1:ByteArray) (r2:List ByteArray) (r3:Int) (w:World) (hT:eU w) (h:tu.f a0=some (r1,r2,r3)) :
  Calls Tryz.prog 27 #[.string a0] w fun e w'=>∃ v1_:Value,e=.returned (.tuple #[.string r1,v1_,.int .i64 r3])/\Kd.R Kd.string 9 w' w.heap.size (fun _=>True) v1_ r2/\Below w.heap.size w w':=by
 have HB:=aj.mk (Below.refl w.heap.size w);have H:((jr.f a0).bind fun rQ=>(if rQ.2.2=0 then (if rQ.2.1=3 then (some (rQ.1,([]:List ByteArray),0)) else (if rQ.2.1=4 then ((strings_Cut.f rQ.1 (⟨#[46]⟩:ByteArray)).bind fun uJ=>(if uJ.1.size+1<=9223372036854775807 then ((strings_Split.f uJ.2.1 (⟨#[46]⟩:ByteArray)).bind fun Dq=>(some (uJ.1++(⟨#[46]⟩:ByteArray),Dq,0))) else (none))) else (some ((⟨#[]⟩:ByteArray),([]:List ByteArray),2)))) else (some ((⟨#[]⟩:ByteArray),([]:List ByteArray),rQ.2.2))))=some (r1,r2,r3):=h;clear h;replace H:=Option.bind_eq_some_iff.mp H;obtain ⟨⟨Jh,vI,t138⟩,CX,H⟩:=H;replace H:(if t138=0 then (if vI=3 then (some (Jh,([]:List ByteArray),0)) else (if vI=4 then ((strings_Cut.f Jh (⟨#[46]⟩:ByteArray)).bind fun uJ=>(if uJ.1.size+1<=9223372036854775807 then ((strings_Split.f uJ.2.1 (⟨#[46]⟩:ByteArray)).bind fun Dq=>(some (uJ.1++(⟨#[46]⟩:ByteArray),Dq,0))) else (none))) else (some ((⟨#[]⟩:ByteArray),([]:List ByteArray),2)))) else (some ((⟨#[]⟩:ByteArray),([]:List ByteArray),t138)))=some (r1,r2,r3):=H;have A2:=aj.mk CX;clear CX;by_cases c3:t138=0
 rotate_left
 ·rw [if_neg c3] at H
  have nU:(t138==0)=false:=beq_eq_false_iff_ne.mpr c3;have xq:(t138 != 0)=true:=bne_iff_ne.mpr c3;simp only [Option.some.injEq,Prod.mk.injEq] at H;obtain ⟨rfl,rfl,rfl⟩:=H;go_enter Tryz.func27,Tryz.ntmps27
  go_wp2_with (first | ((with_reducible refine bg (f:=25) rfl ?_);refine cO (some 13) rfl rfl Tryz.func25 (by kernel_rfl) rfl #[.string a0] rfl (by (try simp only [List.map_toArray,List.map_cons,List.map_nil]);first | done | rfl | (simp only [List.length_drop,List.length_take];rfl)) ?_;(with_reducible refine (jr.calls a0 Jh vI t138 _ A2.out).mono ?_);rintro e WT ⟨rfl,hb⟩;refine ⟨_,rfl,?_⟩;have dW:=aj.mk (bH (by repeat (first | (with_reducible first | exact HB.out | apply ay | apply ak | apply aD) | exact HB.out)) hb);clear HB;have HB:=dW;clear dW;(try clear hb);(try clear hb2);(try clear hk);(try clear hi)))
  go_ret3
  exact ⟨_,by first | rfl | (simp [aV,aW]<;>rfl) | (simp [*,aV,aW]<;>rfl),by first | exact Kd.rD _ _ _ _ _ | exact Kd.tT _ _ _ _ _ | exact Kd.xk _ _ _ _ _ | exact Kd.wS _ _ _ _ _ | exact Kd.wX _ _ _ _ _,by repeat (first | (with_reducible first | exact HB.out | apply ay | apply ak | apply aD) | exact HB.out)⟩
 rw [if_pos c3] at H;have nU:(t138==0)=true:=beq_iff_eq.mpr c3;have xq:(t138 != 0)=false:=bne_eq_false_iff_eq.mpr c3;clear c3;by_cases c4:vI=3
 ·rw [if_pos c4] at H
  have pF:(vI==3)=true:=beq_iff_eq.mpr c4;have Et:(vI != 3)=false:=bne_eq_false_iff_eq.mpr c4;clear c4;simp only [Option.some.injEq,Prod.mk.injEq] at H;obtain ⟨rfl,rfl,rfl⟩:=H;go_enter Tryz.func27,Tryz.ntmps27
  go_wp2_with (first | ((with_reducible refine bg (f:=25) rfl ?_);refine cO (some 13) rfl rfl Tryz.func25 (by kernel_rfl) rfl #[.string a0] rfl (by (try simp only [List.map_toArray,List.map_cons,List.map_nil]);first | done | rfl | (simp only [List.length_drop,List.length_take];rfl)) ?_;(with_reducible refine (jr.calls a0 Jh vI t138 _ A2.out).mono ?_);rintro e w5 ⟨rfl,hb⟩;refine ⟨_,rfl,?_⟩;have dW:=aj.mk (bH (by repeat (first | (with_reducible first | exact HB.out | apply ay | apply ak | apply aD) | exact HB.out)) hb);clear HB;have HB:=dW;clear dW;(try clear hb);(try clear hb2);(try clear hk);(try clear hi)))
  go_ret3
  exact ⟨_,by first | rfl | (simp [aV,aW]<;>rfl) | (simp [*,aV,aW]<;>rfl),by first | exact Kd.rD _ _ _ _ _ | exact Kd.tT _ _ _ _ _ | exact Kd.xk _ _ _ _ _ | exact Kd.wS _ _ _ _ _ | exact Kd.wX _ _ _ _ _,by repeat (first | (with_reducible first | exact HB.out | apply ay | apply ak | apply aD) | exact HB.out)⟩
 rw [if_neg c4] at H;have pF:(vI==3)=false:=beq_eq_false_iff_ne.mpr c4;have Et:(vI != 3)=true:=bne_iff_ne.mpr c4;by_cases c6:vI=4
 rotate_left
 ·rw [if_neg c6] at H
  have kP:(vI==4)=false:=beq_eq_false_iff_ne.mpr c6;have Bj:(vI != 4)=true:=bne_iff_ne.mpr c6;simp only [Option.some.injEq,Prod.mk.injEq] at H;obtain ⟨rfl,rfl,rfl⟩:=H;go_enter Tryz.func27,Tryz.ntmps27
  go_wp2_with (first | ((with_reducible refine bg (f:=25) rfl ?_);refine cO (some 13) rfl rfl Tryz.func25 (by kernel_rfl) rfl #[.string a0] rfl (by (try simp only [List.map_toArray,List.map_cons,List.map_nil]);first | done | rfl | (simp only [List.length_drop,List.length_take];rfl)) ?_;(with_reducible refine (jr.calls a0 Jh vI t138 _ A2.out).mono ?_);rintro e w12 ⟨rfl,hb⟩;refine ⟨_,rfl,?_⟩;have dW:=aj.mk (bH (by repeat (first | (with_reducible first | exact HB.out | apply ay | apply ak | apply aD) | exact HB.out)) hb);clear HB;have HB:=dW;clear dW;(try clear hb);(try clear hb2);(try clear hk);(try clear hi)))
  go_ret3
  exact ⟨_,by first | rfl | (simp [aV,aW]<;>rfl) | (simp [*,aV,aW]<;>rfl),by first | exact Kd.rD _ _ _ _ _ | exact Kd.tT _ _ _ _ _ | exact Kd.xk _ _ _ _ _ | exact Kd.wS _ _ _ _ _ | exact Kd.wX _ _ _ _ _,by repeat (first | (with_reducible first | exact HB.out | apply ay | apply ak | apply aD) | exact HB.out)⟩
 rw [if_pos c6] at H;have kP:(vI==4)=true:=beq_iff_eq.mpr c6;have Bj:(vI != 4)=false:=bne_eq_false_iff_eq.mpr c6;clear c6;replace H:=Option.bind_eq_some_iff.mp H;obtain ⟨⟨t139,Wh,t141⟩,WS,H⟩:=H;replace H:(if t139.size+1<=9223372036854775807 then ((strings_Split.f Wh (⟨#[46]⟩:ByteArray)).bind fun Dq=>(some (t139++(⟨#[46]⟩:ByteArray),Dq,0))) else (none))=some (r1,r2,r3):=H;have A7:=aj.mk WS;clear WS;by_cases c8:t139.size+1<=9223372036854775807
 rotate_left
 ·rw [if_neg c8] at H
  exact absurd H (by simp)
 rw [if_pos c8] at H;have yO:=eq_true c8;have GQ:decide (t139.size+1<=9223372036854775807)=true:=decide_eq_true c8;try have amy:(9223372036854775807 < t139.size+1)=False:=eq_false (Nat.not_lt.2 c8)
 replace H:=Option.bind_eq_some_iff.mp H;obtain ⟨Dq,Qb,H⟩:=H;replace H:(some (t139++(⟨#[46]⟩:ByteArray),Dq,0))=some (r1,r2,r3):=H;have A9:=aj.mk Qb;clear Qb;simp only [Option.some.injEq,Prod.mk.injEq] at H;obtain ⟨rfl,rfl,rfl⟩:=H;go_enter Tryz.func27,Tryz.ntmps27
 go_wp2_with (first | ((with_reducible refine bg (f:=25) rfl ?_);refine cO (some 13) rfl rfl Tryz.func25 (by kernel_rfl) rfl #[.string a0] rfl (by (try simp only [List.map_toArray,List.map_cons,List.map_nil]);first | done | rfl | (simp only [List.length_drop,List.length_take];rfl)) ?_;(with_reducible refine (jr.calls a0 Jh vI t138 _ A2.out).mono ?_);rintro e DC ⟨rfl,hb⟩;refine ⟨_,rfl,?_⟩;have dW:=aj.mk (bH (by repeat (first | (with_reducible first | exact HB.out | apply ay | apply ak | apply aD) | exact HB.out)) hb);clear HB;have HB:=dW;clear dW;(try clear hb);(try clear hb2);(try clear hk);(try clear hi)) | ((with_reducible refine bg (f:=61) rfl ?_);refine cO (some 30) rfl rfl Tryz.func61 (by kernel_rfl) rfl #[.string Jh,.string (⟨#[46]⟩:ByteArray)] rfl (by (try simp only [List.map_toArray,List.map_cons,List.map_nil]);first | done | rfl | (simp only [List.length_drop,List.length_take];rfl)) ?_;(with_reducible refine (strings_Cut.calls Jh (⟨#[46]⟩:ByteArray) t139 Wh t141 _ (eU.of_below hT (by repeat (first | (with_reducible first | exact HB.out | apply ay | apply ak | apply aD) | exact HB.out))) A7.out).mono ?_);rintro e w' ⟨rfl,⟨nd,rfl⟩⟩;refine ⟨_,rfl,?_⟩) | ((with_reducible refine bg (f:=62) rfl ?_);refine cO (some 37) rfl rfl Tryz.func62 (by kernel_rfl) rfl #[.string Wh,.string (⟨#[46]⟩:ByteArray)] rfl (by (try simp only [List.map_toArray,List.map_cons,List.map_nil]);first | done | rfl | (simp only [List.length_drop,List.length_take];rfl)) ?_;(with_reducible refine (strings_Split.calls Wh (⟨#[46]⟩:ByteArray) Dq _ (eU.of_below hT (by repeat (first | (with_reducible first | exact HB.out | apply ay | apply ak | apply aD) | exact HB.out))) A9.out).mono ?_);rintro e w11 ⟨v143,rfl,ho0,hb⟩;refine ⟨_,rfl,?_⟩;have dW:=aj.mk (Kd.nN ho0 (bR (by repeat (first | (with_reducible first | exact HB.out | apply ay | apply ak | apply aD) | exact HB.out))));have fF:=aj.mk (bH (by repeat (first | (with_reducible first | exact HB.out | apply ay | apply ak | apply aD) | exact HB.out)) hb);clear HB;have adW:=dW;have HB:=fF;clear dW fF;(try clear hb);(try clear hb2);(try clear hk);(try clear hi);(try clear ho0)))
 go_ret3
 exact ⟨_,by first | rfl | (simp [aV,aW]<;>rfl) | (simp [*,aV,aW]<;>rfl),by (with_reducible repeat (first | apply Kd.bW | apply Kd.bV | apply Kd.dw));exact adW.out,by repeat (first | (with_reducible first | exact HB.out | apply ay | apply ak | apply aD) | exact HB.out)⟩
end Go.Proofs.YtkkpjonfaflkmaaGreatDoor.T
namespace Go.Proofs.YtkkpjonfaflkmaaGreatDoor.T
open Go.RowKit Go.Maps Go.Proofs.ah.aT Go.Proofs.ah.bn Go.Proofs.ah.bA
set_option linter.unusedSimpArgs false
set_option linter.unusedVariables false
attribute [local go_sem] Oper.semAt_some
def Wi:ByteArray:=⟨#[115,97,121,32,49,32,43,32,97,46,98,32,45,45,32,47,42,32,120,32,42,47,32,39,105,116,39,39,115,39]⟩
def Wj:ByteArray:=⟨#[49,101,43,53,120]⟩
def Wm:ByteArray:=⟨#[102,40,97,44,32,10,98,41]⟩
def Wn:ByteArray:=⟨#[120,58,32,121,58,32,115,97,121,32,49,59,32,59,32,115,97,121,32,50]⟩
def Wo:ByteArray:=⟨#[97,10,39,98]⟩
def Wp:ByteArray:=⟨#[97,32,47,42,32,98,32,47,42,32,99,32,42,47,10,100]⟩
def adX:List gD:=[⟨1,⟨#[65]⟩,false,0,0,0⟩,⟨1,⟨#[66]⟩,false,0,0,0⟩,⟨4,⟨#[]⟩,false,0,0,0⟩]
def uK (s:ByteArray):List gD:=(S.tokens (bytesOf s)).map toS
theorem pR (s:ByteArray) (n:Nat) (c l e:Int) (hf:dz.f s=some (uK s,c,l,e)) (hn:(uK s).length=n) (h0:0 < n) (w:World) (hT:eU w) :
  Calls Tryz.prog 17 #[.string s] w fun e' w'=>∃ ad cp,e'=.returned (.tuple #[.slice (some ad) n cp,.int .i64 c,.int .i64 l,.int .i64 e])/\Kd.C lD w' (some ad) n (uK s)/\Below w.heap.size w w':=by
 refine (dz.calls s _ _ _ _ w hT hf).mono ?_;rintro e' w' ⟨v0,rfl,hR,hb⟩
 obtain ⟨A,cp,rfl,hc,hC⟩:=Kd.rT hR;rw [hn] at hC |-
 obtain ⟨ad,rfl⟩:∃ ad,A=some ad:=by
  obtain ⟨h1,h2,h3⟩:=hC;obtain ⟨ad,e,_⟩:=h3 h0;exact ⟨ad,e⟩
 exact ⟨ad,cp,rfl,hC,hb⟩
theorem aar:dz.f Wi=some (uK Wi,0,0,0):=by
 have h1:(S.scan (bytesOf Wi)).err=none:=by decide +kernel
 unfold dz.f;rw [if_pos (by decide),h1];rfl
theorem aas:dz.f Wj=some (uK Wj,0,0,0):=by
 have h1:(S.scan (bytesOf Wj)).err=none:=by decide +kernel
 unfold dz.f;rw [if_pos (by decide),h1];rfl
theorem aat:dz.f Wm=some (uK Wm,0,0,0):=by
 have h1:(S.scan (bytesOf Wm)).err=none:=by decide +kernel
 unfold dz.f;rw [if_pos (by decide),h1];rfl
theorem aau:dz.f Wo=some (uK Wo,6,2,7):=by
 have h1:(S.scan (bytesOf Wo)).err=some (6,2):=by decide +kernel
 unfold dz.f;rw [if_pos (by decide),h1];rfl
theorem aav:dz.f Wp=some (uK Wp,6,1,7):=by
 have h1:(S.scan (bytesOf Wp)).err=some (6,1):=by decide +kernel
 unfold dz.f;rw [if_pos (by decide),h1];rfl
theorem aaw:pO.f adX=some (⟨#[65,47,42,42,47,66,10]⟩,0):=by decide +kernel
theorem OI:tu.f ⟨#[97,46,98,46]⟩=some (⟨#[65,46]⟩,[⟨#[66]⟩,⟨#[]⟩],0):=by decide +kernel
theorem Wq:pQ.f ⟨#[39,52,97,52,66,39,120]⟩=some (⟨#[74,75]⟩,0,0):=by decide +kernel
theorem Ws:ny.f ⟨#[105,116,39,115]⟩=some (⟨#[34,105,116,39,115,34]⟩,0):=by decide +kernel
def Wt:List nQ:=[⟨⟨#[88]⟩,1⟩,⟨⟨#[89]⟩,1⟩]
theorem OJ:∀ l:List nQ,l.map (fun x=>(x.f0,x.f1))=[((⟨#[88]⟩:ByteArray),(1:Int)),(⟨#[89]⟩,1)]->l=Wt
 | [],h=>by cases h
 | [_],h=>by simp at h
 | [a,b],h=>by
  obtain ⟨a0,a1⟩:=a;obtain ⟨b0,b1⟩:=b;simp only [List.map_cons,List.map_nil,List.cons.injEq,Prod.mk.injEq,and_true] at h;obtain ⟨⟨rfl,rfl⟩,rfl,rfl⟩:=h;rfl
 | _::_::_::_,h=>by simp at h
theorem Lx:bJ.f 10 Wn=some (Wt,0,0,0):=by
 have h:(bJ.f 10 Wn).map (fun p=>(p.1.map (fun x=>(x.f0,x.f1)),p.2))=some ([((⟨#[88]⟩:ByteArray),(1:Int)),(⟨#[89]⟩,1)],0,0,0):=by decide +kernel
 obtain ⟨p,h1,h2⟩:=Option.map_eq_some_iff.1 h;obtain ⟨l,q⟩:=p;simp only [Prod.mk.injEq] at h2;rw [h1,OJ l h2.1];obtain ⟨h3,rfl,rfl,rfl⟩:=h2;rfl
theorem Gc (w:World) (hT:eU w) :
  Calls Tryz.prog 20 #[.string Wn] w fun e' w'=>∃ ad cp,e'=.returned (.tuple #[.slice (some ad) 2 cp,.int .i64 0,.int .i64 0,.int .i64 0])/\Kd.C LK w' (some ad) 2 Wt/\Below w.heap.size w w':=by
 refine (bJ.calls 10 Wn _ _ _ _ w hT Lx).mono ?_;rintro e' w' ⟨v0,rfl,hR,hb⟩
 obtain ⟨A,cp,rfl,hc,hC⟩:=Kd.rT hR;obtain ⟨ad,rfl⟩:∃ ad,A=some ad:=by
  obtain ⟨h1,h2,h3⟩:=hC;obtain ⟨ad,e,_⟩:=h3 (by decide);exact ⟨ad,e⟩
 exact ⟨ad,cp,rfl,hC,hb⟩
theorem Ji (w:World) (hT:eU w) :
  Calls Tryz.prog 27 #[.string ⟨#[97,46,98,46]⟩] w fun e' w'=>∃ ad cp,e'=.returned (.tuple #[.string ⟨#[65,46]⟩,.slice (some ad) 2 cp,.int .i64 0])/\Kd.C Kd.string w' (some ad) 2 [⟨#[66]⟩,⟨#[]⟩]/\Below w.heap.size w w':=by
 refine (tu.calls _ _ _ _ w hT OI).mono ?_;rintro e' w' ⟨v0,rfl,hR,hb⟩
 obtain ⟨A,cp,rfl,hc,hC⟩:=Kd.rT hR;obtain ⟨ad,rfl⟩:∃ ad,A=some ad:=by
  obtain ⟨h1,h2,h3⟩:=hC;obtain ⟨ad,e,_⟩:=h3 (by decide);exact ⟨ad,e⟩
 exact ⟨ad,cp,rfl,hC,hb⟩
theorem uL {w:World} {ad:Addr} {n:Nat} {l:List gD} (h:Kd.C lD w (some ad) n l) (i:Nat) (hi:i < n) (t:gD) (ht:aU l (i:Int)=t) :
  w.cell? (ad.add (i*6))=some (.int .i64 t.f0)/\w.cell? ⟨(ad.add (i*6)).block,(ad.add (i*6)).off+1,none⟩=some (.string t.f1)/\w.cell? ⟨(ad.add (i*6)).block,(ad.add (i*6)).off+2,none⟩=some (.bool t.f2)/\w.cell? ⟨(ad.add (i*6)).block,(ad.add (i*6)).off+3,none⟩=some (.int .i64 t.f3):=by
 obtain ⟨ad',e,x0,x1,x2,x3,_⟩:=eY h (i:Int) (by omega) (by omega);cases e
 simp only [Int.toNat_natCast] at x0 x1 x2 x3;subst ht;exact ⟨x0,x1,x2,x3⟩
theorem add_lit (ad:Addr) (n:Nat) (h:0 < n):ad.add n=⟨ad.block,ad.off+n,none⟩:=by
 unfold Addr.add;rw [if_neg (by omega)]
attribute [local go_sem high] Xf
set_option maxRecDepth 100000 in
set_option maxHeartbeats 16000000 in
theorem OL (w:World) (hT:eU w):Calls Tryz.prog 16 #[] w fun e w'=>e=.returned (.bool true)/\Below w.heap.size w w':=by
 have HT:=aj.mk hT;have HA:=Lib.hid (fun W hW=>pR Wi 8 _ _ _ aar (by decide +kernel) (by decide) W hW);have HB:=Lib.hid (fun W hW=>pR Wj 3 _ _ _ aas (by decide +kernel) (by decide) W hW);have HC:=Lib.hid (fun W hW=>pR Wm 6 _ _ _ aat (by decide +kernel) (by decide) W hW);have HD:=Lib.hid (fun W hW=>Gc W hW);have HE:=Lib.hid (fun W hW=>pR Wo 2 _ _ _ aau (by decide +kernel) (by decide) W hW);have HF:=Lib.hid (fun W hW=>pR Wp 1 _ _ _ aav (by decide +kernel) (by decide) W hW);have HV:=Lib.hid (fun W=>pQ.calls _ _ _ _ W Wq);have HS:=Lib.hid (fun W hW=>Ji W hW);clear hT;go_enter Tryz.func16,Tryz.ntmps16
 go_upto_region 2 with (go_at_call 17;refine (HA.out _ HT.out).mono ?_;rintro e w1 ⟨adA,cpA,rfl,hCA,hb1⟩)
 have HT1:=aj.mk (HT.out.of_below hb1);go_upto_region 3 with (go_at_call 17;refine (HB.out _ HT1.out).mono ?_;rintro e w2 ⟨adB,cpB,rfl,hCB,hb2⟩)
 have HT2:=aj.mk (HT1.out.of_below hb2);go_upto_region 4 with (go_at_call 17;refine (HC.out _ HT2.out).mono ?_;rintro e w3 ⟨adC,cpC,rfl,hCC,hb3⟩)
 have HT3:=aj.mk (HT2.out.of_below hb3);go_upto_region 5 with (go_at_call 20;refine (HD.out _ HT3.out).mono ?_;rintro e w4 ⟨adD,cpD,rfl,hCD,hb4⟩)
 have HT4:=aj.mk (HT3.out.of_below hb4);go_upto_region 6 with (go_at_call 17;refine (HE.out _ HT4.out).mono ?_;rintro e w5 ⟨adE,cpE,rfl,hCE,hb5⟩)
 have HT5:=aj.mk (HT4.out.of_below hb5);go_upto_region 7 with (go_at_call 17;refine (HF.out _ HT5.out).mono ?_;rintro e w6 ⟨adF,cpF,rfl,hCF,hb6⟩)
 have HT6:=aj.mk (HT5.out.of_below hb6);go_upto_region 8 with (go_at_call 32;refine (HV.out _).mono ?_;rintro e w7 ⟨rfl,Jt⟩)
 have HT7:=aj.mk (HT6.out.of_below Jt);go_upto_region 9 with (go_at_call 27;refine (HS.out _ HT7.out).mono ?_;rintro e w8 ⟨adS,cpS,rfl,hCS,Sw⟩)
 have kA:=Kd.dO (Kd.dO (Kd.dO (Kd.dO (Kd.dO (Kd.dO (Kd.dO hCA hb2) hb3) hb4) hb5) hb6) Jt) Sw;have kB:=Kd.dO (Kd.dO (Kd.dO (Kd.dO (Kd.dO (Kd.dO hCB hb3) hb4) hb5) hb6) Jt) Sw;have kC:=Kd.dO (Kd.dO (Kd.dO (Kd.dO (Kd.dO hCC hb4) hb5) hb6) Jt) Sw;have kD:=Kd.dO (Kd.dO (Kd.dO (Kd.dO hCD hb5) hb6) Jt) Sw;have hB8:Below w.heap.size w w8:=by
  have s1:=hb1.size;have s2:=hb2.size;have s3:=hb3.size;have s4:=hb4.size;have s5:=hb5.size;have s6:=hb6.size;have s7:=Jt.size;exact hb1.trans ((hb2.mono (by omega)).trans ((hb3.mono (by omega)).trans ((hb4.mono (by omega)).trans ((hb5.mono (by omega)).trans ((hb6.mono (by omega)).trans ((Jt.mono (by omega)).trans (Sw.mono (by omega))))))))
 have HT8:=aj.mk (HT7.out.of_below Sw);have HB8:=aj.mk hB8;have HS8:=aj.mk hCS;clear hCA hCB hCC hCD hCE hCF hb1 hb2 hb3 hb4 hb5 hb6 Jt Sw hB8 hCS HT1 HT2 HT3 HT4 HT5 HT6 HT7 HT HA HB HC HD HE HF HV HS;have KA:=aj.mk kA;have KB:=aj.mk kB;have KC:=aj.mk kC;have KD:=aj.mk kD;clear kA kB kC kD;go_upto_region 11 with (fail)
 obtain ⟨p30,p31,p32,p33⟩:=uL KA.out 3 (by decide) ⟨1,⟨#[65,46,66]⟩,true,1,8,11⟩ (by kernel_rfl);rw [add_lit _ _ (by decide)] at p30 p31 p32 p33;simp only [Nat.reduceMul] at p30 p31 p32 p33;obtain ⟨p50,p51,p52,p53⟩:=uL KA.out 5 (by decide) ⟨3,⟨#[45]⟩,false,1,13,14⟩ (by kernel_rfl);rw [add_lit _ _ (by decide)] at p50 p51 p52 p53;simp only [Nat.reduceMul] at p50 p51 p52 p53;obtain ⟨p60,p61,p62,p63⟩:=uL KA.out 6 (by decide) ⟨2,⟨#[105,116,39,115]⟩,true,1,23,30⟩ (by kernel_rfl);rw [add_lit _ _ (by decide)] at p60 p61 p62 p63;simp only [Nat.reduceMul] at p60 p61 p62 p63;obtain ⟨p70,p71,p72,p73⟩:=uL KA.out 7 (by decide) ⟨4,⟨#[]⟩,false,1,30,30⟩ (by kernel_rfl);rw [add_lit _ _ (by decide)] at p70 p71 p72 p73;simp only [Nat.reduceMul] at p70 p71 p72 p73;obtain ⟨q00,q01,q02,q03⟩:=uL KB.out 0 (by decide) ⟨1,⟨#[49,69,43,53]⟩,false,1,0,4⟩ (by kernel_rfl);rw [show (0:Nat)*6=0 from rfl,Addr.add_zero'] at q00 q01 q02 q03;obtain ⟨q10,OX,q12,q13⟩:=uL KB.out 1 (by decide) ⟨1,⟨#[88]⟩,false,1,4,5⟩ (by kernel_rfl);rw [add_lit _ _ (by decide)] at q10 OX q12 q13;simp only [Nat.reduceMul] at q10 OX q12 q13;go_upto_region 12 with (fail)
 clear p30 p31 p32 p33 p50 p51 p52 p53 p60 p61 p62 p63 p70 p71 p72 p73 q00 q01 q02 q03 q10 OX q12 q13;obtain ⟨r20,r21,r22,r23⟩:=uL KC.out 2 (by decide) ⟨1,⟨#[65]⟩,false,1,2,3⟩ (by kernel_rfl);rw [add_lit _ _ (by decide)] at r20 r21 r22 r23;simp only [Nat.reduceMul] at r20 r21 r22 r23;obtain ⟨r30,r31,r32,r33⟩:=uL KC.out 3 (by decide) ⟨1,⟨#[66]⟩,true,2,6,7⟩ (by kernel_rfl);rw [add_lit _ _ (by decide)] at r30 r31 r32 r33;simp only [Nat.reduceMul] at r30 r31 r32 r33;obtain ⟨am,em,m0,m1⟩:=Bf KD.out (1:Int) (by decide) (by decide);cases em
 rw [show jT Wt (1:Int)=⟨⟨#[89]⟩,1⟩ from rfl,show (1:Int).toNat*2=2 from rfl,add_lit _ _ (by decide)] at m0 m1;have HW:=Lib.hid (fun (W:World) (g:Nat) (h:W.heap[g]?=some (.cells #[.int .i64 1,.string ⟨#[65]⟩,.bool false,.int .i64 0,.int .i64 0,.int .i64 0,.int .i64 1,.string ⟨#[66]⟩,.bool false,.int .i64 0,.int .i64 0,.int .i64 0,.int .i64 4,.string ⟨#[]⟩,.bool false,.int .i64 0,.int .i64 0,.int .i64 0] 53 (0,0))) (hW:eU W)=>pO.calls (some ⟨g,0,none⟩) 3 adX _ _ W hW (RY h rfl (by decide)) (Nat.le_refl _) aaw);go_upto_region 13 with (fail)
 clear r20 r21 r22 r23 r30 r31 r32 r33 m0 m1;have hal:Below w8.heap.size w8 (w8.alloc (.cells #[.int .i64 1,.string ⟨#[65]⟩,.bool false,.int .i64 0,.int .i64 0,.int .i64 0,.int .i64 1,.string ⟨#[66]⟩,.bool false,.int .i64 0,.int .i64 0,.int .i64 0,.int .i64 4,.string ⟨#[]⟩,.bool false,.int .i64 0,.int .i64 0,.int .i64 0] 53)):=ay (Below.refl _ _) _;have HAL:=aj.mk hal;have HNW:=aj.mk (heap_alloc_new w8 (.cells #[.int .i64 1,.string ⟨#[65]⟩,.bool false,.int .i64 0,.int .i64 0,.int .i64 0,.int .i64 1,.string ⟨#[66]⟩,.bool false,.int .i64 0,.int .i64 0,.int .i64 0,.int .i64 4,.string ⟨#[]⟩,.bool false,.int .i64 0,.int .i64 0,.int .i64 0] 53));clear hal;go_upto_region 14 with (go_at_call 35;refine (HW.out _ _ HNW.out (HT8.out.of_below HAL.out)).mono ?_;rintro e w9 ⟨rfl,hb9⟩)
 have HT9:=aj.mk ((HT8.out.of_below HAL.out).of_below hb9);have HL:=Lib.hid (fun W hW=>ny.calls _ _ _ W hW Ws);go_upto_region 15 with (go_at_call 30;refine (HL.out _ HT9.out).mono ?_;rintro e DC ⟨rfl,adY⟩)
 have hB9:Below w8.heap.size w8 DC:=by
  have s1:=HAL.out.size;have s2:=hb9.size;exact HAL.out.trans ((hb9.mono (by omega)).trans (adY.mono (by omega)))
 have kS:=Kd.dO HS8.out hB9;obtain ⟨sa,es,s0⟩:=Kd.oV kS (0:Int) (by decide) (by decide);cases es
 obtain ⟨sa,es,s1⟩:=Kd.oV kS (1:Int) (by decide) (by decide);cases es
 rw [show (0:Int).toNat=0 from rfl,Addr.add_zero'] at s0;rw [show (1:Int).toNat=1 from rfl,add_lit _ _ (by decide)] at s1;have s0':DC.cell? adS=some (.string ⟨#[66]⟩):=s0;have s1':DC.cell? ⟨adS.block,adS.off+1,none⟩=some (.string ⟨#[]⟩):=s1;have TB:=aj.mk (HB8.out.trans (hB9.mono HB8.out.size));clear s0 s1 hB9 hb9 adY kS;go_wp2_with (fail)
 refine bodyPost_ret (results_tmp rfl _ _ _) rfl ?_;exact ⟨rfl,TB.out⟩
def eP.f:Option Bool:=some true
theorem eP.calls (r:Bool) (w:World) (hT:eU w) (h:eP.f=some r):Calls Tryz.prog 16 #[] w fun e w'=>e=.returned (.bool r)/\Below w.heap.size w w':=by
 obtain rfl:=Option.some.inj h;exact OL w hT
end Go.Proofs.YtkkpjonfaflkmaaGreatDoor.T
