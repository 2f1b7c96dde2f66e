/- A part of the proof of ScanWrites. -/
import Derived.Test.YtkkpjonfaflkmaaGreatDoorCScanWrites9
import Derived.Maps.OwnIn
set_option linter.all false
namespace Go.Proofs.YtkkpjonfaflkmaaGreatDoor.T
open Go.RowKit Go.Maps Go.Proofs.aj.aI Go.Proofs.aj.aY Go.Proofs.aj.bq
attribute [local go_sem] Oper.semAt_some
def Qc:Option (Nat × Nat)->Array Value
 | none=>#[.int .i64 0,.int .i64 0]
 | some (c,ln)=>#[.int .i64 c,.int .i64 ln]
theorem LJ:∀ args w,(callFunc 90 args).run Tryz.prog w=.ok (.enter 90 args) w:=enters_of Tryz.func90 (by kernel_rfl) rfl
set_option maxRecDepth 100000 in
set_option maxHeartbeats 4000000 in
theorem NR (m:Nat) {l B0 FB fp:Nat} {src:ByteArray} {J:List (List S.Tk)->(Nat->Prop)->World->Prop} (C:Client l m J) {F:Nat->Prop} (W:World) (hsz:src.size<=100000) (hT:dR W)
  (hJ:J [] F W) (hF:∀ k,F k->k≠fp/\k≠FB) (hB0:W.heap[B0]?=some (.cells #[.string src] 9 (0,0))) (yD:W.heap[FB]?=some (.cells #[.pointer (some ⟨fp,0,none⟩)] 88 (0,0)))
  (hfp:W.heap[fp]?=some (.cells #[.int .i64 0,.int .i64 0] 76 (0,0))) :
  CallsIn Fence.wide (m+2) Tryz.prog 87 #[.func (.yield l) #[] #[],.pointer (some ⟨B0,0,none⟩),.pointer (some ⟨FB,0,none⟩)] W fun e W' =>
   (∃ v,e=.returned v)/\∃ F',J (S.scan (bytesOf src)).cl F' W'/\W'.heap[fp]?=some (.cells (Qc (S.scan (bytesOf src)).err) 76 (0,0)):=by
 have hmf:∀ (fn:Fn) (first cap:Array Value) (w:World),(Instr.makeFunc fn first cap).run Tryz.prog w=.ok (.func fn first cap) w:=fun _ _ _ _=>rfl
 have hwf:∀ f,Fence.wide.fn f:=fun _=>trivial
 have HJ:=ah.mk hJ;have HF:=ah.mk hF;have Xl:=ah.mk yD;have HFP:=ah.mk hfp;obtain ⟨H,hH⟩:∃ H,W.heap.size=H:=⟨_,rfl⟩;have hlt:B0 < H/\FB < H/\fp < H:=by
  rw [<- hH];exact ⟨(Array.getElem?_eq_some_iff.1 hB0).1,(Array.getElem?_eq_some_iff.1 yD).1,(Array.getElem?_eq_some_iff.1 hfp).1⟩
 obtain ⟨L,hL⟩:∃ L,bytesOf src=L:=⟨_,rfl⟩;obtain ⟨N,hN⟩:∃ N,src.size=N:=⟨_,rfl⟩;have HN:ah (L.length=N):=⟨by rw [<- hL,bytesOf_length];exact hN⟩;have HL:=ah.mk hL;have VF:ah (src.size=N):=⟨hN⟩;have hNb:N<=100000:=by rw [<- hN];exact hsz
 rw [hL];obtain ⟨OUT,hO⟩:∃ OUT,S.scan L=OUT:=⟨_,rfl⟩;rw [hO];have HO:=ah.mk hO;have hb1:But (fun _=>False) W (W.alloc (.cells #[.func (.yield l) #[] #[]] 55)):=(But.refl _ W).alloc _;have hy1:=heap_alloc_new W (.cells #[.func (.yield l) #[] #[]] 55);have hs1:=World.size_alloc W (.cells #[.func (.yield l) #[] #[]] 55);rw [hH] at hy1 hs1;have c0:(W.alloc (.cells #[.func (.yield l) #[] #[]] 55)).cell? ⟨B0,0,none⟩=some (.string src):=(au ((hb1.block B0 (by omega) (fun e=>e)).trans hB0) 0).trans rfl;have HB1:=ah.mk hb1;have HY1:=ah.mk hy1;have hT1:dR (W.alloc (.cells #[.func (.yield l) #[] #[]] 55)):=hT.of_below hb1.below;have HT1:=ah.mk hT1;clear hJ hF yD hfp hB0 hL hN hO hb1 hy1 hT hT1;refine callsIn_of_wp_defers Tryz.func87 rfl trivial ?_ rfl;simp only [Tryz.ntmps87,List.size_toArray,List.length_cons,List.length_nil,Nat.reduceAdd,Nat.reduceSub,Array.replicate_succ,Array.replicate_zero,List.push_toArray,List.append_toArray,List.nil_append,List.cons_append];gi_upto_region 1 with (fail)
 try rw [hH]
 generalize W.alloc (.cells #[.func (.yield l) #[] #[]] 55)=W1 at *;gi_cut [4] from 11 (fun s4 wc=>∃ (s:Nat) (hd:Int->Value) (D:DataW Unit),s4=.pointer (some ⟨s,0,none⟩)/\ah (wc.heap.size=s+1/\H+2 < s+1/\But (fun _=>False) W1 wc/\ScM s src 0 1 (H+1) (H+1+2) hd D wc/\∀ c g,(hd c).ownBlock=some g->H+1 < g/\g < s))
 case first =>
  have hsg:Calls Tryz.prog 88 #[] W1.drew fun e w'=>e=.returned (.map (some (H+1)))/\Below (H+1) W1.drew w'/\∃ hd D,Ag w' (H+1) (H+1+2) jd hd D:=by
   have:=LB.calls W1.drew ((HT1.out.of_below (av (jl (Below.refl _ _)) (.map #[] 0))).space);rw [show W1.drew.heap.size=H+1 from hs1] at this;exact this
  have HSG:=Lib.hid hsg;have aeh:ah (∀ (w':World) (hd:Int->Value) (D:DataW Unit),Below (H+1) W1.drew w'->Ag w' (H+1) (H+1+2) jd hd D->∃ (s:Nat) (hd:Int->Value) (D:DataW Unit),Value.pointer (some ⟨w'.heap.size,0,none⟩)=.pointer (some ⟨s,0,none⟩) /\
    ah ((w'.alloc (.cells #[.string src,.int .i64 0,.int .i64 1,.map (some (H+1))] 93)).heap.size=s+1/\H+2 < s+1/\But (fun _=>False) W1 (w'.alloc (.cells #[.string src,.int .i64 0,.int .i64 1,.map (some (H+1))] 93)) /\
     ScM s src 0 1 (H+1) (H+1+2) hd D (w'.alloc (.cells #[.string src,.int .i64 0,.int .i64 1,.map (some (H+1))] 93))/\∀ c g,(hd c).ownBlock=some g->H+1 < g/\g < s)):=⟨fun w' hd D hb hsg=>by
   have hal:But (fun _=>False) w' (w'.alloc (.cells #[.string src,.int .i64 0,.int .i64 1,.map (some (H+1))] 93)):=(But.refl _ w').alloc _;have hml:H+1 < w'.heap.size:=hsg.map.lt;have hrl:∀ c g,(hd c).ownBlock=some g->H+1+2<=g/\g < w'.heap.size:=fun c g e=>(hsg.row c).lt g e
   refine ⟨w'.heap.size,hd,D,rfl,⟨World.size_alloc _ _,by omega,?_,⟨heap_alloc_new _ _,hsg.blk (hal.block _ hml (fun e=>e)) (fun c g e=>hal.block g (hrl c g e).2 (fun e=>e)),by omega,fun c g e=>by have:=hrl c g e;omega⟩,fun c g e=>by have:=hrl c g e;omega⟩⟩;have h0:But (fun _=>False) W1 w':=⟨hb.os,hb.tape,hb.output,hb.size,fun k hk _=>hb.block k (by have h9:k < W1.heap.size:=hk;omega)⟩;exact h0.trans' hal⟩
  clear hsg;refine wpIn_region_any (by kernel_rfl) ?_;change wpAnyIn _ _ _ _ _ _ _ _ _ (World.drew W1)
  refine wpAnyIn_ready (rs:=[0,1]) (by kernel_rfl) (by simp) ?_;refine AllReadyIn.cons rfl (fun K hK=>?_) (AllReadyIn.cons rfl (fun K hK=>?_) AllReadyIn.nil)
  ·go_simp
   refine hK _ _ ?_;clear hK K;refine wpAnyIn_ready (rs:=[1]) (by kernel_rfl) (by simp) ?_;refine AllReadyIn.cons rfl (fun K hK=>?_) AllReadyIn.nil;go_simp;refine (callsIn_wide.2 HSG.out).mono ?_;rintro e w' ⟨rfl,hb,hd,D,hsg⟩
   refine hK _ _ ?_;clear hK K;refine wpAnyIn_ready (rs:=[2]) (by kernel_rfl) (by simp) ?_;refine AllReadyIn.cons rfl (fun K hK=>?_) AllReadyIn.nil;go_simp;refine hK _ _ ?_;clear hK K;refine wpAnyIn_ready (rs:=[3]) (by kernel_rfl) (by simp) ?_;refine AllReadyIn.cons rfl (fun K hK=>?_) AllReadyIn.nil;go_simp;refine hK _ _ ?_;clear hK K;refine wpAnyIn_ready (rs:=[4]) (by kernel_rfl) (by simp) ?_;refine AllReadyIn.cons rfl (fun K hK=>?_) AllReadyIn.nil;go_simp;refine hK _ _ ?_;clear hK K;refine wpAnyIn_done (by kernel_rfl) ?_ _;gi_wp2
   gi_meet
   case rel=>exact aeh.out w' hd D hb hsg
  ·go_simp
   refine (callsIn_wide.2 HSG.out).mono ?_;rintro e w' ⟨rfl,hb,hd,D,hsg⟩
   refine hK _ _ ?_;clear hK K;have c0':w'.cell? ⟨B0,0,none⟩=some (.string src):=(hb.cell (p:=⟨B0,0,none⟩) (by show B0 < H+1;omega)).trans c0;refine wpAnyIn_ready (rs:=[0]) (by kernel_rfl) (by simp) ?_;refine AllReadyIn.cons rfl (fun K hK=>?_) AllReadyIn.nil;go_simp;refine hK _ _ ?_;clear hK K;refine wpAnyIn_ready (rs:=[2]) (by kernel_rfl) (by simp) ?_;refine AllReadyIn.cons rfl (fun K hK=>?_) AllReadyIn.nil;go_simp;refine hK _ _ ?_;clear hK K;refine wpAnyIn_ready (rs:=[3]) (by kernel_rfl) (by simp) ?_;refine AllReadyIn.cons rfl (fun K hK=>?_) AllReadyIn.nil;go_simp;refine hK _ _ ?_;clear hK K;refine wpAnyIn_ready (rs:=[4]) (by kernel_rfl) (by simp) ?_;refine AllReadyIn.cons rfl (fun K hK=>?_) AllReadyIn.nil;go_simp;refine hK _ _ ?_;clear hK K;refine wpAnyIn_done (by kernel_rfl) ?_ _;gi_wp2
   gi_meet
   case rel=>exact aeh.out w' hd D hb hsg
 case rest =>
  obtain ⟨s,hd,D,rfl,HX⟩:=hcut;have hws:=HX.out.1;gi_upto_region 6 with (fail)
  obtain ⟨aiQ,hH2,hbX,LK,hrX⟩:=HX.out;have ha1:But (fun _=>False) wc (wc.alloc (.cells #[.slice none 0 0] 24)):=(But.refl _ wc).alloc _;have ha2:But (fun _=>False) (wc.alloc (.cells #[.slice none 0 0] 24)) ((wc.alloc (.cells #[.slice none 0 0] 24)).alloc (.cells #[.bool false] 4)):=(But.refl _ _).alloc _;have hn1:=heap_alloc_new wc (.cells #[.slice none 0 0] 24);have hn2:=heap_alloc_new (wc.alloc (.cells #[.slice none 0 0] 24)) (.cells #[.bool false] 4);have hz1:=World.size_alloc wc (.cells #[.slice none 0 0] 24);have hz2:=World.size_alloc (wc.alloc (.cells #[.slice none 0 0] 24)) (.cells #[.bool false] 4);rw [hws] at hn1 hz1;rw [hz1] at hn2 hz2;have haX:But (fun _=>False) W1 ((wc.alloc (.cells #[.slice none 0 0] 24)).alloc (.cells #[.bool false] 4)):=(hbX.trans' ha1).trans' ha2;have haW:=HB1.out.trans' haX;have abC:=ha1.trans' ha2;have hI0:It l H s fp FB src hd D J 0 1 (.slice none 0 0) [] false [] F ((wc.alloc (.cells #[.slice none 0 0] 24)).alloc (.cells #[.bool false] 4)):=by
   refine ⟨⟨(abC.block s (by omega) (fun e=>e)).trans LK.sc,LK.sg.but LK.nm LK.nr (abC.mono (fun _ _ e=>e.elim)),LK.nm,LK.nr⟩,⟨(ha2.block (s+1) (by omega) (fun e=>e)).trans hn1,hn2,(haX.block H (by omega) (fun e=>e)).trans HY1.out,World.ownsRow_nil _ _ _ _,by omega,by omega,by omega,by omega,by omega,by omega,by omega⟩,
    C.stable HJ.out (haW.mono (fun _ _ e=>e.elim)),fun k hk=>⟨.inl (by have:=C.lt HJ.out k hk;omega),by simp [Value.ownBlock],HF.out k hk⟩,(haW.block fp (by omega) (fun e=>e)).trans HFP.out,(haW.block FB (by omega) (fun e=>e)).trans Xl.out,by simp,by simp,by omega,by omega,by omega,hrX⟩
  have HI0:=ah.mk hI0;clear hI0 ha1 ha2 hn1 hn2 hz1 hz2 haX haW abC aiQ hbX LK hrX hws c0 hH hs1;generalize (wc.alloc (.cells #[.slice none 0 0] 24)).alloc (.cells #[.bool false] 4)=W3 at *;gi_loopg [8] (N+1) (fun gg s8 wr=>∃ (i line:Nat) (v:Value) (cur:List S.Tk) (gap:Bool) (pre:List (List S.Tk)) (F':Nat->Prop) (f:Nat),i<=N/\N+1 - i<=gg/\N+1 - i<=f/\0 < line/\line<=i+1/\ah (It l H s fp FB src hd D J i line v cur gap pre F' wr)/\ah ((S.go f (L.drop i) i line cur gap).pre pre=OUT))
  case atStart =>
   refine ⟨0,1,_,[],false,[],F,N+1,Nat.zero_le _,by omega,by omega,by omega,by omega,HI0,⟨?_⟩⟩;rw [<- HO.out];unfold S.scan;rw [HN.out];simp [S.Out.pre]
  case round =>
   obtain ⟨i,line,v,cur,gap,pre,F',f,hi,hg,hf,hl0,hl1,HI,HA⟩:=hrel;obtain ⟨A,cn,cap,rfl,hcn⟩:∃ A cn cap,v=.slice A cn cap/\cur.length=cn:=by
    rcases HI.out.cu.own.2 with ⟨rfl,e2⟩ | ⟨g,cap,cs,rfl,_⟩
    ·exact ⟨_,_,_,rfl,e2⟩
    ·exact ⟨_,_,_,rfl,rfl⟩
   have zA:=ah.mk hcn;clear hcn;obtain ⟨f0,rfl⟩:∃ f0,f=f0+1:=⟨f - 1,by omega⟩;have hst:=PX.calls s src i line (H+1) (H+1+2) hd D wr hsz (by have:=VF.out;omega) hl0 (by have:=VF.out;omega) HI.out.sm;rw [HL.out] at hst;have hA:=HA.out;simp only [S.go] at hA;clear HA;have hdr:∀ k,(L.drop i).drop k=L.drop (i+k):=fun k=>by rw [List.drop_drop]
   have heg:=LJ;cases hS:S.step (L.drop i) with
   | fin =>
    rw [hS] at hst hA;simp only [je,uS,DK] at hst;have HST:=Lib.hid hst;have HA:=ah.mk hA;clear hst hA hS;gi_upto_region 7 with (gi_at_call 91;refine (callsIn_wide.2 HST.out).mono ?_;rintro e w3 ⟨hb3,rfl,hs3⟩)
    have HI3:=ah.mk (HI.out.step C hb3 hs3 (by omega));have NS:=HI.out.len;obtain ⟨T,hT⟩:∃ T,w3.heap.size=T:=⟨_,rfl⟩;have hb4:But (fun _=>False) w3 (w3.alloc (.cells #[.int .i64 0,.string ⟨#[]⟩,.bool false,.int .i64 0,.int .i64 0,.int .i64 0] 53)):=(But.refl _ w3).alloc _;have nR:=heap_alloc_new w3 (.cells #[.int .i64 0,.string ⟨#[]⟩,.bool false,.int .i64 0,.int .i64 0,.int .i64 0] 53);have HI4:=ah.mk (HI3.out.new C hb4);have Pz:=World.size_alloc w3 (.cells #[.int .i64 0,.string ⟨#[]⟩,.bool false,.int .i64 0,.int .i64 0,.int .i64 0] 53);rw [hT] at nR Pz;have hTs:s+3<=T:=by have:=HI3.out.cu.lw;omega
    have HTF:ah (¬ F' T/\(Value.slice A cn cap).ownBlock≠some T):=⟨fun hf=>by have:=C.lt HI3.out.jj T hf;omega,fun e=>by have:=(HI3.out.cu.own.lt T e).2;omega⟩;try rw [hT]
    clear hb3 hs3 hb4 HI HI3 hT HST;generalize w3.alloc (.cells #[.int .i64 0,.string ⟨#[]⟩,.bool false,.int .i64 0,.int .i64 0,.int .i64 0] 53)=W4 at *;have c0:=HI4.out.sm.sc.c1;have c00:=HI4.out.sm.sc.c2;have c1:W4.cell? ⟨s+1,0,none⟩=some (.slice A cn cap):=(au HI4.out.cu.cb 0).trans rfl;have c2:W4.cell? ⟨s+1+1,0,none⟩=some (.bool gap):=(au HI4.out.cu.gb 0).trans rfl;have f1:=aA HI4.out.cu.cb 0;have f2:=aA HI4.out.cu.gb 0;have k0:=(au nR 0);have k1:=(au nR 1);have k3:=(au nR 3);have k4:=(au nR 4);have k5:=(au nR 5);have yE:=zB HI4.out.cu.own HI4.out.DN (by have:=HI4.out.len;omega);cases hcm:S.comma cur with
    | true =>
     have hA:=HA.out;have hct:S.cut cur=cur.dropLast:=by unfold S.cut;rw [if_pos hcm]
     rw [hct] at hA;rw [hcm] at yE;have HCM:=Lib.hid yE;have hne:cur≠[]:=by rintro rfl;cases hcm
     obtain ⟨cq,rfl⟩:∃ cq,cn=cq+1:=⟨cn - 1,by have:=zA.out;have:=List.length_pos_iff.2 hne;omega⟩;obtain ⟨g,rfl⟩:∃ g,A=some ⟨g,0,none⟩:=by
      rcases HI4.out.cu.own.2 with ⟨e,e2⟩ | ⟨g,cap',cs,e,_⟩
      ·exact absurd (List.length_eq_zero_iff.1 e2) hne
      ·simp only [Value.slice.injEq] at e;exact ⟨g,e.1⟩
     have hcq:=(uU HI4.out.cu.own).2.1;have hcb:cq<=1000000:=by have:=zA.out;have:=HI4.out.len;omega
     have hw1:IntKind.i64.wrap (((cq+1:Nat):Int) - 1)=(cq:Int):=(uq _ (by omega) (by omega)).trans (by omega);have hw2:((cq+1:Nat):Int) - 1=(cq:Int):=by omega
     have hw3:IntKind.i64.wrap ((cq:Int)+1 - 1)=(cq:Int):=(uq _ (by omega) (by omega)).trans (by omega);have hw4:(cq:Int)+1 - 1=(cq:Int):=by omega
     have HA:=ah.mk hA;clear hA hct hcm yE;gi_upto_region 12 with (gi_at_call 92;refine (callsIn_wide.2 HCM.out).mono ?_;rintro e w' ⟨rfl,⟨⟨q,rfl⟩⟩⟩)
     have FH:ah (It l H s fp FB src hd D J i line (.slice (some ⟨g,0,none⟩) cq cap) cur.dropLast gap pre F' ((W4.drewN q).setCell ⟨s+1,0,none⟩ (.slice (some ⟨g,0,none⟩) cq cap))):=⟨(HI4.out.drewN C q).aeg C hne⟩;clear c0 c00 c1 c2 f1 f2 k0 k1 k3 k4 k5 nR Pz;generalize (W4.drewN q).setCell ⟨s+1,0,none⟩ (.slice (some ⟨g,0,none⟩) cq cap)=W6 at *;have c0:=FH.out.sm.sc.c1;have c00:=FH.out.sm.sc.c2;have hen:∀ q,CallsIn Fence.wide (m+1) Tryz.prog 90 #[.int .i64 i,.int .i64 ((i:Int)),.int .i64 line,.pointer (some ⟨s+1,0,none⟩),.pointer (some ⟨s+1+1,0,none⟩),.pointer (some ⟨H,0,none⟩)] (W6.drewN q) fun e W' =>
       e=.returned (.bool true)/\∃ F5,It l H s fp FB src hd D J i line (.slice none 0 0) [] false (pre++S.emit cur.dropLast i i line) F5 W':=fun q=>(FH.out.drewN C q).Qb C (by omega) i i line
     have LM:=Lib.hid hen;clear hen;refine fE 13 (by kernel_rfl) (by kernel_rfl) ?_;simp only [List.take_succ_cons,List.take_zero,List.drop_succ_cons,List.drop_zero];still_step
     repeat still_step
     refine wpStill_nil ?_;gi_wp2_with (gi_at_call 90;refine (LM.out _).mono ?_;rintro e w5 ⟨rfl,F5,hi5⟩;have xZ:=ah.mk hi5;clear hi5)
     refine leavesIn_cons (f:=89) (args:=#[.pointer (some ⟨FB,0,none⟩),.pointer (some ⟨s+1,0,none⟩),.pointer (some ⟨H,0,none⟩)]) (by simp) (fun e=>by cases e) (by simp [go_sem]) (fun g _=>trivial) ?_;refine (uT _ _ _ _ _).mono ?_;rintro e u' w'' ⟨rfl,rfl,rfl⟩
     simp only [LeavesIn,settle];refine ⟨_,results_none rfl _ _ _,⟨_,rfl⟩,F5,?_,?_⟩
     ·rw [<- HA.out];exact xZ.out.jj
     ·rw [<- HA.out];exact xZ.out.hfp
    | false =>
     have hA:=HA.out;have hct:S.cut cur=cur:=by unfold S.cut;rw [hcm,if_neg Bool.false_ne_true]
     rw [hct] at hA;rw [hcm] at yE;have HCM:=Lib.hid yE;have HA:=ah.mk hA;clear hA hct hcm yE;gi_upto_region 12 with (gi_at_call 92;refine (callsIn_wide.2 HCM.out).mono ?_;rintro e w' ⟨rfl,⟨⟨q,rfl⟩⟩⟩)
     have hen:∀ q,CallsIn Fence.wide (m+1) Tryz.prog 90 #[.int .i64 i,.int .i64 ((i:Int)),.int .i64 line,.pointer (some ⟨s+1,0,none⟩),.pointer (some ⟨s+1+1,0,none⟩),.pointer (some ⟨H,0,none⟩)] (W4.drewN q) fun e W' =>
       e=.returned (.bool true)/\∃ F5,It l H s fp FB src hd D J i line (.slice none 0 0) [] false (pre++S.emit cur i i line) F5 W':=fun q=>(HI4.out.drewN C q).Qb C (by omega) i i line
     have LM:=Lib.hid hen;clear hen;refine fE 13 (by kernel_rfl) (by kernel_rfl) ?_;simp only [List.take_succ_cons,List.take_zero,List.drop_succ_cons,List.drop_zero];still_step
     repeat still_step
     refine wpStill_nil ?_;gi_wp2_with (gi_at_call 90;refine (LM.out _).mono ?_;rintro e w5 ⟨rfl,F5,hi5⟩;have xZ:=ah.mk hi5;clear hi5)
     refine leavesIn_cons (f:=89) (args:=#[.pointer (some ⟨FB,0,none⟩),.pointer (some ⟨s+1,0,none⟩),.pointer (some ⟨H,0,none⟩)]) (by simp) (fun e=>by cases e) (by simp [go_sem]) (fun g _=>trivial) ?_;refine (uT _ _ _ _ _).mono ?_;rintro e u' w'' ⟨rfl,rfl,rfl⟩
     simp only [LeavesIn,settle];refine ⟨_,results_none rfl _ _ _,⟨_,rfl⟩,F5,?_,?_⟩
     ·rw [<- HA.out];exact xZ.out.jj
     ·rw [<- HA.out];exact xZ.out.hfp
   | line =>
    have hiN:i < N:=by
     have:=S.qm (xs:=L.drop i) (by rw [hS];intro e;cases e);rw [List.length_drop,HN.out] at this;omega
    rw [hS] at hst hA;simp only [hdr] at hA;simp only [je,uS] at hst;have HST:=Lib.hid hst;have HA:=ah.mk hA;clear hst hA hS;gi_upto_region 7 with (gi_at_call 91;refine (callsIn_wide.2 HST.out).mono ?_;rintro e w3 ⟨hb3,rfl,hs3⟩)
    have HI3:=ah.mk (HI.out.step C hb3 hs3 (by omega));have NS:=HI.out.len;obtain ⟨T,hT⟩:∃ T,w3.heap.size=T:=⟨_,rfl⟩;have hb4:But (fun _=>False) w3 (w3.alloc (.cells #[.int .i64 0,.string ⟨#[]⟩,.bool false,.int .i64 line,.int .i64 i,.int .i64 0] 53)):=(But.refl _ w3).alloc _;have nR:=heap_alloc_new w3 (.cells #[.int .i64 0,.string ⟨#[]⟩,.bool false,.int .i64 line,.int .i64 i,.int .i64 0] 53);have HI4:=ah.mk (HI3.out.new C hb4);have Pz:=World.size_alloc w3 (.cells #[.int .i64 0,.string ⟨#[]⟩,.bool false,.int .i64 line,.int .i64 i,.int .i64 0] 53);rw [hT] at nR Pz;have hTs:s+3<=T:=by have:=HI3.out.cu.lw;omega
    have HTF:ah (¬ F' T/\(Value.slice A cn cap).ownBlock≠some T):=⟨fun hf=>by have:=C.lt HI3.out.jj T hf;omega,fun e=>by have:=(HI3.out.cu.own.lt T e).2;omega⟩;try rw [hT]
    clear hb3 hs3 hb4 HI HI3 hT HST;generalize w3.alloc (.cells #[.int .i64 0,.string ⟨#[]⟩,.bool false,.int .i64 line,.int .i64 i,.int .i64 0] 53)=W4 at *;have c0:=HI4.out.sm.sc.c1;have c00:=HI4.out.sm.sc.c2;have c1:W4.cell? ⟨s+1,0,none⟩=some (.slice A cn cap):=(au HI4.out.cu.cb 0).trans rfl;have c2:W4.cell? ⟨s+1+1,0,none⟩=some (.bool gap):=(au HI4.out.cu.gb 0).trans rfl;have f1:=aA HI4.out.cu.cb 0;have f2:=aA HI4.out.cu.gb 0;have k0:=(au nR 0);have k1:=(au nR 1);have k3:=(au nR 3);have k4:=(au nR 4);have k5:=(au nR 5);have yE:=zB HI4.out.cu.own HI4.out.DN (by have:=HI4.out.len;omega);cases hcm:S.comma cur with
    | true =>
     have hA:=HA.out;rw [hcm,if_pos rfl] at hA;rw [hcm] at yE;have HCM:=Lib.hid yE;have hne:cur≠[]:=by rintro rfl;cases hcm
     obtain ⟨cq,rfl⟩:∃ cq,cn=cq+1:=⟨cn - 1,by have:=zA.out;have:=List.length_pos_iff.2 hne;omega⟩;obtain ⟨g,rfl⟩:∃ g,A=some ⟨g,0,none⟩:=by
      rcases HI4.out.cu.own.2 with ⟨e,e2⟩ | ⟨g,cap',cs,e,_⟩
      ·exact absurd (List.length_eq_zero_iff.1 e2) hne
      ·simp only [Value.slice.injEq] at e;exact ⟨g,e.1⟩
     have hcq:=(uU HI4.out.cu.own).2.1;have hcb:cq<=1000000:=by have:=zA.out;have:=HI4.out.len;omega
     have hw1:IntKind.i64.wrap (((cq+1:Nat):Int) - 1)=(cq:Int):=(uq _ (by omega) (by omega)).trans (by omega);have hw2:((cq+1:Nat):Int) - 1=(cq:Int):=by omega
     have hw3:IntKind.i64.wrap ((cq:Int)+1 - 1)=(cq:Int):=(uq _ (by omega) (by omega)).trans (by omega);have hw4:(cq:Int)+1 - 1=(cq:Int):=by omega
     have HA:=ah.mk hA;clear hA hcm yE;gi_wp2_with (gi_at_call 92;refine (callsIn_wide.2 HCM.out).mono ?_;rintro e w' ⟨rfl,⟨⟨q,rfl⟩⟩⟩)
     gi_roundg (N+1 - (i+1))
     case measure=>omega
     case rel=>exact ⟨(i+1),(line+1),.slice (some ⟨g,0,none⟩) cq cap,cur.dropLast,true,pre,F',f0,by omega,by omega,by omega,by omega,by omega,⟨((HI4.out.drewN C q).aeg C hne).Tf C true⟩,⟨HA.out⟩⟩
    | false =>
     have hA:=HA.out;rw [hcm,if_neg Bool.false_ne_true] at hA;rw [hcm] at yE;have HCM:=Lib.hid yE;have HA:=ah.mk hA;clear hA hcm yE;have hen:∀ q,CallsIn Fence.wide (m+1) Tryz.prog 90 #[.int .i64 i,.int .i64 ((i:Int)+1),.int .i64 line,.pointer (some ⟨s+1,0,none⟩),.pointer (some ⟨s+1+1,0,none⟩),.pointer (some ⟨H,0,none⟩)] (W4.drewN q) fun e W' =>
       e=.returned (.bool true)/\∃ F5,It l H s fp FB src hd D J (i+1) (line+1) (.slice none 0 0) [] false (pre++S.emit cur i (i+1) line) F5 W':=fun q=>(HI4.out.drewN C q).Qb C (by omega) i (i+1) line
     have LM:=Lib.hid hen;clear hen;gi_wp2_with (first | (gi_at_call 92;refine (callsIn_wide.2 HCM.out).mono ?_;rintro e w' ⟨rfl,⟨⟨q,rfl⟩⟩⟩) | (gi_at_call 90;refine (LM.out _).mono ?_;rintro e w5 ⟨rfl,F5,hi5⟩;have xZ:=ah.mk hi5;clear hi5))
     gi_roundg (N+1 - (i+1))
     case measure=>omega
     case rel=>exact ⟨(i+1),(line+1),_,[],false,_,F5,f0,by omega,by omega,by omega,by omega,by omega,⟨xZ.out⟩,⟨by rw [<- pR];exact HA.out⟩⟩
   | blank =>
    have hiN:i < N:=by
     have:=S.qm (xs:=L.drop i) (by rw [hS];intro e;cases e);rw [List.length_drop,HN.out] at this;omega
    rw [hS] at hst hA;simp only [hdr] at hA;simp only [je,uS] at hst;have HST:=Lib.hid hst;have HA:=ah.mk hA;clear hst hA hS;gi_upto_region 7 with (gi_at_call 91;refine (callsIn_wide.2 HST.out).mono ?_;rintro e w3 ⟨hb3,rfl,hs3⟩)
    have HI3:=ah.mk (HI.out.step C hb3 hs3 (by omega));have NS:=HI.out.len;obtain ⟨T,hT⟩:∃ T,w3.heap.size=T:=⟨_,rfl⟩;have hb4:But (fun _=>False) w3 (w3.alloc (.cells #[.int .i64 0,.string ⟨#[]⟩,.bool false,.int .i64 line,.int .i64 i,.int .i64 0] 53)):=(But.refl _ w3).alloc _;have nR:=heap_alloc_new w3 (.cells #[.int .i64 0,.string ⟨#[]⟩,.bool false,.int .i64 line,.int .i64 i,.int .i64 0] 53);have HI4:=ah.mk (HI3.out.new C hb4);have Pz:=World.size_alloc w3 (.cells #[.int .i64 0,.string ⟨#[]⟩,.bool false,.int .i64 line,.int .i64 i,.int .i64 0] 53);rw [hT] at nR Pz;have hTs:s+3<=T:=by have:=HI3.out.cu.lw;omega
    have HTF:ah (¬ F' T/\(Value.slice A cn cap).ownBlock≠some T):=⟨fun hf=>by have:=C.lt HI3.out.jj T hf;omega,fun e=>by have:=(HI3.out.cu.own.lt T e).2;omega⟩;try rw [hT]
    clear hb3 hs3 hb4 HI HI3 hT HST;generalize w3.alloc (.cells #[.int .i64 0,.string ⟨#[]⟩,.bool false,.int .i64 line,.int .i64 i,.int .i64 0] 53)=W4 at *;have c0:=HI4.out.sm.sc.c1;have c00:=HI4.out.sm.sc.c2;have c1:W4.cell? ⟨s+1,0,none⟩=some (.slice A cn cap):=(au HI4.out.cu.cb 0).trans rfl;have c2:W4.cell? ⟨s+1+1,0,none⟩=some (.bool gap):=(au HI4.out.cu.gb 0).trans rfl;have f1:=aA HI4.out.cu.cb 0;have f2:=aA HI4.out.cu.gb 0;have k0:=(au nR 0);have k1:=(au nR 1);have k3:=(au nR 3);have k4:=(au nR 4);have k5:=(au nR 5);gi_wp2
    gi_roundg (N+1 - (i+1))
    case measure=>omega
    case rel=>exact ⟨(i+1),line,_,cur,true,pre,F',f0,by omega,by omega,by omega,by omega,by omega,⟨HI4.out.Tf C true⟩,⟨HA.out⟩⟩
   | jD k dl =>
    have hk:=S.sP hS;rw [List.length_drop,HN.out] at hk;rw [hS] at hst hA;simp only [hdr] at hA;simp only [je,uS] at hst;have HST:=Lib.hid hst;have HA:=ah.mk hA;clear hst hA hS;gi_upto_region 7 with (gi_at_call 91;refine (callsIn_wide.2 HST.out).mono ?_;rintro e w3 ⟨hb3,rfl,hs3⟩)
    have HI3:=ah.mk (HI.out.step C hb3 hs3 (by omega));have NS:=HI.out.len;obtain ⟨T,hT⟩:∃ T,w3.heap.size=T:=⟨_,rfl⟩;have hb4:But (fun _=>False) w3 (w3.alloc (.cells #[.int .i64 0,.string ⟨#[]⟩,.bool false,.int .i64 line,.int .i64 i,.int .i64 0] 53)):=(But.refl _ w3).alloc _;have nR:=heap_alloc_new w3 (.cells #[.int .i64 0,.string ⟨#[]⟩,.bool false,.int .i64 line,.int .i64 i,.int .i64 0] 53);have HI4:=ah.mk (HI3.out.new C hb4);have Pz:=World.size_alloc w3 (.cells #[.int .i64 0,.string ⟨#[]⟩,.bool false,.int .i64 line,.int .i64 i,.int .i64 0] 53);rw [hT] at nR Pz;have hTs:s+3<=T:=by have:=HI3.out.cu.lw;omega
    have HTF:ah (¬ F' T/\(Value.slice A cn cap).ownBlock≠some T):=⟨fun hf=>by have:=C.lt HI3.out.jj T hf;omega,fun e=>by have:=(HI3.out.cu.own.lt T e).2;omega⟩;try rw [hT]
    clear hb3 hs3 hb4 HI HI3 hT HST;generalize w3.alloc (.cells #[.int .i64 0,.string ⟨#[]⟩,.bool false,.int .i64 line,.int .i64 i,.int .i64 0] 53)=W4 at *;have c0:=HI4.out.sm.sc.c1;have c00:=HI4.out.sm.sc.c2;have c1:W4.cell? ⟨s+1,0,none⟩=some (.slice A cn cap):=(au HI4.out.cu.cb 0).trans rfl;have c2:W4.cell? ⟨s+1+1,0,none⟩=some (.bool gap):=(au HI4.out.cu.gb 0).trans rfl;have f1:=aA HI4.out.cu.cb 0;have f2:=aA HI4.out.cu.gb 0;have k0:=(au nR 0);have k1:=(au nR 1);have k3:=(au nR 3);have k4:=(au nR 4);have k5:=(au nR 5);gi_wp2
    gi_roundg (N+1 - (i+k))
    case measure=>omega
    case rel=>exact ⟨(i+k),(line+dl),_,cur,gap,pre,F',f0,by omega,by omega,by omega,by omega,by omega,⟨HI4.out⟩,⟨HA.out⟩⟩
   | tok k t k' =>
    obtain ⟨b1,b2,b3,b4,b5⟩:=S.kR (xs:=L.drop i) (fun x hx=>eG src x (by rw [HL.out];exact List.mem_of_mem_drop hx)) hS;rw [List.length_drop,HN.out] at b2;obtain ⟨E,hE⟩:∃ E,i+k'=E:=⟨_,rfl⟩;rw [hS] at hst hA;simp only [hdr,hE] at hA;simp only [je,uS,hE] at hst;have HST:=Lib.hid hst;have HA:=ah.mk hA;clear hst hA hS;gi_upto_region 7 with (gi_at_call 91;refine (callsIn_wide.2 HST.out).mono ?_;rintro e w3 ⟨hb3,rfl,hs3⟩)
    have HI3:=ah.mk (HI.out.step C hb3 hs3 (by omega));have NS:=HI.out.len;obtain ⟨T,hT⟩:∃ T,w3.heap.size=T:=⟨_,rfl⟩;have hb4:But (fun _=>False) w3 (w3.alloc (.cells #[.int .i64 k,.string (strOfNums t),.bool false,.int .i64 line,.int .i64 i,.int .i64 E] 53)):=(But.refl _ w3).alloc _;have nR:=heap_alloc_new w3 (.cells #[.int .i64 k,.string (strOfNums t),.bool false,.int .i64 line,.int .i64 i,.int .i64 E] 53);have HI4:=ah.mk (HI3.out.new C hb4);have Pz:=World.size_alloc w3 (.cells #[.int .i64 k,.string (strOfNums t),.bool false,.int .i64 line,.int .i64 i,.int .i64 E] 53);rw [hT] at nR Pz;have hTs:s+3<=T:=by have:=HI3.out.cu.lw;omega
    have HTF:ah (¬ F' T/\(Value.slice A cn cap).ownBlock≠some T):=⟨fun hf=>by have:=C.lt HI3.out.jj T hf;omega,fun e=>by have:=(HI3.out.cu.own.lt T e).2;omega⟩;try rw [hT]
    clear hb3 hs3 hb4 HI HI3 hT HST;generalize w3.alloc (.cells #[.int .i64 k,.string (strOfNums t),.bool false,.int .i64 line,.int .i64 i,.int .i64 E] 53)=W4 at *;have c0:=HI4.out.sm.sc.c1;have c00:=HI4.out.sm.sc.c2;have c1:W4.cell? ⟨s+1,0,none⟩=some (.slice A cn cap):=(au HI4.out.cu.cb 0).trans rfl;have c2:W4.cell? ⟨s+1+1,0,none⟩=some (.bool gap):=(au HI4.out.cu.gb 0).trans rfl;have f1:=aA HI4.out.cu.cb 0;have f2:=aA HI4.out.cu.gb 0;have k0:=(au nR 0);have k1:=(au nR 1);have k3:=(au nR 3);have k4:=(au nR 4);have k5:=(au nR 5);by_cases yF:k=3/\t=[59]
    ·obtain ⟨rfl,rfl⟩:=yF
     have hA:=HA.out;rw [if_pos ⟨rfl,rfl⟩] at hA;have HA:=ah.mk hA;have hts:((strOfNums [59]).toList==([59]:List UInt8))=true:=by rw [str_eq,bW _ (by decide)];rfl
     clear hA;have hen:∀ q,CallsIn Fence.wide (m+1) Tryz.prog 90 #[.int .i64 i,.int .i64 ((E:Int)),.int .i64 line,.pointer (some ⟨s+1,0,none⟩),.pointer (some ⟨s+1+1,0,none⟩),.pointer (some ⟨H,0,none⟩)] (W4.drewN q) fun e W' =>
       e=.returned (.bool true)/\∃ F5,It l H s fp FB src hd D J E line (.slice none 0 0) [] false (pre++S.emit cur i E line) F5 W':=fun q=>(HI4.out.drewN C q).Qb C (by omega) i E line
     have LM:=Lib.hid hen;clear hen;have aiR:=Lib.hid (LM.out 0);gi_wp2_with (gi_at_call 90;refine (aiR.out).mono ?_;rintro e w5 ⟨rfl,F5,hi5⟩;have xZ:=ah.mk hi5;clear hi5)
     gi_roundg (N+1 - E)
     case measure=>omega
     case rel=>exact ⟨E,line,_,[],false,_,F5,f0,by omega,by omega,by omega,by omega,by omega,⟨xZ.out⟩,⟨by rw [<- pR];exact HA.out⟩⟩
    have hor:((((k:Nat):Int)==3)=false)\/((((k:Nat):Int)==3)=true/\((strOfNums t).toList==([59]:List UInt8))=false):=by
     by_cases h3:k=3
     ·refine .inr ⟨beq_iff_eq.2 (by omega),?_⟩
      rw [str_eq,bW _ b3];exact decide_eq_false (fun e=>yF ⟨h3,e⟩)
     ·exact .inl (beq_eq_false_iff_ne.2 (by omega))
    obtain ⟨gv,hgv⟩:∃ gv,(gap&&!decide (cur=[]))=gv:=⟨_,rfl⟩;have hA:=HA.out;clear HA;rw [if_neg yF,hgv] at hA;have aiS:(gap=false/\gv=false)\/(gap=true/\decide ((0:Int) < (cn:Int))=gv/\decide (0 < cn)=gv):=by
     cases gap with
     | false=>exact .inl ⟨rfl,by rw [<- hgv];rfl⟩
     | true =>
      refine .inr ⟨rfl,?_,?_⟩;all_goals
       rw [<- hgv];by_cases hz:cur=[]
       ·have hc0:cn=0:=by rw [<- zA.out,hz];rfl
        subst hc0;simp [hz]
       have:=List.length_pos_iff.2 hz;have hc0:0 < cn:=by rw [<- zA.out];exact this
       have hc1:(0:Int) < (cn:Int):=by omega
       simp [hz,hc0]
    obtain ⟨tk,htk⟩:∃ tk:S.Tk,tk=⟨k,t,gv,line,i,E⟩:=⟨_,rfl⟩;rw [<- htk] at hA;have HA:=ah.mk hA;have zR:ah (Db tk=[.int .i64 k,.string (strOfNums t),.bool gv,.int .i64 line,.int .i64 i,.int .i64 E]/\Bytes tk):=⟨by rw [htk];exact ⟨rfl,b3⟩⟩;have xZ:=ah.mk (HI4.out.other C (A:=fun k=>k=T) ((But.refl (fun k=>k=T) W4).set ⟨T,2,none⟩ (.bool gv) rfl) (fun k e=>⟨by omega,by rw [e];exact HTF.out.1,by rw [e];exact HTF.out.2⟩));have hn5:(W4.setCell ⟨T,2,none⟩ (.bool gv)).heap[T]?=some (.cells #[.int .i64 k,.string (strOfNums t),.bool gv,.int .i64 line,.int .i64 i,.int .i64 E] 53 (0,0)):=aW nR 2 (.bool gv) rfl;have QJ:=ah.mk hn5;have k2:=au nR 2;have g2:=aA nR 2;have HOW:ah (∀ X,But (fun _=>False) (W4.setCell ⟨T,2,none⟩ (.bool gv)) X->X.ownsRow (s+3) 53 6 (.slice A cn cap) cn (dG cur)):=⟨fun X hX=>by
     have:=bV xZ.out.cu.own hX (fun k e=>e.elim);rwa [zA.out] at this⟩
    have alp:cn<=1000000:=by have:=zA.out;have:=HI4.out.len;omega
    have alq:s+3<=(W4.setCell ⟨T,2,none⟩ (.bool gv)).heap.size:=xZ.out.cu.lw;obtain ⟨i0,hi0,hz0,hz1,hz2⟩:=info_parts (show (Tryz.prog.info? 53).map (fun i=>(i.zero,i.size,i.bytes))=some (some (.agg DK),6,56) by kernel_rfl);clear hA hgv htk yF hn5;rcases hor with e3 | ⟨e3,ets⟩
    all_goals
     rcases aiS with ⟨rfl,rfl⟩ | ⟨rfl,y1,y2⟩
     ·gi_upto_region 23 with (fail)
      generalize W4.setCell ⟨T,2,none⟩ (.bool false)=W5 at *;clear c0 c00 c1 c2 f1 f2 k0 k1 k2 k3 k4 k5 g2 nR Pz;have c1:W5.cell? ⟨s+1,0,none⟩=some (.slice A cn cap):=(au xZ.out.cu.cb 0).trans rfl;have c2:=au xZ.out.cu.gb 0;have k0:=au QJ.out 0;have k1:=au QJ.out 1;have k2:=au QJ.out 2;have k3:=au QJ.out 3;have k4:=au QJ.out 4;have k5:=au QJ.out 5;have hnX:=heap_alloc_new W5 (.cells #[.int .i64 k,.string (strOfNums t),.bool false,.int .i64 line,.int .i64 i,.int .i64 E] 53);have QI:But (fun _=>False) W5 (W5.alloc (.cells #[.int .i64 k,.string (strOfNums t),.bool false,.int .i64 line,.int .i64 i,.int .i64 E] 53)):=(But.refl _ W5).alloc _;have HXO:=ah.mk (HOW.out _ QI);have HXB:=ah.mk QI;have Xx:=ah.mk hnX;have Ti:ah (∀ w1,(W5.alloc (.cells #[.int .i64 k,.string (strOfNums t),.bool false,.int .i64 line,.int .i64 i,.int .i64 E] 53)).grownBy w1 (Value.slice A cn cap).ownBlock->w1.heap[s+1]?=some (.cells #[.slice A cn cap] 24 (0,0))/\w1.heap[s+1+1]?=some (.cells #[.bool false] 4 (0,0))):=⟨fun w1 hg=>by
       have hge:=xZ.out.sS;have hsz:=HXB.out.size;exact ⟨(hg.block (s+1) (by omega) (fun e=>by have:=hge _ e.symm;omega)).trans ((HXB.out.block (s+1) (by omega) (fun e=>e)).trans xZ.out.cu.cb),(hg.block (s+1+1) (by omega) (fun e=>by have:=hge _ e.symm;omega)).trans ((HXB.out.block (s+1+1) (by omega) (fun e=>e)).trans xZ.out.cu.gb)⟩⟩
      clear QI hnX;gi_upto_region 24 with (gi_at_builtin;refine wpListIn_append_own_at _ rfl (.tmp 91) (.tmp 93) 24 rfl (s+3) 53 i0 (.agg DK) 6 56 Tryz.underlying24 hi0 hz0 hz1 hz2 rfl (by decide) (.slice A cn cap) cn (dG cur) rfl HXO.out ⟨W5.heap.size,0,none⟩ 1 1 (Db tk) rfl (by rw [zR.out.1];rfl) (fun j u hu=>by rw [add_plain,au Xx.out j];rw [zR.out.1] at hu;simpa using hu) (uE _) (by unfold maxLen;omega) (by omega) (by rw [World.size_alloc];omega) ?_;intro v' w1 hown' hgrow _ hat;obtain ⟨g',cap',rfl⟩:=ownsRow_succ hown';have FI:=ah.mk hown';have NP:=ah.mk hgrow;have HAT:=ah.mk hat;have e1:=au (Ti.out w1 hgrow).1 0;have e2:=au (Ti.out w1 hgrow).2 0;have q1:=aA (Ti.out w1 hgrow).1 0;have q2:=aA (Ti.out w1 hgrow).2 0;clear hown' hgrow hat)
      have FH:=ah.mk (xZ.out.more C HXB.out (v':=.slice (some ⟨g',0,none⟩) (cn+1) cap') (t:=tk) (by rw [zA.out];exact FI.out) NP.out HAT.out zR.out.2 (by omega));generalize (w1.setCell ⟨s+1,0,none⟩ (.slice (some ⟨g',0,none⟩) (cn+1) cap')).setCell ⟨s+1+1,0,none⟩ (.bool false)=W6 at *;clear c1 c2 k0 k1 k2 k3 k4 k5 e1 e2 q1 q2;have c0:=FH.out.sm.sc.c1;have c00:=FH.out.sm.sc.c2;have c1:W6.cell? ⟨s+1,0,none⟩=some (.slice (some ⟨g',0,none⟩) (cn+1) cap'):=(au FH.out.cu.cb 0).trans rfl;have yG:=zC FH.out.cu.own FH.out.DN;have hA:=HA.out;cases hlb:S.label (cur++[tk]) with
      | true =>
       rw [hlb,if_pos rfl] at hA;rw [hlb] at yG;have Qd:=Lib.hid yG;have HA:=ah.mk hA;clear hA hlb yG;have hen:∀ q,CallsIn Fence.wide (m+1) Tryz.prog 90 #[.int .i64 E,.int .i64 ((E:Int)),.int .i64 line,.pointer (some ⟨s+1,0,none⟩),.pointer (some ⟨s+1+1,0,none⟩),.pointer (some ⟨H,0,none⟩)] (W6.drewN q) fun e W' =>
         e=.returned (.bool true)/\∃ F5,It l H s fp FB src hd D J E line (.slice none 0 0) [] false (pre++S.emit (cur++[tk]) E E line) F5 W':=fun q=>(FH.out.drewN C q).Qb C (by omega) E E line
       have LM:=Lib.hid hen;clear hen;gi_upto_region 25 with (gi_at_call 54;refine (callsIn_wide.2 Qd.out).mono ?_;rintro e w' ⟨rfl,⟨⟨q,rfl⟩⟩⟩)
       refine fE 13 (by kernel_rfl) (by kernel_rfl) ?_;simp only [List.take_succ_cons,List.take_zero,List.drop_succ_cons,List.drop_zero];still_step
       repeat still_step
       refine wpStill_nil ?_;gi_wp2_with (gi_at_call 90;refine (LM.out _).mono ?_;rintro e w5 ⟨rfl,F5,hi5⟩;have xZ:=ah.mk hi5;clear hi5)
       gi_roundg (N+1 - E)
       case measure=>omega
       case rel=>exact ⟨E,line,_,[],false,_,F5,f0,by omega,by omega,by omega,by omega,by omega,⟨xZ.out⟩,⟨by rw [<- pR];exact HA.out⟩⟩
      | false =>
       rw [hlb,if_neg Bool.false_ne_true] at hA;rw [hlb] at yG;have Qd:=Lib.hid yG;have HA:=ah.mk hA;clear hA hlb yG;gi_wp2_with (gi_at_call 54;refine (callsIn_wide.2 Qd.out).mono ?_;rintro e w' ⟨rfl,⟨⟨q,rfl⟩⟩⟩)
       gi_roundg (N+1 - E)
       case measure=>omega
       case rel=>exact ⟨E,line,_,cur++[tk],false,pre,F',f0,by omega,by omega,by omega,by omega,by omega,⟨FH.out.drewN C _⟩,⟨HA.out⟩⟩
     ·gi_upto_region 23 with (fail)
      generalize W4.setCell ⟨T,2,none⟩ (.bool gv)=W5 at *;clear c0 c00 c1 c2 f1 f2 k0 k1 k2 k3 k4 k5 g2 nR Pz;have c1:W5.cell? ⟨s+1,0,none⟩=some (.slice A cn cap):=(au xZ.out.cu.cb 0).trans rfl;have c2:=au xZ.out.cu.gb 0;have k0:=au QJ.out 0;have k1:=au QJ.out 1;have k2:=au QJ.out 2;have k3:=au QJ.out 3;have k4:=au QJ.out 4;have k5:=au QJ.out 5;have hnX:=heap_alloc_new W5 (.cells #[.int .i64 k,.string (strOfNums t),.bool gv,.int .i64 line,.int .i64 i,.int .i64 E] 53);have QI:But (fun _=>False) W5 (W5.alloc (.cells #[.int .i64 k,.string (strOfNums t),.bool gv,.int .i64 line,.int .i64 i,.int .i64 E] 53)):=(But.refl _ W5).alloc _;have HXO:=ah.mk (HOW.out _ QI);have HXB:=ah.mk QI;have Xx:=ah.mk hnX;have Ti:ah (∀ w1,(W5.alloc (.cells #[.int .i64 k,.string (strOfNums t),.bool gv,.int .i64 line,.int .i64 i,.int .i64 E] 53)).grownBy w1 (Value.slice A cn cap).ownBlock->w1.heap[s+1]?=some (.cells #[.slice A cn cap] 24 (0,0))/\w1.heap[s+1+1]?=some (.cells #[.bool true] 4 (0,0))):=⟨fun w1 hg=>by
       have hge:=xZ.out.sS;have hsz:=HXB.out.size;exact ⟨(hg.block (s+1) (by omega) (fun e=>by have:=hge _ e.symm;omega)).trans ((HXB.out.block (s+1) (by omega) (fun e=>e)).trans xZ.out.cu.cb),(hg.block (s+1+1) (by omega) (fun e=>by have:=hge _ e.symm;omega)).trans ((HXB.out.block (s+1+1) (by omega) (fun e=>e)).trans xZ.out.cu.gb)⟩⟩
      clear QI hnX;gi_upto_region 24 with (gi_at_builtin;refine wpListIn_append_own_at _ rfl (.tmp 91) (.tmp 93) 24 rfl (s+3) 53 i0 (.agg DK) 6 56 Tryz.underlying24 hi0 hz0 hz1 hz2 rfl (by decide) (.slice A cn cap) cn (dG cur) rfl HXO.out ⟨W5.heap.size,0,none⟩ 1 1 (Db tk) rfl (by rw [zR.out.1];rfl) (fun j u hu=>by rw [add_plain,au Xx.out j];rw [zR.out.1] at hu;simpa using hu) (uE _) (by unfold maxLen;omega) (by omega) (by rw [World.size_alloc];omega) ?_;intro v' w1 hown' hgrow _ hat;obtain ⟨g',cap',rfl⟩:=ownsRow_succ hown';have FI:=ah.mk hown';have NP:=ah.mk hgrow;have HAT:=ah.mk hat;have e1:=au (Ti.out w1 hgrow).1 0;have e2:=au (Ti.out w1 hgrow).2 0;have q1:=aA (Ti.out w1 hgrow).1 0;have q2:=aA (Ti.out w1 hgrow).2 0;clear hown' hgrow hat)
      have FH:=ah.mk (xZ.out.more C HXB.out (v':=.slice (some ⟨g',0,none⟩) (cn+1) cap') (t:=tk) (by rw [zA.out];exact FI.out) NP.out HAT.out zR.out.2 (by omega));generalize (w1.setCell ⟨s+1,0,none⟩ (.slice (some ⟨g',0,none⟩) (cn+1) cap')).setCell ⟨s+1+1,0,none⟩ (.bool false)=W6 at *;clear c1 c2 k0 k1 k2 k3 k4 k5 e1 e2 q1 q2;have c0:=FH.out.sm.sc.c1;have c00:=FH.out.sm.sc.c2;have c1:W6.cell? ⟨s+1,0,none⟩=some (.slice (some ⟨g',0,none⟩) (cn+1) cap'):=(au FH.out.cu.cb 0).trans rfl;have yG:=zC FH.out.cu.own FH.out.DN;have hA:=HA.out;cases hlb:S.label (cur++[tk]) with
      | true =>
       rw [hlb,if_pos rfl] at hA;rw [hlb] at yG;have Qd:=Lib.hid yG;have HA:=ah.mk hA;clear hA hlb yG;have hen:∀ q,CallsIn Fence.wide (m+1) Tryz.prog 90 #[.int .i64 E,.int .i64 ((E:Int)),.int .i64 line,.pointer (some ⟨s+1,0,none⟩),.pointer (some ⟨s+1+1,0,none⟩),.pointer (some ⟨H,0,none⟩)] (W6.drewN q) fun e W' =>
         e=.returned (.bool true)/\∃ F5,It l H s fp FB src hd D J E line (.slice none 0 0) [] false (pre++S.emit (cur++[tk]) E E line) F5 W':=fun q=>(FH.out.drewN C q).Qb C (by omega) E E line
       have LM:=Lib.hid hen;clear hen;gi_upto_region 25 with (gi_at_call 54;refine (callsIn_wide.2 Qd.out).mono ?_;rintro e w' ⟨rfl,⟨⟨q,rfl⟩⟩⟩)
       refine fE 13 (by kernel_rfl) (by kernel_rfl) ?_;simp only [List.take_succ_cons,List.take_zero,List.drop_succ_cons,List.drop_zero];still_step
       repeat still_step
       refine wpStill_nil ?_;gi_wp2_with (gi_at_call 90;refine (LM.out _).mono ?_;rintro e w5 ⟨rfl,F5,hi5⟩;have xZ:=ah.mk hi5;clear hi5)
       gi_roundg (N+1 - E)
       case measure=>omega
       case rel=>exact ⟨E,line,_,[],false,_,F5,f0,by omega,by omega,by omega,by omega,by omega,⟨xZ.out⟩,⟨by rw [<- pR];exact HA.out⟩⟩
      | false =>
       rw [hlb,if_neg Bool.false_ne_true] at hA;rw [hlb] at yG;have Qd:=Lib.hid yG;have HA:=ah.mk hA;clear hA hlb yG;gi_wp2_with (gi_at_call 54;refine (callsIn_wide.2 Qd.out).mono ?_;rintro e w' ⟨rfl,⟨⟨q,rfl⟩⟩⟩)
       gi_roundg (N+1 - E)
       case measure=>omega
       case rel=>exact ⟨E,line,_,cur++[tk],false,pre,F',f0,by omega,by omega,by omega,by omega,by omega,⟨FH.out.drewN C _⟩,⟨HA.out⟩⟩
   | err c dl =>
    rw [hS] at hst hA;simp only [je] at hst;have HST:=Lib.hid hst;have HA:=ah.mk hA;clear hst hA hS;gi_wp2_with (gi_at_call 91;refine (callsIn_wide.2 HST.out).mono ?_;rintro e w3 ⟨hb3,rfl,i',l',hs3⟩;unfold Fails)
    have HFL:=ah.mk (HI.out.fail C hb3);obtain ⟨z1,z2,z3,z4,z5,z6⟩:=HFL.out;refine leavesIn_cons (f:=89) (args:=#[.pointer (some ⟨FB,0,none⟩),.pointer (some ⟨s+1,0,none⟩),.pointer (some ⟨H,0,none⟩)]) (by simp) (fun e=>by cases e) (by simp [go_sem]) (fun g _=>trivial) ?_;refine (Bz (m+1) (by omega) (C:Client l (m+1 - 1) J) c ((line+dl:Nat):Int) 0 0 w3 z1 z2 z3 z4 z5 z6 ⟨by have:=HI.out.l1;have:=HI.out.l2;omega,by have:=HI.out.l2;omega,by have:=HI.out.l1;have:=HI.out.l2;omega⟩ (by have:=HI.out.l1;have:=HI.out.l2;omega) (by have:=HI.out.len;omega)).mono ?_;rintro e u' w'' ⟨rfl,rfl,⟨F5,hj5⟩,aiT⟩
    simp only [LeavesIn,settle,List.dropWhile_nil];refine ⟨_,results_none rfl _ _ _,⟨_,rfl⟩,F5,?_,?_⟩
    ·rw [<- HA.out];exact hj5
    ·rw [<- HA.out];exact aiT
theorem clauses.calls (src:ByteArray) (p:Addr) (w:World) :
  Calls Tryz.prog 53 #[.string src,.pointer (some p)] w fun e w'=>e=.returned (.func (.func 87) #[] #[.pointer (some ⟨w.heap.size,0,none⟩),.pointer (some ⟨w.heap.size+1,0,none⟩)]) /\
   w'=(w.alloc (.cells #[.string src] 9)).alloc (.cells #[.pointer (some p)] 88):=by
 have hmf:∀ (fn:Fn) (first cap:Array Value) (w:World),(Instr.makeFunc fn first cap).run Tryz.prog w=.ok (.func fn first cap) w:=fun _ _ _ _=>rfl
 go_enter Tryz.func53,Tryz.ntmps53
 go_wp2;go_ret;exact ⟨rfl,rfl⟩
theorem zD:∀ args w,(callFunc 87 args).run Tryz.prog w=.ok (.enter 87 args) w:=enters_of Tryz.func87 (by kernel_rfl) rfl
theorem But.putObj {A:Nat->Prop} {w w':World} (h:But A w w') (b:Nat) (o:Obj) (hb:A b):But A w (w'.putObj b o):=by
 have hg:=grownBy_putObj' w' b o;exact ⟨hg.os.trans h.os,hg.tape.trans h.tape,hg.output.trans h.output,Nat.le_trans h.size hg.size,fun k hk hn=>(hg.block k (Nat.lt_of_lt_of_le hk h.size) (fun e=>hn (by cases e;exact hb))).trans (h.block k hk hn)⟩
theorem But.grown {A:Nat->Prop} {w w' w'':World} {v:Option Nat} (h:But A w w') (hg:w'.grownBy w'' v) (hA:∀ k,v=some k->A k):But A w w'' :=
 ⟨hg.os.trans h.os,hg.tape.trans h.tape,hg.output.trans h.output,Nat.le_trans h.size hg.size,fun k hk hn=>(hg.block k (Nat.lt_of_lt_of_le hk h.size) (fun e=>hn (hA k e.symm))).trans (h.block k hk hn)⟩
structure Tj (w0:World) (H:Nat) (rd:Loop) (v:Value) (pre:List (List S.Tk)) (W:World):Prop where
 res:W.heap[H]?=some (.cells #[.int .i64 0,.int .i64 0] 76 (0,0))
 out:W.heap[H+1]?=some (.cells #[v] 24 (0,0))
 dfr:W.heap[H+5]?=some (.deferred (some []))
 lop:W.heap[H+6]?=some (.loop rd)
 own:W.ownsRow (H+7) 53 6 v pre.flatten.length (dG pre.flatten)
 below:Below H w0 W
def Xy (H:Nat) (v:Value) (k:Nat):Prop:=k < H\/k=H\/k=H+1\/k=H+5\/k=H+6\/v.ownBlock=some k
def TkJ (w0:World) (H:Nat) (rd:Loop) (pre:List (List S.Tk)) (F:Nat->Prop) (W:World):Prop:=∃ v,F=Xy H v/\Tj w0 H rd v pre W
theorem Tj.lw {w0:World} {H:Nat} {rd:Loop} {v:Value} {pre:List (List S.Tk)} {W:World} (h:Tj w0 H rd v pre W):H+6 < W.heap.size:=(Array.getElem?_eq_some_iff.1 h.lop).1
theorem Tj.keep {w0:World} {H:Nat} {rd:Loop} {v:Value} {pre:List (List S.Tk)} {W W':World} (h:Tj w0 H rd v pre W) (hb:But (fun k=>¬ Xy H v k) W W'):Tj w0 H rd v pre W':=by
 have VE:=h.lw;have hk:∀ k,Xy H v k->k < W.heap.size->W'.heap[k]?=W.heap[k]?:=fun k hf hl=>hb.block k hl (fun e=>e hf)
 refine ⟨(hk H (.inr (.inl rfl)) (by omega)).trans h.res,(hk _ (.inr (.inr (.inl rfl))) (by omega)).trans h.out,(hk _ (.inr (.inr (.inr (.inl rfl)))) (by omega)).trans h.dfr,(hk _ (.inr (.inr (.inr (.inr (.inl rfl))))) (by omega)).trans h.lop,
  bV h.own hb (fun k e e2=>e (.inr (.inr (.inr (.inr (.inr e2)))))),h.below.trans (hb.jS (by omega) (fun k hk e=>e (.inl hk)))⟩
theorem Tj.cb {WB w1:World} {OB:Nat} {vo u:Value} (hg:WB.grownBy w1 vo.ownBlock) (h:WB.heap[OB]?=some (.cells #[u] 24 (0,0))) (hne:∀ k,vo.ownBlock=some k->k≠OB):w1.heap[OB]?=some (.cells #[u] 24 (0,0)) :=
 (hg.block OB (Array.getElem?_eq_some_iff.1 h).1 (fun e=>hne OB e.symm rfl)).trans h
theorem Jg:∀ (l:List S.Tk),∀ u∈dG l,u.oneCell'=true
 | [],u,h=>by simp [dG] at h
 | t::l,u,h=>by
  simp only [dG,List.map_cons,List.flatten_cons,List.mem_append] at h;rcases h with h | h
  ·exact uE t u h
  ·exact Jg l u h
theorem Tj.next {w0:World} {H:Nat} {rd rb:Loop} {v v':Value} {pre:List (List S.Tk)} {cl:List S.Tk} {W w1:World} (h:Tj w0 H rd v pre W) (ho:w1.ownsRow (H+7) 53 6 v' (pre.flatten.length+cl.length) (dG pre.flatten++dG cl)) (hg:(W.putObj (H+6) (.loop rb)).grownBy w1 v.ownBlock)
  (hv:v'.ownBlock=v.ownBlock\/v'.ownBlock=some (W.putObj (H+6) (.loop rb)).heap.size) :
  (w1.setCell ⟨H+1,0,none⟩ v').heap[H+6]?=some (.loop rb)/\(TkJ w0 H rd (pre++[cl]) (Xy H v') ((w1.setCell ⟨H+1,0,none⟩ v').putObj (H+6) (.loop rd))/\But (Xy H v) W ((w1.setCell ⟨H+1,0,none⟩ v').putObj (H+6) (.loop rd))/\∀ k,Xy H v' k->Xy H v k\/W.heap.size<=k):=by
 have VE:=h.lw;have hge:∀ k,v.ownBlock=some k->H+7<=k:=fun k e=>(h.own.lt k e).1
 have hge':∀ k,v'.ownBlock=some k->H+7<=k:=fun k e=>(ho.lt k e).1
 have hpl:(W.putObj (H+6) (.loop rb)).heap.size=W.heap.size:=World.putObj_size;have b1:But (fun k=>k=H+6\/k=H+1\/v.ownBlock=some k) W (W.putObj (H+6) (.loop rb)):=(But.refl (fun k=>k=H+6\/k=H+1\/v.ownBlock=some k) W).putObj _ _ (.inl rfl);have b2:=b1.grown hg (fun k e=>.inr (.inr e));have b3:=b2.set ⟨H+1,0,none⟩ v' (.inr (.inl rfl));have b4:=b3.putObj (H+6) (.loop rd) (.inl rfl);have hs1:W.heap.size<=w1.heap.size:=b2.size;have hl1:w1.heap[H+6]?=some (.loop rb):=(hg.block (H+6) (by rw [hpl];omega) (fun e=>by have:=hge _ e.symm;omega)).trans (World.putObj_heap_same (by omega));have hl2:(w1.setCell ⟨H+1,0,none⟩ v').heap[H+6]?=some (.loop rb):=(Below.heap_setCell _ ⟨H+1,0,none⟩ _ (H+6) (by show H+6≠H+1;omega)).trans hl1;have hne:∀ k,k < H+6->k≠H+1->k < W.heap.size->((w1.setCell ⟨H+1,0,none⟩ v').putObj (H+6) (.loop rd)).heap[k]?=W.heap[k]?:=fun k hk hk2 hl=>b4.block k hl (fun e=>by
  rcases e with e | e | e
  ·omega
  ·omega
  ·have:=hge k e;omega)
 refine ⟨hl2,⟨v',rfl,(hne H (by omega) (by omega) (by omega)).trans h.res,?_,(hne (H+5) (by omega) (by omega) (by omega)).trans h.dfr,World.putObj_heap_same (Array.getElem?_eq_some_iff.1 hl2).1,?_,h.below.trans (b4.jS (by omega) (fun k hk e=>by rcases e with e | e | e;omega;omega;have:=hge k e;omega))⟩,b4.mono (fun k _ e=>?_),fun k hk=>?_⟩
 ·refine (World.putObj_heap_other (by omega)).trans ?_
  exact aW (cs:=#[v]) ((hg.block (H+1) (by rw [hpl];omega) (fun e=>by have:=hge _ e.symm;omega)).trans ((World.putObj_heap_other (by omega)).trans h.out)) 0 _ rfl
 ·have e1:(pre++[cl]).flatten=pre.flatten++cl:=by simp
  rw [e1,List.length_append,sQ];refine bV ho (((But.refl (fun k=>k=H+1\/k=H+6) w1).set ⟨H+1,0,none⟩ v' (.inl rfl)).putObj (H+6) (.loop rd) (.inr rfl)) (fun k e e2=>?_);have:=hge' k e2;omega
 ·rcases e with e | e | e
  ·exact .inr (.inr (.inr (.inr (.inl e))))
  ·exact .inr (.inr (.inl e))
  ·exact .inr (.inr (.inr (.inr (.inr e))))
 ·rcases hk with e | e | e | e | e | e
  ·exact .inl (.inl e)
  ·exact .inl (.inr (.inl e))
  ·exact .inl (.inr (.inr (.inl e)))
  ·exact .inl (.inr (.inr (.inr (.inl e))))
  ·exact .inl (.inr (.inr (.inr (.inr (.inl e)))))
  ·rcases hv with hv | hv
   ·exact .inl (.inr (.inr (.inr (.inr (.inr (by rw [<- hv,e]))))))
   ·rw [hv] at e
    cases e
    exact .inr (by rw [hpl];exact Nat.le_refl _)
theorem Qe {W:World} {base base' n:Nat} {v:Value} {xs:List Value} (h:W.ownsRow base 53 6 v n xs) (hb:base'<=base):W.ownsRow base' 53 6 v n xs:=by
 refine ⟨h.1,h.2.imp id ?_⟩;rintro ⟨g,cap,cur,hv,hg,rest⟩
 exact ⟨g,cap,cur,hv,by omega,rest⟩
set_option maxRecDepth 100000 in
set_option maxHeartbeats 4000000 in
theorem qd.calls (src:ByteArray) (w:World) (hsz:src.size<=100000) (hT:dR w) :
  Calls Tryz.prog 51 #[.string src] w fun e w'=>∃ v,e=.returned (.tuple #[v,.agg (Qc (S.scan (bytesOf src)).err)])/\w'.ownsRow w.heap.size 53 6 v (S.tokens (bytesOf src)).length (dG (S.tokens (bytesOf src)))/\Below w.heap.size w w':=by
 have hwf:∀ f,Fence.wide.fn f:=fun _=>trivial
 have HT:=ah.mk hT;clear hT;obtain ⟨H,hH⟩:∃ H,w.heap.size=H:=⟨_,rfl⟩;have HH:=ah.mk hH;have zT:=Lib.hid (fun W=>clauses.calls src ⟨H+1+1,0,none⟩ W);refine (callsIn_wide (n:=8)).1 ?_;refine callsIn_of_wp_marks Tryz.func51 rfl trivial ?_ rfl;simp only [Tryz.ntmps51,List.size_toArray,List.length_cons,List.length_nil,Nat.reduceAdd,Nat.reduceSub,Array.replicate_succ,Array.replicate_zero,List.push_toArray,List.append_toArray,List.nil_append,List.cons_append];gi_wp2_with (gi_at_call 53;refine (callsIn_wide.2 (zT.out _)).mono ?_;rintro e w' ⟨rfl,rfl⟩)
 generalize hU:((((w.alloc _).alloc _).alloc _).alloc _).alloc _=U;have ZY:U.heap.size=H+5:=by rw [<- hU,<- hH];simp
 have WR:Below H w U:=by rw [<- hU,<- hH];exact av (av (av (av (av (Below.refl _ _) _) _) _) _) _
 have u0:U.heap[H]?=some (.cells #[.int .i64 0,.int .i64 0] 76 (0,0)):=by
  rw [<- hU,<- hH];exact (Below.heap_alloc _ _ _ (by simp<;>omega)).trans ((Below.heap_alloc _ _ _ (by simp<;>omega)).trans ((Below.heap_alloc _ _ _ (by simp<;>omega)).trans ((Below.heap_alloc _ _ _ (by simp)).trans (heap_alloc_new w _))))
 have u1:U.heap[H+1]?=some (.cells #[.slice none 0 0] 24 (0,0)):=by
  rw [<- hU,<- hH];refine (Below.heap_alloc _ _ _ (by simp<;>omega)).trans ((Below.heap_alloc _ _ _ (by simp<;>omega)).trans ((Below.heap_alloc _ _ _ (by simp)).trans ?_));have:=heap_alloc_new (w.alloc (.cells #[.int .i64 0,.int .i64 0] 76)) (.cells #[.slice none 0 0] 24);rwa [World.size_alloc] at this
 have u2:U.heap[H+2]?=some (.cells #[.int .i64 0,.int .i64 0] 76 (0,0)):=by
  rw [<- hU,<- hH];refine (Below.heap_alloc _ _ _ (by simp<;>omega)).trans ((Below.heap_alloc _ _ _ (by simp)).trans ?_);have:=heap_alloc_new ((w.alloc (.cells #[.int .i64 0,.int .i64 0] 76)).alloc (.cells #[.slice none 0 0] 24)) (.cells #[.int .i64 0,.int .i64 0] 76);rwa [World.size_alloc,World.size_alloc] at this
 have u3:U.heap[H+3]?=some (.cells #[.string src] 9 (0,0)):=by
  rw [<- hU,<- hH];refine (Below.heap_alloc _ _ _ (by simp)).trans ?_;have:=heap_alloc_new (((w.alloc (.cells #[.int .i64 0,.int .i64 0] 76)).alloc (.cells #[.slice none 0 0] 24)).alloc (.cells #[.int .i64 0,.int .i64 0] 76)) (.cells #[.string src] 9);rwa [World.size_alloc,World.size_alloc,World.size_alloc] at this
 have u4:U.heap[H+4]?=some (.cells #[.pointer (some ⟨H+1+1,0,none⟩)] 88 (0,0)):=by
  have:=heap_alloc_new ((((w.alloc (.cells #[.int .i64 0,.int .i64 0] 76)).alloc (.cells #[.slice none 0 0] 24)).alloc (.cells #[.int .i64 0,.int .i64 0] 76)).alloc (.cells #[.string src] 9)) (.cells #[.pointer (some ⟨H+1+1,0,none⟩)] 88);rw [World.size_alloc,World.size_alloc,World.size_alloc,World.size_alloc,hH] at this;rw [<- hU];exact this
 have hTU:dR U:=HT.out.of_below (WR.mono (by omega));clear hU;refine Bo (F:=Fence.wide) (n:=8) (gf:=87) rfl (by omega) rfl trivial zD
  (fun Z=>∃ v,Z.heap[H]?=some (.cells #[.int .i64 0,.int .i64 0] 76 (0,0))/\Z.heap[H+1]?=some (.cells #[v] 24 (0,0))/\Z.heap[H+5]?=some (.deferred (some []))/\Z.ownsRow (H+7) 53 6 v (S.tokens (bytesOf src)).length (dG (S.tokens (bytesOf src)))/\Below H w Z/\Z.heap[H+2]?=some (.cells (Qc (S.scan (bytesOf src)).err) 76 (0,0)))
  (fun _=>False) ?hcall ?vJ ?hdone
 case hdone=>rintro Z r _ h;exact h.elim
 case hcall =>
  intro fn rd X hfn hrd WS Lj x7 x8
  rw [ZY] at WS Lj x7 x8 |-
  have hkx:∀ k,k < H+5->X.heap[k]?=U.heap[k]?:=fun k hk=>Lj.block k (by omega)
  have hJ0:TkJ w H rd [] (Xy H (.slice none 0 0)) X:=⟨_,rfl,(hkx _ (by omega)).trans u0,(hkx _ (by omega)).trans u1,x7,x8,World.ownsRow_nil _ _ _ _,WR.trans (Lj.mono (by omega))⟩;have C:Client (H+6) 5 (TkJ w H rd):=by
   refine ⟨?_,?_,?_⟩
   ·rintro pre F W W' ⟨v,rfl,hI⟩ hb
    exact ⟨v,rfl,hI.keep hb⟩
   ·rintro pre F W ⟨v,rfl,hI⟩ k hk
    have VE:=hI.lw;rcases hk with e | e | e | e | e | e
    ·omega
    ·omega
    ·omega
    ·omega
    ·omega
    ·exact (hI.own.lt k e).2
   ·rintro pre F W base v cl ⟨vo,rfl,hI⟩ hown hne FJ hlen
    obtain ⟨g2,c2,rfl⟩:∃ g2 c2,v=.slice (some ⟨g2,0,none⟩) cl.length c2:=by
     rcases hown.2 with ⟨_,e2⟩ | ⟨g,cap,cs,e,_⟩
     ·exact absurd (List.length_eq_zero_iff.1 e2) hne
     ·exact ⟨_,_,e⟩
    refine Bp (l:=H+6) hrd trivial hI.lop rfl ?_;have Fb:=ah.mk hrd;clear hrd;gi_wp2
    refine ⟨hI.lop,?_⟩;have HRF:ah (∀ r2:Loop,r2={ rd with state:=LoopState.busy }->({ r2 with state:=.ready,pending:=none }:Loop)=rd):=⟨fun r2 e=>by rw [e,Fb.out];rfl⟩;generalize hrb:({ rd with state:=LoopState.busy }:Loop)=rb;have jh:=ah.mk (HRF.out rb hrb.symm);have HI:=ah.mk hI;have hgr:=grownBy_putObj' W (H+6) (.loop rb);have hbB:But (fun k=>k=H+6) W (W.putObj (H+6) (.loop rb)):=(But.refl (fun k=>k=H+6) W).putObj _ _ rfl;have hge:∀ k,vo.ownBlock=some k->H+7<=k:=fun k e=>(hI.own.lt k e).1
    have hoB:=bV hI.own hbB (fun k e e2=>by have:=hge k e2;omega);have aei:=bV hown hbB (fun k e e2=>FJ (H+6) (.inr (.inr (.inr (.inr (.inl rfl))))) (by rw [<- e];exact e2));have hoc:(W.putObj (H+6) (.loop rb)).heap[H+1]?=some (.cells #[vo] 24 (0,0)):=(hbB.block (H+1) (by have:=hI.lw;omega) (by omega)).trans hI.out;have hps:(W.putObj (H+6) (.loop rb)).heap.size=W.heap.size:=World.putObj_size;obtain ⟨PN,hPN⟩:∃ PN,pre.flatten.length=PN:=⟨_,rfl⟩;have hnx:=fun (w1:World) (v':Value)=>hI.next (rb:=rb) (w1:=w1) (v':=v') (cl:=cl)
    rw [hPN] at hnx hoB hlen;have HNX:=ah.mk hnx;clear hnx hPN;have VE:=hI.lw;have HOB:=ah.mk hoB;have Ti:=ah.mk aei;have HOC:=ah.mk hoc;clear hrb hI HRF Fb hgr hbB hoB aei hoc;generalize W.putObj (H+6) (.loop rb)=WB at *;obtain ⟨i0,hi0,hz0,hz1,hz2⟩:=info_parts (show (Tryz.prog.info? 53).map (fun i=>(i.zero,i.size,i.bytes))=some (some (.agg DK),6,56) by kernel_rfl);have hcl0:0 < cl.length:=List.length_pos_iff.2 hne;have c0:WB.cell? ⟨H+1,0,none⟩=some vo:=(au HOC.out 0).trans rfl;gi_wp2_with (gi_at_builtin;refine wpListIn_append_own_at _ rfl (.tmp 10) (.tmp 11) 24 rfl (H+7) 53 i0 (.agg DK) 6 56 Tryz.underlying24 hi0 hz0 hz1 hz2 rfl (by decide) vo PN (dG pre.flatten) rfl HOB.out ⟨g2,0,none⟩ cl.length c2 (dG cl) rfl (nL _) (fun j u hu=>Ti.out.cells rfl j u hu) (fun u hu=>Jg cl u hu) (by unfold maxLen;omega) (by omega) (by omega) ?_;intro v' w1 hown' hgrow _ hat;obtain ⟨g',cap',rfl,_,_⟩:=hown'.form (by omega);have e1:=au (Tj.cb hgrow HOC.out (fun k e=>by have:=hge k e;omega)) 0;have q1:=aA (Tj.cb hgrow HOC.out (fun k e=>by have:=hge k e;omega)) 0;have HOW:=ah.mk hown';have NP:=ah.mk hgrow;have HAT:=ah.mk hat;clear hown' hgrow hat)
    obtain ⟨n1,n2,n3,n4⟩:=HNX.out w1 (.slice (some ⟨g',0,none⟩) (PN+cl.length) cap') HOW.out NP.out HAT.out;refine ⟨rb,n1,rfl,Xy H (.slice (some ⟨g',0,none⟩) (PN+cl.length) cap'),?_,?_,fun k hk=>?_⟩
    ·rw [jh.out];exact n2
    ·rw [jh.out];exact n3
    ·rcases n4 k hk with e | e
     ·exact .inl e
     ·exact .inr (.inl e)
  have hit:=NR 5 (l:=H+6) (B0:=H+3) (FB:=H+4) (fp:=H+2) (src:=src) C X hsz (hTU.of_below (Lj.mono (by omega))) hJ0 (fun k hk=>by
   rcases hk with e | e | e | e | e | e
   ·omega
   ·omega
   ·omega
   ·omega
   ·omega
   ·simp [Value.ownBlock] at e) ((hkx _ (by omega)).trans u3) ((hkx _ (by omega)).trans u4) ((hkx _ (by omega)).trans u2)
  refine hit.mono ?_;rintro e Z ⟨hv,F',⟨v,rfl,hI⟩,hp⟩
  exact ⟨hv,.inl ⟨hI.lop,v,hI.res,hI.out,hI.dfr,hI.own,hI.below,hp⟩⟩
 case vJ =>
  rintro Z r hlt ⟨v,z0,z1,z5,zo,zb,z2⟩
  rw [ZY] at hlt |-
  have hb:=grownBy_putObj' Z (H+5+1) (.loop r);have hk:∀ k,k < H+6->(Z.putObj (H+5+1) (.loop r)).heap[k]?=Z.heap[k]?:=fun k hk=>World.putObj_heap_other (by omega)
  obtain ⟨ea,eb,he⟩:∃ ea eb,Qc (S.scan (bytesOf src)).err=#[.int .i64 ea,.int .i64 eb]:=by
   cases (S.scan (bytesOf src)).err with
   | none=>exact ⟨_,_,rfl⟩
   | some p=>exact ⟨_,_,rfl⟩
  rw [he] at z2;have y0:=(hk H (by omega)).trans z0;have y1:=(hk (H+1) (by omega)).trans z1;have y2:=(hk (H+2) (by omega)).trans z2;have y5:=(hk (H+5) (by omega)).trans z5;have yo:=bV zo ((But.refl (fun k=>k=H+5+1) Z).putObj (H+5+1) (.loop r) rfl) (fun k e e2=>by have:=(zo.lt k e2).1;omega);have yb:Below H w (Z.putObj (H+5+1) (.loop r)):=zb.grown hb (by omega) (fun k e=>by cases e;omega);clear hb hk z0 z1 z2 z5 zo zb u0 u1 u2 u3 u4 WR hTU;generalize Z.putObj (H+5+1) (.loop r)=Y at *;have Y0:=ah.mk y0;have Y1:=ah.mk y1;have Y5:=ah.mk y5;have YO:=ah.mk yo;have YB:=ah.mk yb;have HE:=ah.mk he;have c1:Y.cell? ⟨H+1,0,none⟩=some v:=(au y1 0).trans rfl;have d0:Y.cell? ⟨H+1+1,0,none⟩=some (.int .i64 ea):=(au y2 0).trans rfl;have d1:Y.cell? ⟨H+1+1,1,none⟩=some (.int .i64 eb):=(au y2 1).trans rfl;have r0:Y.cell? ⟨H,0,none⟩=some (.int .i64 0):=(au y0 0).trans rfl;have r1:Y.cell? ⟨H,1,none⟩=some (.int .i64 0):=(au y0 1).trans rfl;have q0:=aA y0 0;have q1:=aA y0 1;have Xm:=Tryz.underlying76;clear y0 y1 y2 y5 yo yb he hlt;gi_upto_region 6 with (fail)
  refine fE 3 (by kernel_rfl) (by kernel_rfl) ?_;simp only [List.take_succ_cons,List.take_zero,List.drop_succ_cons,List.drop_zero];still_step
  repeat still_step
  refine wpStill_nil ?_;gi_wp2
  have hb2:But (fun k=>k=H) Y ((Y.setCell ⟨H,0,none⟩ (.int .i64 ea)).setCell ⟨H,1,none⟩ (.int .i64 eb)).drew:=(((But.refl (fun k=>k=H) Y).set ⟨H,0,none⟩ _ rfl).set ⟨H,1,none⟩ _ rfl).drew;have g0:((Y.setCell ⟨H,0,none⟩ (.int .i64 ea)).setCell ⟨H,1,none⟩ (.int .i64 eb)).drew.heap[H]?=some (.cells #[.int .i64 ea,.int .i64 eb] 76 (0,0)):=aW (aW Y0.out 0 _ rfl) 1 _ rfl;have hl5:H+5 < Y.heap.size:=(Array.getElem?_eq_some_iff.1 Y5.out).1;generalize ((Y.setCell ⟨H,0,none⟩ (.int .i64 ea)).setCell ⟨H,1,none⟩ (.int .i64 eb)).drew=Y2 at *;have g5:Y2.heap[H+5]?=some (.deferred (some [])):=(hb2.block (H+5) hl5 (by omega)).trans Y5.out;have go:=bV YO.out hb2 (fun k e e2=>by have:=(YO.out.lt k e2).1;omega);have gb:Below H w Y2:=YB.out.trans (hb2.jS (by omega) (fun k hk=>by omega));refine ⟨by simp,.inl ⟨_,_,rfl,run_takeDeferred g5,?_⟩⟩;have hp5:But (fun k=>k=H+5) Y2 (Y2.putObj (H+5) (.deferred none)):=(But.refl (fun k=>k=H+5) Y2).putObj _ _ rfl;refine ⟨_,iR (fn:=Tryz.f51) rfl _ _ H 76 #[.int .i64 ea,.int .i64 eb] (0,0) _ v rfl rfl ((World.putObj_heap_other (by omega)).trans g0) Tryz.underlying76 rfl (by kernel_rfl),v,?_,?_,?_⟩
  ·rw [HE.out]
  ·rw [hH]
   have:=bV go hp5 (fun k e e2=>by have:=(go.lt k e2).1;omega);exact Qe this (by omega)
  ·rw [hH]
   exact gb.trans (hp5.jS (by have:=gb.size;have:=hb2.size;omega) (fun k hk=>by omega))
end Go.Proofs.YtkkpjonfaflkmaaGreatDoor.T
