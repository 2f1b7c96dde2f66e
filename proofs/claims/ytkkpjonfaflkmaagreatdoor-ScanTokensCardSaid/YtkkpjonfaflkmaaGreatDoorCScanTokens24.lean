/- For ScanTokens: its callees return what is said of them. -/
import Derived.Test.YtkkpjonfaflkmaaGreatDoorCScanTokens23
namespace Go.Proofs.YtkkpjonfaflkmaaGreatDoor.T
open Go.RowKit Go.Maps Go.Proofs.ah.aT Go.Proofs.ah.bn Go.Proofs.ah.bA
set_option linter.unusedSimpArgs false
set_option linter.unusedVariables false
attribute [local go_sem] Oper.semAt_some
def eO.f (a0:ByteArray):Option (List gD × Int × Int × Int) :=
 if a0.size<=20000 then
  (if tN (S.scan (bytesOf a0)).err=0 then some ((S.tokens (bytesOf a0)).map toS,0,0,0) else some ((S.tokens (bytesOf a0)).map toS,tN (S.scan (bytesOf a0)).err,wB (S.scan (bytesOf a0)).err,7))
 else some ([],0,0,3)
set_option maxRecDepth 100000 in
set_option maxHeartbeats 4000000 in
theorem eO.calls (a0:ByteArray) (r1:List gD) (r2 r3 r4:Int) (w:World) (h:eO.f a0=some (r1,r2,r3,r4)) :
  Calls Tryz.prog 18 #[.string a0] w fun e w'=>∃ v0:Value,e=.returned (.agg #[v0,.int .i64 r2,.int .i64 r3,.int .i64 r4])/\Kd.R lD 53 w' w.heap.size (fun _=>True) v0 r1/\Below w.heap.size w w':=by
 unfold eO.f at h;have ajJ:=Tryz.underlying29;obtain ⟨G,hG⟩:∃ G,w.heap.size=G:=⟨_,rfl⟩;have hn1:=heap_alloc_new w (.cells #[.slice none 0 0,.int .i64 0,.int .i64 0,.int .i64 0] 29);have hb1:=ay (Below.refl w.heap.size w) (.cells #[.slice none 0 0,.int .i64 0,.int .i64 0,.int .i64 0] 29);have hs1:=World.size_alloc w (.cells #[.slice none 0 0,.int .i64 0,.int .i64 0,.int .i64 0] 29);rw [hG] at hn1 hb1 hs1;by_cases hs:a0.size<=20000
 rotate_left
 ·rw [if_neg hs] at h
  cases h
  obtain ⟨n,hn⟩:∃ n,a0.size=n:=⟨_,rfl⟩;rw [hn] at hs;have b1:decide ((20000:Int) < (n:Int))=true:=decide_eq_true (by omega);have HN1:=aj.mk hn1;have HB1:=aj.mk hb1;have HG:=aj.mk hG;have g3:(w.alloc (.cells #[.slice none 0 0,.int .i64 0,.int .i64 0,.int .i64 0] 29)).cell? ⟨G,3,none⟩=some (.int .i64 0):=(au hn1 3).trans rfl;have g0:(w.alloc (.cells #[.slice none 0 0,.int .i64 0,.int .i64 0,.int .i64 0] 29)).cell? ⟨G,0,none⟩=some (.slice none 0 0):=(au hn1 0).trans rfl;have g1:(w.alloc (.cells #[.slice none 0 0,.int .i64 0,.int .i64 0,.int .i64 0] 29)).cell? ⟨G,1,none⟩=some (.int .i64 0):=(au hn1 1).trans rfl;have g2:(w.alloc (.cells #[.slice none 0 0,.int .i64 0,.int .i64 0,.int .i64 0] 29)).cell? ⟨G,2,none⟩=some (.int .i64 0):=(au hn1 2).trans rfl;have f0:=aA hn1 0;have f1:=aA hn1 1;have f2:=aA hn1 2;have f3:=aA hn1 3;clear hn1 hb1 hs1;go_enter Tryz.func18,Tryz.ntmps18
  go_upto_region 1 with (fail)
  generalize w.alloc (.cells #[.slice none 0 0,.int .i64 0,.int .i64 0,.int .i64 0] 29)=W1 at *;go_wp2_with fail
  have e1:=aR (cs:=#[.slice none 0 0,.int .i64 0,.int .i64 0,.int .i64 0]) (cs':=#[.slice none 0 0,.int .i64 0,.int .i64 0,.int .i64 0]) HN1.out 0 (.slice none 0 0) rfl;have e2:=aR (cs':=#[.slice none 0 0,.int .i64 0,.int .i64 0,.int .i64 0]) e1 1 (.int .i64 0) rfl;have e3:=aR (cs':=#[.slice none 0 0,.int .i64 0,.int .i64 0,.int .i64 0]) e2 2 (.int .i64 0) rfl;have e4:=aR (cs':=#[.slice none 0 0,.int .i64 0,.int .i64 0,.int .i64 3]) e3 3 (.int .i64 3) rfl;have b4:=((((But.refl (fun k=>k=G) W1).set ⟨G,0,none⟩ (.slice none 0 0) rfl).set ⟨G,1,none⟩ (.int .i64 0) rfl).set ⟨G,2,none⟩ (.int .i64 0) rfl).set ⟨G,3,none⟩ (.int .i64 3) rfl;refine bodyPost_ret (results_cell_row rfl _ _ G 29 #[.slice none 0 0,.int .i64 0,.int .i64 0,.int .i64 3] (0,0) _ rfl e4 Tryz.underlying29 rfl (by kernel_rfl)) rfl ?_;rw [HG.out];exact ⟨_,rfl,Ma (cur:=[]) (World.ownsRow_nil _ _ _ _),HB1.out.trans (b4.ku (by have:=HB1.out.size;have:=HG.out;omega) (fun k hk e=>by omega))⟩
 rw [if_pos hs] at h;have hrd:=fun W=>read.calls a0 W (by omega)
 obtain ⟨c,hc⟩:∃ c,tN (S.scan (bytesOf a0)).err=c:=⟨_,rfl⟩;obtain ⟨ln,hln⟩:∃ ln,wB (S.scan (bytesOf a0)).err=ln:=⟨_,rfl⟩;obtain ⟨ts,hts⟩:∃ ts,S.tokens (bytesOf a0)=ts:=⟨_,rfl⟩;have EG:=Lib.hid hrd;have HC:=aj.mk hc;have HLN:=aj.mk hln;have HTS:=aj.mk hts;rw [hc,hln,hts] at h;clear hrd hc hln hts;obtain ⟨n,hn⟩:∃ n,a0.size=n:=⟨_,rfl⟩;rw [hn] at hs;have b1:decide ((20000:Int) < (n:Int))=false:=decide_eq_false (by omega);have HN1:=aj.mk hn1;have HB1:=aj.mk hb1;have GV:=aj.mk hs1;have HH:=aj.mk h;have HG:=aj.mk hG;clear hn1 hb1 hs1 h;go_enter Tryz.func18,Tryz.ntmps18
 go_upto_region 1 with (fail)
 generalize w.alloc (.cells #[.slice none 0 0,.int .i64 0,.int .i64 0,.int .i64 0] 29)=W1 at *;go_upto_region 4 with (go_at_call 52;refine (EG.out _).mono ?_;rintro en w2 ⟨i,line,first,v,gap,pk,pt,pe,rfl,hO,hb2⟩;rw [HC.out,HLN.out];rw [HTS.out] at hO;obtain ⟨A,m,rfl,-⟩:=jY hO;have HO:=aj.mk hO;have HB2:=aj.mk hb2;clear hO hb2)
 have hb3:=(But.refl (fun _=>False) w2).alloc (.cells #[.string a0,.int .i64 i,.int .i64 line,.slice A ts.length m,.int .i64 first,.bool gap] 80);have hs3:=World.size_alloc w2 (.cells #[.string a0,.int .i64 i,.int .i64 line,.slice A ts.length m,.int .i64 first,.bool gap] 80);have CF:=heap_alloc_new w2 (.cells #[.string a0,.int .i64 i,.int .i64 line,.slice A ts.length m,.int .i64 first,.bool gap] 80);obtain ⟨X,hX⟩:∃ X,w2.heap.size=X:=⟨_,rfl⟩;have HX:=aj.mk hX;rw [hX] at hs3 CF |-
 generalize w2.alloc (.cells #[.string a0,.int .i64 i,.int .i64 line,.slice A ts.length m,.int .i64 first,.bool gap] 80)=W3 at *;have hb4:=hb3.alloc (.cells #[.int .i64 pk,.string pt,.int .i64 pe,.int .i64 c,.int .i64 ln] 82);have hb5:=(But.refl (fun _=>False) W3).alloc (.cells #[.int .i64 pk,.string pt,.int .i64 pe,.int .i64 c,.int .i64 ln] 82);have oh:=heap_alloc_new W3 (.cells #[.int .i64 pk,.string pt,.int .i64 pe,.int .i64 c,.int .i64 ln] 82);rw [hs3] at oh;have adM:=(hb5.block X (Array.getElem?_eq_some_iff.1 CF).1 (fun e=>e)).trans CF;clear CF hb5;generalize W3.alloc (.cells #[.int .i64 pk,.string pt,.int .i64 pe,.int .i64 c,.int .i64 ln] 82)=W4 at *;have y3:W4.cell? ⟨X,3,none⟩=some (.slice A ts.length m):=(au adM 3).trans rfl;have z3:W4.cell? ⟨X+1,3,none⟩=some (.int .i64 c):=(au oh 3).trans rfl;have z4:W4.cell? ⟨X+1,4,none⟩=some (.int .i64 ln):=(au oh 4).trans rfl;have hG4:=(hb4.block G (by have:=HB2.out.size;have:=GV.out;omega) (fun e=>e)).trans ((HB2.out.block G (by have:=GV.out;omega)).trans HN1.out);have g0:W4.cell? ⟨G,0,none⟩=some (.slice none 0 0):=(au hG4 0).trans rfl;have g1:W4.cell? ⟨G,1,none⟩=some (.int .i64 0):=(au hG4 1).trans rfl;have g2:W4.cell? ⟨G,2,none⟩=some (.int .i64 0):=(au hG4 2).trans rfl;have g3:W4.cell? ⟨G,3,none⟩=some (.int .i64 0):=(au hG4 3).trans rfl;have f0:=aA hG4 0;have f1:=aA hG4 1;have f2:=aA hG4 2;have f3:=aA hG4 3;have HG4:=aj.mk hG4;have HO4:=aj.mk (dn HO.out hb4 (fun k e=>e.elim));have Di:aj (Below G w W4):=⟨by
  have h1:=HB1.out;have h2:Below G W1 w2:=HB2.out.mono (by have:=GV.out;omega);have h3:Below G w2 W4:=hb4.ku (by have:=HB2.out.size;have:=GV.out;omega) (fun _ _ e=>e);exact h1.trans (h2.trans h3)⟩
 clear adM oh hb3 hb4 hs3 hX hG4;obtain ⟨L,hL⟩:∃ L,ts.length=L:=⟨_,rfl⟩;have HL:=aj.mk hL;rw [hL] at HO4 y3;clear hL;have fin:∀ (cv lv ev:Int),some (ts.map toS,cv,lv,ev)=some (r1,r2,r3,r4)->∀ (tmps:Array Value),tmps.getD 2 undef=.pointer (some ⟨G,0,none⟩) ->
   bodyPost Tryz.prog Tryz.f18 (fun e w'=>∃ v0:Value,e=.returned (.agg #[v0,.int .i64 r2,.int .i64 r3,.int .i64 r4])/\Kd.R lD 53 w' G (fun _=>True) v0 r1/\Below G w w') Exit.ret { tmps:=tmps,defers:=[] } ((((W4.setCell ⟨G,0,none⟩ (.slice A L m)).setCell ⟨G,1,none⟩ (.int .i64 cv)).setCell ⟨G,2,none⟩ (.int .i64 lv)).setCell ⟨G,3,none⟩ (.int .i64 ev)):=by
  intro cv lv ev hh tmps ht
  have hr:=Option.some.inj hh;simp only [Prod.mk.injEq] at hr;obtain ⟨rfl,rfl,rfl,rfl⟩:=hr;have e1:=aR (cs:=#[.slice none 0 0,.int .i64 0,.int .i64 0,.int .i64 0]) (cs':=#[.slice A L m,.int .i64 0,.int .i64 0,.int .i64 0]) HG4.out 0 (.slice A L m) rfl;have e2:=aR (cs':=#[.slice A L m,.int .i64 cv,.int .i64 0,.int .i64 0]) e1 1 (.int .i64 cv) rfl;have e3:=aR (cs':=#[.slice A L m,.int .i64 cv,.int .i64 lv,.int .i64 0]) e2 2 (.int .i64 lv) rfl;have e4:=aR (cs':=#[.slice A L m,.int .i64 cv,.int .i64 lv,.int .i64 ev]) e3 3 (.int .i64 ev) rfl;have b4:=((((But.refl (fun k=>k=G) W4).set ⟨G,0,none⟩ (.slice A L m) rfl).set ⟨G,1,none⟩ (.int .i64 cv) rfl).set ⟨G,2,none⟩ (.int .i64 lv) rfl).set ⟨G,3,none⟩ (.int .i64 ev) rfl;generalize (((W4.setCell ⟨G,0,none⟩ (.slice A L m)).setCell ⟨G,1,none⟩ (.int .i64 cv)).setCell ⟨G,2,none⟩ (.int .i64 lv)).setCell ⟨G,3,none⟩ (.int .i64 ev)=W5 at *;have hO5:=dn HO4.out b4 (fun k hk h=>by have:=(HO4.out.lt k h).1;have:=GV.out;omega);refine bodyPost_ret (results_cell_row rfl tmps W5 G 29 #[.slice A L m,.int .i64 cv,.int .i64 lv,.int .i64 ev] (0,0) _ ht e4 Tryz.underlying29 rfl (by kernel_rfl)) rfl ?_;refine ⟨_,rfl,?_,Di.out.trans (b4.ku (by have:=Di.out.size;have:=HG.out;omega) (fun k hk e=>by omega))⟩;rw [<- HL.out] at hO5 |-
  exact Kd.nN (Ma hO5) (by have:=GV.out;omega)
 have HF:=Lib.hid fin;clear fin;by_cases hc0:c=0
 ·have q1:(c != 0)=false:=bne_eq_false_iff_eq.2 hc0
  have hh:=HH.out;rw [if_pos hc0] at hh;have HH2:=aj.mk hh;clear hc0 hh;go_wp2_with fail
  rw [HG.out];refine (HF.out 0 0 0 HH2.out _ ?_);rfl
 have q1:(c != 0)=true:=bne_iff_ne.2 hc0;have hh:=HH.out;rw [if_neg hc0] at hh;have HH2:=aj.mk hh;clear hc0 hh;go_wp2_with fail
 rw [HG.out];refine (HF.out c ln 7 HH2.out _ ?_);rfl
end Go.Proofs.YtkkpjonfaflkmaaGreatDoor.T
namespace Go.Proofs.YtkkpjonfaflkmaaGreatDoor.T
open Go.RowKit Go.Proofs.ah.aT Go.Proofs.ah.bn Go.Proofs.ah.bA
set_option linter.unusedSimpArgs false
set_option linter.unusedVariables false
attribute [local go_sem] fB fC gI gJ eD eF fD fE   -- for this text's walks alone
def vk.f (kK:Int) (mq:ByteArray) (pY:Bool) (qc:Int) (qd:Int) (qg:Int) (yw:Int) (FU:ByteArray) (Li:Bool) (Lj:Int) (Ll:Int) (Lm:Int):Option (Bool):=if kK=yw then (some (mq.toList==FU.toList)) else (some false)
set_option maxHeartbeats 8000000 in
set_option maxRecDepth 100000 in
theorem vk.calls (kK:Int) (mq:ByteArray) (pY:Bool) (qc:Int) (qd:Int) (qg:Int) (yw:Int) (FU:ByteArray) (Li:Bool) (Lj:Int) (Ll:Int) (Lm:Int) (r:Bool) (w:World) (h:vk.f kK mq pY qc qd qg yw FU Li Lj Ll Lm=some r) :
  Calls Tryz.prog 76 #[.agg #[.int .i64 kK,.string mq,.bool pY,.int .i64 qc,.int .i64 qd,.int .i64 qg],.agg #[.int .i64 yw,.string FU,.bool Li,.int .i64 Lj,.int .i64 Ll,.int .i64 Lm]] w fun e w'=>e=.returned (.bool r)/\Below w.heap.size w w':=by
 have Ka:=Tryz.underlying53;have HB:=aj.mk (Below.refl w.heap.size w);have H:(if kK=yw then (some (mq.toList==FU.toList)) else (some false))=some r:=h;clear h;by_cases c3:kK=yw
 ·rw [if_pos c3] at H
  have nU:(kK==yw)=true:=beq_iff_eq.mpr c3;have xq:(kK != yw)=false:=bne_eq_false_iff_eq.mpr c3;clear c3;obtain rfl:=Option.some.inj H;go_enter Tryz.func76,Tryz.ntmps76
  go_wp2_with (first | ((with_reducible refine jW (N:=2) rfl ?_);refine jG ?hg (N:=2) ?hd (cs:=#[.int .i64 kK,.string mq,.bool pY,.int .i64 qc,.int .i64 qd,.int .i64 qg]) (t:=53) ?hr ?_;(case hd=>rfl);(case hg=>rfl);(case hr=>first | (go_simp;done) | (go_simp;rfl));intro jM hg w4 lM hb;have dW:=aj.mk (bH (by repeat (first | (with_reducible first | exact HB.out | apply ay | apply ak | apply aD) | exact HB.out)) hb);have fF:=aj.mk (lM);have jJ:=aj.mk ((by rw [hg];exact (bR (by repeat (first | (with_reducible first | exact HB.out | apply ay | apply ak | apply aD) | exact HB.out))):w.heap.size<=jM));have lZ:=aj.mk ((by rw [hg];exact (bR (by repeat (first | (with_reducible first | exact HB.out | apply ay | apply ak | apply aD) | exact HB.out))):w.heap.size<=jM));clear HB;have HB:=dW;have iD:=fF;have adN:=jJ;have yx:=lZ;clear dW fF jJ lZ;clear hb lM hg) | ((with_reducible refine jW (N:=3) rfl ?_);refine jG ?hg (N:=3) ?hd (cs:=#[.int .i64 yw,.string FU,.bool Li,.int .i64 Lj,.int .i64 Ll,.int .i64 Lm]) (t:=53) ?hr ?_;(case hd=>rfl);(case hg=>rfl);(case hr=>first | (go_simp;done) | (go_simp;rfl));intro lN hg w5 lM hb;have dW:=aj.mk (fU (g:=jM) (o:=.cells #[.int .i64 kK,.string mq,.bool pY,.int .i64 qc,.int .i64 qd,.int .i64 qg] 53 (0,0)) (by (with_reducible repeat (first | refine aH ?_ _ | refine aI ?_ | refine aG ?_ _));exact iD.out) hb);have fF:=aj.mk (bH (by repeat (first | (with_reducible first | exact HB.out | apply ay | apply ak | apply aD | refine aQ ?_ yx.out) | exact HB.out)) hb);have jJ:=aj.mk (lM);have lZ:=aj.mk ((by rw [hg];exact (bR (by repeat (first | (with_reducible first | exact HB.out | apply ay | apply ak | apply aD | refine aQ ?_ yx.out) | exact HB.out))):w.heap.size<=lN));have vS:=aj.mk ((by rw [hg];exact (bR (by repeat (first | (with_reducible first | exact HB.out | apply ay | apply ak | apply aD | refine aQ ?_ yx.out) | exact HB.out))):w.heap.size<=lN));have Ja:=aj.mk ((by rw [hg];exact Nat.ne_of_lt (pq (g:=jM) (o:=.cells #[.int .i64 kK,.string mq,.bool pY,.int .i64 qc,.int .i64 qd,.int .i64 qg] 53 (0,0)) (by (with_reducible repeat (first | refine aH ?_ _ | refine aI ?_ | refine aG ?_ _));exact iD.out)):jM≠lN));have XF:=aj.mk ((by rw [hg];exact Nat.ne_of_gt (pq (g:=jM) (o:=.cells #[.int .i64 kK,.string mq,.bool pY,.int .i64 qc,.int .i64 qd,.int .i64 qg] 53 (0,0)) (by (with_reducible repeat (first | refine aH ?_ _ | refine aI ?_ | refine aG ?_ _));exact iD.out)):lN≠jM));clear iD;clear HB;have iD:=dW;have HB:=fF;have jX:=jJ;have adO:=lZ;have RS:=vS;have zu:=Ja;have zw:=XF;clear dW fF jJ lZ vS Ja XF;clear hb lM hg;have amt:=zu.out;have amu:=zw.out;have ZF:w5.cell? ⟨jM,0,none⟩=some (.int .i64 kK):=(au iD.out 0).trans rfl;have ZG:w5.cell? ⟨jM,1,none⟩=some (.string mq):=(au iD.out 1).trans rfl;have ZH:w5.cell? ⟨jM,2,none⟩=some (.bool pY):=(au iD.out 2).trans rfl;have ZI:w5.cell? ⟨jM,3,none⟩=some (.int .i64 qc):=(au iD.out 3).trans rfl;have ZJ:w5.cell? ⟨jM,4,none⟩=some (.int .i64 qd):=(au iD.out 4).trans rfl;have ajK:w5.cell? ⟨jM,5,none⟩=some (.int .i64 qg):=(au iD.out 5).trans rfl;have ZK:=aA iD.out 0;have ZL:=aA iD.out 1;have ZM:=aA iD.out 2;have ZN:=aA iD.out 3;have ZO:=aA iD.out 4;have ajL:=aA iD.out 5;have aad:w5.cell? ⟨lN,0,none⟩=some (.int .i64 yw):=(au jX.out 0).trans rfl;have aae:w5.cell? ⟨lN,1,none⟩=some (.string FU):=(au jX.out 1).trans rfl;have aaf:w5.cell? ⟨lN,2,none⟩=some (.bool Li):=(au jX.out 2).trans rfl;have aag:w5.cell? ⟨lN,3,none⟩=some (.int .i64 Lj):=(au jX.out 3).trans rfl;have aah:w5.cell? ⟨lN,4,none⟩=some (.int .i64 Ll):=(au jX.out 4).trans rfl;have aai:w5.cell? ⟨lN,5,none⟩=some (.int .i64 Lm):=(au jX.out 5).trans rfl;have aaj:=aA jX.out 0;have aak:=aA jX.out 1;have aal:=aA jX.out 2;have aam:=aA jX.out 3;have aan:=aA jX.out 4;have aao:=aA jX.out 5))
  go_ret;exact ⟨by first | rfl | (simp [aV,aW]<;>rfl) | (simp [*,aV,aW]<;>rfl),by repeat (first | (with_reducible first | exact HB.out | apply ay | apply ak | apply aD | refine aQ ?_ yx.out | refine aQ ?_ RS.out) | exact HB.out)⟩
 rw [if_neg c3] at H;have nU:(kK==yw)=false:=beq_eq_false_iff_ne.mpr c3;have xq:(kK != yw)=true:=bne_iff_ne.mpr c3;obtain rfl:=Option.some.inj H;go_enter Tryz.func76,Tryz.ntmps76
 go_wp2_with (first | ((with_reducible refine jW (N:=2) rfl ?_);refine jG ?hg (N:=2) ?hd (cs:=#[.int .i64 kK,.string mq,.bool pY,.int .i64 qc,.int .i64 qd,.int .i64 qg]) (t:=53) ?hr ?_;(case hd=>rfl);(case hg=>rfl);(case hr=>first | (go_simp;done) | (go_simp;rfl));intro jM hg w9 lM hb;have dW:=aj.mk (bH (by repeat (first | (with_reducible first | exact HB.out | apply ay | apply ak | apply aD) | exact HB.out)) hb);have fF:=aj.mk (lM);have jJ:=aj.mk ((by rw [hg];exact (bR (by repeat (first | (with_reducible first | exact HB.out | apply ay | apply ak | apply aD) | exact HB.out))):w.heap.size<=jM));have lZ:=aj.mk ((by rw [hg];exact (bR (by repeat (first | (with_reducible first | exact HB.out | apply ay | apply ak | apply aD) | exact HB.out))):w.heap.size<=jM));clear HB;have HB:=dW;have iD:=fF;have adN:=jJ;have yx:=lZ;clear dW fF jJ lZ;clear hb lM hg) | ((with_reducible refine jW (N:=3) rfl ?_);refine jG ?hg (N:=3) ?hd (cs:=#[.int .i64 yw,.string FU,.bool Li,.int .i64 Lj,.int .i64 Ll,.int .i64 Lm]) (t:=53) ?hr ?_;(case hd=>rfl);(case hg=>rfl);(case hr=>first | (go_simp;done) | (go_simp;rfl));intro lN hg DC lM hb;have dW:=aj.mk (fU (g:=jM) (o:=.cells #[.int .i64 kK,.string mq,.bool pY,.int .i64 qc,.int .i64 qd,.int .i64 qg] 53 (0,0)) (by (with_reducible repeat (first | refine aH ?_ _ | refine aI ?_ | refine aG ?_ _));exact iD.out) hb);have fF:=aj.mk (bH (by repeat (first | (with_reducible first | exact HB.out | apply ay | apply ak | apply aD | refine aQ ?_ yx.out) | exact HB.out)) hb);have jJ:=aj.mk (lM);have lZ:=aj.mk ((by rw [hg];exact (bR (by repeat (first | (with_reducible first | exact HB.out | apply ay | apply ak | apply aD | refine aQ ?_ yx.out) | exact HB.out))):w.heap.size<=lN));have vS:=aj.mk ((by rw [hg];exact (bR (by repeat (first | (with_reducible first | exact HB.out | apply ay | apply ak | apply aD | refine aQ ?_ yx.out) | exact HB.out))):w.heap.size<=lN));have Ja:=aj.mk ((by rw [hg];exact Nat.ne_of_lt (pq (g:=jM) (o:=.cells #[.int .i64 kK,.string mq,.bool pY,.int .i64 qc,.int .i64 qd,.int .i64 qg] 53 (0,0)) (by (with_reducible repeat (first | refine aH ?_ _ | refine aI ?_ | refine aG ?_ _));exact iD.out)):jM≠lN));have XF:=aj.mk ((by rw [hg];exact Nat.ne_of_gt (pq (g:=jM) (o:=.cells #[.int .i64 kK,.string mq,.bool pY,.int .i64 qc,.int .i64 qd,.int .i64 qg] 53 (0,0)) (by (with_reducible repeat (first | refine aH ?_ _ | refine aI ?_ | refine aG ?_ _));exact iD.out)):lN≠jM));clear iD;clear HB;have iD:=dW;have HB:=fF;have jX:=jJ;have adO:=lZ;have RS:=vS;have zu:=Ja;have zw:=XF;clear dW fF jJ lZ vS Ja XF;clear hb lM hg;have alz:=zu.out;have alA:=zw.out;have ahN:DC.cell? ⟨jM,0,none⟩=some (.int .i64 kK):=(au iD.out 0).trans rfl;have ahO:DC.cell? ⟨jM,1,none⟩=some (.string mq):=(au iD.out 1).trans rfl;have ahP:DC.cell? ⟨jM,2,none⟩=some (.bool pY):=(au iD.out 2).trans rfl;have ahQ:DC.cell? ⟨jM,3,none⟩=some (.int .i64 qc):=(au iD.out 3).trans rfl;have ahR:DC.cell? ⟨jM,4,none⟩=some (.int .i64 qd):=(au iD.out 4).trans rfl;have ahS:DC.cell? ⟨jM,5,none⟩=some (.int .i64 qg):=(au iD.out 5).trans rfl;have ahT:=aA iD.out 0;have ahU:=aA iD.out 1;have ahV:=aA iD.out 2;have ahW:=aA iD.out 3;have ahX:=aA iD.out 4;have ahY:=aA iD.out 5;have VI:DC.cell? ⟨lN,0,none⟩=some (.int .i64 yw):=(au jX.out 0).trans rfl;have VJ:DC.cell? ⟨lN,1,none⟩=some (.string FU):=(au jX.out 1).trans rfl;have VK:DC.cell? ⟨lN,2,none⟩=some (.bool Li):=(au jX.out 2).trans rfl;have VL:DC.cell? ⟨lN,3,none⟩=some (.int .i64 Lj):=(au jX.out 3).trans rfl;have ahZ:DC.cell? ⟨lN,4,none⟩=some (.int .i64 Ll):=(au jX.out 4).trans rfl;have aia:DC.cell? ⟨lN,5,none⟩=some (.int .i64 Lm):=(au jX.out 5).trans rfl;have VN:=aA jX.out 0;have VO:=aA jX.out 1;have VP:=aA jX.out 2;have VQ:=aA jX.out 3;have aib:=aA jX.out 4;have aic:=aA jX.out 5))
 go_ret;exact ⟨by first | rfl | (simp [aV,aW]<;>rfl) | (simp [*,aV,aW]<;>rfl),by repeat (first | (with_reducible first | exact HB.out | apply ay | apply ak | apply aD | refine aQ ?_ yx.out | refine aQ ?_ RS.out) | exact HB.out)⟩
end Go.Proofs.YtkkpjonfaflkmaaGreatDoor.T
namespace Go.Proofs.YtkkpjonfaflkmaaGreatDoor.T
open Go.RowKit Go.Proofs.ah.aT Go.Proofs.ah.bn Go.Proofs.ah.bA
set_option linter.unusedSimpArgs false
set_option linter.unusedVariables false
attribute [local go_sem] Oper.semAt_some
def MS (x:gD):Value:=.agg #[.int .i64 x.f0,.string x.f1,.bool x.f2,.int .i64 x.f3,.int .i64 x.f4,.int .i64 x.f5]
def Gs {α:Type} (p:α->α->Bool):List α->List α->Bool
 | [],[]=>true
 | x::l,y::m=>p x y&&Gs p l m
 | _,_=>false
theorem MU {α:Type} (p:α->α->Bool):∀ l m:List α,l.length≠m.length->Gs p l m=false
 | [],[],h=>absurd rfl h
 | [],_::_,_=>rfl
 | _::_,[],_=>rfl
 | x::l,y::m,h=>by rw [Gs,MU p l m (fun e=>h (by simp [e])),Bool.and_false]
def uH (x y:gD):Bool:=decide (x.f0=y.f0)&&(x.f1.toList==y.f1.toList)
def uI (x y:gD):Bool:=uH x y&&(x.f2==y.f2)
def Lp (g:Nat) (p:gD->gD->Bool):Prop:=∀ (W:World) (x y:gD),Calls Tryz.prog g #[MS x,MS y] W fun e W'=>e=.returned (.bool (p x y))/\Below W.heap.size W W'
theorem CG:Lp 76 uH:=fun W x y=>by
 refine vk.calls _ _ _ _ _ _ _ _ _ _ _ _ _ W ?_;unfold vk.f uH;by_cases h:x.f0=y.f0
 ·rw [if_pos h,decide_eq_true h,Bool.true_and]
 ·rw [if_neg h,decide_eq_false h,Bool.false_and]
theorem Jb:∀ args w,(callFunc 76 args).run Tryz.prog w=.ok (.enter 76 args) w:=enters_of Tryz.func76 (by kernel_rfl) rfl
theorem FV:∀ args w,(callFunc 75 args).run Tryz.prog w=.ok (.enter 75 args) w:=enters_of Tryz.func75 (by kernel_rfl) rfl
theorem oQ {l:List gD} {k:Nat} (h:k < l.length):l.drop k=aU l (k:Int)::l.drop (k+1):=by
 rw [List.drop_eq_getElem_cons h];congr 1
 unfold aU;rw [Int.toNat_natCast,List.getD_eq_getElem?_getD,List.getElem?_eq_getElem h];rfl
set_option maxRecDepth 100000 in
set_option maxHeartbeats 4000000 in
theorem eqf.calls (A0:Option Addr) (c0:Nat) (l0:List gD) (A1:Option Addr) (c1:Nat) (l1:List gD) (g:Nat) (p:gD->gD->Bool) (w:World)
  (eg:∀ args w,(callFunc g args).run Tryz.prog w=.ok (.enter g args) w) (hp:Lp g p) (hr0:Kd.C lD w A0 l0.length l0) (hc0:l0.length<=c0) (hr1:Kd.C lD w A1 l1.length l1) (hc1:l1.length<=c1) (hsm:l0.length<=1000000) :
  Calls Tryz.prog 74 #[.slice A0 l0.length c0,.slice A1 l1.length c1,.func (.func g) #[] #[]] w fun e w'=>e=.returned (.bool (Gs p l0 l1))/\Below w.heap.size w w':=by
 have Ka:=Tryz.underlying53;have HP:=aj.mk hp;have mE:=aj.mk hr0;have HR1:=aj.mk hr1;clear hp hr0 hr1;by_cases hl:l0.length=l1.length
 rotate_left
 ·rw [MU p l0 l1 hl]
  obtain ⟨n,hn⟩:∃ n,l0.length=n:=⟨_,rfl⟩;obtain ⟨m,hm⟩:∃ m,l1.length=m:=⟨_,rfl⟩;rw [hn,hm] at hl;rw [hn,hm];have g1:((n:Int)==(m:Int))=false:=beq_eq_false_iff_ne.2 (by omega);have g2:((n:Int) != (m:Int))=true:=bne_iff_ne.2 (by omega);have g3:(n==m)=false:=beq_eq_false_iff_ne.2 (by omega);clear hn hm hl mE HR1;go_enter Tryz.func74,Tryz.ntmps74
  go_wp2;go_ret;exact ⟨rfl,Below.refl _ _⟩
 obtain ⟨n,hn⟩:∃ n,l0.length=n:=⟨_,rfl⟩;have hn1:l1.length=n:=by omega
 obtain ⟨R,hR⟩:∃ R,Gs p l0 l1=R:=⟨_,rfl⟩;rw [hR];have HR:=aj.mk hR;have wN:=aj.mk hn;have HL1:=aj.mk hn1;rw [hn] at mE hc0 hsm |-
 rw [hn1] at HR1 hc1 |-
 clear hl hn hn1 hR;go_enter Tryz.func74,Tryz.ntmps74
 go_wp2;go_loopg [17] n (fun gg s17 wr=>∃ kk:Nat,kk<=n/\n - kk<=gg/\s17=.int .i64 kk/\aj (Below w.heap.size w wr)/\aj (Gs p (l0.drop kk) (l1.drop kk)=R))
 case atStart=>exact ⟨0,by omega,by omega,rfl,⟨Below.refl _ _⟩,HR⟩
 case round =>
  obtain ⟨kk,hkk,hg,rfl,HB,HA⟩:=hrel;by_cases hlt:kk < n
  rotate_left
  ·have hltz:¬ (kk:Int) < (n:Int):=by omega
   have HA2:=HA.out;rw [List.drop_eq_nil_of_le (by rw [wN.out];omega),List.drop_eq_nil_of_le (by rw [HL1.out];omega)] at HA2;replace HA2:=aj.mk HA2;go_wp2;go_ret;exact ⟨by rw [<- HA2.out];rfl,HB.out⟩
  have hltz:(kk:Int) < (n:Int):=by omega
  have hz0:(0:Int)<=(kk:Int):=by omega
  have hw1:IntKind.i64.wrap ((kk:Int)+1)=((kk+1:Nat):Int):=by rw [vC _ (by omega) (by omega)];omega
  have HA2:=HA.out;rw [oQ (l:=l0) (k:=kk) (by rw [wN.out];exact hlt),oQ (l:=l1) (k:=kk) (by rw [HL1.out];exact hlt),Gs] at HA2;obtain ⟨ad,rfl,x0,x1,x2,x3,x4,x5⟩:=eY (Kd.dO mE.out HB.out) (kk:Int) hz0 hltz;simp only [Int.toNat_natCast] at x0 x1 x2 x3 x4 x5;have hcl:=HP.out;generalize aU l0 (kk:Int)=tx at *;go_upto_region 6 with (fail)
  have hn1:=heap_alloc_new wr (.cells #[.int .i64 tx.f0,.string tx.f1,.bool tx.f2,.int .i64 tx.f3,.int .i64 tx.f4,.int .i64 tx.f5] 53);have hB1:=ay HB.out (.cells #[.int .i64 tx.f0,.string tx.f1,.bool tx.f2,.int .i64 tx.f3,.int .i64 tx.f4,.int .i64 tx.f5] 53);obtain ⟨h1,RU⟩:∃ h1,wr.heap.size=h1:=⟨_,rfl⟩;rw [RU] at hn1 |-
  clear x0 x1 x2 x3 x4 x5 RU HB;generalize wr.alloc (.cells #[.int .i64 tx.f0,.string tx.f1,.bool tx.f2,.int .i64 tx.f3,.int .i64 tx.f4,.int .i64 tx.f5] 53)=W1 at *;obtain ⟨be,rfl,y0,y1,y2,y3,y4,y5⟩:=eY (Kd.dO HR1.out hB1) (kk:Int) hz0 hltz;simp only [Int.toNat_natCast] at y0 y1 y2 y3 y4 y5;generalize aU l1 (kk:Int)=ty at *;go_upto_region 7 with (fail)
  have hn2:=heap_alloc_new W1 (.cells #[.int .i64 ty.f0,.string ty.f1,.bool ty.f2,.int .i64 ty.f3,.int .i64 ty.f4,.int .i64 ty.f5] 53);have hB2:=ay hB1 (.cells #[.int .i64 ty.f0,.string ty.f1,.bool ty.f2,.int .i64 ty.f3,.int .i64 ty.f4,.int .i64 ty.f5] 53);have CF:=(((But.refl (fun _=>False) W1).alloc (.cells #[.int .i64 ty.f0,.string ty.f1,.bool ty.f2,.int .i64 ty.f3,.int .i64 ty.f4,.int .i64 ty.f5] 53)).block h1 (Array.getElem?_eq_some_iff.1 hn1).1 (fun e=>e)).trans hn1;obtain ⟨h2,hh2⟩:∃ h2,W1.heap.size=h2:=⟨_,rfl⟩;rw [hh2] at hn2 |-
  clear y0 y1 y2 y3 y4 y5 hh2 hB1 hn1;generalize W1.alloc (.cells #[.int .i64 ty.f0,.string ty.f1,.bool ty.f2,.int .i64 ty.f3,.int .i64 ty.f4,.int .i64 ty.f5] 53)=W2 at *;have HC:=Lib.hid (hcl W2 tx ty);have HB2:=aj.mk hB2;have a0:W2.cell? ⟨h1,0,none⟩=some (.int .i64 tx.f0):=(au CF 0).trans rfl;have a1:W2.cell? ⟨h1,1,none⟩=some (.string tx.f1):=(au CF 1).trans rfl;have a2:W2.cell? ⟨h1,2,none⟩=some (.bool tx.f2):=(au CF 2).trans rfl;have a3:W2.cell? ⟨h1,3,none⟩=some (.int .i64 tx.f3):=(au CF 3).trans rfl;have a4:W2.cell? ⟨h1,4,none⟩=some (.int .i64 tx.f4):=(au CF 4).trans rfl;have a5:W2.cell? ⟨h1,5,none⟩=some (.int .i64 tx.f5):=(au CF 5).trans rfl;have b0:W2.cell? ⟨h2,0,none⟩=some (.int .i64 ty.f0):=(au hn2 0).trans rfl;have b1:W2.cell? ⟨h2,1,none⟩=some (.string ty.f1):=(au hn2 1).trans rfl;have b2:W2.cell? ⟨h2,2,none⟩=some (.bool ty.f2):=(au hn2 2).trans rfl;have b3:W2.cell? ⟨h2,3,none⟩=some (.int .i64 ty.f3):=(au hn2 3).trans rfl;have b4:W2.cell? ⟨h2,4,none⟩=some (.int .i64 ty.f4):=(au hn2 4).trans rfl;have b5:W2.cell? ⟨h2,5,none⟩=some (.int .i64 ty.f5):=(au hn2 5).trans rfl;clear hcl hB2 hn2 CF;cases hq:p tx ty with
  | true =>
   rw [hq] at HC HA2;rw [Bool.true_and] at HA2;replace HA2:=aj.mk HA2;clear hq;go_wp2_with (go_at_fn g;refine HC.out.mono ?_;rintro e w' ⟨rfl,hb3⟩)
   go_roundg (n - (kk+1))
   case measure=>omega
   case rel=>exact ⟨kk+1,by omega,by omega,by go_num,⟨HB2.out.trans (hb3.mono HB2.out.size)⟩,HA2⟩
  | false =>
   rw [hq] at HC HA2;rw [Bool.false_and] at HA2;replace HA2:=aj.mk HA2;clear hq;go_wp2_with (go_at_fn g;refine HC.out.mono ?_;rintro e w' ⟨rfl,hb3⟩)
   go_ret;exact ⟨by rw [<- HA2.out];rfl,HB2.out.trans (hb3.mono HB2.out.size)⟩
set_option maxRecDepth 100000 in
set_option maxHeartbeats 4000000 in
theorem Jc:Lp 75 uI:=fun W x y=>by
 have hcl:=CG;unfold MS;have Ka:=Tryz.underlying53;go_enter Tryz.func75,Tryz.ntmps75
 go_upto_region 1 with (fail)
 have hn1:=heap_alloc_new W (.cells #[.int .i64 x.f0,.string x.f1,.bool x.f2,.int .i64 x.f3,.int .i64 x.f4,.int .i64 x.f5] 53);have hs1:=World.size_alloc W (.cells #[.int .i64 x.f0,.string x.f1,.bool x.f2,.int .i64 x.f3,.int .i64 x.f4,.int .i64 x.f5] 53);have hn2:=heap_alloc_new (W.alloc (.cells #[.int .i64 x.f0,.string x.f1,.bool x.f2,.int .i64 x.f3,.int .i64 x.f4,.int .i64 x.f5] 53)) (.cells #[.int .i64 y.f0,.string y.f1,.bool y.f2,.int .i64 y.f3,.int .i64 y.f4,.int .i64 y.f5] 53);have CF:=(((But.refl (fun _=>False) (W.alloc (.cells #[.int .i64 x.f0,.string x.f1,.bool x.f2,.int .i64 x.f3,.int .i64 x.f4,.int .i64 x.f5] 53))).alloc (.cells #[.int .i64 y.f0,.string y.f1,.bool y.f2,.int .i64 y.f3,.int .i64 y.f4,.int .i64 y.f5] 53)).block W.heap.size (by omega) (fun e=>e)).trans hn1;have hB2:=ay (ay (Below.refl W.heap.size W) (.cells #[.int .i64 x.f0,.string x.f1,.bool x.f2,.int .i64 x.f3,.int .i64 x.f4,.int .i64 x.f5] 53)) (.cells #[.int .i64 y.f0,.string y.f1,.bool y.f2,.int .i64 y.f3,.int .i64 y.f4,.int .i64 y.f5] 53);rw [hs1] at hn2;obtain ⟨H,hH⟩:∃ H,W.heap.size=H:=⟨_,rfl⟩;rw [hH] at hn2 CF hB2 |-
 clear hn1 hs1;generalize (W.alloc (.cells #[.int .i64 x.f0,.string x.f1,.bool x.f2,.int .i64 x.f3,.int .i64 x.f4,.int .i64 x.f5] 53)).alloc (.cells #[.int .i64 y.f0,.string y.f1,.bool y.f2,.int .i64 y.f3,.int .i64 y.f4,.int .i64 y.f5] 53)=W2 at *;have hc:=hcl W2 x y;have hfin:aj (∀ w3,Below W2.heap.size W2 w3->Below H W w3):=⟨fun w3 hb=>hB2.trans (hb.mono (by have:=hB2.size;omega))⟩;have hcf:aj (∀ w3,Below W2.heap.size W2 w3->w3.cell? ⟨H,2,none⟩=some (.bool x.f2)/\w3.cell? ⟨H+1,2,none⟩=some (.bool y.f2)):=⟨fun w3 hb=>⟨(au ((hb.block H (Array.getElem?_eq_some_iff.1 CF).1).trans CF) 2).trans rfl,(au ((hb.block (H+1) (Array.getElem?_eq_some_iff.1 hn2).1).trans hn2) 2).trans rfl⟩⟩;have a0:W2.cell? ⟨H,0,none⟩=some (.int .i64 x.f0):=(au CF 0).trans rfl;have a1:W2.cell? ⟨H,1,none⟩=some (.string x.f1):=(au CF 1).trans rfl;have a2:W2.cell? ⟨H,2,none⟩=some (.bool x.f2):=(au CF 2).trans rfl;have a3:W2.cell? ⟨H,3,none⟩=some (.int .i64 x.f3):=(au CF 3).trans rfl;have a4:W2.cell? ⟨H,4,none⟩=some (.int .i64 x.f4):=(au CF 4).trans rfl;have a5:W2.cell? ⟨H,5,none⟩=some (.int .i64 x.f5):=(au CF 5).trans rfl;have b0:W2.cell? ⟨H+1,0,none⟩=some (.int .i64 y.f0):=(au hn2 0).trans rfl;have b1:W2.cell? ⟨H+1,1,none⟩=some (.string y.f1):=(au hn2 1).trans rfl;have b2:W2.cell? ⟨H+1,2,none⟩=some (.bool y.f2):=(au hn2 2).trans rfl;have b3:W2.cell? ⟨H+1,3,none⟩=some (.int .i64 y.f3):=(au hn2 3).trans rfl;have b4:W2.cell? ⟨H+1,4,none⟩=some (.int .i64 y.f4):=(au hn2 4).trans rfl;have b5:W2.cell? ⟨H+1,5,none⟩=some (.int .i64 y.f5):=(au hn2 5).trans rfl;unfold MS at hc;have HH:=aj.mk hH;clear hcl hn2 CF hB2 hH;cases hq:uH x y with
 | false =>
  rw [hq] at hc;have HC:=Lib.hid hc;have MV:aj (uI x y=false):=⟨by unfold uI;rw [hq];rfl⟩;clear hc hq;go_wp2_with (go_at_call 76;refine HC.out.mono ?_;rintro e w3 ⟨rfl,hb3⟩)
  go_ret;exact ⟨by rw [MV.out];rfl,by rw [HH.out];exact hfin.out _ hb3⟩
 | true =>
  rw [hq] at hc;have HC:=Lib.hid hc;have MV:aj (uI x y=(x.f2==y.f2)):=⟨by unfold uI;rw [hq];rfl⟩;clear hc hq;go_wp2_with (go_at_call 76;refine HC.out.mono ?_;rintro e w3 ⟨rfl,hb3⟩;obtain ⟨k1,k2⟩:=hcf.out _ hb3)
  go_ret;exact ⟨by rw [MV.out];first | rfl | simp,by rw [HH.out];exact hfin.out _ hb3⟩
def oW.f (l0 l1:List gD):Option Bool:=if l0.length<=1000000 then some (Gs uI l0 l1) else none
set_option maxRecDepth 100000 in
set_option maxHeartbeats 4000000 in
theorem oW.calls (A0:Option Addr) (c0:Nat) (l0:List gD) (A1:Option Addr) (c1:Nat) (l1:List gD) (r:Bool) (w:World) (hr0:Kd.C lD w A0 l0.length l0) (hc0:l0.length<=c0) (hr1:Kd.C lD w A1 l1.length l1) (hc1:l1.length<=c1) (h:oW.f l0 l1=some r) :
  Calls Tryz.prog 37 #[.slice A0 l0.length c0,.slice A1 l1.length c1] w fun e w'=>e=.returned (.bool r)/\Below w.heap.size w w':=by
 unfold oW.f at h;by_cases hs:l0.length<=1000000
 rotate_left
 ·rw [if_neg hs] at h;cases h
 rw [if_pos hs] at h;obtain rfl:=Option.some.inj h;have hc:=Lib.hid (eqf.calls A0 c0 l0 A1 c1 l1 75 uI w FV Jc hr0 hc0 hr1 hc1 hs);clear hr0 hr1 hc0 hc1 hs;generalize Gs uI l0 l1=R at *;generalize l0.length=n at *;generalize l1.length=m at *;go_enter Tryz.func37,Tryz.ntmps37
 go_wp2_with (go_at_call 74;refine hc.out.mono ?_;rintro e w' ⟨rfl,hb⟩)
 go_ret;exact ⟨rfl,hb⟩
end Go.Proofs.YtkkpjonfaflkmaaGreatDoor.T
namespace Go.Proofs.YtkkpjonfaflkmaaGreatDoor.T
open Go.RowKit Go.Proofs.ah.aT Go.Proofs.ah.bn Go.Proofs.ah.bA
set_option linter.unusedSimpArgs false
set_option linter.unusedVariables false
attribute [local go_sem] fB fC gI gJ eD eF fD fE   -- for this text's walks alone
def fT.f (kK:Int) (mq:ByteArray) (pY:Bool) (qc:Int) (qd:Int) (qg:Int):Option (ByteArray):=if kK=2 then ((jd.f mq).bind fun OE=>(some OE)) else (some mq)
set_option maxHeartbeats 8000000 in
set_option maxRecDepth 100000 in
theorem fT.calls (kK:Int) (mq:ByteArray) (pY:Bool) (qc:Int) (qd:Int) (qg:Int) (r:ByteArray) (w:World) (hT:eU w) (h:fT.f kK mq pY qc qd qg=some r) :
  Calls Tryz.prog 113 #[.agg #[.int .i64 kK,.string mq,.bool pY,.int .i64 qc,.int .i64 qd,.int .i64 qg]] w fun e w'=>e=.returned (.string r)/\Below w.heap.size w w':=by
 have Ka:=Tryz.underlying53;have HB:=aj.mk (Below.refl w.heap.size w);have H:(if kK=2 then ((jd.f mq).bind fun OE=>(some OE)) else (some mq))=some r:=h;clear h;by_cases c2:kK=2
 ·rw [if_pos c2] at H
  have oG:(kK==2)=true:=beq_iff_eq.mpr c2;have JJ:(kK != 2)=false:=bne_eq_false_iff_eq.mpr c2;clear c2;replace H:=Option.bind_eq_some_iff.mp H;obtain ⟨OE,A30,H⟩:=H;replace H:(some OE)=some r:=H;have A3:=aj.mk A30;clear A30;obtain rfl:=Option.some.inj H;go_enter Tryz.func113,Tryz.ntmps113
  go_wp2_with (first | ((with_reducible refine jW (N:=1) rfl ?_);refine jG ?hg (N:=1) ?hd (cs:=#[.int .i64 kK,.string mq,.bool pY,.int .i64 qc,.int .i64 qd,.int .i64 qg]) (t:=53) ?hr ?_;(case hd=>rfl);(case hg=>rfl);(case hr=>first | (go_simp;done) | (go_simp;rfl));intro nG hg w4 lM hb;have dW:=aj.mk (bH (by repeat (first | (with_reducible first | exact HB.out | apply ay | apply ak | apply aD) | exact HB.out)) hb);have fF:=aj.mk (lM);have jJ:=aj.mk ((by rw [hg];exact (bR (by repeat (first | (with_reducible first | exact HB.out | apply ay | apply ak | apply aD) | exact HB.out))):w.heap.size<=nG));have lZ:=aj.mk ((by rw [hg];exact (bR (by repeat (first | (with_reducible first | exact HB.out | apply ay | apply ak | apply aD) | exact HB.out))):w.heap.size<=nG));clear HB;have HB:=dW;have jy:=fF;have adP:=jJ;have Jd:=lZ;clear dW fF jJ lZ;clear hb lM hg;have ajM:w4.cell? ⟨nG,0,none⟩=some (.int .i64 kK):=(au jy.out 0).trans rfl;have ajN:w4.cell? ⟨nG,1,none⟩=some (.string mq):=(au jy.out 1).trans rfl;have ajO:w4.cell? ⟨nG,2,none⟩=some (.bool pY):=(au jy.out 2).trans rfl;have ajP:w4.cell? ⟨nG,3,none⟩=some (.int .i64 qc):=(au jy.out 3).trans rfl;have ajQ:w4.cell? ⟨nG,4,none⟩=some (.int .i64 qd):=(au jy.out 4).trans rfl;have ajR:w4.cell? ⟨nG,5,none⟩=some (.int .i64 qg):=(au jy.out 5).trans rfl;have ajS:=aA jy.out 0;have ajT:=aA jy.out 1;have ajU:=aA jy.out 2;have ajV:=aA jy.out 3;have ajW:=aA jy.out 4;have ajX:=aA jy.out 5) | ((with_reducible refine bg (f:=66) rfl ?_);refine cO (some 8) rfl rfl Tryz.func66 (by kernel_rfl) rfl #[.string mq] rfl (by (try simp only [List.map_toArray,List.map_cons,List.map_nil]);first | done | rfl | (simp only [List.length_drop,List.length_take];rfl)) ?_;(with_reducible refine (jd.calls mq OE _ (eU.of_below hT (by repeat (first | (with_reducible first | exact HB.out | apply ay | apply ak | apply aD | refine aQ ?_ Jd.out) | exact HB.out))) A3.out).mono ?_);rintro e w6 ⟨rfl,hb⟩;refine ⟨_,rfl,?_⟩;have dW:=aj.mk (fU (g:=nG) (o:=.cells #[.int .i64 kK,.string mq,.bool pY,.int .i64 qc,.int .i64 qd,.int .i64 qg] 53 (0,0)) (by (with_reducible repeat (first | refine aH ?_ _ | refine aI ?_ | refine aG ?_ _));exact jy.out) hb);have fF:=aj.mk (bH (by repeat (first | (with_reducible first | exact HB.out | apply ay | apply ak | apply aD | refine aQ ?_ Jd.out) | exact HB.out)) hb);clear jy;clear HB;have jy:=dW;have HB:=fF;clear dW fF;(try clear hb);(try clear hb2);(try clear hk);(try clear hi)))
  go_ret;exact ⟨by first | rfl | (simp [aV,aW]<;>rfl) | (simp [*,aV,aW]<;>rfl),by repeat (first | (with_reducible first | exact HB.out | apply ay | apply ak | apply aD | refine aQ ?_ Jd.out) | exact HB.out)⟩
 rw [if_neg c2] at H;have oG:(kK==2)=false:=beq_eq_false_iff_ne.mpr c2;have JJ:(kK != 2)=true:=bne_iff_ne.mpr c2;obtain rfl:=Option.some.inj H;go_enter Tryz.func113,Tryz.ntmps113
 go_wp2_with (first | ((with_reducible refine jW (N:=1) rfl ?_);refine jG ?hg (N:=1) ?hd (cs:=#[.int .i64 kK,.string mq,.bool pY,.int .i64 qc,.int .i64 qd,.int .i64 qg]) (t:=53) ?hr ?_;(case hd=>rfl);(case hg=>rfl);(case hr=>first | (go_simp;done) | (go_simp;rfl));intro nG hg w7 lM hb;have dW:=aj.mk (bH (by repeat (first | (with_reducible first | exact HB.out | apply ay | apply ak | apply aD) | exact HB.out)) hb);have fF:=aj.mk (lM);have jJ:=aj.mk ((by rw [hg];exact (bR (by repeat (first | (with_reducible first | exact HB.out | apply ay | apply ak | apply aD) | exact HB.out))):w.heap.size<=nG));have lZ:=aj.mk ((by rw [hg];exact (bR (by repeat (first | (with_reducible first | exact HB.out | apply ay | apply ak | apply aD) | exact HB.out))):w.heap.size<=nG));clear HB;have HB:=dW;have jy:=fF;have adP:=jJ;have Jd:=lZ;clear dW fF jJ lZ;clear hb lM hg;have aad:w7.cell? ⟨nG,0,none⟩=some (.int .i64 kK):=(au jy.out 0).trans rfl;have aae:w7.cell? ⟨nG,1,none⟩=some (.string mq):=(au jy.out 1).trans rfl;have aaf:w7.cell? ⟨nG,2,none⟩=some (.bool pY):=(au jy.out 2).trans rfl;have aag:w7.cell? ⟨nG,3,none⟩=some (.int .i64 qc):=(au jy.out 3).trans rfl;have aah:w7.cell? ⟨nG,4,none⟩=some (.int .i64 qd):=(au jy.out 4).trans rfl;have aai:w7.cell? ⟨nG,5,none⟩=some (.int .i64 qg):=(au jy.out 5).trans rfl;have aaj:=aA jy.out 0;have aak:=aA jy.out 1;have aal:=aA jy.out 2;have aam:=aA jy.out 3;have aan:=aA jy.out 4;have aao:=aA jy.out 5))
 go_ret;exact ⟨by first | rfl | (simp [aV,aW]<;>rfl) | (simp [*,aV,aW]<;>rfl),by repeat (first | (with_reducible first | exact HB.out | apply ay | apply ak | apply aD | refine aQ ?_ Jd.out) | exact HB.out)⟩
end Go.Proofs.YtkkpjonfaflkmaaGreatDoor.T
namespace Go.Proofs.YtkkpjonfaflkmaaGreatDoor.T
open Go.RowKit Go.Maps Go.Proofs.ah.aT Go.Proofs.ah.bn Go.Proofs.ah.bA
set_option linter.unusedSimpArgs false
set_option linter.unusedVariables false
attribute [local go_sem] Oper.semAt_some
theorem wO.keep {B b:Nat} {xs:List Int} {w w':World} (h:wO B b xs w) (hb:Below w.heap.size w w'):wO B b xs w':=by
 have hk:∀ k (o:Obj),w.heap[k]?=some o->w'.heap[k]?=some o:=fun k o e=>(hb.block k (Array.getElem?_eq_some_iff.1 e).1).trans e
 have key:∀ p,Lib.BuilderAtF 126 5 B b p (xs.map (Value.int .u8)) w->Lib.BuilderAtF 126 5 B b p (xs.map (Value.int .u8)) w':=by
  rintro p ⟨h1,v,h2,h3,h4⟩
  refine ⟨h1,v,hk _ _ h2,⟨h3.1,?_⟩,h4⟩;rcases h3.2 with e | ⟨g,cap,cur,fz,e1,e2,e3,rest⟩
  ·exact .inl e
  ·exact .inr ⟨g,cap,cur,fz,e1,e2,hk _ _ e3,rest⟩
 exact h.elim (fun e=>.inl (key _ e)) (fun e=>.inr (key _ e))
def Aw (x:gD):List Int:=if x.f0=2 then S.quote (bytesOf x.f1) else bytesOf x.f1
theorem FW (x:gD) (h:x.f1.size<=20000):fT.f x.f0 x.f1 x.f2 x.f3 x.f4 x.f5=some (strOfNums (Aw x)):=by
 unfold fT.f Aw;by_cases e:x.f0=2
 ·rw [if_pos e,if_pos e]
  unfold jd.f;rw [if_pos h];rfl
 rw [if_neg e,if_neg e];congr 1
 apply qx
 rw [fq _ (gK _)]
theorem yA (x:gD):∀ y∈Aw x,0<=y/\y < 256:=by
 unfold Aw;by_cases e:x.f0=2
 ·rw [if_pos e];exact S.uy (gK _)
 ·rw [if_neg e];exact gK _
theorem FX (x:gD):(Aw x).length<=2*x.f1.size+2:=by
 unfold Aw;have hb:(bytesOf x.f1).length=x.f1.size:=bytesOf_length _;by_cases e:x.f0=2
 ·rw [if_pos e,S.FD]
  have:=List.count_le_length (a:=S.zZ (bytesOf x.f1)) (l:=bytesOf x.f1);omega
 ·rw [if_neg e];omega
def Lr (l:List gD):List Int:=l.flatMap Aw
theorem RV {l:List gD} {k:Nat} (h:k < l.length):Lr (l.take (k+1))=Lr (l.take k)++Aw (aU l (k:Int)):=by
 have:l.take (k+1)=l.take k++[aU l (k:Int)]:=by
  rw [List.take_add_one,List.getElem?_eq_getElem h];unfold aU;rw [Int.toNat_natCast,List.getD_eq_getElem?_getD,List.getElem?_eq_getElem h];rfl
 rw [this];simp [Lr]
theorem Eh (l:List gD):∀ y∈Lr l,0<=y/\y < 256:=fun y hy=>by
 obtain ⟨x,_,hx⟩:=List.mem_flatMap.1 hy;exact yA x y hx
def CJ (l:List gD):Nat:=(l.map fun x=>2*x.f1.size+2).sum
theorem Je (l:List gD) (k:Nat):CJ (l.take k)<=CJ l:=by
 unfold CJ;conv=>{ rhs;rw [<- List.take_append_drop k l] }
 rw [List.map_append,List.sum_append];omega
theorem FY:∀ l:List gD,(Lr l).length<=CJ l
 | []=>Nat.le_refl _
 | x::l=>by
  have h1:=FX x;have h2:=FY l;simp only [Lr,List.flatMap_cons,List.length_append,CJ,List.map_cons,List.sum_cons] at h2 |-
  omega
theorem MW {l:List gD} {x:gD} (h:x∈l):2*x.f1.size+2<=CJ l:=by
 induction l with
 | nil=>cases h
 | cons y l ih =>
  simp only [CJ,List.map_cons,List.sum_cons] at ih |-
  rcases List.mem_cons.1 h with e | e
  ·subst e;omega
  ·have:=ih e;omega
def oL (l:List S.Tk):List S.Tk:=l.filter fun t=>!decide (t.kind=4)
def wL (l:List gD):Bool:=match l.getLast? with
 | none=>false
 | some t=>decide (t.f0=3)&&(t.f1.toList==[44])
theorem MX (l:List gD) (hl:l.length<=1000000):jU.f l=some (wL l):=by
 unfold jU.f wL;rcases List.eq_nil_or_concat l with rfl | ⟨a,t,rfl⟩
 ·rfl
 ·rw [List.concat_eq_append] at hl |-
  have hw:wrap64 (((a++[t]).length:Int) - 1)=(a.length:Int):=by
   simp only [List.length_append,List.length_cons,List.length_nil] at hl |-
   unfold wrap64;omega
  rw [hw,if_pos (by rw [List.length_append,List.length_singleton];omega),if_pos (by omega),if_pos (by rw [List.length_append,List.length_singleton];omega),List.getLast?_concat];have hr:aU (a++[t]) (a.length:Int)=t:=by
   unfold aU;rw [Int.toNat_natCast,List.getD_eq_getElem?_getD,List.getElem?_append_right (Nat.le_refl _)];simp
  rw [hr];by_cases e:t.f0=3
  ·rw [if_pos e];simp [e]
  ·rw [if_neg e];simp [e]
theorem JD {w:World} {A:Option Addr} {l:List gD} (k:Nat) (hk:k<=l.length) (h:Kd.C lD w A l.length l):Kd.C lD w A k (l.take k):=by
 obtain ⟨h1,h2,h3⟩:=h;refine ⟨by rw [List.length_take];omega,by omega,fun hne=>?_⟩;obtain ⟨ad,e,hj⟩:=h3 (by omega);exact ⟨ad,e,fun j p hp=>hj j p (by rw [List.getElem?_take] at hp;split at hp;exact hp;cases hp)⟩
def lC (l:List gD):Bool :=
 (S.scan (Lr l)).err.isSome||!(Gs uH ((oL (S.tokens (Lr l))).map toS) (if wL l=true/\(oL (S.tokens (Lr l))).length+1=l.length then l.take (l.length - 1) else l))
set_option maxRecDepth 100000 in
set_option maxHeartbeats 4000000 in
theorem zQ.calls (A0:Option Addr) (c0:Nat) (l0:List gD) (w:World) (hT:eU w) (hr0:Kd.C lD w A0 l0.length l0) (hc0:l0.length<=c0) (hsm:l0.length<=1000) (hsz:CJ l0<=20000) :
  Calls Tryz.prog 111 #[.slice A0 l0.length c0] w fun e w'=>e=.returned (.bool (lC l0))/\Below w.heap.size w w':=by
 have Ka:=Tryz.underlying53;have HT:=aj.mk hT;have mE:=aj.mk hr0;have HCM:=Lib.hid (fun W hW=>jU.calls A0 c0 l0 _ W hW hc0 (MX l0 (by omega)));clear hT hr0;obtain ⟨n,hn⟩:∃ n,l0.length=n:=⟨_,rfl⟩;have wN:=aj.mk hn;have hslt:=aj.mk hsz;rw [hn] at mE HCM hc0 hsm |-
 clear hn hsz;go_enter Tryz.func111,Tryz.ntmps111
 go_upto_region 2 with (fail)
 obtain ⟨W0,hW0⟩:∃ W0,w.alloc (.cells #[.pointer none,.slice none 0 0] 126)=W0:=⟨_,rfl⟩;have hB0:aj (wO w.heap.size w.heap.size [] W0):=⟨by rw [<- hW0];exact wO.new w⟩;have hb0:aj (Below w.heap.size w W0):=⟨by rw [<- hW0];exact ay (Below.refl _ _) _⟩;rw [hW0];clear hW0;generalize hH:w.heap.size=H at *;have HH:=aj.mk hH;clear hH;go_wp2;go_loopg [13] n (fun gg s13 wr=>∃ kk:Nat,kk<=n/\n - kk<=gg/\s13=.int .i64 kk/\aj (Below H w wr)/\aj (wO H H (Lr (l0.take kk)) wr))
 case atStart=>exact ⟨0,by omega,by omega,rfl,hb0,by rw [List.take_zero];exact hB0⟩
 case round =>
  obtain ⟨kk,hkk,hg,rfl,HB,SG⟩:=hrel;by_cases hlt:kk < n
  ·have hltz:(kk:Int) < (n:Int):=by omega
   have hz0:(0:Int)<=(kk:Int):=by omega
   have hw1:IntKind.i64.wrap ((kk:Int)+1)=((kk+1:Nat):Int):=by rw [vC _ (by omega) (by omega)];omega
   have zW:=aj.mk (RV (l:=l0) (k:=kk) (by rw [wN.out];exact hlt));have hl1:=Nat.le_trans (FY (l0.take kk)) (Je l0 kk);have hmem:aU l0 (kk:Int)∈l0:=by
    have:=oQ (l:=l0) (k:=kk) (by rw [wN.out];exact hlt);exact List.mem_of_mem_drop (by rw [this];exact List.mem_cons_self)
   have hxs:=MW hmem;obtain ⟨ad,rfl,x0,x1,x2,x3,x4,x5⟩:=eY (Kd.dO mE.out (by rw [HH.out];exact HB.out)) (kk:Int) hz0 hltz;simp only [Int.toNat_natCast] at x0 x1 x2 x3 x4 x5;have hsl:=hslt.out;generalize aU l0 (kk:Int)=tx at *;have HSP:=Lib.hid (fun W hW=>fT.calls tx.f0 tx.f1 tx.f2 tx.f3 tx.f4 tx.f5 _ W hW (FW tx (by omega)));have adQ:=FX tx;have MV:=aj.mk (fq _ (yA tx));have hst:(strOfNums (Aw tx)).size=(Aw tx).length:=by simp [strOfNums,ByteArray.size]
   clear hmem;go_upto_region 5 with (fail)
   have hn1:=heap_alloc_new wr (.cells #[.int .i64 tx.f0,.string tx.f1,.bool tx.f2,.int .i64 tx.f3,.int .i64 tx.f4,.int .i64 tx.f5] 53);have hB1:Below H w (wr.alloc (.cells #[.int .i64 tx.f0,.string tx.f1,.bool tx.f2,.int .i64 tx.f3,.int .i64 tx.f4,.int .i64 tx.f5] 53)):=HB.out.trans ((ay (Below.refl wr.heap.size wr) (.cells #[.int .i64 tx.f0,.string tx.f1,.bool tx.f2,.int .i64 tx.f3,.int .i64 tx.f4,.int .i64 tx.f5] 53)).mono (by have:=HB.out.size;have:=HH.out;omega));have VR:=aj.mk (SG.out.keep (ay (Below.refl _ wr) (.cells #[.int .i64 tx.f0,.string tx.f1,.bool tx.f2,.int .i64 tx.f3,.int .i64 tx.f4,.int .i64 tx.f5] 53)));obtain ⟨h1,RU⟩:∃ h1,wr.heap.size=h1:=⟨_,rfl⟩;rw [RU] at hn1 |-
   clear x0 x1 x2 x3 x4 x5 RU HB SG;generalize wr.alloc (.cells #[.int .i64 tx.f0,.string tx.f1,.bool tx.f2,.int .i64 tx.f3,.int .i64 tx.f4,.int .i64 tx.f5] 53)=W1 at *;have HB1:=aj.mk hB1;have a0:W1.cell? ⟨h1,0,none⟩=some (.int .i64 tx.f0):=(au hn1 0).trans rfl;have a1:W1.cell? ⟨h1,1,none⟩=some (.string tx.f1):=(au hn1 1).trans rfl;have a2:W1.cell? ⟨h1,2,none⟩=some (.bool tx.f2):=(au hn1 2).trans rfl;have a3:W1.cell? ⟨h1,3,none⟩=some (.int .i64 tx.f3):=(au hn1 3).trans rfl;have a4:W1.cell? ⟨h1,4,none⟩=some (.int .i64 tx.f4):=(au hn1 4).trans rfl;have a5:W1.cell? ⟨h1,5,none⟩=some (.int .i64 tx.f5):=(au hn1 5).trans rfl;have HTW:aj (eU W1):=⟨HT.out.of_below (by rw [HH.out];exact hB1)⟩;have HWS:aj (∀ w2,Below W1.heap.size W1 w2->Calls Tryz.prog 112 #[.pointer (some ⟨H,0,none⟩),.string (strOfNums (Aw tx))] w2 fun e w'=>∃ nn:Nat,e=.returned (.tuple #[.int .i64 nn,.nilIface])/\wO H H (Lr (l0.take (kk+1))) w'/\Below H w w'):=⟨fun w2 hb=>by
    have hs2:=hb.size;have hs1:=hB1.size;have hHe:=HH.out;refine (zV H H _ (strOfNums (Aw tx)) w2 (VR.out.keep hb) (by rw [hst];omega) (by omega)).mono ?_;rintro e w' ⟨rfl,hb1,hb2⟩
    rw [MV.out] at hb1;exact ⟨_,rfl,by rw [zW.out];exact hb1,hB1.trans ((hb.mono (by omega)).trans hb2)⟩⟩
   clear hn1 hB1 hst hsl hxs adQ hl1;go_wp2_with (first | (go_at_call 113;refine (HSP.out _ HTW.out).mono ?_;rintro e w2 ⟨rfl,hb2⟩) | (go_at_call 112;refine (HWS.out _ hb2).mono ?_;rintro e w3 ⟨nn,rfl,ajY,hb3⟩))
   go_roundg (n - (kk+1))
   case measure=>omega
   case rel=>exact ⟨kk+1,by omega,by omega,by go_num,⟨hb3⟩,⟨ajY⟩⟩
  have hltz:¬ (kk:Int) < (n:Int):=by omega
  have hkn:n=kk:=by omega
  subst hkn;have adR:aj (wO H H (Lr l0) wr):=⟨by have:=SG.out;rwa [List.take_of_length_le (by rw [wN.out];exact Nat.le_refl _)] at this⟩;clear SG;obtain ⟨src,hsrc⟩:∃ src,strOfNums (Lr l0)=src:=⟨_,rfl⟩;have hsb:bytesOf src=Lr l0:=by rw [<- hsrc];exact fq _ (Eh l0)
  have ajZ:src.size<=20000:=by
   have h1:(bytesOf src).length=src.size:=bytesOf_length src;have h2:=FY l0;have h3:=hslt.out;rw [hsb] at h1;omega
  have hstr:=wh H H (Lr l0) wr adR.out (Eh l0) (by have:=HB.out.size;have:=HH.out;omega);rw [hsrc] at hstr;have VT:=fun W hW=>rz.calls src W (by omega) hW
  obtain ⟨toks,yB⟩:∃ toks,S.tokens (bytesOf src)=toks:=⟨_,rfl⟩;obtain ⟨er,her⟩:∃ er,(S.scan (bytesOf src)).err=er:=⟨_,rfl⟩;rw [yB,her,EO] at VT;obtain ⟨ec,hec⟩:∃ ec,tN er=ec:=⟨_,rfl⟩;obtain ⟨el,hel⟩:∃ el,wB er=el:=⟨_,rfl⟩;rw [hec,hel] at VT;have HST:=Lib.hid hstr;have zW:=Lib.hid VT;have hMB:lC l0=(er.isSome||!(Gs uH ((oL toks).map toS) (if wL l0=true/\(oL toks).length+1=l0.length then l0.take (l0.length - 1) else l0))):=by
   unfold lC;rw [<- hsb,yB,her]
  have hEC:ec=0 <-> er=none:=by
   rw [<- hec];cases er with
   | none=>exact ⟨fun _=>rfl,fun _=>rfl⟩
   | some p =>
    have:=S.xH (c:=p.1) (ln:=p.2) her;constructor
    ·intro e
     exact absurd (Int.ofNat_eq_zero.1 e) this
    ·intro e;cases e
  have RX:aj (toks.length<=300000):=⟨by rw [<- yB];have h1:=S.rA (gK src);have h2:(bytesOf src).length=src.size:=bytesOf_length src;omega⟩;have Pb:=aj.mk hMB;have Lh:=aj.mk hEC;have HTW:aj (∀ w2,Below H wr w2->eU w2):=⟨fun w2 hb=>HT.out.of_below (by rw [HH.out];exact HB.out.trans hb)⟩;clear hMB hEC hsb ajZ hec hel yB her hsrc adR VT hstr;go_upto_region 9 with (first | (go_at_call 107;refine HST.out.mono ?_;rintro e w2 ⟨rfl,_,hb2⟩) | (go_at_call 51;refine (zW.out _ (HTW.out _ hb2)).mono ?_;rintro e w3 ⟨v,rfl,hown,hb3⟩))
  obtain ⟨A,N,cap,rfl,hN⟩:∃ A cn cap,v=.slice A cn cap/\toks.length=cn:=by
   rcases hown.2 with ⟨rfl,e2⟩ | ⟨g,cap,cs,rfl,_⟩
   ·exact ⟨_,_,_,rfl,e2⟩
   ·exact ⟨_,_,_,rfl,rfl⟩
  have oh:=heap_alloc_new w3 (.cells #[.int .i64 ec,.int .i64 el] 76);have hs4:=World.size_alloc w3 (.cells #[.int .i64 ec,.int .i64 el] 76);have ho4:=dn hown ((But.refl (fun _=>False) w3).alloc (.cells #[.int .i64 ec,.int .i64 el] 76)) (fun _ e=>e.elim);have hb4:Below H w (w3.alloc (.cells #[.int .i64 ec,.int .i64 el] 76)):=by
   have e1:=HB.out.size;have e2:=hb2.size;have e3:=hb3.size;have e4:=HH.out;exact HB.out.trans (hb2.trans ((hb3.mono (by omega)).trans ((ay (Below.refl w3.heap.size w3) _).mono (by omega))))
  obtain ⟨fb,yR⟩:∃ fb,w3.heap.size=fb:=⟨_,rfl⟩;rw [yR] at oh hs4 |-
  clear hown hb2 hb3 yR;generalize w3.alloc (.cells #[.int .i64 ec,.int .i64 el] 76)=W4 at *;obtain ⟨hxx,hNc,hC4⟩:=xG ho4;clear hxx;rw [List.length_map,hN] at hC4;have Ig:=aj.mk hC4;have Di:=aj.mk hb4;have HN4:=aj.mk oh;have LZ:=aj.mk hN;have hNs:N<=300000:=by have:=RX.out;omega
  clear ho4 hC4 hb4 oh hN HST zW HTW HB;have LX:=aj.mk hs4;clear hs4;go_wp2;go_loopg [8,28] N (fun gg s8 s28 wr=>∃ kk:Nat,kk<=N/\N - kk<=gg/\s28=.int .i64 kk/\aj (Below (fb+1) W4 wr)/\aj (wr.ownsRow (fb+1) 53 6 s8 (oL (toks.take kk)).length (dV (oL (toks.take kk)))))
  case atStart=>exact ⟨0,by omega,by omega,rfl,⟨Below.refl _ _⟩,⟨World.ownsRow_nil _ _ _ _⟩⟩
  case round =>
   obtain ⟨kk,hkk,hg,rfl,HBr,HOw⟩:=hrel;by_cases hlt:kk < N
   ·have hltz:(kk:Int) < (N:Int):=by omega
    have hz0:(0:Int)<=(kk:Int):=by omega
    have hw1:IntKind.i64.wrap ((kk:Int)+1)=((kk+1:Nat):Int):=by rw [vC _ (by omega) (by omega)];omega
    obtain ⟨tk,htk⟩:∃ tk,toks[kk]?=some tk:=⟨_,List.getElem?_eq_getElem (by rw [LZ.out];exact hlt)⟩;have hrd:aU (toks.map toS) (kk:Int)=toS tk:=by
     unfold aU;rw [Int.toNat_natCast,List.getD_eq_getElem?_getD,List.getElem?_map,htk];rfl
    have hnk:oL (toks.take (kk+1))=oL (toks.take kk)++(if tk.kind=4 then [] else [tk]):=by
     rw [List.take_add_one,htk];unfold oL;rw [List.filter_append];by_cases e:tk.kind=4
     ·rw [if_pos e];simp [e]
     ·rw [if_neg e];simp [e]
    have HNK:=aj.mk hnk;obtain ⟨ad,rfl,x0,x1,x2,x3,x4,x5⟩:=eY (Kd.dO Ig.out (by rw [LX.out];exact HBr.out)) (kk:Int) hz0 hltz;simp only [Int.toNat_natCast] at x0 x1 x2 x3 x4 x5;rw [hrd] at x0 x1 x2 x3 x4 x5;simp only [toS] at x0 x1 x2 x3 x4 x5;clear hrd htk hnk;go_upto_region 12 with (fail)
    have hn1:=heap_alloc_new wr (.cells #[.int .i64 tk.kind,.string (strOfNums tk.text),.bool tk.gap,.int .i64 tk.line,.int .i64 tk.at_,.int .i64 tk.to] 53);have hB1:Below (fb+1) W4 (wr.alloc (.cells #[.int .i64 tk.kind,.string (strOfNums tk.text),.bool tk.gap,.int .i64 tk.line,.int .i64 tk.at_,.int .i64 tk.to] 53)):=HBr.out.trans ((ay (Below.refl wr.heap.size wr) (.cells #[.int .i64 tk.kind,.string (strOfNums tk.text),.bool tk.gap,.int .i64 tk.line,.int .i64 tk.at_,.int .i64 tk.to] 53)).mono (by have:=HBr.out.size;have:=LX.out;omega));have hO1:=dn HOw.out ((But.refl (fun _=>False) wr).alloc (.cells #[.int .i64 tk.kind,.string (strOfNums tk.text),.bool tk.gap,.int .i64 tk.line,.int .i64 tk.at_,.int .i64 tk.to] 53)) (fun _ e=>e.elim);obtain ⟨h1,RU⟩:∃ h1,wr.heap.size=h1:=⟨_,rfl⟩;rw [RU] at hn1 |-
    clear x0 x1 x2 x3 x4 x5 RU HBr HOw;generalize wr.alloc (.cells #[.int .i64 tk.kind,.string (strOfNums tk.text),.bool tk.gap,.int .i64 tk.line,.int .i64 tk.at_,.int .i64 tk.to] 53)=W1 at *;have HB1:=aj.mk hB1;have QK:=aj.mk hO1;have a0:W1.cell? ⟨h1,0,none⟩=some (.int .i64 tk.kind):=(au hn1 0).trans rfl;have a1:W1.cell? ⟨h1,1,none⟩=some (.string (strOfNums tk.text)):=(au hn1 1).trans rfl;have a2:W1.cell? ⟨h1,2,none⟩=some (.bool tk.gap):=(au hn1 2).trans rfl;have a3:W1.cell? ⟨h1,3,none⟩=some (.int .i64 tk.line):=(au hn1 3).trans rfl;have a4:W1.cell? ⟨h1,4,none⟩=some (.int .i64 tk.at_):=(au hn1 4).trans rfl;have a5:W1.cell? ⟨h1,5,none⟩=some (.int .i64 tk.to):=(au hn1 5).trans rfl;clear hn1 hB1 hO1;by_cases hk4:tk.kind=4
    ·have g1:((tk.kind:Int) != 4)=false:=bne_eq_false_iff_eq.2 (by omega)
     have VU:aj (oL (toks.take (kk+1))=oL (toks.take kk)):=⟨by rw [HNK.out,if_pos hk4,List.append_nil]⟩;go_wp2_with fail
     go_roundg (N - (kk+1))
     case measure=>omega
     case rel=>exact ⟨kk+1,by omega,by omega,by go_num,HB1,by rw [VU.out];exact QK⟩
    have g1:((tk.kind:Int) != 4)=true:=bne_iff_ne.2 (by omega);have VU:aj (oL (toks.take (kk+1))=oL (toks.take kk)++[tk]):=⟨by rw [HNK.out,if_neg hk4]⟩;have hol:(oL (toks.take kk)).length<=kk:=Nat.le_trans (List.length_filter_le _ _) (by rw [List.length_take];omega);obtain ⟨own,hown⟩:∃ own,oL (toks.take kk)=own:=⟨_,rfl⟩;rw [hown] at QK VU hol;clear hown HNK;obtain ⟨on,hon⟩:∃ on,own.length=on:=⟨_,rfl⟩;rw [hon] at QK hol;have HON:=aj.mk hon;clear hon;obtain ⟨i0,hi0,hz0',hz1,hz2⟩:=info_parts (show (Tryz.prog.info? 53).map (fun i=>(i.zero,i.size,i.bytes))=some (some (.agg DK),6,56) by kernel_rfl);have hXO:=dn QK.out ((But.refl (fun _=>False) W1).alloc (.cells #[.int .i64 tk.kind,.string (strOfNums tk.text),.bool tk.gap,.int .i64 tk.line,.int .i64 tk.at_,.int .i64 tk.to] 53)) (fun _ e=>e.elim);have hXN:=heap_alloc_new W1 (.cells #[.int .i64 tk.kind,.string (strOfNums tk.text),.bool tk.gap,.int .i64 tk.line,.int .i64 tk.at_,.int .i64 tk.to] 53);have Tx:=World.size_alloc W1 (.cells #[.int .i64 tk.kind,.string (strOfNums tk.text),.bool tk.gap,.int .i64 tk.line,.int .i64 tk.at_,.int .i64 tk.to] 53);have HXO:=aj.mk hXO;have TP:=aj.mk hXN;have hfs:fb+1<=W1.heap.size:=by have:=HB1.out.size;have:=LX.out;omega
    clear hXO hXN;go_wp2_with (at_builtin;refine wpList_append_own_at _ rfl (.tmp 35) (.tmp 37) 24 rfl (fb+1) 53 i0 (.agg DK) 6 56 Tryz.underlying24 hi0 hz0' hz1 hz2 rfl (by decide) _ on (dV own) rfl HXO.out ⟨W1.heap.size,0,none⟩ 1 1 (Dj tk) rfl rfl (fun j u hu=>by rw [add_plain,au TP.out j];simpa [Dj] using hu) (uV _) (by unfold maxLen;omega) (by omega) (by rw [Tx];omega) ?_;intro v' w1 hown' hgrow _ hat;have EM:=aj.mk hown';have LW:=aj.mk hgrow;have HAT:=aj.mk hat;clear hown' hgrow hat)
    have hbw:Below (fb+1) W4 w1:=HB1.out.trans ((((But.refl (fun k=>fb+1<=k) W1).alloc (.cells #[.int .i64 tk.kind,.string (strOfNums tk.text),.bool tk.gap,.int .i64 tk.line,.int .i64 tk.at_,.int .i64 tk.to] 53)).grown LW.out (fun k e=>(QK.out.lt k e).1)).ku hfs (fun k hk e=>by omega));have HBW:=aj.mk hbw;clear hbw LW HAT HXO TP Tx;go_roundg (N - (kk+1))
    case measure=>omega
    case rel=>exact ⟨kk+1,by omega,by omega,by go_num,HBW,⟨by rw [VU.out,List.length_append,List.length_singleton,HON.out];have:=EM.out;simpa [dV] using this⟩⟩
   have hltz:¬ (kk:Int) < (N:Int):=by omega
   have hkn:N=kk:=by omega
   subst hkn;rw [<- LZ.out,List.take_length] at HOw;obtain ⟨own,hown⟩:∃ own,oL toks=own:=⟨_,rfl⟩;rw [hown] at HOw Pb;have hol:own.length<=N:=by rw [<- LZ.out];rw [<- hown];exact List.length_filter_le _ _
   clear hown;obtain ⟨A2,c2,rfl⟩:∃ A2 c2,u8=.slice A2 own.length c2:=by
    rcases HOw.out.2 with ⟨e1,e2⟩ | ⟨g,cap,cs,e1,_⟩
    ·exact ⟨none,0,by rw [e1,e2]⟩
    ·exact ⟨_,_,e1⟩
   obtain ⟨hxx,hc2,hC2⟩:=xG HOw.out;clear hxx;have tL:=aj.mk hC2;have hmw:aj (Below H w wr):=⟨Di.out.trans (HBr.out.mono (by have:=Di.out.size;have:=LX.out;have:=HH.out;omega))⟩;have hf0:wr.cell? ⟨fb,0,none⟩=some (.int .i64 ec):=(au ((HBr.out.block fb (by omega)).trans HN4.out) 0).trans rfl;have HR1:aj (Kd.C lD wr A0 l0.length l0):=⟨Kd.dO (by rw [wN.out];exact mE.out) (by rw [HH.out];exact hmw.out)⟩;have Fj:=HR1.out;rw [wN.out] at Fj;have Jf:=aj.mk Fj;clear Fj;clear HBr Di HOw HN4 mE;obtain ⟨on,hon⟩:∃ on,own.length=on:=⟨_,rfl⟩;obtain ⟨cb,hcb⟩:∃ cb,wL l0=cb:=⟨_,rfl⟩;rw [hcb] at HCM Pb;have HON:=aj.mk hon;have hn1:cb=true->1<=n:=fun e=>by
    rcases Nat.eq_zero_or_pos n with h | h
    ·exfalso
     rw [List.length_eq_zero_iff.1 (wN.out.trans h)] at hcb;rw [<- hcb] at e;cases e
    ·exact h
   rw [wN.out,hon] at Pb;rw [hon] at hol hc2 |-
   rw [List.length_map,hon] at tL;have adT:((own.map toS)).length<=1000000:=by rw [List.length_map,hon];omega
   clear hon hcb;have HEQ:∀ (W:World) (n2 c2':Nat) (m:List gD),Below wr.heap.size wr W->m.length=n2->n2<=c2'->Kd.C lD wr A0 n2 m->Calls Tryz.prog 74 #[.slice A2 on c2,.slice A0 n2 c2',.func (.func 76) #[] #[]] W fun e w'=>e=.returned (.bool (Gs uH (own.map toS) m))/\Below W.heap.size W w':=fun W n2 c2' m hb hm hc hC=>by
    have h1:=eqf.calls A2 c2 (own.map toS) A0 c2' m 76 uH W Jb CG (by rw [List.length_map,HON.out];exact Kd.dO tL.out hb) (by rw [List.length_map,HON.out];exact hc2) (by rw [hm];exact Kd.dO hC hb) (by rw [hm];exact hc) adT;rw [List.length_map,HON.out,hm] at h1;exact h1
   have HEQ:=Lib.hid HEQ;clear adT;by_cases hcut:cb=true/\on+1=n
   ·rw [if_pos hcut] at Pb
    obtain ⟨rfl,rfl⟩:=hcut;rw [show on+1 - 1=on by omega] at Pb;have hC3:=JD on (by rw [wN.out];omega) (l:=l0) (w:=wr) (A:=A0) (by rw [wN.out];exact Jf.out);have hln:(l0.take on).length=on:=by rw [List.length_take,wN.out];omega
    have VW:=Lib.hid (fun W hb=>HEQ.out W on on (l0.take on) hb hln (Nat.le_refl _) hC3);have hw2:IntKind.i64.wrap (((on+1:Nat):Int) - 1)=(on:Int):=by rw [vC _ (by omega) (by omega)];omega
    have hw3:(((on+1:Nat):Int) - 1)=(on:Int):=by omega
    have g2:((on:Int)==(on:Int))=true:=beq_self_eq_true _;have g3:(on==on)=true:=beq_self_eq_true _;have amv:on<=on+1:=by omega
    have amw:on<=c0:=by omega
    clear hn1 hC3 hln HEQ;by_cases he0:ec=0
    ·have hm:lC l0=!(Gs uH (own.map toS) (l0.take on)):=by rw [Pb.out,(Lh.out.1 he0)];rfl
     have HM:=aj.mk hm;have g1:(ec != 0)=false:=bne_eq_false_iff_eq.2 he0;clear hm he0;go_wp2_with (first | (go_at_call 92;refine (HCM.out _ Jf.out).mono ?_;rintro e w' ⟨rfl,⟨⟨q,rfl⟩⟩⟩) | (go_at_call 74;refine (VW.out _ (ak (Below.refl _ _) _)).mono ?_;rintro e w5 ⟨rfl,hb5⟩))
     refine bodyPost_ret (results_tmp rfl _ _ _) rfl ?_;exact ⟨by rw [HM.out];rfl,by rw [HH.out];exact (ak hmw.out q).trans (hb5.mono (by have:=hmw.out.size;have:=HH.out;show H<=wr.heap.size;omega))⟩
    have hi:er.isSome=true:=by
     cases er with
     | none=>exact absurd (Lh.out.2 rfl) he0
     | some _=>rfl
    have HM:aj (lC l0=true):=⟨by rw [Pb.out,hi];rfl⟩;have g1:(ec != 0)=true:=bne_iff_ne.2 he0;clear hi he0;go_wp2_with (go_at_call 92;refine (HCM.out _ Jf.out).mono ?_;rintro e w' ⟨rfl,⟨⟨q,rfl⟩⟩⟩)
    refine bodyPost_ret (results_tmp rfl _ _ _) rfl ?_;exact ⟨by rw [HM.out];rfl,by rw [HH.out];exact ak hmw.out q⟩
   rw [if_neg hcut] at Pb;have VW:=Lib.hid (fun W hb=>HEQ.out W n c0 l0 hb wN.out hc0 Jf.out);clear HEQ;cases cb with
   | false =>
    clear hcut hn1;by_cases he0:ec=0
    ·have hm:lC l0=!(Gs uH (own.map toS) l0):=by rw [Pb.out,(Lh.out.1 he0)];rfl
     have HM:=aj.mk hm;have g1:(ec != 0)=false:=bne_eq_false_iff_eq.2 he0;clear hm he0;go_wp2_with (first | (go_at_call 92;refine (HCM.out _ Jf.out).mono ?_;rintro e w' ⟨rfl,⟨⟨q,rfl⟩⟩⟩) | (go_at_call 74;refine (VW.out _ (ak (Below.refl _ _) _)).mono ?_;rintro e w5 ⟨rfl,hb5⟩))
     refine bodyPost_ret (results_tmp rfl _ _ _) rfl ?_;exact ⟨by rw [HM.out];rfl,by rw [HH.out];exact (ak hmw.out q).trans (hb5.mono (by have:=hmw.out.size;have:=HH.out;show H<=wr.heap.size;omega))⟩
    have hi:er.isSome=true:=by
     cases er with
     | none=>exact absurd (Lh.out.2 rfl) he0
     | some _=>rfl
    have HM:aj (lC l0=true):=⟨by rw [Pb.out,hi];rfl⟩;have g1:(ec != 0)=true:=bne_iff_ne.2 he0;clear hi he0;go_wp2_with (go_at_call 92;refine (HCM.out _ Jf.out).mono ?_;rintro e w' ⟨rfl,⟨⟨q,rfl⟩⟩⟩)
    refine bodyPost_ret (results_tmp rfl _ _ _) rfl ?_;exact ⟨by rw [HM.out];rfl,by rw [HH.out];exact ak hmw.out q⟩
   | true =>
    have hn2:=hn1 rfl;have hne:on+1≠n:=fun e=>hcut ⟨rfl,e⟩
    have hw2:IntKind.i64.wrap ((n:Int) - 1)=((n - 1:Nat):Int):=by rw [vC _ (by omega) (by omega)];omega
    have hw3:((n:Int) - 1)=((n - 1:Nat):Int):=by omega
    have g2:((on:Int)==((n - 1:Nat):Int))=false:=beq_eq_false_iff_ne.2 (by omega);have g3:(on==n - 1)=false:=beq_eq_false_iff_ne.2 (by omega);clear hcut hn1 hne hn2;by_cases he0:ec=0
    ·have hm:lC l0=!(Gs uH (own.map toS) l0):=by rw [Pb.out,(Lh.out.1 he0)];rfl
     have HM:=aj.mk hm;have g1:(ec != 0)=false:=bne_eq_false_iff_eq.2 he0;clear hm he0;go_wp2_with (first | (go_at_call 92;refine (HCM.out _ Jf.out).mono ?_;rintro e w' ⟨rfl,⟨⟨q,rfl⟩⟩⟩) | (go_at_call 74;refine (VW.out _ (ak (Below.refl _ _) _)).mono ?_;rintro e w5 ⟨rfl,hb5⟩))
     refine bodyPost_ret (results_tmp rfl _ _ _) rfl ?_;exact ⟨by rw [HM.out];rfl,by rw [HH.out];exact (ak hmw.out q).trans (hb5.mono (by have:=hmw.out.size;have:=HH.out;show H<=wr.heap.size;omega))⟩
    have hi:er.isSome=true:=by
     cases er with
     | none=>exact absurd (Lh.out.2 rfl) he0
     | some _=>rfl
    have HM:aj (lC l0=true):=⟨by rw [Pb.out,hi];rfl⟩;have g1:(ec != 0)=true:=bne_iff_ne.2 he0;clear hi he0;go_wp2_with (go_at_call 92;refine (HCM.out _ Jf.out).mono ?_;rintro e w' ⟨rfl,⟨⟨q,rfl⟩⟩⟩)
    refine bodyPost_ret (results_tmp rfl _ _ _) rfl ?_;exact ⟨by rw [HM.out];rfl,by rw [HH.out];exact ak hmw.out q⟩
end Go.Proofs.YtkkpjonfaflkmaaGreatDoor.T
