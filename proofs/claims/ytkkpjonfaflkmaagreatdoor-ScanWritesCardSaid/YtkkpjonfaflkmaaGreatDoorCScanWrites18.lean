/- A part of the proof of ScanWrites. -/
import Derived.Test.YtkkpjonfaflkmaaGreatDoorCScanWrites17
set_option linter.all false
namespace Go.Proofs.YtkkpjonfaflkmaaGreatDoor.T
open Go.RowKit Go.Proofs.aj.aI Go.Proofs.aj.aY Go.Proofs.aj.bq
attribute [local go_sem] eY eZ gH gI dV dW fq fu
mutual
def aD.j1:Nat->ByteArray->Int->Int->Int->Option (Int × ByteArray × Int × Int × Int)
 | 0,_,_,_,_=>none
 | k+1,x0,x1,x2,x8=>aD.l1 k x0 x8 x2 x1
def aD.l1:Nat->ByteArray->Int->Int->Int->Option (Int × ByteArray × Int × Int × Int)
 | 0,_,_,_,_=>none
 | k+1,x0,x8,x9,x10=>if x10 < x8 then (if 0<=x10 then (if x10 < (x0.size:Int) then (if (bt x0 x10)=10 then (aD.l1 k x0 x8 (wrap64 (x9+1)) (wrap64 (x10+1))) else (if (bt x0 x10) < 32 then (some (0,(⟨#[]⟩:ByteArray),0,13,x9)) else (if (bt x0 x10) > 126 then (some (0,(⟨#[]⟩:ByteArray),0,13,x9)) else (aD.l1 k x0 x8 x9 (wrap64 (x10+1)))))) else (none)) else (none)) else (some (0,(⟨#[]⟩:ByteArray),x8,0,0))
def aD.l0:Nat->ByteArray->Int->Int->Int->Int->Option (Int × ByteArray × Int × Int × Int)
 | 0,_,_,_,_,_=>none
 | k+1,x0,x1,x2,x7,x8=>if x8>=(x0.size:Int) then (some (0,(⟨#[]⟩:ByteArray),0,6,x2)) else ((bC.f x0 x8 (⟨#[47,42]⟩:ByteArray)).bind fun Yg=>(if Yg=true then (if (wrap64 (x7+1))=0 then (aD.j1 k x0 x1 x2 (wrap64 (x8+2))) else (aD.l0 k x0 x1 x2 (wrap64 (x7+1)) (wrap64 (x8+2)))) else ((bC.f x0 x8 (⟨#[42,47]⟩:ByteArray)).bind fun t156=>(if t156=true then (if (wrap64 (x7 - 1))=0 then (aD.j1 k x0 x1 x2 (wrap64 (x8+2))) else (aD.l0 k x0 x1 x2 (wrap64 (x7 - 1)) (wrap64 (x8+2)))) else (if x7=0 then (aD.j1 k x0 x1 x2 (wrap64 (x8+1))) else (aD.l0 k x0 x1 x2 x7 (wrap64 (x8+1))))))))
end
def aD.f (k:Nat) (a0:ByteArray) (a1:Int) (a2:Int):Option (Int × ByteArray × Int × Int × Int):=aD.l0 k a0 a1 a2 0 a1
set_option maxHeartbeats 8000000 in
set_option maxRecDepth 100000 in
theorem aD.calls (k:Nat) (a0:ByteArray) (a1:Int) (a2:Int) (r1:Int) (r2:ByteArray) (r3:Int) (r4:Int) (r5:Int) (w:World) (h:aD.f k a0 a1 a2=some (r1,r2,r3,r4,r5)) :
  Calls Tryz.prog 83 #[.string a0,.int .i64 a1,.int .i64 a2] w fun e w'=>e=.returned (.agg #[.int .i64 r1,.string r2,.int .i64 r3,.int .i64 r4,.int .i64 r5])/\Below w.heap.size w w':=by
 have aeO:=Tryz.underlying82;have HB:=ah.mk (Below.refl w.heap.size w);have H:(aD.l0 k a0 a1 a2 0 a1)=some (r1,r2,r3,r4,r5):=h;clear h;have Jp:=ah.mk H;clear H;go_enter Tryz.func83,Tryz.ntmps83
 go_upto_block 0 with (first | ((with_reducible refine fO (N:=6) rfl ?_);refine fG ?hg (N:=6) ?hd (cs:=#[.int .i64 0,.string (⟨#[]⟩:ByteArray),.int .i64 0,.int .i64 0,.int .i64 0]) (t:=82) ?hr ?_;(case hd=>rfl);(case hg=>rfl);(case hr=>first | (go_simp;done) | (go_simp;rfl));intro iP hg w5 iE hb;have bY:=ah.mk (aX (by with_reducible repeat (first | exact HB.out | apply av | apply ak | apply ay)) hb);have dO:=ah.mk (iE);have jA:=ah.mk ((by rw [hg];exact (bG (by with_reducible repeat (first | exact HB.out | apply av | apply ak | apply ay))):w.heap.size<=iP));have mW:=ah.mk ((by rw [hg];exact (bG (by with_reducible repeat (first | exact HB.out | apply av | apply ak | apply ay))):w.heap.size<=iP));clear HB;have HB:=bY;have dI:=dO;have akn:=jA;have pW:=mW;clear bY dO jA mW;clear hb iE hg))
 (try simp only [Act.put,sArr,sZer,sSuc])
 go_cut [8] (fun v8 wc=>∃ (kq:Nat) (Di:Int) (yQ:Int) (yR:ByteArray) (yS:Int) (yT:Int) (yU:Int),v8=.int .i64 Di/\ah (aD.j1 kq a0 a1 a2 Di=some (r1,r2,r3,r4,r5))/\ah (kq<=k)/\ah (wc.heap[iP]?=some (.cells #[.int .i64 yQ,.string yR,.int .i64 yS,.int .i64 yT,.int .i64 yU] 82 (0,0)))/\ah (Below w.heap.size w wc))
 case first =>
  have H:=Jp.out;clear Jp;have H':=ah.mk H;clear H;go_wp2;go_loopg [7,8] k (fun kq v7 v8 w'=>∃ (lu:Int) (gq:Int) (jF:Int) (jg:ByteArray) (iL:Int) (iB:Int) (gM:Int),v7=.int .i64 lu/\v8=.int .i64 gq/\ah (aD.l0 kq a0 a1 a2 lu gq=some (r1,r2,r3,r4,r5))/\ah (kq<=k)/\ah (w'.heap[iP]?=some (.cells #[.int .i64 jF,.string jg,.int .i64 iL,.int .i64 iB,.int .i64 gM] 82 (0,0)))/\ah (Below w.heap.size w w'))
  case atStart=>exact ⟨(0),(a1),(0),((⟨#[]⟩:ByteArray)),(0),(0),(0),(by first | rfl | (simp;done) | (simp [*];done)),(by first | rfl | (simp;done) | (simp [*];done)),H',⟨Nat.le_refl _⟩,⟨by (with_reducible repeat (first | refine aH ?_ _ | refine aU ?_ | refine aN ?_ _));exact dI.out⟩,⟨by with_reducible repeat (first | exact HB.out | apply av | apply ak | apply ay | refine bf ?_ pW.out)⟩⟩
  case round =>
   clear H';obtain ⟨lu,gq,jF,jg,iL,iB,gM,rfl,rfl,HA,jY,dI,HB⟩:=hrel;cases gk with
   | zero=>exact absurd HA.out (by simp [aD.l0])
   | succ k1 =>
    have H:=HA.out;clear HA;simp only [aD.l0] at H;by_cases c6:gq>=(a0.size:Int)
    ·rw [if_pos c6] at H
     have lJ:decide ((a0.size:Int)<=gq)=true:=decide_eq_true c6;clear c6
     (first | rw [lJ] | (simp only [dK,fM];rw [lJ]) | skip)
     simp only [Option.some.injEq,Prod.mk.injEq] at H;obtain ⟨rfl,rfl,rfl,rfl,rfl⟩:=H;have Sj:wr.cell? ⟨iP,0,none⟩=some (.int .i64 jF):=(au dI.out 0).trans rfl;have Sk:wr.cell? ⟨iP,1,none⟩=some (.string jg):=(au dI.out 1).trans rfl;have Sl:wr.cell? ⟨iP,2,none⟩=some (.int .i64 iL):=(au dI.out 2).trans rfl;have Sm:wr.cell? ⟨iP,3,none⟩=some (.int .i64 iB):=(au dI.out 3).trans rfl;have abq:wr.cell? ⟨iP,4,none⟩=some (.int .i64 gM):=(au dI.out 4).trans rfl;have Sn:=aA dI.out 0;have Sq:=aA dI.out 1;have Sr:=aA dI.out 2;have Sv:=aA dI.out 3;have abr:=aA dI.out 4;go_wp2;refine bodyPost_ret (results_cell_row rfl _ _ iP 82 #[.int .i64 0,.string (⟨#[]⟩:ByteArray),.int .i64 0,.int .i64 6,.int .i64 a2] (0,0) _ rfl (by (with_reducible repeat (first | refine aH ?_ _ | refine aU ?_ | refine aN ?_ _));refine aW (cs:=#[.int .i64 0,.string (⟨#[]⟩:ByteArray),.int .i64 0,.int .i64 6,.int .i64 gM]) ?_ 4 _ rfl;(with_reducible repeat (first | refine aH ?_ _ | refine aU ?_ | refine aN ?_ _));refine aW (cs:=#[.int .i64 0,.string (⟨#[]⟩:ByteArray),.int .i64 0,.int .i64 iB,.int .i64 gM]) ?_ 3 _ rfl;(with_reducible repeat (first | refine aH ?_ _ | refine aU ?_ | refine aN ?_ _));refine aW (cs:=#[.int .i64 0,.string (⟨#[]⟩:ByteArray),.int .i64 iL,.int .i64 iB,.int .i64 gM]) ?_ 2 _ rfl;(with_reducible repeat (first | refine aH ?_ _ | refine aU ?_ | refine aN ?_ _));refine aW (cs:=#[.int .i64 0,.string jg,.int .i64 iL,.int .i64 iB,.int .i64 gM]) ?_ 1 _ rfl;(with_reducible repeat (first | refine aH ?_ _ | refine aU ?_ | refine aN ?_ _));refine aW (cs:=#[.int .i64 jF,.string jg,.int .i64 iL,.int .i64 iB,.int .i64 gM]) ?_ 0 _ rfl;(with_reducible repeat (first | refine aH ?_ _ | refine aU ?_ | refine aN ?_ _));exact dI.out) Tryz.underlying82 rfl (by kernel_rfl)) rfl ?_;exact ⟨by first | rfl | (simp [aJ,aK]<;>rfl) | (simp [*,aJ,aK]<;>rfl),by with_reducible repeat (first | exact HB.out | apply av | apply ak | apply ay | refine bf ?_ pW.out)⟩
    rw [if_neg c6] at H;have lJ:decide ((a0.size:Int)<=gq)=false:=decide_eq_false c6;clear c6
    (first | rw [lJ] | (simp only [dK,fM];rw [lJ]) | skip)
    replace H:=Option.bind_eq_some_iff.mp H;obtain ⟨Yg,RG,H⟩:=H;replace H:(if Yg=true then (if (wrap64 (lu+1))=0 then (aD.j1 k1 a0 a1 a2 (wrap64 (gq+2))) else (aD.l0 k1 a0 a1 a2 (wrap64 (lu+1)) (wrap64 (gq+2)))) else ((bC.f a0 gq (⟨#[42,47]⟩:ByteArray)).bind fun t156=>(if t156=true then (if (wrap64 (lu - 1))=0 then (aD.j1 k1 a0 a1 a2 (wrap64 (gq+2))) else (aD.l0 k1 a0 a1 a2 (wrap64 (lu - 1)) (wrap64 (gq+2)))) else (if lu=0 then (aD.j1 k1 a0 a1 a2 (wrap64 (gq+1))) else (aD.l0 k1 a0 a1 a2 lu (wrap64 (gq+1)))))))=some (r1,r2,r3,r4,r5):=H;have A8:=ah.mk RG;clear RG;by_cases c9:Yg=true
    ·subst c9
     rw [if_pos rfl] at H;by_cases c10:(wrap64 (lu+1))=0
     ·rw [if_pos c10] at H
      have sN:((wrap64 (lu+1))==0)=true:=beq_iff_eq.mpr c10;have Jb:((wrap64 (lu+1)) != 0)=false:=bne_eq_false_iff_eq.mpr c10;clear c10;have H':=ah.mk H;clear H;go_wp2_with (first | ((with_reducible refine aQ (f:=80) rfl ?_);refine bL (some 24) rfl rfl Tryz.func80 (by kernel_rfl) rfl #[.string a0,.int .i64 gq,.string (⟨#[47,42]⟩:ByteArray)] rfl (by (try simp only [List.map_toArray,List.map_cons,List.map_nil]);first | done | rfl) ?_;(with_reducible refine (bC.calls a0 gq (⟨#[47,42]⟩:ByteArray) true _ A8.out).mono ?_);rintro e w' ⟨rfl,⟨nd,rfl⟩⟩;refine ⟨_,rfl,?_⟩))
      go_meet
      case rel=>exact ⟨_,(wrap64 (gq+2)),(jF),(jg),(iL),(iB),(gM),(by first | rfl | (simp;done) | (simp [*];done)),H',⟨by have:=jY.out;first | omega | exact Nat.le_refl _⟩,⟨by (with_reducible repeat (first | refine aH ?_ _ | refine aU ?_ | refine aN ?_ _));exact dI.out⟩,⟨by with_reducible repeat (first | exact HB.out | apply av | apply ak | apply ay | refine bf ?_ pW.out)⟩⟩
     rw [if_neg c10] at H;have sN:((wrap64 (lu+1))==0)=false:=beq_eq_false_iff_ne.mpr c10;have Jb:((wrap64 (lu+1)) != 0)=true:=bne_iff_ne.mpr c10;have H':=ah.mk H;clear H;go_wp2_with (first | ((with_reducible refine aQ (f:=80) rfl ?_);refine bL (some 24) rfl rfl Tryz.func80 (by kernel_rfl) rfl #[.string a0,.int .i64 gq,.string (⟨#[47,42]⟩:ByteArray)] rfl (by (try simp only [List.map_toArray,List.map_cons,List.map_nil]);first | done | rfl) ?_;(with_reducible refine (bC.calls a0 gq (⟨#[47,42]⟩:ByteArray) true _ A8.out).mono ?_);rintro e w' ⟨rfl,⟨nd,rfl⟩⟩;refine ⟨_,rfl,?_⟩))
     go_roundg k1
     case measure=>have:=jY.out;omega
     case rel=>exact ⟨(wrap64 (lu+1)),(wrap64 (gq+2)),(jF),(jg),(iL),(iB),(gM),(by first | rfl | (simp;done) | (simp [*];done)),(by first | rfl | (simp;done) | (simp [*];done)),H',⟨by have:=jY.out;omega⟩,⟨by (with_reducible repeat (first | refine aH ?_ _ | refine aU ?_ | refine aN ?_ _));exact dI.out⟩,⟨by with_reducible repeat (first | exact HB.out | apply av | apply ak | apply ay | refine bf ?_ pW.out)⟩⟩
    replace c9:=Bool.eq_false_iff.mpr c9;subst c9;rw [if_neg (show ¬ (false=true) by decide)] at H;replace H:=Option.bind_eq_some_iff.mp H;obtain ⟨t156,wL,H⟩:=H;replace H:(if t156=true then (if (wrap64 (lu - 1))=0 then (aD.j1 k1 a0 a1 a2 (wrap64 (gq+2))) else (aD.l0 k1 a0 a1 a2 (wrap64 (lu - 1)) (wrap64 (gq+2)))) else (if lu=0 then (aD.j1 k1 a0 a1 a2 (wrap64 (gq+1))) else (aD.l0 k1 a0 a1 a2 lu (wrap64 (gq+1)))))=some (r1,r2,r3,r4,r5):=H;have Pv:=ah.mk wL;clear wL;by_cases c12:t156=true
    ·subst c12
     rw [if_pos rfl] at H;by_cases c13:(wrap64 (lu - 1))=0
     ·rw [if_pos c13] at H
      have wR:((wrap64 (lu - 1))==0)=true:=beq_iff_eq.mpr c13;have aeW:((wrap64 (lu - 1)) != 0)=false:=bne_eq_false_iff_eq.mpr c13;clear c13;have H':=ah.mk H;clear H;go_wp2_with (first | ((with_reducible refine aQ (f:=80) rfl ?_);refine bL (some 24) rfl rfl Tryz.func80 (by kernel_rfl) rfl #[.string a0,.int .i64 gq,.string (⟨#[47,42]⟩:ByteArray)] rfl (by (try simp only [List.map_toArray,List.map_cons,List.map_nil]);first | done | rfl) ?_;(with_reducible refine (bC.calls a0 gq (⟨#[47,42]⟩:ByteArray) false _ A8.out).mono ?_);rintro e w' ⟨rfl,⟨nd,rfl⟩⟩;refine ⟨_,rfl,?_⟩) | ((with_reducible refine aQ (f:=80) rfl ?_);refine bL (some 32) rfl rfl Tryz.func80 (by kernel_rfl) rfl #[.string a0,.int .i64 gq,.string (⟨#[42,47]⟩:ByteArray)] rfl (by (try simp only [List.map_toArray,List.map_cons,List.map_nil]);first | done | rfl) ?_;(with_reducible refine (bC.calls a0 gq (⟨#[42,47]⟩:ByteArray) true _ Pv.out).mono ?_);rintro e w' ⟨rfl,⟨nd,rfl⟩⟩;refine ⟨_,rfl,?_⟩))
      go_meet
      case rel=>exact ⟨_,(wrap64 (gq+2)),(jF),(jg),(iL),(iB),(gM),(by first | rfl | (simp;done) | (simp [*];done)),H',⟨by have:=jY.out;first | omega | exact Nat.le_refl _⟩,⟨by (with_reducible repeat (first | refine aH ?_ _ | refine aU ?_ | refine aN ?_ _));exact dI.out⟩,⟨by with_reducible repeat (first | exact HB.out | apply av | apply ak | apply ay | refine bf ?_ pW.out)⟩⟩
     rw [if_neg c13] at H;have wR:((wrap64 (lu - 1))==0)=false:=beq_eq_false_iff_ne.mpr c13;have aeW:((wrap64 (lu - 1)) != 0)=true:=bne_iff_ne.mpr c13;have H':=ah.mk H;clear H;go_wp2_with (first | ((with_reducible refine aQ (f:=80) rfl ?_);refine bL (some 24) rfl rfl Tryz.func80 (by kernel_rfl) rfl #[.string a0,.int .i64 gq,.string (⟨#[47,42]⟩:ByteArray)] rfl (by (try simp only [List.map_toArray,List.map_cons,List.map_nil]);first | done | rfl) ?_;(with_reducible refine (bC.calls a0 gq (⟨#[47,42]⟩:ByteArray) false _ A8.out).mono ?_);rintro e w' ⟨rfl,⟨nd,rfl⟩⟩;refine ⟨_,rfl,?_⟩) | ((with_reducible refine aQ (f:=80) rfl ?_);refine bL (some 32) rfl rfl Tryz.func80 (by kernel_rfl) rfl #[.string a0,.int .i64 gq,.string (⟨#[42,47]⟩:ByteArray)] rfl (by (try simp only [List.map_toArray,List.map_cons,List.map_nil]);first | done | rfl) ?_;(with_reducible refine (bC.calls a0 gq (⟨#[42,47]⟩:ByteArray) true _ Pv.out).mono ?_);rintro e w' ⟨rfl,⟨nd,rfl⟩⟩;refine ⟨_,rfl,?_⟩))
     go_roundg k1
     case measure=>have:=jY.out;omega
     case rel=>exact ⟨(wrap64 (lu - 1)),(wrap64 (gq+2)),(jF),(jg),(iL),(iB),(gM),(by first | rfl | (simp;done) | (simp [*];done)),(by first | rfl | (simp;done) | (simp [*];done)),H',⟨by have:=jY.out;omega⟩,⟨by (with_reducible repeat (first | refine aH ?_ _ | refine aU ?_ | refine aN ?_ _));exact dI.out⟩,⟨by with_reducible repeat (first | exact HB.out | apply av | apply ak | apply ay | refine bf ?_ pW.out)⟩⟩
    replace c12:=Bool.eq_false_iff.mpr c12;subst c12;rw [if_neg (show ¬ (false=true) by decide)] at H;by_cases c14:lu=0
    ·rw [if_pos c14] at H
     have wJ:(lu==0)=true:=beq_iff_eq.mpr c14;have TW:(lu != 0)=false:=bne_eq_false_iff_eq.mpr c14;clear c14;have H':=ah.mk H;clear H;go_wp2_with (first | ((with_reducible refine aQ (f:=80) rfl ?_);refine bL (some 24) rfl rfl Tryz.func80 (by kernel_rfl) rfl #[.string a0,.int .i64 gq,.string (⟨#[47,42]⟩:ByteArray)] rfl (by (try simp only [List.map_toArray,List.map_cons,List.map_nil]);first | done | rfl) ?_;(with_reducible refine (bC.calls a0 gq (⟨#[47,42]⟩:ByteArray) false _ A8.out).mono ?_);rintro e w' ⟨rfl,⟨nd,rfl⟩⟩;refine ⟨_,rfl,?_⟩) | ((with_reducible refine aQ (f:=80) rfl ?_);refine bL (some 32) rfl rfl Tryz.func80 (by kernel_rfl) rfl #[.string a0,.int .i64 gq,.string (⟨#[42,47]⟩:ByteArray)] rfl (by (try simp only [List.map_toArray,List.map_cons,List.map_nil]);first | done | rfl) ?_;(with_reducible refine (bC.calls a0 gq (⟨#[42,47]⟩:ByteArray) false _ Pv.out).mono ?_);rintro e w' ⟨rfl,⟨nd,rfl⟩⟩;refine ⟨_,rfl,?_⟩))
     go_meet
     case rel=>exact ⟨_,(wrap64 (gq+1)),(jF),(jg),(iL),(iB),(gM),(by first | rfl | (simp;done) | (simp [*];done)),H',⟨by have:=jY.out;first | omega | exact Nat.le_refl _⟩,⟨by (with_reducible repeat (first | refine aH ?_ _ | refine aU ?_ | refine aN ?_ _));exact dI.out⟩,⟨by with_reducible repeat (first | exact HB.out | apply av | apply ak | apply ay | refine bf ?_ pW.out)⟩⟩
    rw [if_neg c14] at H;have wJ:(lu==0)=false:=beq_eq_false_iff_ne.mpr c14;have TW:(lu != 0)=true:=bne_iff_ne.mpr c14;have H':=ah.mk H;clear H;go_wp2_with (first | ((with_reducible refine aQ (f:=80) rfl ?_);refine bL (some 24) rfl rfl Tryz.func80 (by kernel_rfl) rfl #[.string a0,.int .i64 gq,.string (⟨#[47,42]⟩:ByteArray)] rfl (by (try simp only [List.map_toArray,List.map_cons,List.map_nil]);first | done | rfl) ?_;(with_reducible refine (bC.calls a0 gq (⟨#[47,42]⟩:ByteArray) false _ A8.out).mono ?_);rintro e w' ⟨rfl,⟨nd,rfl⟩⟩;refine ⟨_,rfl,?_⟩) | ((with_reducible refine aQ (f:=80) rfl ?_);refine bL (some 32) rfl rfl Tryz.func80 (by kernel_rfl) rfl #[.string a0,.int .i64 gq,.string (⟨#[42,47]⟩:ByteArray)] rfl (by (try simp only [List.map_toArray,List.map_cons,List.map_nil]);first | done | rfl) ?_;(with_reducible refine (bC.calls a0 gq (⟨#[42,47]⟩:ByteArray) false _ Pv.out).mono ?_);rintro e w' ⟨rfl,⟨nd,rfl⟩⟩;refine ⟨_,rfl,?_⟩))
    go_roundg k1
    case measure=>have:=jY.out;omega
    case rel=>exact ⟨(lu),(wrap64 (gq+1)),(jF),(jg),(iL),(iB),(gM),(by first | rfl | (simp;done) | (simp [*];done)),(by first | rfl | (simp;done) | (simp [*];done)),H',⟨by have:=jY.out;omega⟩,⟨by (with_reducible repeat (first | refine aH ?_ _ | refine aU ?_ | refine aN ?_ _));exact dI.out⟩,⟨by with_reducible repeat (first | exact HB.out | apply av | apply ak | apply ay | refine bf ?_ pW.out)⟩⟩
 case rest =>
  clear Jp;obtain ⟨kq,Di,yQ,yR,yS,yT,yU,rfl,HA,LV,dI,HB⟩:=hcut;cases kq with
  | zero=>exact absurd HA.out (by simp [aD.j1])
  | succ CK =>
   have H:=HA.out;clear HA;simp only [aD.j1] at H;have H':=ah.mk H;clear H;go_wp2;go_loopg [9,10] CK (fun kq v9 v10 w'=>∃ (Mq:Int) (dx:Int) (jG:Int) (iC:ByteArray) (fJ:Int) (eB:Int) (dN:Int),v9=.int .i64 Mq/\v10=.int .i64 dx/\ah (aD.l1 kq a0 Di Mq dx=some (r1,r2,r3,r4,r5))/\ah (kq<=CK)/\ah (w'.heap[iP]?=some (.cells #[.int .i64 jG,.string iC,.int .i64 fJ,.int .i64 eB,.int .i64 dN] 82 (0,0)))/\ah (Below w.heap.size w w'))
   case atStart=>exact ⟨(a2),(a1),(yQ),(yR),(yS),(yT),(yU),(by first | rfl | (simp;done) | (simp [*];done)),(by first | rfl | (simp;done) | (simp [*];done)),H',⟨Nat.le_refl _⟩,⟨by (with_reducible repeat (first | refine aH ?_ _ | refine aU ?_ | refine aN ?_ _));exact dI.out⟩,⟨by with_reducible repeat (first | exact HB.out | apply av | apply ak | apply ay | refine bf ?_ pW.out)⟩⟩
   case round =>
    clear H';obtain ⟨Mq,dx,jG,iC,fJ,eB,dN,rfl,rfl,HA,CG,dI,HB⟩:=hrel;cases gk with
    | zero=>exact absurd HA.out (by simp [aD.l1])
    | succ k2 =>
     have H:=HA.out;clear HA;simp only [aD.l1] at H;by_cases c15:dx < Di
     rotate_left
     ·rw [if_neg c15] at H
      have wK:decide (dx < Di)=false:=decide_eq_false c15;clear c15;simp only [Option.some.injEq,Prod.mk.injEq] at H;obtain ⟨rfl,rfl,rfl,rfl,rfl⟩:=H;have Yh:wr.cell? ⟨iP,0,none⟩=some (.int .i64 jG):=(au dI.out 0).trans rfl;have Yi:wr.cell? ⟨iP,1,none⟩=some (.string iC):=(au dI.out 1).trans rfl;have Yj:wr.cell? ⟨iP,2,none⟩=some (.int .i64 fJ):=(au dI.out 2).trans rfl;have Yk:wr.cell? ⟨iP,3,none⟩=some (.int .i64 eB):=(au dI.out 3).trans rfl;have Yl:wr.cell? ⟨iP,4,none⟩=some (.int .i64 dN):=(au dI.out 4).trans rfl;have Ym:=aA dI.out 0;have Yn:=aA dI.out 1;have Yo:=aA dI.out 2;have Yp:=aA dI.out 3;have Yq:=aA dI.out 4;go_wp2;refine bodyPost_ret (results_cell_row rfl _ _ iP 82 #[.int .i64 0,.string (⟨#[]⟩:ByteArray),.int .i64 Di,.int .i64 0,.int .i64 0] (0,0) _ rfl (by (with_reducible repeat (first | refine aH ?_ _ | refine aU ?_ | refine aN ?_ _));refine aW (cs:=#[.int .i64 0,.string (⟨#[]⟩:ByteArray),.int .i64 Di,.int .i64 0,.int .i64 dN]) ?_ 4 _ rfl;(with_reducible repeat (first | refine aH ?_ _ | refine aU ?_ | refine aN ?_ _));refine aW (cs:=#[.int .i64 0,.string (⟨#[]⟩:ByteArray),.int .i64 Di,.int .i64 eB,.int .i64 dN]) ?_ 3 _ rfl;(with_reducible repeat (first | refine aH ?_ _ | refine aU ?_ | refine aN ?_ _));refine aW (cs:=#[.int .i64 0,.string (⟨#[]⟩:ByteArray),.int .i64 fJ,.int .i64 eB,.int .i64 dN]) ?_ 2 _ rfl;(with_reducible repeat (first | refine aH ?_ _ | refine aU ?_ | refine aN ?_ _));refine aW (cs:=#[.int .i64 0,.string iC,.int .i64 fJ,.int .i64 eB,.int .i64 dN]) ?_ 1 _ rfl;(with_reducible repeat (first | refine aH ?_ _ | refine aU ?_ | refine aN ?_ _));refine aW (cs:=#[.int .i64 jG,.string iC,.int .i64 fJ,.int .i64 eB,.int .i64 dN]) ?_ 0 _ rfl;(with_reducible repeat (first | refine aH ?_ _ | refine aU ?_ | refine aN ?_ _));exact dI.out) Tryz.underlying82 rfl (by kernel_rfl)) rfl ?_;exact ⟨by first | rfl | (simp [aJ,aK]<;>rfl) | (simp [*,aJ,aK]<;>rfl),by with_reducible repeat (first | exact HB.out | apply av | apply ak | apply ay | refine bf ?_ pW.out)⟩
     rw [if_pos c15] at H;have wK:decide (dx < Di)=true:=decide_eq_true c15;clear c15;by_cases c16:0<=dx
     rotate_left
     ·rw [if_neg c16] at H
      exact absurd H (by simp)
     rw [if_pos c16] at H;have sM:decide (0<=dx)=true:=decide_eq_true c16;clear c16;by_cases c17:dx < (a0.size:Int)
     rotate_left
     ·rw [if_neg c17] at H
      exact absurd H (by simp)
     rw [if_pos c17] at H;have DC:decide (dx < (a0.size:Int))=true:=decide_eq_true c17;clear c17;by_cases c19:(bt a0 dx)=10
     ·rw [if_pos c19] at H
      have NZ:((bt a0 dx)==10)=true:=beq_iff_eq.mpr c19;have aeX:((bt a0 dx) != 10)=false:=bne_eq_false_iff_eq.mpr c19;clear c19;have H':=ah.mk H;clear H;have TY:0<=(dx:Int):=of_decide_eq_true (by with_reducible assumption);have Ua:dx < (a0.size:Int):=of_decide_eq_true (by with_reducible assumption);have abT:=dJ a0 dx;replace TY:=eq_true TY;replace Ua:=eq_true Ua;go_wp2;go_roundg k2
      case measure=>have:=LV.out;have:=CG.out;omega
      case rel=>exact ⟨(wrap64 (Mq+1)),(wrap64 (dx+1)),(jG),(iC),(fJ),(eB),(dN),(by first | rfl | (simp;done) | (simp [*];done)),(by first | rfl | (simp;done) | (simp [*];done)),H',⟨by have:=LV.out;have:=CG.out;omega⟩,⟨by (with_reducible repeat (first | refine aH ?_ _ | refine aU ?_ | refine aN ?_ _));exact dI.out⟩,⟨by with_reducible repeat (first | exact HB.out | apply av | apply ak | apply ay | refine bf ?_ pW.out)⟩⟩
     rw [if_neg c19] at H;have NZ:((bt a0 dx)==10)=false:=beq_eq_false_iff_ne.mpr c19;have aeX:((bt a0 dx) != 10)=true:=bne_iff_ne.mpr c19;by_cases c21:(bt a0 dx) < 32
     ·rw [if_pos c21] at H
      have Nz:decide ((bt a0 dx) < 32)=true:=decide_eq_true c21;clear c21;simp only [Option.some.injEq,Prod.mk.injEq] at H;obtain ⟨rfl,rfl,rfl,rfl,rfl⟩:=H;have TY:0<=(dx:Int):=of_decide_eq_true (by with_reducible assumption);have Ua:dx < (a0.size:Int):=of_decide_eq_true (by with_reducible assumption);have abT:=dJ a0 dx;replace TY:=eq_true TY;replace Ua:=eq_true Ua;have p20:0<=(dx:Int):=of_decide_eq_true (by with_reducible assumption);have q20:dx < (a0.size:Int):=of_decide_eq_true (by with_reducible assumption);have aeY:=dJ a0 dx;replace p20:=eq_true p20;replace q20:=eq_true q20;have XT:wr.cell? ⟨iP,0,none⟩=some (.int .i64 jG):=(au dI.out 0).trans rfl;have XU:wr.cell? ⟨iP,1,none⟩=some (.string iC):=(au dI.out 1).trans rfl;have XV:wr.cell? ⟨iP,2,none⟩=some (.int .i64 fJ):=(au dI.out 2).trans rfl;have XW:wr.cell? ⟨iP,3,none⟩=some (.int .i64 eB):=(au dI.out 3).trans rfl;have XY:wr.cell? ⟨iP,4,none⟩=some (.int .i64 dN):=(au dI.out 4).trans rfl;have XZ:=aA dI.out 0;have Ya:=aA dI.out 1;have Yb:=aA dI.out 2;have Yc:=aA dI.out 3;have Yd:=aA dI.out 4;go_wp2;refine bodyPost_ret (results_cell_row rfl _ _ iP 82 #[.int .i64 0,.string (⟨#[]⟩:ByteArray),.int .i64 0,.int .i64 13,.int .i64 Mq] (0,0) _ rfl (by (with_reducible repeat (first | refine aH ?_ _ | refine aU ?_ | refine aN ?_ _));refine aW (cs:=#[.int .i64 0,.string (⟨#[]⟩:ByteArray),.int .i64 0,.int .i64 13,.int .i64 dN]) ?_ 4 _ rfl;(with_reducible repeat (first | refine aH ?_ _ | refine aU ?_ | refine aN ?_ _));refine aW (cs:=#[.int .i64 0,.string (⟨#[]⟩:ByteArray),.int .i64 0,.int .i64 eB,.int .i64 dN]) ?_ 3 _ rfl;(with_reducible repeat (first | refine aH ?_ _ | refine aU ?_ | refine aN ?_ _));refine aW (cs:=#[.int .i64 0,.string (⟨#[]⟩:ByteArray),.int .i64 fJ,.int .i64 eB,.int .i64 dN]) ?_ 2 _ rfl;(with_reducible repeat (first | refine aH ?_ _ | refine aU ?_ | refine aN ?_ _));refine aW (cs:=#[.int .i64 0,.string iC,.int .i64 fJ,.int .i64 eB,.int .i64 dN]) ?_ 1 _ rfl;(with_reducible repeat (first | refine aH ?_ _ | refine aU ?_ | refine aN ?_ _));refine aW (cs:=#[.int .i64 jG,.string iC,.int .i64 fJ,.int .i64 eB,.int .i64 dN]) ?_ 0 _ rfl;(with_reducible repeat (first | refine aH ?_ _ | refine aU ?_ | refine aN ?_ _));exact dI.out) Tryz.underlying82 rfl (by kernel_rfl)) rfl ?_;exact ⟨by first | rfl | (simp [aJ,aK]<;>rfl) | (simp [*,aJ,aK]<;>rfl),by with_reducible repeat (first | exact HB.out | apply av | apply ak | apply ay | refine bf ?_ pW.out)⟩
     rw [if_neg c21] at H;have Nz:decide ((bt a0 dx) < 32)=false:=decide_eq_false c21;clear c21;by_cases c24:(bt a0 dx) > 126
     rotate_left
     ·rw [if_neg c24] at H
      have aal:decide (126 < (bt a0 dx))=false:=decide_eq_false c24;clear c24;have H':=ah.mk H;clear H;have TY:0<=(dx:Int):=of_decide_eq_true (by with_reducible assumption);have Ua:dx < (a0.size:Int):=of_decide_eq_true (by with_reducible assumption);have abT:=dJ a0 dx;replace TY:=eq_true TY;replace Ua:=eq_true Ua;have p20:0<=(dx:Int):=of_decide_eq_true (by with_reducible assumption);have q20:dx < (a0.size:Int):=of_decide_eq_true (by with_reducible assumption);have aeY:=dJ a0 dx;replace p20:=eq_true p20;replace q20:=eq_true q20;have p23:0<=(dx:Int):=of_decide_eq_true (by with_reducible assumption);have Yr:dx < (a0.size:Int):=of_decide_eq_true (by with_reducible assumption);have ajg:=dJ a0 dx;replace p23:=eq_true p23;replace Yr:=eq_true Yr;go_wp2;go_roundg k2
      case measure=>have:=LV.out;have:=CG.out;omega
      case rel=>exact ⟨(Mq),(wrap64 (dx+1)),(jG),(iC),(fJ),(eB),(dN),(by first | rfl | (simp;done) | (simp [*];done)),(by first | rfl | (simp;done) | (simp [*];done)),H',⟨by have:=LV.out;have:=CG.out;omega⟩,⟨by (with_reducible repeat (first | refine aH ?_ _ | refine aU ?_ | refine aN ?_ _));exact dI.out⟩,⟨by with_reducible repeat (first | exact HB.out | apply av | apply ak | apply ay | refine bf ?_ pW.out)⟩⟩
     rw [if_pos c24] at H;have aal:decide (126 < (bt a0 dx))=true:=decide_eq_true c24;clear c24;simp only [Option.some.injEq,Prod.mk.injEq] at H;obtain ⟨rfl,rfl,rfl,rfl,rfl⟩:=H;have TY:0<=(dx:Int):=of_decide_eq_true (by with_reducible assumption);have Ua:dx < (a0.size:Int):=of_decide_eq_true (by with_reducible assumption);have abT:=dJ a0 dx;replace TY:=eq_true TY;replace Ua:=eq_true Ua;have p20:0<=(dx:Int):=of_decide_eq_true (by with_reducible assumption);have q20:dx < (a0.size:Int):=of_decide_eq_true (by with_reducible assumption);have aeY:=dJ a0 dx;replace p20:=eq_true p20;replace q20:=eq_true q20;have p23:0<=(dx:Int):=of_decide_eq_true (by with_reducible assumption);have Yr:dx < (a0.size:Int):=of_decide_eq_true (by with_reducible assumption);have ajg:=dJ a0 dx;replace p23:=eq_true p23;replace Yr:=eq_true Yr;have ahp:wr.cell? ⟨iP,0,none⟩=some (.int .i64 jG):=(au dI.out 0).trans rfl;have ahq:wr.cell? ⟨iP,1,none⟩=some (.string iC):=(au dI.out 1).trans rfl;have ahr:wr.cell? ⟨iP,2,none⟩=some (.int .i64 fJ):=(au dI.out 2).trans rfl;have ahs:wr.cell? ⟨iP,3,none⟩=some (.int .i64 eB):=(au dI.out 3).trans rfl;have aht:wr.cell? ⟨iP,4,none⟩=some (.int .i64 dN):=(au dI.out 4).trans rfl;have ahu:=aA dI.out 0;have ahv:=aA dI.out 1;have ahw:=aA dI.out 2;have ahx:=aA dI.out 3;have ahy:=aA dI.out 4;go_wp2;refine bodyPost_ret (results_cell_row rfl _ _ iP 82 #[.int .i64 0,.string (⟨#[]⟩:ByteArray),.int .i64 0,.int .i64 13,.int .i64 Mq] (0,0) _ rfl (by (with_reducible repeat (first | refine aH ?_ _ | refine aU ?_ | refine aN ?_ _));refine aW (cs:=#[.int .i64 0,.string (⟨#[]⟩:ByteArray),.int .i64 0,.int .i64 13,.int .i64 dN]) ?_ 4 _ rfl;(with_reducible repeat (first | refine aH ?_ _ | refine aU ?_ | refine aN ?_ _));refine aW (cs:=#[.int .i64 0,.string (⟨#[]⟩:ByteArray),.int .i64 0,.int .i64 eB,.int .i64 dN]) ?_ 3 _ rfl;(with_reducible repeat (first | refine aH ?_ _ | refine aU ?_ | refine aN ?_ _));refine aW (cs:=#[.int .i64 0,.string (⟨#[]⟩:ByteArray),.int .i64 fJ,.int .i64 eB,.int .i64 dN]) ?_ 2 _ rfl;(with_reducible repeat (first | refine aH ?_ _ | refine aU ?_ | refine aN ?_ _));refine aW (cs:=#[.int .i64 0,.string iC,.int .i64 fJ,.int .i64 eB,.int .i64 dN]) ?_ 1 _ rfl;(with_reducible repeat (first | refine aH ?_ _ | refine aU ?_ | refine aN ?_ _));refine aW (cs:=#[.int .i64 jG,.string iC,.int .i64 fJ,.int .i64 eB,.int .i64 dN]) ?_ 0 _ rfl;(with_reducible repeat (first | refine aH ?_ _ | refine aU ?_ | refine aN ?_ _));exact dI.out) Tryz.underlying82 rfl (by kernel_rfl)) rfl ?_;exact ⟨by first | rfl | (simp [aJ,aK]<;>rfl) | (simp [*,aJ,aK]<;>rfl),by with_reducible repeat (first | exact HB.out | apply av | apply ak | apply ay | refine bf ?_ pW.out)⟩
def cK.l0:Nat->ByteArray->Int->Int->Option (Int)
 | 0,_,_,_=>none
 | k+1,x0,x3,x4=>if x4 < (x0.size:Int) then (if 0<=x4 then (if (bt x0 x4)=10 then (cK.l0 k x0 (wrap64 (x3+1)) (wrap64 (x4+1))) else (cK.l0 k x0 x3 (wrap64 (x4+1)))) else (none)) else (some x3)
def cK.f (k:Nat) (a0:ByteArray):Option (Int):=cK.l0 k a0 0 0
set_option maxHeartbeats 8000000 in
set_option maxRecDepth 100000 in
theorem cK.calls (k:Nat) (a0:ByteArray) (r:Int) (w:World) (h:cK.f k a0=some r) :
  Calls Tryz.prog 84 #[.string a0] w fun e w'=>e=.returned (.int .i64 r)/\aG w w':=by
 have H:(cK.l0 k a0 0 0)=some r:=h;clear h;have H':=ah.mk H;clear H;go_enter Tryz.func84,Tryz.ntmps84
 go_wp2;go_loopg [3,4] k (fun kq v3 v4 w'=>∃ (bZ:Int) (bB:Int),v3=.int .i64 bZ/\v4=.int .i64 bB/\ah (cK.l0 kq a0 bZ bB=some r)/\ah (kq<=k)/\aG w w')
 case atStart=>exact ⟨(0),(0),(by first | rfl | (simp;done) | (simp [*];done)),(by first | rfl | (simp;done) | (simp [*];done)),H',⟨Nat.le_refl _⟩,by repeat (first | exact aG.refl _ | apply aG.step)⟩
 case round =>
  clear H';obtain ⟨bZ,bB,rfl,rfl,HA,jY,⟨m1,rfl⟩⟩:=hrel;cases gk with
  | zero=>exact absurd HA.out (by simp [cK.l0])
  | succ k1 =>
   have H:=HA.out;clear HA;simp only [cK.l0] at H;by_cases c2:bB < (a0.size:Int)
   rotate_left
   ·rw [if_neg c2] at H
    have kX:decide (bB < (a0.size:Int))=false:=decide_eq_false c2;clear c2;obtain rfl:=Option.some.inj H;go_wp2;go_ret;exact ⟨by first | rfl | (simp;done) | (simp [*];done),by repeat (first | exact aG.refl _ | apply aG.step)⟩
   rw [if_pos c2] at H;have kX:decide (bB < (a0.size:Int))=true:=decide_eq_true c2;clear c2;by_cases c3:0<=bB
   rotate_left
   ·rw [if_neg c3] at H
    exact absurd H (by simp)
   rw [if_pos c3] at H;have nH:decide (0<=bB)=true:=decide_eq_true c3;clear c3;by_cases c5:(bt a0 bB)=10
   ·rw [if_pos c5] at H
    have kN:((bt a0 bB)==10)=true:=beq_iff_eq.mpr c5;have EF:((bt a0 bB) != 10)=false:=bne_eq_false_iff_eq.mpr c5;clear c5;have H':=ah.mk H;clear H;have p4:0<=(bB:Int):=of_decide_eq_true (by with_reducible assumption);have q4:bB < (a0.size:Int):=of_decide_eq_true (by with_reducible assumption);have hx4:=dJ a0 bB;replace p4:=eq_true p4;replace q4:=eq_true q4;go_wp2;go_roundg k1
    case measure=>have:=jY.out;omega
    case rel=>exact ⟨(wrap64 (bZ+1)),(wrap64 (bB+1)),(by first | rfl | (simp;done) | (simp [*];done)),(by first | rfl | (simp;done) | (simp [*];done)),H',⟨by have:=jY.out;omega⟩,by repeat (first | exact aG.refl _ | apply aG.step)⟩
   rw [if_neg c5] at H;have kN:((bt a0 bB)==10)=false:=beq_eq_false_iff_ne.mpr c5;have EF:((bt a0 bB) != 10)=true:=bne_iff_ne.mpr c5;have H':=ah.mk H;clear H;have p4:0<=(bB:Int):=of_decide_eq_true (by with_reducible assumption);have q4:bB < (a0.size:Int):=of_decide_eq_true (by with_reducible assumption);have hx4:=dJ a0 bB;replace p4:=eq_true p4;replace q4:=eq_true q4;go_wp2;go_roundg k1
   case measure=>have:=jY.out;omega
   case rel=>exact ⟨(bZ),(wrap64 (bB+1)),(by first | rfl | (simp;done) | (simp [*];done)),(by first | rfl | (simp;done) | (simp [*];done)),H',⟨by have:=jY.out;omega⟩,by repeat (first | exact aG.refl _ | apply aG.step)⟩
end Go.Proofs.YtkkpjonfaflkmaaGreatDoor.T
namespace Go.Proofs.YtkkpjonfaflkmaaGreatDoor.S
def Ub:List Int->Nat->Nat
 | [],_=>0
 | c::t,l=>if c=10 then Ub t (l+1) else if iT c=true then Ub t l else l
theorem Ak:∀ (xs:List Int) (i d l b i' l' b':Nat),jD xs i d l b=.done i' l' b'->1<=l->b'=if b=0 then Ub (xs.take (i' - i)) l else b
 | [],_,_,_,_,_,_,_=>fun h=>by cases h
 | [_],_,_,_,_,_,_,_=>fun h=>by cases h
 | c::e::t,i,d,l,b,i',l',b'=>fun h hl=>by
  rw [jD] at h;by_cases h1:c=47/\e=42
  ·rw [if_pos h1] at h
   have h3:=eH t _ _ _ _ _ _ _ h;have h2:=Ak t _ _ _ _ _ _ _ h hl;rw [h2,show i' - i=(i' - (i+2))+1+1 by omega,List.take_succ_cons,List.take_succ_cons,Ub,Ub,h1.1,h1.2];rfl
  rw [if_neg h1] at h;by_cases h2:c=42/\e=47
  ·rw [if_pos h2] at h
   by_cases h3:d=1
   ·rw [if_pos h3] at h;cases h
    rw [show i+2 - i=2 by omega,h2.1,h2.2];by_cases hb:b=0
    ·rw [if_pos hb,hb];rfl
    ·rw [if_neg hb]
   rw [if_neg h3] at h;have h3:=eH t _ _ _ _ _ _ _ h;have h4:=Ak t _ _ _ _ _ _ _ h hl;rw [h4,show i' - i=(i' - (i+2))+1+1 by omega,List.take_succ_cons,List.take_succ_cons,Ub,Ub,h2.1,h2.2];rfl
  rw [if_neg h2] at h;have h3:=eH (e::t) _ _ _ _ _ _ _ h;have h4:=Ak (e::t) _ _ _ _ _ _ _ h (by split<;>omega);rw [h4,show i' - i=(i' - (i+1))+1 by omega,List.take_succ_cons,Ub];by_cases h10:c=10
  ·rw [if_pos h10,if_pos h10,if_neg (show ¬ (c≠10/\iT c=false/\b=0) from fun x=>x.1 h10)]
  rw [if_neg h10,if_neg h10];by_cases hp:iT c=true
  ·rw [if_pos hp,if_neg (show ¬ (c≠10/\iT c=false/\b=0) from fun x=>by rw [hp] at x;cases x.2.1)]
  rw [if_neg hp];by_cases hb:b=0
  ·rw [if_pos (show (c≠10/\iT c=false/\b=0) from ⟨h10,by simpa using hp,hb⟩),if_neg (by omega),if_pos hb]
  ·rw [if_neg (show ¬ (c≠10/\iT c=false/\b=0) from fun x=>hb x.2.2),if_neg hb,if_neg hb]
 termination_by xs=>xs.length
end Go.Proofs.YtkkpjonfaflkmaaGreatDoor.S
namespace Go.Proofs.YtkkpjonfaflkmaaGreatDoor.T
open Go.RowKit Go.Proofs.aj.aI Go.Proofs.aj.aY Go.Proofs.aj.bq
theorem BU (a0:ByteArray) (hs:a0.size<=100000):∀ (m k i c:Nat),i+m=a0.size->m < k->c<=i->cK.l0 k a0 (c:Int) (i:Int)=some ((c+((bytesOf a0).drop i).count 10:Nat):Int)
 | m,0,i,c,_,h,_=>absurd h (Nat.not_lt_zero _)
 | 0,k+1,i,c,h,hk,hc=>by
  rw [cK.l0,if_neg (by omega),List.drop_of_length_le (by rw [bytesOf_length];omega)];rfl
 | m+1,k+1,i,c,h,hk,hc=>by
  rw [cK.l0,if_pos (by omega),if_pos (by omega),fB a0 (by omega),List.count_cons,yI (by omega),yI (by omega)];by_cases h1:bt a0 (i:Int)=10
  ·rw [if_pos h1,BU a0 hs m k (i+1) (c+1) (by omega) (by omega) (by omega),if_pos (beq_iff_eq.2 h1)]
   have e:c+1+((bytesOf a0).drop (i+1)).count 10=c+(((bytesOf a0).drop (i+1)).count 10+1):=by omega
   rw [e]
  rw [if_neg h1,BU a0 hs m k (i+1) c (by omega) (by omega) (by omega),if_neg (fun e=>h1 (beq_iff_eq.1 e))];rfl
theorem Yt (a0:ByteArray) (hs:a0.size<=100000) (k:Nat) (hk:a0.size < k):cK.f k a0=some (((bytesOf a0).count 10:Nat):Int):=by
 have:=BU a0 hs a0.size k 0 0 (by omega) hk (Nat.le_refl _);rw [List.drop_zero,Nat.zero_add] at this;exact this
theorem Al (a b c e:Int) (t:List Int):([a,b]:List Int).isPrefixOf (c::e::t)=(decide (c=a)&&decide (e=b)):=by
 simp only [List.isPrefixOf,Bool.and_true];rw [show (a==c)=decide (c=a) from by rw [<- decide_eq_decide.2 (show a=c <-> c=a from ⟨Eq.symm,Eq.symm⟩)];rfl,show (b==e)=decide (e=b) from by rw [<- decide_eq_decide.2 (show b=e <-> e=b from ⟨Eq.symm,Eq.symm⟩)];rfl]
theorem Qp (a b:Int) (xs:List Int) (h:xs.length<=1):([a,b]:List Int).isPrefixOf xs=false:=by
 rcases xs with _ | ⟨c,_ | ⟨d,t⟩⟩
 ·rfl
 ·simp [List.isPrefixOf]
 ·simp at h
theorem aeZ (a0:ByteArray) (hs:a0.size<=100000) (p ln:Nat):∀ (m k i d l b:Nat),i+m=a0.size->m+1 < k->1<=d->d<=i ->
  match S.jD ((bytesOf a0).drop i) i d l b with
  | .eof=>aD.l0 k a0 (p:Int) (ln:Int) (d:Int) (i:Int)=some (0,⟨#[]⟩,0,6,(ln:Int))
  | .done e l' b'=>∃ k',k<=k'+m+1/\aD.l0 k a0 (p:Int) (ln:Int) (d:Int) (i:Int)=aD.j1 k' a0 (p:Int) (ln:Int) (e:Int):=by
 intro m
 induction m using Nat.strongRecOn with
 | _ m ih =>
  intro k i d l b h hk hd1 hdi
  obtain ⟨k,rfl⟩:∃ k',k=k'+1:=⟨k - 1,by omega⟩;have hst:∀ x:ByteArray,x.size=2->bC.f a0 (i:Int) x=some ((bytesOf x).isPrefixOf ((bytesOf a0).drop i)):=fun x hx=>tK a0 x i (by omega) hs (by omega)
  have h1:=hst ⟨#[47,42]⟩ rfl;have h2:=hst ⟨#[42,47]⟩ rfl;replace h1:bC.f a0 (i:Int) ⟨#[47,42]⟩=some (([47,42]:List Int).isPrefixOf ((bytesOf a0).drop i)):=h1;replace h2:bC.f a0 (i:Int) ⟨#[42,47]⟩=some (([42,47]:List Int).isPrefixOf ((bytesOf a0).drop i)):=h2;have hw1:wrap64 ((i:Int)+1)=((i+1:Nat):Int):=yI (by omega);have hw2:wrap64 ((i:Int)+2)=((i+2:Nat):Int):=by unfold wrap64;omega
  have hwd:wrap64 ((d:Int)+1)=((d+1:Nat):Int):=yI (by omega);by_cases h0:m=0
  ·have:(bytesOf a0).drop i=[]:=List.drop_of_length_le (by rw [bytesOf_length];omega)
   rw [this];show aD.l0 (k+1) a0 (p:Int) (ln:Int) (d:Int) (i:Int)=_
   rw [aD.l0,if_pos (by omega)]
  by_cases hm1:m=1
  ·have hd:=fB a0 (i:=i) (by omega)
   have hn:(bytesOf a0).drop (i+1)=[]:=List.drop_of_length_le (by rw [bytesOf_length];omega);rw [hn] at hd;rw [hd] at h1 h2 |-
   rw [Qp _ _ _ (by simp)] at h1 h2;show aD.l0 (k+1) a0 (p:Int) (ln:Int) (d:Int) (i:Int)=_
   rw [aD.l0,if_neg (by omega),h1,Option.bind_some,if_neg Bool.false_ne_true,h2,Option.bind_some,if_neg Bool.false_ne_true,if_neg (by omega),hw1];obtain ⟨k,rfl⟩:∃ k',k=k'+1:=⟨k - 1,by omega⟩;rw [aD.l0,if_pos (by omega)]
  have hd:=fB a0 (i:=i) (by omega);have hd2:=fB a0 (i:=i+1) (by omega);rw [hd2] at hd;rw [hd,Al] at h1 h2;have e0:aD.l0 (k+1) a0 (p:Int) (ln:Int) (d:Int) (i:Int)=if bt a0 (i:Int)=47/\bt a0 ((i+1:Nat):Int)=42 then aD.l0 k a0 (p:Int) (ln:Int) ((d+1:Nat):Int) ((i+2:Nat):Int) else if bt a0 (i:Int)=42/\bt a0 ((i+1:Nat):Int)=47 then (if d=1 then aD.j1 k a0 (p:Int) (ln:Int) ((i+2:Nat):Int) else aD.l0 k a0 (p:Int) (ln:Int) ((d - 1:Nat):Int) ((i+2:Nat):Int)) else aD.l0 k a0 (p:Int) (ln:Int) (d:Int) ((i+1:Nat):Int):=by
   rw [aD.l0,if_neg (by omega),h1,Option.bind_some];by_cases c1:bt a0 (i:Int)=47/\bt a0 ((i+1:Nat):Int)=42
   ·rw [if_pos c1,if_pos (by rw [decide_eq_true c1.1,decide_eq_true c1.2];rfl),hwd,if_neg (by omega),hw2]
   rw [if_neg c1,if_neg (by rw [<- Bool.decide_and];simpa using c1),h2,Option.bind_some];by_cases c2:bt a0 (i:Int)=42/\bt a0 ((i+1:Nat):Int)=47
   ·rw [if_pos c2,if_pos (by rw [decide_eq_true c2.1,decide_eq_true c2.2];rfl),hw2]
    have hwm:wrap64 ((d:Int) - 1)=((d - 1:Nat):Int):=by unfold wrap64;omega
    rw [hwm];by_cases d1:d=1
    ·rw [if_pos d1,if_pos (by omega)]
    ·rw [if_neg d1,if_neg (by omega)]
   ·rw [if_neg c2,if_neg (by rw [<- Bool.decide_and];simpa using c2),if_neg (by omega),hw1]
  rw [hd,e0,S.jD];by_cases c1:bt a0 (i:Int)=47/\bt a0 ((i+1:Nat):Int)=42
  ·rw [if_pos c1,if_pos c1]
   have:=ih (m - 2) (by omega) k (i+2) (d+1) l b (by omega) (by omega) (by omega) (by omega);show match S.jD ((bytesOf a0).drop (i+2)) (i+2) (d+1) l b with
    | .eof=>aD.l0 k a0 (p:Int) (ln:Int) ((d+1:Nat):Int) ((i+2:Nat):Int)=some (0,⟨#[]⟩,0,6,(ln:Int))
    | .done e l' b'=>∃ k',k+1<=k'+m+1/\aD.l0 k a0 (p:Int) (ln:Int) ((d+1:Nat):Int) ((i+2:Nat):Int)=aD.j1 k' a0 (p:Int) (ln:Int) (e:Int)
   cases hc:S.jD ((bytesOf a0).drop (i+2)) (i+2) (d+1) l b with
   | eof=>rw [hc] at this;exact this
   | done e l' b'=>rw [hc] at this;obtain ⟨k',q1,q2⟩:=this;exact ⟨k',by omega,q2⟩
  rw [if_neg c1,if_neg c1];by_cases c2:bt a0 (i:Int)=42/\bt a0 ((i+1:Nat):Int)=47
  ·rw [if_pos c2,if_pos c2]
   by_cases d1:d=1
   ·rw [if_pos d1,if_pos d1]
    exact ⟨k,by omega,rfl⟩
   rw [if_neg d1,if_neg d1];have:=ih (m - 2) (by omega) k (i+2) (d - 1) l b (by omega) (by omega) (by omega) (by omega);show match S.jD ((bytesOf a0).drop (i+2)) (i+2) (d - 1) l b with
    | .eof=>aD.l0 k a0 (p:Int) (ln:Int) ((d - 1:Nat):Int) ((i+2:Nat):Int)=some (0,⟨#[]⟩,0,6,(ln:Int))
    | .done e l' b'=>∃ k',k+1<=k'+m+1/\aD.l0 k a0 (p:Int) (ln:Int) ((d - 1:Nat):Int) ((i+2:Nat):Int)=aD.j1 k' a0 (p:Int) (ln:Int) (e:Int)
   cases hc:S.jD ((bytesOf a0).drop (i+2)) (i+2) (d - 1) l b with
   | eof=>rw [hc] at this;exact this
   | done e l' b'=>rw [hc] at this;obtain ⟨k',q1,q2⟩:=this;exact ⟨k',by omega,q2⟩
  rw [if_neg c2,if_neg c2,<- hd2];have:=ih (m - 1) (by omega) k (i+1) d (if bt a0 (i:Int)=10 then l+1 else l) (if bt a0 (i:Int)≠10/\S.iT (bt a0 (i:Int))=false/\b=0 then l else b) (by omega) (by omega) hd1 (by omega);cases hc:S.jD ((bytesOf a0).drop (i+1)) (i+1) d (if bt a0 (i:Int)=10 then l+1 else l) (if bt a0 (i:Int)≠10/\S.iT (bt a0 (i:Int))=false/\b=0 then l else b) with
  | eof=>rw [hc] at this;exact this
  | done e l' b'=>rw [hc] at this;obtain ⟨k',q1,q2⟩:=this;exact ⟨k',by omega,q2⟩
theorem Uc (a0:ByteArray) (hs:a0.size<=100000) (e:Nat) (he:e<=a0.size):∀ (m k i l:Nat),i+m=e->m < k->1<=l->l<=i+100000 ->
  aD.l1 k a0 (e:Int) (l:Int) (i:Int)=some (if S.Ub (((bytesOf a0).drop i).take (e - i)) l=0 then (0,⟨#[]⟩,(e:Int),0,0) else (0,⟨#[]⟩,0,13,((S.Ub (((bytesOf a0).drop i).take (e - i)) l:Nat):Int)))
 | m,0,i,l,_,h,_,_=>absurd h (Nat.not_lt_zero _)
 | 0,k+1,i,l,h,_,_,_=>by
  rw [aD.l1,if_neg (by omega),show e - i=0 by omega,List.take_zero];rfl
 | m+1,k+1,i,l,h,hk,h1,h2=>by
  have hw1:wrap64 ((i:Int)+1)=((i+1:Nat):Int):=yI (by omega);have hwl:wrap64 ((l:Int)+1)=((l+1:Nat):Int):=yI (by omega);rw [aD.l1,if_pos (by omega),if_pos (by omega),if_pos (by omega),fB a0 (i:=i) (by omega),show e - i=(e - (i+1))+1 by omega,List.take_succ_cons,S.Ub,hw1,hwl];by_cases c1:bt a0 (i:Int)=10
  ·rw [if_pos c1,if_pos c1]
   exact Uc a0 hs e he m k (i+1) (l+1) (by omega) (by omega) (by omega) (by omega)
  rw [if_neg c1,if_neg c1];by_cases c2:bt a0 (i:Int) < 32
  ·have:S.iT (bt a0 (i:Int))=false:=by unfold S.iT;rw [decide_eq_false (by omega),Bool.false_and]
   rw [if_pos c2,this,if_neg Bool.false_ne_true,if_neg (by omega)]
  rw [if_neg c2];by_cases c3:bt a0 (i:Int) > 126
  ·have:S.iT (bt a0 (i:Int))=false:=by unfold S.iT;rw [decide_eq_false (p:=bt a0 (i:Int)<=126) (by omega),Bool.and_false]
   rw [if_pos c3,this,if_neg Bool.false_ne_true,if_neg (by omega)]
  have:S.iT (bt a0 (i:Int))=true:=by unfold S.iT;rw [decide_eq_true (by omega),decide_eq_true (by omega)];rfl
  rw [if_neg c3,this,if_pos rfl];exact Uc a0 hs e he m k (i+1) l (by omega) (by omega) h1 (by omega)
theorem JH (a0:ByteArray) (hs:a0.size<=100000) (p ln:Nat) (hp:p<=a0.size) (h1:1<=ln) (h2:ln<=p+100000) (hst:S.dQ ((bytesOf a0).drop p)=true) (k:Nat) (hk:3*a0.size+10 < k) :
  match S.gX (S.jD ((bytesOf a0).drop p) 0 0 1 0) with
  | .jD n dl=>aD.f k a0 (p:Int) (ln:Int)=some (0,⟨#[]⟩,((p+n:Nat):Int),0,0)/\dl=(((bytesOf a0).drop p).take n).count 10
  | .err c dl=>aD.f k a0 (p:Int) (ln:Int)=some (0,⟨#[]⟩,0,(c:Int),((ln+dl:Nat):Int))
  | _=>False:=by
 have hpl:p+2<=a0.size:=by
  have hl:((bytesOf a0).drop p).length=a0.size - p:=by rw [List.length_drop,bytesOf_length]
  generalize (bytesOf a0).drop p=xs at hst hl;rcases xs with _ | ⟨c,_ | ⟨d,t⟩⟩
  ·cases hst
  ·cases hst
  ·simp at hl;omega
 have hsh:=qp p (ln - 1) ((bytesOf a0).drop p) 0 0 1 0 (by omega);simp only [if_true,Nat.add_zero] at hsh;rw [show ln - 1+1=ln by omega] at hsh;have hd:=fB a0 (i:=p) (by omega);have hd2:=fB a0 (i:=p+1) (by omega);rw [hd2] at hd;have hc:bt a0 (p:Int)=47/\bt a0 ((p+1:Nat):Int)=42:=by
  rw [hd] at hst;simpa [S.dQ] using hst
 have e1:S.jD ((bytesOf a0).drop p) p 0 ln 0=S.jD ((bytesOf a0).drop (p+2)) (p+2) 1 ln 0:=by
  rw [hd,S.jD,if_pos hc]
 have hf:∀ k,aD.f (k+1) a0 (p:Int) (ln:Int)=aD.l0 k a0 (p:Int) (ln:Int) ((1:Nat):Int) ((p+2:Nat):Int):=fun k=>by
  unfold aD.f;have hw2:wrap64 ((p:Int)+2)=((p+2:Nat):Int):=by unfold wrap64;omega
  have h3:=tK a0 ⟨#[47,42]⟩ p hp hs (by decide);replace h3:bC.f a0 (p:Int) ⟨#[47,42]⟩=some (([47,42]:List Int).isPrefixOf ((bytesOf a0).drop p)):=h3;rw [hd,Al,decide_eq_true hc.1,decide_eq_true hc.2] at h3;rw [aD.l0,if_neg (by omega),h3,Option.bind_some,if_pos (by rfl),show wrap64 ((0:Int)+1)=1 from (by unfold wrap64;omega),if_neg (by decide),hw2];rfl
 obtain ⟨k,rfl⟩:∃ k',k=k'+1:=⟨k - 1,by omega⟩;have hl0:=aeZ a0 hs p ln (a0.size - (p+2)) k (p+2) 1 ln 0 (by omega) (by omega) (by omega) (by omega);rw [<- e1,hsh] at hl0;rw [hf];cases hR:S.jD ((bytesOf a0).drop p) 0 0 1 0 with
 | eof =>
  rw [hR] at hl0;simp only [S.gX];exact hl0
 | done e l b =>
  rw [hR] at hl0 hsh;have hb:=S.eH _ _ _ _ _ _ _ _ hR;have hsc:=S.Ak _ _ _ _ _ _ _ _ hsh (by omega);have hid:=(S.wZ _ _ _ _ _ _ _ _ hR (.inr hst)).2;simp only [shC] at hl0 hsc;obtain ⟨k',q1,q2⟩:=hl0;obtain ⟨k',rfl⟩:∃ k2,k'=k2+1:=⟨k' - 1,by omega⟩;rw [List.length_drop,bytesOf_length] at hb;have hl1:=Uc a0 hs (p+e) (by omega) e k' p ln rfl (by omega) h1 h2;rw [if_pos trivial,Nat.add_sub_cancel_left] at hsc;rw [Nat.add_sub_cancel_left,<- hsc] at hl1;rw [Nat.sub_zero] at hid;simp only [S.gX];rw [q2,aD.j1,hl1];by_cases hb0:b=0
  ·subst hb0
   simp only [if_true];exact ⟨trivial,by omega⟩
  have e3:ln - 1+b=ln+(b - 1):=by omega
  have e4:¬ ln - 1+b=0:=by omega
  simp only [if_neg hb0,if_neg e4,e3];rw [if_neg (by omega)];rfl
end Go.Proofs.YtkkpjonfaflkmaaGreatDoor.T
namespace Go.Proofs.YtkkpjonfaflkmaaGreatDoor.T
open Go.RowKit Go.Proofs.aj.aI Go.Proofs.aj.aY Go.Proofs.aj.bq
theorem vT (q:Int) (p:Nat):∀ (xs:List Int) (i:Nat) (acc:List Int),S.lit q xs (p+i) acc=(S.lit q xs i acc).map fun r=>(r.1,p+r.2)
 | [],_,_=>rfl
 | [c],i,acc=>by
  rw [S.lit,S.lit];by_cases h1:c=10
  ·rw [if_pos h1,if_pos h1];rfl
  rw [if_neg h1,if_neg h1];by_cases h2:c=q
  ·rw [if_pos h2,if_pos h2];rfl
  ·rw [if_neg h2,if_neg h2];rfl
 | c::d::t,i,acc=>by
  rw [S.lit,S.lit];by_cases h1:c=10
  ·rw [if_pos h1,if_pos h1];rfl
  rw [if_neg h1,if_neg h1];by_cases h2:c=q
  ·rw [if_pos h2,if_pos h2]
   by_cases h3:d=q
   ·rw [if_pos h3,if_pos h3];exact vT q p t (i+2) _
   ·rw [if_neg h3,if_neg h3];rfl
  ·rw [if_neg h2,if_neg h2];exact vT q p (d::t) (i+1) _
theorem Ud (p ln:Nat) (v:List Int) (n:Nat):BP (ln:Int) v (p+n)=Qn 2 p ln (S.jR v n):=by
 unfold BP S.jR;split<;>rfl
theorem Ue (a0:ByteArray) (hs:a0.size<=100000) (p ln:Nat) (hp:p < a0.size) (hq:bt a0 (p:Int)=39\/bt a0 (p:Int)=34) (k:Nat) (hk:8*a0.size+2000 < k):eX.f k a0 (p:Int) (ln:Int)=some (Qn 2 p ln (S.dZ ((bytesOf a0).drop p))):=by
 unfold eX.f;rw [if_pos ⟨by omega,by omega,hs,hq⟩,Int.toNat_natCast];have hd:=fB a0 (i:=p) hp;obtain ⟨q,hqq⟩:∃ q,bt a0 (p:Int)=q:=⟨_,rfl⟩;rw [hqq] at hd |-
 rw [vT q p ((bytesOf a0).drop (p+1)) 1 [],hd];simp only [S.dZ];cases hl:S.lit q ((bytesOf a0).drop (p+1)) 1 [] with
 | none=>rfl
 | some r =>
  obtain ⟨v,i⟩:=r;simp only [Option.map_some,abH];congr 1
  have hdr:(q::(bytesOf a0).drop (p+1)).drop (i+1)=(bytesOf a0).drop (p+i+1):=by
   rw [<- hd,List.drop_drop,show p+(i+1)=p+i+1 by omega]
  simp only [hdr];by_cases hv:v.all S.iT=true
  ·simp only [if_pos hv]
   by_cases hs0:S.sfx ((bytesOf a0).drop (p+i+1))=0
   ·simp only [if_pos hs0]
    exact Ud p ln v (i+1)
   simp only [if_neg hs0];cases S.eU v (S.sfx ((bytesOf a0).drop (p+i+1))) with
   | none=>rfl
   | some w=>exact Ud p ln w (i+2)
  ·simp only [if_neg hv];rfl
theorem Uf (a0:ByteArray) (hs:a0.size<=100000) (p ln:Nat) (hp:p < a0.size) (h10:bt a0 (p:Int)≠10) (h32:bt a0 (p:Int)≠32) (hst:S.dQ ((bytesOf a0).drop p)=false) (k:Nat) (hk:8*a0.size+3000 < k) :
  match S.step ((bytesOf a0).drop p) with
  | .tok kd t n=>aV.f k a0 (p:Int) (ln:Int)=some (((kd:Nat):Int),strOfNums t,((p+n:Nat):Int),0,0)
  | .err c dl=>aV.f k a0 (p:Int) (ln:Int)=some (0,⟨#[]⟩,0,(c:Int),(ln:Int))/\dl=0
  | _=>False:=by
 have hd:=fB a0 (i:=p) hp;have key:∀ kd r,aV.f k a0 (p:Int) (ln:Int)=some (Qn kd p ln r)->match S.gK kd r with
  | .tok kd t n=>aV.f k a0 (p:Int) (ln:Int)=some (((kd:Nat):Int),strOfNums t,((p+n:Nat):Int),0,0)
  | .err c dl=>aV.f k a0 (p:Int) (ln:Int)=some (0,⟨#[]⟩,0,(c:Int),(ln:Int))/\dl=0
  | _=>False:=fun kd r h=>by
  cases r with
  | err c=>exact ⟨h,rfl⟩
  | ok t n=>exact h
 have hstep:S.step ((bytesOf a0).drop p)=if bt a0 (p:Int)=39\/bt a0 (p:Int)=34 then S.gK 2 (S.dZ ((bytesOf a0).drop p)) else if S.sym (bt a0 (p:Int))=true then S.gK 1 (S.iH ((bytesOf a0).drop p)) else S.gK 3 (S.gJ ((bytesOf a0).drop p)):=by
  rw [hd] at hst |-
  simp only [S.step];rw [if_neg h10,if_neg h32,if_neg (by rw [hst];decide)]
 rw [hstep];obtain ⟨k,rfl⟩:∃ k',k=k'+1:=⟨k - 1,by omega⟩;have hf:∀ b:Bool,b=(decide (bt a0 (p:Int)=39)||decide (bt a0 (p:Int)=34))->aV.f (k+1) a0 (p:Int) (ln:Int)=aV.j0 (k+1) a0 (p:Int) (ln:Int) b:=fun b hb=>by
  unfold aV.f;rw [if_pos (by omega),if_pos (by omega)];by_cases c1:bt a0 (p:Int)=39
  ·rw [if_pos c1,hb,decide_eq_true c1];rfl
  ·rw [if_neg c1,hb,decide_eq_false c1];rfl
 by_cases hq:bt a0 (p:Int)=39\/bt a0 (p:Int)=34
 ·rw [if_pos hq]
  apply key
  rw [hf true (by rw [<- Bool.decide_or];exact (decide_eq_true hq).symm),aV.j0,if_pos rfl,Ue a0 hs p ln hp hq k (by omega),Option.bind_some]
 rw [if_neg hq];have hf2:=hf false (by rw [<- Bool.decide_or];exact (decide_eq_false hq).symm);rw [aV.j0,if_neg Bool.false_ne_true,if_pos (by omega),if_pos (by omega),Jv,Option.bind_some] at hf2;by_cases hc:S.sym (bt a0 (p:Int))=true
 ·rw [if_pos hc]
  apply key
  rw [hf2,if_pos hc,TV a0 hs p ln (by omega) k (by omega),Option.bind_some]
 rw [if_neg hc];apply key
 rw [hf2,if_neg hc];have hsg:=Qo;cases hS:fT.f with
 | none=>rw [hS] at hsg;cases hsg
 | some L =>
  rw [hS] at hsg;simp only [Option.map_some,Option.some.injEq] at hsg;rw [Option.bind_some];have hll:L.length=35:=by
   have:=congrArg List.length hsg;rw [List.length_map] at this;exact this
  exact JG a0 hs p ln (by omega) L hsg 35 k 0 (by omega) (by omega)
end Go.Proofs.YtkkpjonfaflkmaaGreatDoor.T
