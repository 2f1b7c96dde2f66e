/- For ScanTokens: its callees return what is said of them. -/
import Derived.Test.YtkkpjonfaflkmaaGreatDoorCScanTokens20
namespace Go.Proofs.YtkkpjonfaflkmaaGreatDoor.T
open Go.RowKit Go.Proofs.ah.aT Go.Proofs.ah.bn Go.Proofs.ah.bA
set_option linter.unusedSimpArgs false
set_option linter.unusedVariables false
attribute [local go_sem] fB fC gI gJ eD eF fD fE   -- for this text's walks alone
mutual
def aJ.j1:Nat->ByteArray->Int->Int->Int->Option (Int × ByteArray × Int × Int × Int)
 | 0,_,_,_,_=>none
 | k+1,x0,x1,x2,x8=>aJ.l1 k x0 x8 x2 x1
def aJ.l1:Nat->ByteArray->Int->Int->Int->Option (Int × ByteArray × Int × Int × Int)
 | 0,_,_,_,_=>none
 | k+1,x0,x8,x9,x10=>if x10 < x8 then (if 0<=x10 then (if x10 < (x0.size:Int) then (if (bt x0 x10)=10 then (aJ.l1 k x0 x8 (wrap64 (x9+1)) (wrap64 (x10+1))) else (if (bt x0 x10) < 32 then (some (0,(⟨#[]⟩:ByteArray),0,13,x9)) else (if (bt x0 x10) > 126 then (some (0,(⟨#[]⟩:ByteArray),0,13,x9)) else (aJ.l1 k x0 x8 x9 (wrap64 (x10+1)))))) else (none)) else (none)) else (some (0,(⟨#[]⟩:ByteArray),x8,0,0))
def aJ.l0:Nat->ByteArray->Int->Int->Int->Int->Option (Int × ByteArray × Int × Int × Int)
 | 0,_,_,_,_,_=>none
 | k+1,x0,x1,x2,x7,x8=>if x8>=(x0.size:Int) then (some (0,(⟨#[]⟩:ByteArray),0,6,x2)) else ((bI.f x0 x8 (⟨#[47,42]⟩:ByteArray)).bind fun Vq=>(if Vq=true then (if (wrap64 (x7+1))=0 then (aJ.j1 k x0 x1 x2 (wrap64 (x8+2))) else (aJ.l0 k x0 x1 x2 (wrap64 (x7+1)) (wrap64 (x8+2)))) else ((bI.f x0 x8 (⟨#[42,47]⟩:ByteArray)).bind fun t156=>(if t156=true then (if (wrap64 (x7 - 1))=0 then (aJ.j1 k x0 x1 x2 (wrap64 (x8+2))) else (aJ.l0 k x0 x1 x2 (wrap64 (x7 - 1)) (wrap64 (x8+2)))) else (if x7=0 then (aJ.j1 k x0 x1 x2 (wrap64 (x8+1))) else (aJ.l0 k x0 x1 x2 x7 (wrap64 (x8+1))))))))
end
def aJ.f (k:Nat) (a0:ByteArray) (a1:Int) (a2:Int):Option (Int × ByteArray × Int × Int × Int):=aJ.l0 k a0 a1 a2 0 a1
set_option maxHeartbeats 8000000 in
set_option maxRecDepth 100000 in
theorem aJ.calls (k:Nat) (a0:ByteArray) (a1:Int) (a2:Int) (r1:Int) (r2:ByteArray) (r3:Int) (r4:Int) (r5:Int) (w:World) (h:aJ.f k a0 a1 a2=some (r1,r2,r3,r4,r5)) :
  Calls Tryz.prog 83 #[.string a0,.int .i64 a1,.int .i64 a2] w fun e w'=>e=.returned (.agg #[.int .i64 r1,.string r2,.int .i64 r3,.int .i64 r4,.int .i64 r5])/\Below w.heap.size w w':=by
 have Zl:=Tryz.underlying82;have HB:=aj.mk (Below.refl w.heap.size w);have H:(aJ.l0 k a0 a1 a2 0 a1)=some (r1,r2,r3,r4,r5):=h;clear h;have Ig:=aj.mk H;clear H;go_enter Tryz.func83,Tryz.ntmps83
 go_upto_block 0 with (first | ((with_reducible refine jW (N:=6) rfl ?_);refine jG ?hg (N:=6) ?hd (cs:=#[.int .i64 0,.string (⟨#[]⟩:ByteArray),.int .i64 0,.int .i64 0,.int .i64 0]) (t:=82) ?hr ?_;(case hd=>rfl);(case hg=>rfl);(case hr=>first | (go_simp;done) | (go_simp;rfl));intro jq hg w5 lM hb;have dW:=aj.mk (bH (by repeat (first | (with_reducible first | exact HB.out | apply ay | apply ak | apply aD) | exact HB.out)) hb);have fF:=aj.mk (lM);have jJ:=aj.mk ((by rw [hg];exact (bR (by repeat (first | (with_reducible first | exact HB.out | apply ay | apply ak | apply aD) | exact HB.out))):w.heap.size<=jq));have lZ:=aj.mk ((by rw [hg];exact (bR (by repeat (first | (with_reducible first | exact HB.out | apply ay | apply ak | apply aD) | exact HB.out))):w.heap.size<=jq));clear HB;have HB:=dW;have dZ:=fF;have aly:=jJ;have qV:=lZ;clear dW fF jJ lZ;clear hb lM hg))
 (try simp only [Act.put,List.setIfInBounds_toArray,List.set_cons_zero,List.set_cons_succ])
 go_cut [8] (fun v8 wc=>∃ (kq:Nat) (Dp:Int) (zf:Int) (zh:ByteArray) (zi:Int) (zk:Int) (zm:Int),v8=.int .i64 Dp/\aj (aJ.j1 kq a0 a1 a2 Dp=some (r1,r2,r3,r4,r5))/\aj (kq<=k)/\aj (wc.heap[jq]?=some (.cells #[.int .i64 zf,.string zh,.int .i64 zi,.int .i64 zk,.int .i64 zm] 82 (0,0)))/\aj (Below w.heap.size w wc))
 case first =>
  have H:=Ig.out;clear Ig;have H':=aj.mk H;clear H;go_wp2;go_loopg [7,8] k (fun kq v7 v8 w'=>∃ (iC:Int) (dB:Int) (kg:Int) (jL:ByteArray) (jl:Int) (jh:Int) (iN:Int),v7=.int .i64 iC/\v8=.int .i64 dB/\aj (aJ.l0 kq a0 a1 a2 iC dB=some (r1,r2,r3,r4,r5))/\aj (kq<=k)/\aj (w'.heap[jq]?=some (.cells #[.int .i64 kg,.string jL,.int .i64 jl,.int .i64 jh,.int .i64 iN] 82 (0,0)))/\aj (Below w.heap.size w w'))
  case atStart=>exact ⟨(0),(a1),(0),((⟨#[]⟩:ByteArray)),(0),(0),(0),(by first | rfl | (simp;done) | (simp [*];done)),(by first | rfl | (simp;done) | (simp [*];done)),H',⟨Nat.le_refl _⟩,⟨by (with_reducible repeat (first | refine aH ?_ _ | refine aI ?_ | refine aG ?_ _));exact dZ.out⟩,⟨by repeat (first | (with_reducible first | exact HB.out | apply ay | apply ak | apply aD | refine aQ ?_ qV.out) | exact HB.out)⟩⟩
  case round =>
   clear H';obtain ⟨iC,dB,kg,jL,jl,jh,iN,rfl,rfl,HA,jQ,dZ,HB⟩:=hrel;cases gk with
   | zero=>exact absurd HA.out (by simp [aJ.l0])
   | succ k1 =>
    have H:=HA.out;clear HA;simp only [aJ.l0] at H;by_cases c6:dB>=(a0.size:Int)
    ·rw [if_pos c6] at H
     have kP:decide ((a0.size:Int)<=dB)=true:=decide_eq_true c6;clear c6
     (first | rw [kP] | (simp only [dx,dK];rw [kP]) | skip)
     simp only [Option.some.injEq,Prod.mk.injEq] at H;obtain ⟨rfl,rfl,rfl,rfl,rfl⟩:=H;have ZF:wr.cell? ⟨jq,0,none⟩=some (.int .i64 kg):=(au dZ.out 0).trans rfl;have ZG:wr.cell? ⟨jq,1,none⟩=some (.string jL):=(au dZ.out 1).trans rfl;have ZH:wr.cell? ⟨jq,2,none⟩=some (.int .i64 jl):=(au dZ.out 2).trans rfl;have ZI:wr.cell? ⟨jq,3,none⟩=some (.int .i64 jh):=(au dZ.out 3).trans rfl;have ZJ:wr.cell? ⟨jq,4,none⟩=some (.int .i64 iN):=(au dZ.out 4).trans rfl;have ZK:=aA dZ.out 0;have ZL:=aA dZ.out 1;have ZM:=aA dZ.out 2;have ZN:=aA dZ.out 3;have ZO:=aA dZ.out 4;go_wp2;refine bodyPost_ret (results_cell_row rfl _ _ jq 82 #[.int .i64 0,.string (⟨#[]⟩:ByteArray),.int .i64 0,.int .i64 6,.int .i64 a2] (0,0) _ rfl (by (with_reducible repeat (first | refine aH ?_ _ | refine aI ?_ | refine aG ?_ _));refine aR (cs:=#[.int .i64 0,.string (⟨#[]⟩:ByteArray),.int .i64 0,.int .i64 6,.int .i64 iN]) ?_ 4 _ rfl;(with_reducible repeat (first | refine aH ?_ _ | refine aI ?_ | refine aG ?_ _));refine aR (cs:=#[.int .i64 0,.string (⟨#[]⟩:ByteArray),.int .i64 0,.int .i64 jh,.int .i64 iN]) ?_ 3 _ rfl;(with_reducible repeat (first | refine aH ?_ _ | refine aI ?_ | refine aG ?_ _));refine aR (cs:=#[.int .i64 0,.string (⟨#[]⟩:ByteArray),.int .i64 jl,.int .i64 jh,.int .i64 iN]) ?_ 2 _ rfl;(with_reducible repeat (first | refine aH ?_ _ | refine aI ?_ | refine aG ?_ _));refine aR (cs:=#[.int .i64 0,.string jL,.int .i64 jl,.int .i64 jh,.int .i64 iN]) ?_ 1 _ rfl;(with_reducible repeat (first | refine aH ?_ _ | refine aI ?_ | refine aG ?_ _));refine aR (cs:=#[.int .i64 kg,.string jL,.int .i64 jl,.int .i64 jh,.int .i64 iN]) ?_ 0 _ rfl;(with_reducible repeat (first | refine aH ?_ _ | refine aI ?_ | refine aG ?_ _));exact dZ.out) Tryz.underlying82 rfl (by kernel_rfl)) rfl ?_;exact ⟨by first | rfl | (simp [aV,aW]<;>rfl) | (simp [*,aV,aW]<;>rfl),by repeat (first | (with_reducible first | exact HB.out | apply ay | apply ak | apply aD | refine aQ ?_ qV.out) | exact HB.out)⟩
    rw [if_neg c6] at H;have kP:decide ((a0.size:Int)<=dB)=false:=decide_eq_false c6;clear c6
    (first | rw [kP] | (simp only [dx,dK];rw [kP]) | skip)
    replace H:=Option.bind_eq_some_iff.mp H;obtain ⟨Vq,A80,H⟩:=H;replace H:(if Vq=true then (if (wrap64 (iC+1))=0 then (aJ.j1 k1 a0 a1 a2 (wrap64 (dB+2))) else (aJ.l0 k1 a0 a1 a2 (wrap64 (iC+1)) (wrap64 (dB+2)))) else ((bI.f a0 dB (⟨#[42,47]⟩:ByteArray)).bind fun t156=>(if t156=true then (if (wrap64 (iC - 1))=0 then (aJ.j1 k1 a0 a1 a2 (wrap64 (dB+2))) else (aJ.l0 k1 a0 a1 a2 (wrap64 (iC - 1)) (wrap64 (dB+2)))) else (if iC=0 then (aJ.j1 k1 a0 a1 a2 (wrap64 (dB+1))) else (aJ.l0 k1 a0 a1 a2 iC (wrap64 (dB+1)))))))=some (r1,r2,r3,r4,r5):=H;have A8:=aj.mk A80;clear A80;by_cases c9:Vq=true
    ·subst c9
     rw [if_pos rfl] at H;by_cases c10:(wrap64 (iC+1))=0
     ·rw [if_pos c10] at H
      have tH:((wrap64 (iC+1))==0)=true:=beq_iff_eq.mpr c10;have Rt:((wrap64 (iC+1)) != 0)=false:=bne_eq_false_iff_eq.mpr c10;clear c10;have H':=aj.mk H;clear H;go_wp2_with (first | ((with_reducible refine bg (f:=80) rfl ?_);refine cO (some 24) rfl rfl Tryz.func80 (by kernel_rfl) rfl #[.string a0,.int .i64 dB,.string (⟨#[47,42]⟩:ByteArray)] rfl (by (try simp only [List.map_toArray,List.map_cons,List.map_nil]);first | done | rfl | (simp only [List.length_drop,List.length_take];rfl)) ?_;(with_reducible refine (bI.calls a0 dB (⟨#[47,42]⟩:ByteArray) true _ A8.out).mono ?_);rintro e w' ⟨rfl,⟨nd,rfl⟩⟩;refine ⟨_,rfl,?_⟩))
      go_meet
      case rel=>exact ⟨_,(wrap64 (dB+2)),(kg),(jL),(jl),(jh),(iN),(by first | rfl | (simp;done) | (simp [*];done)),H',⟨by have:=jQ.out;first | omega | exact Nat.le_refl _⟩,⟨by (with_reducible repeat (first | refine aH ?_ _ | refine aI ?_ | refine aG ?_ _));exact dZ.out⟩,⟨by repeat (first | (with_reducible first | exact HB.out | apply ay | apply ak | apply aD | refine aQ ?_ qV.out) | exact HB.out)⟩⟩
     rw [if_neg c10] at H;have tH:((wrap64 (iC+1))==0)=false:=beq_eq_false_iff_ne.mpr c10;have Rt:((wrap64 (iC+1)) != 0)=true:=bne_iff_ne.mpr c10;have H':=aj.mk H;clear H;go_wp2_with (first | ((with_reducible refine bg (f:=80) rfl ?_);refine cO (some 24) rfl rfl Tryz.func80 (by kernel_rfl) rfl #[.string a0,.int .i64 dB,.string (⟨#[47,42]⟩:ByteArray)] rfl (by (try simp only [List.map_toArray,List.map_cons,List.map_nil]);first | done | rfl | (simp only [List.length_drop,List.length_take];rfl)) ?_;(with_reducible refine (bI.calls a0 dB (⟨#[47,42]⟩:ByteArray) true _ A8.out).mono ?_);rintro e w' ⟨rfl,⟨nd,rfl⟩⟩;refine ⟨_,rfl,?_⟩))
     go_roundg k1
     case measure=>have:=jQ.out;omega
     case rel=>exact ⟨(wrap64 (iC+1)),(wrap64 (dB+2)),(kg),(jL),(jl),(jh),(iN),(by first | rfl | (simp;done) | (simp [*];done)),(by first | rfl | (simp;done) | (simp [*];done)),H',⟨by have:=jQ.out;omega⟩,⟨by (with_reducible repeat (first | refine aH ?_ _ | refine aI ?_ | refine aG ?_ _));exact dZ.out⟩,⟨by repeat (first | (with_reducible first | exact HB.out | apply ay | apply ak | apply aD | refine aQ ?_ qV.out) | exact HB.out)⟩⟩
    replace c9:=Bool.eq_false_iff.mpr c9;subst c9;rw [if_neg (show ¬ (false=true) by decide)] at H;replace H:=Option.bind_eq_some_iff.mp H;obtain ⟨t156,Qc,H⟩:=H;replace H:(if t156=true then (if (wrap64 (iC - 1))=0 then (aJ.j1 k1 a0 a1 a2 (wrap64 (dB+2))) else (aJ.l0 k1 a0 a1 a2 (wrap64 (iC - 1)) (wrap64 (dB+2)))) else (if iC=0 then (aJ.j1 k1 a0 a1 a2 (wrap64 (dB+1))) else (aJ.l0 k1 a0 a1 a2 iC (wrap64 (dB+1)))))=some (r1,r2,r3,r4,r5):=H;have A11:=aj.mk Qc;clear Qc;by_cases c12:t156=true
    ·subst c12
     rw [if_pos rfl] at H;by_cases c13:(wrap64 (iC - 1))=0
     ·rw [if_pos c13] at H
      have DV:((wrap64 (iC - 1))==0)=true:=beq_iff_eq.mpr c13;have Xp:((wrap64 (iC - 1)) != 0)=false:=bne_eq_false_iff_eq.mpr c13;clear c13;have H':=aj.mk H;clear H;go_wp2_with (first | ((with_reducible refine bg (f:=80) rfl ?_);refine cO (some 24) rfl rfl Tryz.func80 (by kernel_rfl) rfl #[.string a0,.int .i64 dB,.string (⟨#[47,42]⟩:ByteArray)] rfl (by (try simp only [List.map_toArray,List.map_cons,List.map_nil]);first | done | rfl | (simp only [List.length_drop,List.length_take];rfl)) ?_;(with_reducible refine (bI.calls a0 dB (⟨#[47,42]⟩:ByteArray) false _ A8.out).mono ?_);rintro e w' ⟨rfl,⟨nd,rfl⟩⟩;refine ⟨_,rfl,?_⟩) | ((with_reducible refine bg (f:=80) rfl ?_);refine cO (some 32) rfl rfl Tryz.func80 (by kernel_rfl) rfl #[.string a0,.int .i64 dB,.string (⟨#[42,47]⟩:ByteArray)] rfl (by (try simp only [List.map_toArray,List.map_cons,List.map_nil]);first | done | rfl | (simp only [List.length_drop,List.length_take];rfl)) ?_;(with_reducible refine (bI.calls a0 dB (⟨#[42,47]⟩:ByteArray) true _ A11.out).mono ?_);rintro e w' ⟨rfl,⟨nd,rfl⟩⟩;refine ⟨_,rfl,?_⟩))
      go_meet
      case rel=>exact ⟨_,(wrap64 (dB+2)),(kg),(jL),(jl),(jh),(iN),(by first | rfl | (simp;done) | (simp [*];done)),H',⟨by have:=jQ.out;first | omega | exact Nat.le_refl _⟩,⟨by (with_reducible repeat (first | refine aH ?_ _ | refine aI ?_ | refine aG ?_ _));exact dZ.out⟩,⟨by repeat (first | (with_reducible first | exact HB.out | apply ay | apply ak | apply aD | refine aQ ?_ qV.out) | exact HB.out)⟩⟩
     rw [if_neg c13] at H;have DV:((wrap64 (iC - 1))==0)=false:=beq_eq_false_iff_ne.mpr c13;have Xp:((wrap64 (iC - 1)) != 0)=true:=bne_iff_ne.mpr c13;have H':=aj.mk H;clear H;go_wp2_with (first | ((with_reducible refine bg (f:=80) rfl ?_);refine cO (some 24) rfl rfl Tryz.func80 (by kernel_rfl) rfl #[.string a0,.int .i64 dB,.string (⟨#[47,42]⟩:ByteArray)] rfl (by (try simp only [List.map_toArray,List.map_cons,List.map_nil]);first | done | rfl | (simp only [List.length_drop,List.length_take];rfl)) ?_;(with_reducible refine (bI.calls a0 dB (⟨#[47,42]⟩:ByteArray) false _ A8.out).mono ?_);rintro e w' ⟨rfl,⟨nd,rfl⟩⟩;refine ⟨_,rfl,?_⟩) | ((with_reducible refine bg (f:=80) rfl ?_);refine cO (some 32) rfl rfl Tryz.func80 (by kernel_rfl) rfl #[.string a0,.int .i64 dB,.string (⟨#[42,47]⟩:ByteArray)] rfl (by (try simp only [List.map_toArray,List.map_cons,List.map_nil]);first | done | rfl | (simp only [List.length_drop,List.length_take];rfl)) ?_;(with_reducible refine (bI.calls a0 dB (⟨#[42,47]⟩:ByteArray) true _ A11.out).mono ?_);rintro e w' ⟨rfl,⟨nd,rfl⟩⟩;refine ⟨_,rfl,?_⟩))
     go_roundg k1
     case measure=>have:=jQ.out;omega
     case rel=>exact ⟨(wrap64 (iC - 1)),(wrap64 (dB+2)),(kg),(jL),(jl),(jh),(iN),(by first | rfl | (simp;done) | (simp [*];done)),(by first | rfl | (simp;done) | (simp [*];done)),H',⟨by have:=jQ.out;omega⟩,⟨by (with_reducible repeat (first | refine aH ?_ _ | refine aI ?_ | refine aG ?_ _));exact dZ.out⟩,⟨by repeat (first | (with_reducible first | exact HB.out | apply ay | apply ak | apply aD | refine aQ ?_ qV.out) | exact HB.out)⟩⟩
    replace c12:=Bool.eq_false_iff.mpr c12;subst c12;rw [if_neg (show ¬ (false=true) by decide)] at H;by_cases c14:iC=0
    ·rw [if_pos c14] at H
     have Bq:(iC==0)=true:=beq_iff_eq.mpr c14;have Xq:(iC != 0)=false:=bne_eq_false_iff_eq.mpr c14;clear c14;have H':=aj.mk H;clear H;go_wp2_with (first | ((with_reducible refine bg (f:=80) rfl ?_);refine cO (some 24) rfl rfl Tryz.func80 (by kernel_rfl) rfl #[.string a0,.int .i64 dB,.string (⟨#[47,42]⟩:ByteArray)] rfl (by (try simp only [List.map_toArray,List.map_cons,List.map_nil]);first | done | rfl | (simp only [List.length_drop,List.length_take];rfl)) ?_;(with_reducible refine (bI.calls a0 dB (⟨#[47,42]⟩:ByteArray) false _ A8.out).mono ?_);rintro e w' ⟨rfl,⟨nd,rfl⟩⟩;refine ⟨_,rfl,?_⟩) | ((with_reducible refine bg (f:=80) rfl ?_);refine cO (some 32) rfl rfl Tryz.func80 (by kernel_rfl) rfl #[.string a0,.int .i64 dB,.string (⟨#[42,47]⟩:ByteArray)] rfl (by (try simp only [List.map_toArray,List.map_cons,List.map_nil]);first | done | rfl | (simp only [List.length_drop,List.length_take];rfl)) ?_;(with_reducible refine (bI.calls a0 dB (⟨#[42,47]⟩:ByteArray) false _ A11.out).mono ?_);rintro e w' ⟨rfl,⟨nd,rfl⟩⟩;refine ⟨_,rfl,?_⟩))
     go_meet
     case rel=>exact ⟨_,(wrap64 (dB+1)),(kg),(jL),(jl),(jh),(iN),(by first | rfl | (simp;done) | (simp [*];done)),H',⟨by have:=jQ.out;first | omega | exact Nat.le_refl _⟩,⟨by (with_reducible repeat (first | refine aH ?_ _ | refine aI ?_ | refine aG ?_ _));exact dZ.out⟩,⟨by repeat (first | (with_reducible first | exact HB.out | apply ay | apply ak | apply aD | refine aQ ?_ qV.out) | exact HB.out)⟩⟩
    rw [if_neg c14] at H;have Bq:(iC==0)=false:=beq_eq_false_iff_ne.mpr c14;have Xq:(iC != 0)=true:=bne_iff_ne.mpr c14;have H':=aj.mk H;clear H;go_wp2_with (first | ((with_reducible refine bg (f:=80) rfl ?_);refine cO (some 24) rfl rfl Tryz.func80 (by kernel_rfl) rfl #[.string a0,.int .i64 dB,.string (⟨#[47,42]⟩:ByteArray)] rfl (by (try simp only [List.map_toArray,List.map_cons,List.map_nil]);first | done | rfl | (simp only [List.length_drop,List.length_take];rfl)) ?_;(with_reducible refine (bI.calls a0 dB (⟨#[47,42]⟩:ByteArray) false _ A8.out).mono ?_);rintro e w' ⟨rfl,⟨nd,rfl⟩⟩;refine ⟨_,rfl,?_⟩) | ((with_reducible refine bg (f:=80) rfl ?_);refine cO (some 32) rfl rfl Tryz.func80 (by kernel_rfl) rfl #[.string a0,.int .i64 dB,.string (⟨#[42,47]⟩:ByteArray)] rfl (by (try simp only [List.map_toArray,List.map_cons,List.map_nil]);first | done | rfl | (simp only [List.length_drop,List.length_take];rfl)) ?_;(with_reducible refine (bI.calls a0 dB (⟨#[42,47]⟩:ByteArray) false _ A11.out).mono ?_);rintro e w' ⟨rfl,⟨nd,rfl⟩⟩;refine ⟨_,rfl,?_⟩))
    go_roundg k1
    case measure=>have:=jQ.out;omega
    case rel=>exact ⟨(iC),(wrap64 (dB+1)),(kg),(jL),(jl),(jh),(iN),(by first | rfl | (simp;done) | (simp [*];done)),(by first | rfl | (simp;done) | (simp [*];done)),H',⟨by have:=jQ.out;omega⟩,⟨by (with_reducible repeat (first | refine aH ?_ _ | refine aI ?_ | refine aG ?_ _));exact dZ.out⟩,⟨by repeat (first | (with_reducible first | exact HB.out | apply ay | apply ak | apply aD | refine aQ ?_ qV.out) | exact HB.out)⟩⟩
 case rest =>
  clear Ig;obtain ⟨kq,Dp,zf,zh,zi,zk,zm,rfl,HA,Jw,dZ,HB⟩:=hcut;cases kq with
  | zero=>exact absurd HA.out (by simp [aJ.j1])
  | succ yY =>
   have H:=HA.out;clear HA;simp only [aJ.j1] at H;have H':=aj.mk H;clear H;go_wp2;go_loopg [9,10] yY (fun kq v9 v10 w'=>∃ (Lb:Int) (dL:Int) (ko:Int) (ji:ByteArray) (gN:Int) (fQ:Int) (eT:Int),v9=.int .i64 Lb/\v10=.int .i64 dL/\aj (aJ.l1 kq a0 Dp Lb dL=some (r1,r2,r3,r4,r5))/\aj (kq<=yY)/\aj (w'.heap[jq]?=some (.cells #[.int .i64 ko,.string ji,.int .i64 gN,.int .i64 fQ,.int .i64 eT] 82 (0,0)))/\aj (Below w.heap.size w w'))
   case atStart=>exact ⟨(a2),(a1),(zf),(zh),(zi),(zk),(zm),(by first | rfl | (simp;done) | (simp [*];done)),(by first | rfl | (simp;done) | (simp [*];done)),H',⟨Nat.le_refl _⟩,⟨by (with_reducible repeat (first | refine aH ?_ _ | refine aI ?_ | refine aG ?_ _));exact dZ.out⟩,⟨by repeat (first | (with_reducible first | exact HB.out | apply ay | apply ak | apply aD | refine aQ ?_ qV.out) | exact HB.out)⟩⟩
   case round =>
    clear H';obtain ⟨Lb,dL,ko,ji,gN,fQ,eT,rfl,rfl,HA,CY,dZ,HB⟩:=hrel;cases gk with
    | zero=>exact absurd HA.out (by simp [aJ.l1])
    | succ k2 =>
     have H:=HA.out;clear HA;simp only [aJ.l1] at H;by_cases c15:dL < Dp
     rotate_left
     ·rw [if_neg c15] at H
      have Dz:decide (dL < Dp)=false:=decide_eq_false c15;clear c15;simp only [Option.some.injEq,Prod.mk.injEq] at H;obtain ⟨rfl,rfl,rfl,rfl,rfl⟩:=H;have Vr:wr.cell? ⟨jq,0,none⟩=some (.int .i64 ko):=(au dZ.out 0).trans rfl;have Vs:wr.cell? ⟨jq,1,none⟩=some (.string ji):=(au dZ.out 1).trans rfl;have Vt:wr.cell? ⟨jq,2,none⟩=some (.int .i64 gN):=(au dZ.out 2).trans rfl;have Vu:wr.cell? ⟨jq,3,none⟩=some (.int .i64 fQ):=(au dZ.out 3).trans rfl;have ahB:wr.cell? ⟨jq,4,none⟩=some (.int .i64 eT):=(au dZ.out 4).trans rfl;have Vv:=aA dZ.out 0;have Vw:=aA dZ.out 1;have Vx:=aA dZ.out 2;have Vy:=aA dZ.out 3;have ahC:=aA dZ.out 4;go_wp2;refine bodyPost_ret (results_cell_row rfl _ _ jq 82 #[.int .i64 0,.string (⟨#[]⟩:ByteArray),.int .i64 Dp,.int .i64 0,.int .i64 0] (0,0) _ rfl (by (with_reducible repeat (first | refine aH ?_ _ | refine aI ?_ | refine aG ?_ _));refine aR (cs:=#[.int .i64 0,.string (⟨#[]⟩:ByteArray),.int .i64 Dp,.int .i64 0,.int .i64 eT]) ?_ 4 _ rfl;(with_reducible repeat (first | refine aH ?_ _ | refine aI ?_ | refine aG ?_ _));refine aR (cs:=#[.int .i64 0,.string (⟨#[]⟩:ByteArray),.int .i64 Dp,.int .i64 fQ,.int .i64 eT]) ?_ 3 _ rfl;(with_reducible repeat (first | refine aH ?_ _ | refine aI ?_ | refine aG ?_ _));refine aR (cs:=#[.int .i64 0,.string (⟨#[]⟩:ByteArray),.int .i64 gN,.int .i64 fQ,.int .i64 eT]) ?_ 2 _ rfl;(with_reducible repeat (first | refine aH ?_ _ | refine aI ?_ | refine aG ?_ _));refine aR (cs:=#[.int .i64 0,.string ji,.int .i64 gN,.int .i64 fQ,.int .i64 eT]) ?_ 1 _ rfl;(with_reducible repeat (first | refine aH ?_ _ | refine aI ?_ | refine aG ?_ _));refine aR (cs:=#[.int .i64 ko,.string ji,.int .i64 gN,.int .i64 fQ,.int .i64 eT]) ?_ 0 _ rfl;(with_reducible repeat (first | refine aH ?_ _ | refine aI ?_ | refine aG ?_ _));exact dZ.out) Tryz.underlying82 rfl (by kernel_rfl)) rfl ?_;exact ⟨by first | rfl | (simp [aV,aW]<;>rfl) | (simp [*,aV,aW]<;>rfl),by repeat (first | (with_reducible first | exact HB.out | apply ay | apply ak | apply aD | refine aQ ?_ qV.out) | exact HB.out)⟩
     rw [if_pos c15] at H;have Dz:decide (dL < Dp)=true:=decide_eq_true c15;clear c15;by_cases c16:0<=dL
     rotate_left
     ·rw [if_neg c16] at H
      exact absurd H (by simp)
     rw [if_pos c16] at H;have Br:decide (0<=dL)=true:=decide_eq_true c16;clear c16;by_cases c17:dL < (a0.size:Int)
     rotate_left
     ·rw [if_neg c17] at H
      exact absurd H (by simp)
     rw [if_pos c17] at H;have rG:decide (dL < (a0.size:Int))=true:=decide_eq_true c17;clear c17;by_cases c19:(bt a0 dL)=10
     ·rw [if_pos c19] at H
      have DU:((bt a0 dL)==10)=true:=beq_iff_eq.mpr c19;have Ru:((bt a0 dL) != 10)=false:=bne_eq_false_iff_eq.mpr c19;clear c19;have H':=aj.mk H;clear H;have Rv:0<=(dL:Int):=of_decide_eq_true (by first | (with_reducible assumption) | assumption);have Rw:dL < (a0.size:Int):=of_decide_eq_true (by first | (with_reducible assumption) | assumption);have ZP:=bY a0 dL;replace Rv:=eq_true Rv;replace Rw:=eq_true Rw;go_wp2;go_roundg k2
      case measure=>have:=Jw.out;have:=CY.out;omega
      case rel=>exact ⟨(wrap64 (Lb+1)),(wrap64 (dL+1)),(ko),(ji),(gN),(fQ),(eT),(by first | rfl | (simp;done) | (simp [*];done)),(by first | rfl | (simp;done) | (simp [*];done)),H',⟨by have:=Jw.out;have:=CY.out;omega⟩,⟨by (with_reducible repeat (first | refine aH ?_ _ | refine aI ?_ | refine aG ?_ _));exact dZ.out⟩,⟨by repeat (first | (with_reducible first | exact HB.out | apply ay | apply ak | apply aD | refine aQ ?_ qV.out) | exact HB.out)⟩⟩
     rw [if_neg c19] at H;have DU:((bt a0 dL)==10)=false:=beq_eq_false_iff_ne.mpr c19;have Ru:((bt a0 dL) != 10)=true:=bne_iff_ne.mpr c19;by_cases c21:(bt a0 dL) < 32
     ·rw [if_pos c21] at H
      have vP:decide ((bt a0 dL) < 32)=true:=decide_eq_true c21;clear c21;simp only [Option.some.injEq,Prod.mk.injEq] at H;obtain ⟨rfl,rfl,rfl,rfl,rfl⟩:=H;have Rv:0<=(dL:Int):=of_decide_eq_true (by first | (with_reducible assumption) | assumption);have Rw:dL < (a0.size:Int):=of_decide_eq_true (by first | (with_reducible assumption) | assumption);have ZP:=bY a0 dL;replace Rv:=eq_true Rv;replace Rw:=eq_true Rw;have Ih:0<=(dL:Int):=of_decide_eq_true (by first | (with_reducible assumption) | assumption);have Ii:dL < (a0.size:Int):=of_decide_eq_true (by first | (with_reducible assumption) | assumption);have Rb:=bY a0 dL;replace Ih:=eq_true Ih;replace Ii:=eq_true Ii;have Ve:wr.cell? ⟨jq,0,none⟩=some (.int .i64 ko):=(au dZ.out 0).trans rfl;have Vf:wr.cell? ⟨jq,1,none⟩=some (.string ji):=(au dZ.out 1).trans rfl;have Vg:wr.cell? ⟨jq,2,none⟩=some (.int .i64 gN):=(au dZ.out 2).trans rfl;have Vh:wr.cell? ⟨jq,3,none⟩=some (.int .i64 fQ):=(au dZ.out 3).trans rfl;have Vi:wr.cell? ⟨jq,4,none⟩=some (.int .i64 eT):=(au dZ.out 4).trans rfl;have Vj:=aA dZ.out 0;have Vk:=aA dZ.out 1;have Vl:=aA dZ.out 2;have Vm:=aA dZ.out 3;have Vn:=aA dZ.out 4;go_wp2;refine bodyPost_ret (results_cell_row rfl _ _ jq 82 #[.int .i64 0,.string (⟨#[]⟩:ByteArray),.int .i64 0,.int .i64 13,.int .i64 Lb] (0,0) _ rfl (by (with_reducible repeat (first | refine aH ?_ _ | refine aI ?_ | refine aG ?_ _));refine aR (cs:=#[.int .i64 0,.string (⟨#[]⟩:ByteArray),.int .i64 0,.int .i64 13,.int .i64 eT]) ?_ 4 _ rfl;(with_reducible repeat (first | refine aH ?_ _ | refine aI ?_ | refine aG ?_ _));refine aR (cs:=#[.int .i64 0,.string (⟨#[]⟩:ByteArray),.int .i64 0,.int .i64 fQ,.int .i64 eT]) ?_ 3 _ rfl;(with_reducible repeat (first | refine aH ?_ _ | refine aI ?_ | refine aG ?_ _));refine aR (cs:=#[.int .i64 0,.string (⟨#[]⟩:ByteArray),.int .i64 gN,.int .i64 fQ,.int .i64 eT]) ?_ 2 _ rfl;(with_reducible repeat (first | refine aH ?_ _ | refine aI ?_ | refine aG ?_ _));refine aR (cs:=#[.int .i64 0,.string ji,.int .i64 gN,.int .i64 fQ,.int .i64 eT]) ?_ 1 _ rfl;(with_reducible repeat (first | refine aH ?_ _ | refine aI ?_ | refine aG ?_ _));refine aR (cs:=#[.int .i64 ko,.string ji,.int .i64 gN,.int .i64 fQ,.int .i64 eT]) ?_ 0 _ rfl;(with_reducible repeat (first | refine aH ?_ _ | refine aI ?_ | refine aG ?_ _));exact dZ.out) Tryz.underlying82 rfl (by kernel_rfl)) rfl ?_;exact ⟨by first | rfl | (simp [aV,aW]<;>rfl) | (simp [*,aV,aW]<;>rfl),by repeat (first | (with_reducible first | exact HB.out | apply ay | apply ak | apply aD | refine aQ ?_ qV.out) | exact HB.out)⟩
     rw [if_neg c21] at H;have vP:decide ((bt a0 dL) < 32)=false:=decide_eq_false c21;clear c21;by_cases c24:(bt a0 dL) > 126
     rotate_left
     ·rw [if_neg c24] at H
      have Rx:decide (126 < (bt a0 dL))=false:=decide_eq_false c24;clear c24;have H':=aj.mk H;clear H;have Rv:0<=(dL:Int):=of_decide_eq_true (by first | (with_reducible assumption) | assumption);have Rw:dL < (a0.size:Int):=of_decide_eq_true (by first | (with_reducible assumption) | assumption);have ZP:=bY a0 dL;replace Rv:=eq_true Rv;replace Rw:=eq_true Rw;have Ih:0<=(dL:Int):=of_decide_eq_true (by first | (with_reducible assumption) | assumption);have Ii:dL < (a0.size:Int):=of_decide_eq_true (by first | (with_reducible assumption) | assumption);have Rb:=bY a0 dL;replace Ih:=eq_true Ih;replace Ii:=eq_true Ii;have p23:0<=(dL:Int):=of_decide_eq_true (by first | (with_reducible assumption) | assumption);have q23:dL < (a0.size:Int):=of_decide_eq_true (by first | (with_reducible assumption) | assumption);have ajE:=bY a0 dL;replace p23:=eq_true p23;replace q23:=eq_true q23;go_wp2;go_roundg k2
      case measure=>have:=Jw.out;have:=CY.out;omega
      case rel=>exact ⟨(Lb),(wrap64 (dL+1)),(ko),(ji),(gN),(fQ),(eT),(by first | rfl | (simp;done) | (simp [*];done)),(by first | rfl | (simp;done) | (simp [*];done)),H',⟨by have:=Jw.out;have:=CY.out;omega⟩,⟨by (with_reducible repeat (first | refine aH ?_ _ | refine aI ?_ | refine aG ?_ _));exact dZ.out⟩,⟨by repeat (first | (with_reducible first | exact HB.out | apply ay | apply ak | apply aD | refine aQ ?_ qV.out) | exact HB.out)⟩⟩
     rw [if_pos c24] at H;have Rx:decide (126 < (bt a0 dL))=true:=decide_eq_true c24;clear c24;simp only [Option.some.injEq,Prod.mk.injEq] at H;obtain ⟨rfl,rfl,rfl,rfl,rfl⟩:=H;have Rv:0<=(dL:Int):=of_decide_eq_true (by first | (with_reducible assumption) | assumption);have Rw:dL < (a0.size:Int):=of_decide_eq_true (by first | (with_reducible assumption) | assumption);have ZP:=bY a0 dL;replace Rv:=eq_true Rv;replace Rw:=eq_true Rw;have Ih:0<=(dL:Int):=of_decide_eq_true (by first | (with_reducible assumption) | assumption);have Ii:dL < (a0.size:Int):=of_decide_eq_true (by first | (with_reducible assumption) | assumption);have Rb:=bY a0 dL;replace Ih:=eq_true Ih;replace Ii:=eq_true Ii;have p23:0<=(dL:Int):=of_decide_eq_true (by first | (with_reducible assumption) | assumption);have q23:dL < (a0.size:Int):=of_decide_eq_true (by first | (with_reducible assumption) | assumption);have ajE:=bY a0 dL;replace p23:=eq_true p23;replace q23:=eq_true q23;have ahD:wr.cell? ⟨jq,0,none⟩=some (.int .i64 ko):=(au dZ.out 0).trans rfl;have ahE:wr.cell? ⟨jq,1,none⟩=some (.string ji):=(au dZ.out 1).trans rfl;have ahF:wr.cell? ⟨jq,2,none⟩=some (.int .i64 gN):=(au dZ.out 2).trans rfl;have ahG:wr.cell? ⟨jq,3,none⟩=some (.int .i64 fQ):=(au dZ.out 3).trans rfl;have ahH:wr.cell? ⟨jq,4,none⟩=some (.int .i64 eT):=(au dZ.out 4).trans rfl;have ahI:=aA dZ.out 0;have ahJ:=aA dZ.out 1;have ahK:=aA dZ.out 2;have ahL:=aA dZ.out 3;have ahM:=aA dZ.out 4;go_wp2;refine bodyPost_ret (results_cell_row rfl _ _ jq 82 #[.int .i64 0,.string (⟨#[]⟩:ByteArray),.int .i64 0,.int .i64 13,.int .i64 Lb] (0,0) _ rfl (by (with_reducible repeat (first | refine aH ?_ _ | refine aI ?_ | refine aG ?_ _));refine aR (cs:=#[.int .i64 0,.string (⟨#[]⟩:ByteArray),.int .i64 0,.int .i64 13,.int .i64 eT]) ?_ 4 _ rfl;(with_reducible repeat (first | refine aH ?_ _ | refine aI ?_ | refine aG ?_ _));refine aR (cs:=#[.int .i64 0,.string (⟨#[]⟩:ByteArray),.int .i64 0,.int .i64 fQ,.int .i64 eT]) ?_ 3 _ rfl;(with_reducible repeat (first | refine aH ?_ _ | refine aI ?_ | refine aG ?_ _));refine aR (cs:=#[.int .i64 0,.string (⟨#[]⟩:ByteArray),.int .i64 gN,.int .i64 fQ,.int .i64 eT]) ?_ 2 _ rfl;(with_reducible repeat (first | refine aH ?_ _ | refine aI ?_ | refine aG ?_ _));refine aR (cs:=#[.int .i64 0,.string ji,.int .i64 gN,.int .i64 fQ,.int .i64 eT]) ?_ 1 _ rfl;(with_reducible repeat (first | refine aH ?_ _ | refine aI ?_ | refine aG ?_ _));refine aR (cs:=#[.int .i64 ko,.string ji,.int .i64 gN,.int .i64 fQ,.int .i64 eT]) ?_ 0 _ rfl;(with_reducible repeat (first | refine aH ?_ _ | refine aI ?_ | refine aG ?_ _));exact dZ.out) Tryz.underlying82 rfl (by kernel_rfl)) rfl ?_;exact ⟨by first | rfl | (simp [aV,aW]<;>rfl) | (simp [*,aV,aW]<;>rfl),by repeat (first | (with_reducible first | exact HB.out | apply ay | apply ak | apply aD | refine aQ ?_ qV.out) | exact HB.out)⟩
def dA.l0:Nat->ByteArray->Int->Int->Option (Int)
 | 0,_,_,_=>none
 | k+1,x0,x3,x4=>if x4 < (x0.size:Int) then (if 0<=x4 then (if (bt x0 x4)=10 then (dA.l0 k x0 (wrap64 (x3+1)) (wrap64 (x4+1))) else (dA.l0 k x0 x3 (wrap64 (x4+1)))) else (none)) else (some x3)
def dA.f (k:Nat) (a0:ByteArray):Option (Int):=dA.l0 k a0 0 0
set_option maxHeartbeats 8000000 in
set_option maxRecDepth 100000 in
theorem dA.calls (k:Nat) (a0:ByteArray) (r:Int) (w:World) (h:dA.f k a0=some r) :
  Calls Tryz.prog 84 #[.string a0] w fun e w'=>e=.returned (.int .i64 r)/\aM w w':=by
 have H:(dA.l0 k a0 0 0)=some r:=h;clear h;have H':=aj.mk H;clear H;go_enter Tryz.func84,Tryz.ntmps84
 go_wp2;go_loopg [3,4] k (fun kq v3 v4 w'=>∃ (gU:Int) (bN:Int),v3=.int .i64 gU/\v4=.int .i64 bN/\aj (dA.l0 kq a0 gU bN=some r)/\aj (kq<=k)/\aM w w')
 case atStart=>exact ⟨(0),(0),(by first | rfl | (simp;done) | (simp [*];done)),(by first | rfl | (simp;done) | (simp [*];done)),H',⟨Nat.le_refl _⟩,by repeat (first | exact aM.refl _ | apply aM.step)⟩
 case round =>
  clear H';obtain ⟨gU,bN,rfl,rfl,HA,jQ,⟨m1,rfl⟩⟩:=hrel;cases gk with
  | zero=>exact absurd HA.out (by simp [dA.l0])
  | succ k1 =>
   have H:=HA.out;clear HA;simp only [dA.l0] at H;by_cases c2:bN < (a0.size:Int)
   rotate_left
   ·rw [if_neg c2] at H
    have oG:decide (bN < (a0.size:Int))=false:=decide_eq_false c2;clear c2;obtain rfl:=Option.some.inj H;go_wp2;go_ret;exact ⟨by first | rfl | (simp;done) | (simp [*];done),by repeat (first | exact aM.refl _ | apply aM.step)⟩
   rw [if_pos c2] at H;have oG:decide (bN < (a0.size:Int))=true:=decide_eq_true c2;clear c2;by_cases c3:0<=bN
   rotate_left
   ·rw [if_neg c3] at H
    exact absurd H (by simp)
   rw [if_pos c3] at H;have nU:decide (0<=bN)=true:=decide_eq_true c3;clear c3;by_cases c5:(bt a0 bN)=10
   ·rw [if_pos c5] at H
    have nV:((bt a0 bN)==10)=true:=beq_iff_eq.mpr c5;have JK:((bt a0 bN) != 10)=false:=bne_eq_false_iff_eq.mpr c5;clear c5;have H':=aj.mk H;clear H;have p4:0<=(bN:Int):=of_decide_eq_true (by first | (with_reducible assumption) | assumption);have q4:bN < (a0.size:Int):=of_decide_eq_true (by first | (with_reducible assumption) | assumption);have hx4:=bY a0 bN;replace p4:=eq_true p4;replace q4:=eq_true q4;go_wp2;go_roundg k1
    case measure=>have:=jQ.out;omega
    case rel=>exact ⟨(wrap64 (gU+1)),(wrap64 (bN+1)),(by first | rfl | (simp;done) | (simp [*];done)),(by first | rfl | (simp;done) | (simp [*];done)),H',⟨by have:=jQ.out;omega⟩,by repeat (first | exact aM.refl _ | apply aM.step)⟩
   rw [if_neg c5] at H;have nV:((bt a0 bN)==10)=false:=beq_eq_false_iff_ne.mpr c5;have JK:((bt a0 bN) != 10)=true:=bne_iff_ne.mpr c5;have H':=aj.mk H;clear H;have p4:0<=(bN:Int):=of_decide_eq_true (by first | (with_reducible assumption) | assumption);have q4:bN < (a0.size:Int):=of_decide_eq_true (by first | (with_reducible assumption) | assumption);have hx4:=bY a0 bN;replace p4:=eq_true p4;replace q4:=eq_true q4;go_wp2;go_roundg k1
   case measure=>have:=jQ.out;omega
   case rel=>exact ⟨(gU),(wrap64 (bN+1)),(by first | rfl | (simp;done) | (simp [*];done)),(by first | rfl | (simp;done) | (simp [*];done)),H',⟨by have:=jQ.out;omega⟩,by repeat (first | exact aM.refl _ | apply aM.step)⟩
end Go.Proofs.YtkkpjonfaflkmaaGreatDoor.T
namespace Go.Proofs.YtkkpjonfaflkmaaGreatDoor.S
set_option linter.unusedSimpArgs false
set_option linter.unusedVariables false
def Ry:List Int->Nat->Nat
 | [],_=>0
 | c::t,l=>if c=10 then Ry t (l+1) else if jP c=true then Ry t l else l
theorem Au:∀ (xs:List Int) (i d l b i' l' b':Nat),lV xs i d l b=.done i' l' b'->1<=l->b'=if b=0 then Ry (xs.take (i' - i)) l else b
 | [],_,_,_,_,_,_,_=>fun h=>by cases h
 | [_],_,_,_,_,_,_,_=>fun h=>by cases h
 | c::e::t,i,d,l,b,i',l',b'=>fun h hl=>by
  rw [lV] at h;by_cases h1:c=47/\e=42
  ·rw [if_pos h1] at h
   have h3:=iV t _ _ _ _ _ _ _ h;have h2:=Au t _ _ _ _ _ _ _ h hl;rw [h2,show i' - i=(i' - (i+2))+1+1 by omega,List.take_succ_cons,List.take_succ_cons,Ry,Ry,h1.1,h1.2];rfl
  rw [if_neg h1] at h;by_cases h2:c=42/\e=47
  ·rw [if_pos h2] at h
   by_cases h3:d=1
   ·rw [if_pos h3] at h;cases h
    rw [show i+2 - i=2 by omega,h2.1,h2.2];by_cases hb:b=0
    ·rw [if_pos hb,hb];rfl
    ·rw [if_neg hb]
   rw [if_neg h3] at h;have h3:=iV t _ _ _ _ _ _ _ h;have h4:=Au t _ _ _ _ _ _ _ h hl;rw [h4,show i' - i=(i' - (i+2))+1+1 by omega,List.take_succ_cons,List.take_succ_cons,Ry,Ry,h2.1,h2.2];rfl
  rw [if_neg h2] at h;have h3:=iV (e::t) _ _ _ _ _ _ _ h;have h4:=Au (e::t) _ _ _ _ _ _ _ h (by split<;>omega);rw [h4,show i' - i=(i' - (i+1))+1 by omega,List.take_succ_cons,Ry];by_cases h10:c=10
  ·rw [if_pos h10,if_pos h10,if_neg (show ¬ (c≠10/\jP c=false/\b=0) from fun x=>x.1 h10)]
  rw [if_neg h10,if_neg h10];by_cases hp:jP c=true
  ·rw [if_pos hp,if_neg (show ¬ (c≠10/\jP c=false/\b=0) from fun x=>by rw [hp] at x;cases x.2.1)]
  rw [if_neg hp];by_cases hb:b=0
  ·rw [if_pos (show (c≠10/\jP c=false/\b=0) from ⟨h10,by simpa using hp,hb⟩),if_neg (by omega),if_pos hb]
  ·rw [if_neg (show ¬ (c≠10/\jP c=false/\b=0) from fun x=>hb x.2.2),if_neg hb,if_neg hb]
 termination_by xs=>xs.length
end Go.Proofs.YtkkpjonfaflkmaaGreatDoor.S
namespace Go.Proofs.YtkkpjonfaflkmaaGreatDoor.T
set_option linter.unusedSimpArgs false
set_option linter.unusedVariables false
open Go.RowKit Go.Proofs.ah.aT Go.Proofs.ah.bn Go.Proofs.ah.bA
theorem Cw (a0:ByteArray) (hs:a0.size<=100000):∀ (m k i c:Nat),i+m=a0.size->m < k->c<=i->dA.l0 k a0 (c:Int) (i:Int)=some ((c+((bytesOf a0).drop i).count 10:Nat):Int)
 | m,0,i,c,_,h,_=>absurd h (Nat.not_lt_zero _)
 | 0,k+1,i,c,h,hk,hc=>by
  rw [dA.l0,if_neg (by omega),List.drop_of_length_le (by rw [bytesOf_length];omega)];rfl
 | m+1,k+1,i,c,h,hk,hc=>by
  rw [dA.l0,if_pos (by omega),if_pos (by omega),iL a0 (by omega),List.count_cons,oq (by omega),oq (by omega)];by_cases h1:bt a0 (i:Int)=10
  ·rw [if_pos h1,Cw a0 hs m k (i+1) (c+1) (by omega) (by omega) (by omega),if_pos (beq_iff_eq.2 h1)]
   have e:c+1+((bytesOf a0).drop (i+1)).count 10=c+(((bytesOf a0).drop (i+1)).count 10+1):=by omega
   rw [e]
  rw [if_neg h1,Cw a0 hs m k (i+1) c (by omega) (by omega) (by omega),if_neg (fun e=>h1 (beq_iff_eq.1 e))];rfl
theorem Vz (a0:ByteArray) (hs:a0.size<=100000) (k:Nat) (hk:a0.size < k):dA.f k a0=some (((bytesOf a0).count 10:Nat):Int):=by
 have:=Cw a0 hs a0.size k 0 0 (by omega) hk (Nat.le_refl _);rw [List.drop_zero,Nat.zero_add] at this;exact this
theorem FM (a b c e:Int) (t:List Int):([a,b]:List Int).isPrefixOf (c::e::t)=(decide (c=a)&&decide (e=b)):=by
 simp only [List.isPrefixOf,Bool.and_true];rw [show (a==c)=decide (c=a) from by rw [<- decide_eq_decide.2 (show a=c <-> c=a from ⟨Eq.symm,Eq.symm⟩)];rfl,show (b==e)=decide (e=b) from by rw [<- decide_eq_decide.2 (show b=e <-> e=b from ⟨Eq.symm,Eq.symm⟩)];rfl]
theorem Ow (a b:Int) (xs:List Int) (h:xs.length<=1):([a,b]:List Int).isPrefixOf xs=false:=by
 rcases xs with _ | ⟨c,_ | ⟨d,t⟩⟩
 ·rfl
 ·simp [List.isPrefixOf]
 ·simp at h
theorem adz (a0:ByteArray) (hs:a0.size<=100000) (p ln:Nat):∀ (m k i d l b:Nat),i+m=a0.size->m+1 < k->1<=d->d<=i ->
  match S.lV ((bytesOf a0).drop i) i d l b with
  | .eof=>aJ.l0 k a0 (p:Int) (ln:Int) (d:Int) (i:Int)=some (0,⟨#[]⟩,0,6,(ln:Int))
  | .done e l' b'=>∃ k',k<=k'+m+1/\aJ.l0 k a0 (p:Int) (ln:Int) (d:Int) (i:Int)=aJ.j1 k' a0 (p:Int) (ln:Int) (e:Int):=by
 intro m
 induction m using Nat.strongRecOn with
 | _ m ih =>
  intro k i d l b h hk hd1 hdi
  obtain ⟨k,rfl⟩:∃ k',k=k'+1:=⟨k - 1,by omega⟩;have hst:∀ x:ByteArray,x.size=2->bI.f a0 (i:Int) x=some ((bytesOf x).isPrefixOf ((bytesOf a0).drop i)):=fun x hx=>yt a0 x i (by omega) hs (by omega)
  have h1:=hst ⟨#[47,42]⟩ rfl;have h2:=hst ⟨#[42,47]⟩ rfl;replace h1:bI.f a0 (i:Int) ⟨#[47,42]⟩=some (([47,42]:List Int).isPrefixOf ((bytesOf a0).drop i)):=h1;replace h2:bI.f a0 (i:Int) ⟨#[42,47]⟩=some (([42,47]:List Int).isPrefixOf ((bytesOf a0).drop i)):=h2;have hw1:wrap64 ((i:Int)+1)=((i+1:Nat):Int):=oq (by omega);have hw2:wrap64 ((i:Int)+2)=((i+2:Nat):Int):=by unfold wrap64;omega
  have hwd:wrap64 ((d:Int)+1)=((d+1:Nat):Int):=oq (by omega);by_cases h0:m=0
  ·have:(bytesOf a0).drop i=[]:=List.drop_of_length_le (by rw [bytesOf_length];omega)
   rw [this];show aJ.l0 (k+1) a0 (p:Int) (ln:Int) (d:Int) (i:Int)=_
   rw [aJ.l0,if_pos (by omega)]
  by_cases hm1:m=1
  ·have hd:=iL a0 (i:=i) (by omega)
   have hn:(bytesOf a0).drop (i+1)=[]:=List.drop_of_length_le (by rw [bytesOf_length];omega);rw [hn] at hd;rw [hd] at h1 h2 |-
   rw [Ow _ _ _ (by simp)] at h1 h2;show aJ.l0 (k+1) a0 (p:Int) (ln:Int) (d:Int) (i:Int)=_
   rw [aJ.l0,if_neg (by omega),h1,Option.bind_some,if_neg Bool.false_ne_true,h2,Option.bind_some,if_neg Bool.false_ne_true,if_neg (by omega),hw1];obtain ⟨k,rfl⟩:∃ k',k=k'+1:=⟨k - 1,by omega⟩;rw [aJ.l0,if_pos (by omega)]
  have hd:=iL a0 (i:=i) (by omega);have hd2:=iL a0 (i:=i+1) (by omega);rw [hd2] at hd;rw [hd,FM] at h1 h2;have e0:aJ.l0 (k+1) a0 (p:Int) (ln:Int) (d:Int) (i:Int)=if bt a0 (i:Int)=47/\bt a0 ((i+1:Nat):Int)=42 then aJ.l0 k a0 (p:Int) (ln:Int) ((d+1:Nat):Int) ((i+2:Nat):Int) else if bt a0 (i:Int)=42/\bt a0 ((i+1:Nat):Int)=47 then (if d=1 then aJ.j1 k a0 (p:Int) (ln:Int) ((i+2:Nat):Int) else aJ.l0 k a0 (p:Int) (ln:Int) ((d - 1:Nat):Int) ((i+2:Nat):Int)) else aJ.l0 k a0 (p:Int) (ln:Int) (d:Int) ((i+1:Nat):Int):=by
   rw [aJ.l0,if_neg (by omega),h1,Option.bind_some];by_cases c1:bt a0 (i:Int)=47/\bt a0 ((i+1:Nat):Int)=42
   ·rw [if_pos c1,if_pos (by rw [decide_eq_true c1.1,decide_eq_true c1.2];rfl),hwd,if_neg (by omega),hw2]
   rw [if_neg c1,if_neg (by rw [<- Bool.decide_and];simpa using c1),h2,Option.bind_some];by_cases c2:bt a0 (i:Int)=42/\bt a0 ((i+1:Nat):Int)=47
   ·rw [if_pos c2,if_pos (by rw [decide_eq_true c2.1,decide_eq_true c2.2];rfl),hw2]
    have hwm:wrap64 ((d:Int) - 1)=((d - 1:Nat):Int):=by unfold wrap64;omega
    rw [hwm];by_cases d1:d=1
    ·rw [if_pos d1,if_pos (by omega)]
    ·rw [if_neg d1,if_neg (by omega)]
   ·rw [if_neg c2,if_neg (by rw [<- Bool.decide_and];simpa using c2),if_neg (by omega),hw1]
  rw [hd,e0,S.lV];by_cases c1:bt a0 (i:Int)=47/\bt a0 ((i+1:Nat):Int)=42
  ·rw [if_pos c1,if_pos c1]
   have:=ih (m - 2) (by omega) k (i+2) (d+1) l b (by omega) (by omega) (by omega) (by omega);show match S.lV ((bytesOf a0).drop (i+2)) (i+2) (d+1) l b with
    | .eof=>aJ.l0 k a0 (p:Int) (ln:Int) ((d+1:Nat):Int) ((i+2:Nat):Int)=some (0,⟨#[]⟩,0,6,(ln:Int))
    | .done e l' b'=>∃ k',k+1<=k'+m+1/\aJ.l0 k a0 (p:Int) (ln:Int) ((d+1:Nat):Int) ((i+2:Nat):Int)=aJ.j1 k' a0 (p:Int) (ln:Int) (e:Int)
   cases hc:S.lV ((bytesOf a0).drop (i+2)) (i+2) (d+1) l b with
   | eof=>rw [hc] at this;exact this
   | done e l' b'=>rw [hc] at this;obtain ⟨k',q1,q2⟩:=this;exact ⟨k',by omega,q2⟩
  rw [if_neg c1,if_neg c1];by_cases c2:bt a0 (i:Int)=42/\bt a0 ((i+1:Nat):Int)=47
  ·rw [if_pos c2,if_pos c2]
   by_cases d1:d=1
   ·rw [if_pos d1,if_pos d1]
    exact ⟨k,by omega,rfl⟩
   rw [if_neg d1,if_neg d1];have:=ih (m - 2) (by omega) k (i+2) (d - 1) l b (by omega) (by omega) (by omega) (by omega);show match S.lV ((bytesOf a0).drop (i+2)) (i+2) (d - 1) l b with
    | .eof=>aJ.l0 k a0 (p:Int) (ln:Int) ((d - 1:Nat):Int) ((i+2:Nat):Int)=some (0,⟨#[]⟩,0,6,(ln:Int))
    | .done e l' b'=>∃ k',k+1<=k'+m+1/\aJ.l0 k a0 (p:Int) (ln:Int) ((d - 1:Nat):Int) ((i+2:Nat):Int)=aJ.j1 k' a0 (p:Int) (ln:Int) (e:Int)
   cases hc:S.lV ((bytesOf a0).drop (i+2)) (i+2) (d - 1) l b with
   | eof=>rw [hc] at this;exact this
   | done e l' b'=>rw [hc] at this;obtain ⟨k',q1,q2⟩:=this;exact ⟨k',by omega,q2⟩
  rw [if_neg c2,if_neg c2,<- hd2];have:=ih (m - 1) (by omega) k (i+1) d (if bt a0 (i:Int)=10 then l+1 else l) (if bt a0 (i:Int)≠10/\S.jP (bt a0 (i:Int))=false/\b=0 then l else b) (by omega) (by omega) hd1 (by omega);cases hc:S.lV ((bytesOf a0).drop (i+1)) (i+1) d (if bt a0 (i:Int)=10 then l+1 else l) (if bt a0 (i:Int)≠10/\S.jP (bt a0 (i:Int))=false/\b=0 then l else b) with
  | eof=>rw [hc] at this;exact this
  | done e l' b'=>rw [hc] at this;obtain ⟨k',q1,q2⟩:=this;exact ⟨k',by omega,q2⟩
theorem Rz (a0:ByteArray) (hs:a0.size<=100000) (e:Nat) (he:e<=a0.size):∀ (m k i l:Nat),i+m=e->m < k->1<=l->l<=i+100000 ->
  aJ.l1 k a0 (e:Int) (l:Int) (i:Int)=some (if S.Ry (((bytesOf a0).drop i).take (e - i)) l=0 then (0,⟨#[]⟩,(e:Int),0,0) else (0,⟨#[]⟩,0,13,((S.Ry (((bytesOf a0).drop i).take (e - i)) l:Nat):Int)))
 | m,0,i,l,_,h,_,_=>absurd h (Nat.not_lt_zero _)
 | 0,k+1,i,l,h,_,_,_=>by
  rw [aJ.l1,if_neg (by omega),show e - i=0 by omega,List.take_zero];rfl
 | m+1,k+1,i,l,h,hk,h1,h2=>by
  have hw1:wrap64 ((i:Int)+1)=((i+1:Nat):Int):=oq (by omega);have hwl:wrap64 ((l:Int)+1)=((l+1:Nat):Int):=oq (by omega);rw [aJ.l1,if_pos (by omega),if_pos (by omega),if_pos (by omega),iL a0 (i:=i) (by omega),show e - i=(e - (i+1))+1 by omega,List.take_succ_cons,S.Ry,hw1,hwl];by_cases c1:bt a0 (i:Int)=10
  ·rw [if_pos c1,if_pos c1]
   exact Rz a0 hs e he m k (i+1) (l+1) (by omega) (by omega) (by omega) (by omega)
  rw [if_neg c1,if_neg c1];by_cases c2:bt a0 (i:Int) < 32
  ·have:S.jP (bt a0 (i:Int))=false:=by unfold S.jP;rw [decide_eq_false (by omega),Bool.false_and]
   rw [if_pos c2,this,if_neg Bool.false_ne_true,if_neg (by omega)]
  rw [if_neg c2];by_cases c3:bt a0 (i:Int) > 126
  ·have:S.jP (bt a0 (i:Int))=false:=by unfold S.jP;rw [decide_eq_false (p:=bt a0 (i:Int)<=126) (by omega),Bool.and_false]
   rw [if_pos c3,this,if_neg Bool.false_ne_true,if_neg (by omega)]
  have:S.jP (bt a0 (i:Int))=true:=by unfold S.jP;rw [decide_eq_true (by omega),decide_eq_true (by omega)];rfl
  rw [if_neg c3,this,if_pos rfl];exact Rz a0 hs e he m k (i+1) l (by omega) (by omega) h1 (by omega)
theorem RA (a0:ByteArray) (hs:a0.size<=100000) (p ln:Nat) (hp:p<=a0.size) (h1:1<=ln) (h2:ln<=p+100000) (hst:S.gV ((bytesOf a0).drop p)=true) (k:Nat) (hk:3*a0.size+10 < k) :
  match S.kT (S.lV ((bytesOf a0).drop p) 0 0 1 0) with
  | .lV n dl=>aJ.f k a0 (p:Int) (ln:Int)=some (0,⟨#[]⟩,((p+n:Nat):Int),0,0)/\dl=(((bytesOf a0).drop p).take n).count 10
  | .err c dl=>aJ.f k a0 (p:Int) (ln:Int)=some (0,⟨#[]⟩,0,(c:Int),((ln+dl:Nat):Int))
  | _=>False:=by
 have hpl:p+2<=a0.size:=by
  have hl:((bytesOf a0).drop p).length=a0.size - p:=by rw [List.length_drop,bytesOf_length]
  generalize (bytesOf a0).drop p=xs at hst hl;rcases xs with _ | ⟨c,_ | ⟨d,t⟩⟩
  ·cases hst
  ·cases hst
  ·simp at hl;omega
 have hsh:=rJ p (ln - 1) ((bytesOf a0).drop p) 0 0 1 0 (by omega);simp only [if_true,Nat.add_zero] at hsh;rw [show ln - 1+1=ln by omega] at hsh;have hd:=iL a0 (i:=p) (by omega);have hd2:=iL a0 (i:=p+1) (by omega);rw [hd2] at hd;have hc:bt a0 (p:Int)=47/\bt a0 ((p+1:Nat):Int)=42:=by
  rw [hd] at hst;simpa [S.gV] using hst
 have e1:S.lV ((bytesOf a0).drop p) p 0 ln 0=S.lV ((bytesOf a0).drop (p+2)) (p+2) 1 ln 0:=by
  rw [hd,S.lV,if_pos hc]
 have hf:∀ k,aJ.f (k+1) a0 (p:Int) (ln:Int)=aJ.l0 k a0 (p:Int) (ln:Int) ((1:Nat):Int) ((p+2:Nat):Int):=fun k=>by
  unfold aJ.f;have hw2:wrap64 ((p:Int)+2)=((p+2:Nat):Int):=by unfold wrap64;omega
  have h3:=yt a0 ⟨#[47,42]⟩ p hp hs (by decide);replace h3:bI.f a0 (p:Int) ⟨#[47,42]⟩=some (([47,42]:List Int).isPrefixOf ((bytesOf a0).drop p)):=h3;rw [hd,FM,decide_eq_true hc.1,decide_eq_true hc.2] at h3;rw [aJ.l0,if_neg (by omega),h3,Option.bind_some,if_pos (by rfl),show wrap64 ((0:Int)+1)=1 from (by unfold wrap64;omega),if_neg (by decide),hw2];rfl
 obtain ⟨k,rfl⟩:∃ k',k=k'+1:=⟨k - 1,by omega⟩;have hl0:=adz a0 hs p ln (a0.size - (p+2)) k (p+2) 1 ln 0 (by omega) (by omega) (by omega) (by omega);rw [<- e1,hsh] at hl0;rw [hf];cases hR:S.lV ((bytesOf a0).drop p) 0 0 1 0 with
 | eof =>
  rw [hR] at hl0;simp only [S.kT];exact hl0
 | done e l b =>
  rw [hR] at hl0 hsh;have hb:=S.iV _ _ _ _ _ _ _ _ hR;have hsc:=S.Au _ _ _ _ _ _ _ _ hsh (by omega);have hid:=(S.yh _ _ _ _ _ _ _ _ hR (.inr hst)).2;simp only [shC] at hl0 hsc;obtain ⟨k',q1,q2⟩:=hl0;obtain ⟨k',rfl⟩:∃ k2,k'=k2+1:=⟨k' - 1,by omega⟩;rw [List.length_drop,bytesOf_length] at hb;have hl1:=Rz a0 hs (p+e) (by omega) e k' p ln rfl (by omega) h1 h2;rw [if_pos trivial,Nat.add_sub_cancel_left] at hsc;rw [Nat.add_sub_cancel_left,<- hsc] at hl1;rw [Nat.sub_zero] at hid;simp only [S.kT];rw [q2,aJ.j1,hl1];by_cases hb0:b=0
  ·subst hb0
   simp only [if_true];exact ⟨trivial,by omega⟩
  have e3:ln - 1+b=ln+(b - 1):=by omega
  have e4:¬ ln - 1+b=0:=by omega
  simp only [if_neg hb0,if_neg e4,e3];rw [if_neg (by omega)];rfl
end Go.Proofs.YtkkpjonfaflkmaaGreatDoor.T
namespace Go.Proofs.YtkkpjonfaflkmaaGreatDoor.T
open Go.RowKit Go.Proofs.ah.aT Go.Proofs.ah.bn Go.Proofs.ah.bA
set_option linter.unusedSimpArgs false
set_option linter.unusedVariables false
theorem RB (q:UInt8) (t:List UInt8):Lib.index (q::t) [q]=0:=by simp [Lib.index]
theorem Ox (q b:UInt8) (t:List UInt8) (h:b≠q):Lib.index (b::t) [q]=if Lib.index t [q]==-1 then -1 else Lib.index t [q]+1:=by
 rw [Lib.index,if_neg];simp
 exact fun e=>h e.symm
theorem Oy (q:UInt8) (v:List UInt8) (b:UInt8) (t:List UInt8) (h:b≠q):∀ k,Lib.replaceK [q] v k (b::t)=b::Lib.replaceK [q] v k t
 | 0=>rfl
 | k+1=>by
  have hg:=Lib.index_ge t [q];rw [Lib.replaceK,Lib.replaceK,Ox q b t h];by_cases e:Lib.index t [q]=-1
  ·rw [e];rfl
  obtain ⟨i,hi⟩:∃ i:Nat,Lib.index t [q]=i:=⟨(Lib.index t [q]).toNat,by omega⟩;have c1:((i:Int)==-1)=false:=beq_eq_false_iff_ne.mpr (by omega);have c2:((i:Int)+1==-1)=false:=beq_eq_false_iff_ne.mpr (by omega);rw [hi];simp only [c1,Bool.false_eq_true,if_false,c2];rw [show ((i:Int)+1).toNat=i+1 by omega,Int.toNat_natCast,show i+1+[q].length=(i+[q].length)+1 by simp];rfl
theorem FP (q:UInt8):∀ l:List UInt8,Lib.replaceK [q] [q,q] (l.count q) l=l.flatMap fun c=>if c=q then [q,q] else [c]
 | []=>rfl
 | b::t=>by
  by_cases h:b=q
  ·subst h
   rw [List.count_cons_self,Lib.replaceK_hit [b] [b,b] (t.count b) (b::t) 0 (RB b t)];simp only [List.take_zero,List.nil_append,List.length_cons,List.length_nil,List.drop_succ_cons,List.drop_zero,List.flatMap_cons,if_true];rw [FP b t]
  ·rw [List.count_cons_of_ne (fun e=>h e),Oy q _ b t h,FP q t,List.flatMap_cons,if_neg h];rfl
theorem yu (q:UInt8) (l:List UInt8):Lib.replaceAll l [q] [q,q]=l.flatMap fun c=>if c=q then [q,q] else [c]:=by
 rw [Lib.replaceAll,Lib.replace,if_neg (by simp),Lib.replaceNum,if_pos (.inl (by decide)),Lib.count_one];exact FP q l
theorem II (q:UInt8) (l:List UInt8):nums (l.flatMap fun c=>if c=q then [q,q] else [c])=S.Fz (q.toNat:Int) (nums l):=by
 induction l with
 | nil=>rfl
 | cons b t ih =>
  rw [List.flatMap_cons];have:nums (b::t)=(b.toNat:Int)::nums t:=rfl;rw [this,S.Ck,<- ih];by_cases h:b=q
  ·subst h;rw [if_pos rfl,if_pos rfl];rfl
  ·rw [if_neg h,if_neg (fun e=>h (ED e))];rfl
def jd.f (a0:ByteArray):Option ByteArray:=if a0.size<=20000 then some (strOfNums (S.quote (bytesOf a0))) else none
theorem Lc (a0:ByteArray) (c:UInt8):Lib.countB a0 ⟨#[c]⟩=a0.data.toList.count c:=by
 unfold Lib.countB;exact Lib.count_one c _
theorem VA {a0:ByteArray} {q:UInt8} (hq:(q.toNat:Int)=S.zZ (bytesOf a0)) :
  ((⟨#[q]⟩:ByteArray)++(⟨(Lib.replaceAll a0.data.toList [q] [q,q]).toArray⟩:ByteArray))++(⟨#[q]⟩:ByteArray)=strOfNums (S.quote (bytesOf a0)):=by
 apply qx
 rw [fq _ (S.uy (gK a0)),pG,pG,yu];unfold S.quote;rw [<- hq];have e1:bytesOf (⟨#[q]⟩:ByteArray)=[(q.toNat:Int)]:=rfl;have e2:bytesOf (⟨(a0.data.toList.flatMap fun c=>if c=q then [q,q] else [c]).toArray⟩:ByteArray)=S.Fz (q.toNat:Int) (bytesOf a0):=by
  rw [jm,jm,<- II]
 rw [e1,e2];rfl
set_option maxRecDepth 100000 in
set_option maxHeartbeats 4000000 in
theorem jd.calls (a0:ByteArray) (r:ByteArray) (w:World) (hT:eU w) (h:jd.f a0=some r) :
  Calls Tryz.prog 66 #[.string a0] w fun e w'=>e=.returned (.string r)/\Below w.heap.size w w':=by
 unfold jd.f at h;by_cases hs:a0.size<=20000
 rotate_left
 ·rw [if_neg hs] at h;cases h
 rw [if_pos hs] at h;obtain rfl:=Option.some.inj h;have hcl:∀ c:UInt8,a0.data.toList.count c<=a0.size:=fun c=>by rw [<- kM];exact List.count_le_length
 have Ju:=strings_Count.calls a0 ⟨#[34]⟩ _ w rfl;have tL:=fun q=>strings_Count.calls a0 ⟨#[39]⟩ _ (World.drewN w q) rfl
 have hq1:(bytesOf a0).count 34=a0.data.toList.count 34:=by rw [jm];exact vY _ 34
 have hq2:(bytesOf a0).count 39=a0.data.toList.count 39:=by rw [jm];exact vY _ 39
 have cb1:Lib.countByte a0.data.toList 34=((bytesOf a0).count 34:Int):=by rw [hq1];rfl
 have cb2:Lib.countByte a0.data.toList 39=((bytesOf a0).count 39:Int):=by rw [hq2];rfl
 rw [cb1] at Ju;rw [cb2] at tL;obtain ⟨x,hx⟩:∃ x,(bytesOf a0).count 34=x:=⟨_,rfl⟩;obtain ⟨y,hy⟩:∃ y,(bytesOf a0).count 39=y:=⟨_,rfl⟩;rw [hx] at Ju;rw [hy] at tL;have HD1:=Lib.hid Ju;have HD2:=Lib.hid tL;have HT:=aj.mk hT;have hcb:∀ c:UInt8,Lib.countB a0 ⟨#[c]⟩<=20000:=fun c=>by rw [Lc];have:=hcl c;omega
 have key:∀ q:UInt8,(q.toNat:Int)=S.zZ (bytesOf a0)->∃ R:ByteArray,R.size<=100000/\((⟨#[q]⟩:ByteArray)++R)++(⟨#[q]⟩:ByteArray)=strOfNums (S.quote (bytesOf a0))/\∀ W,eU W->Calls Tryz.prog 105 #[.string a0,.string ⟨#[q]⟩,.string ((⟨#[q]⟩:ByteArray)++(⟨#[q]⟩:ByteArray))] W fun e w'=>e=.returned (.string R)/\Below W.heap.size W w':=fun q hq=>by
  refine ⟨⟨(Lib.replaceAll a0.data.toList [q] [q,q]).toArray⟩,?_,VA hq,fun W hW=>strings_ReplaceAll.calls _ _ _ _ W hW ?_⟩
  ·rw [yu]
   have e:(a0.data.toList.flatMap fun c=>if c=q then [q,q] else [c]).length=(nums (a0.data.toList.flatMap fun c=>if c=q then [q,q] else [c])).length:=by simp [nums]
   show (List.toArray _).size<=_
   rw [List.size_toArray,e,II,S.wH];have h1:(nums a0.data.toList).count (q.toNat:Int)<=(nums a0.data.toList).length:=List.count_le_length;have h2:(nums a0.data.toList).length=a0.size:=by simp only [nums,List.length_map];exact kM a0
   omega
  ·have e:((⟨#[q]⟩:ByteArray)++(⟨#[q]⟩:ByteArray))=⟨#[q,q]⟩:=by apply qx;rw [pG];rfl
   rw [e];unfold strings_ReplaceAll.f;have h1:(⟨#[q,q]⟩:ByteArray).size=2:=rfl;have h2:(⟨#[q]⟩:ByteArray).size=1:=rfl;have:=hcb q;rw [if_pos ⟨by omega,by rw [h2];exact Nat.le_refl _,by rw [h1];omega⟩]
 clear hT Ju tL hcl hq1 hq2 cb1 cb2 hcb hs;have HX:aj (S.zZ (bytesOf a0)=if x < y then 34 else 39):=⟨by unfold S.zZ;rw [hx,hy]⟩;clear hx hy;generalize strOfNums (S.quote (bytesOf a0))=res at *;by_cases hlt:x < y
 ·have g1:decide ((x:Int) < (y:Int))=true:=decide_eq_true (by omega)
  have g2:decide (x < y)=true:=decide_eq_true hlt;obtain ⟨R,hR,hRe,hRc⟩:=key 34 (by rw [HX.out,if_pos hlt];rfl);have HR:=Lib.hid hRc;have HRE:=aj.mk hRe;clear key hRc hRe hlt HX;have z1:(9223372036854775807 < 1+R.size)=False:=eq_false (by omega);have z2:(1+R.size<=9223372036854775807)=True:=eq_true (by omega);have hsz:((⟨#[34]⟩:ByteArray)++R).size=1+R.size:=by rw [ByteArray.size_append];rfl
  have z3:(9223372036854775807 < ((⟨#[34]⟩:ByteArray)++R).size+1)=False:=eq_false (by omega);have z4:(((⟨#[34]⟩:ByteArray)++R).size+1<=9223372036854775807)=True:=eq_true (by omega);clear hsz;go_enter Tryz.func66,Tryz.ntmps66
  go_wp2_with (first | (go_at_call 77;with_reducible refine HD1.out.mono ?_;rintro e w' ⟨rfl,⟨⟨q,rfl⟩⟩⟩) | (go_at_call 77;with_reducible refine (HD2.out _).mono ?_;rintro e w' ⟨rfl,⟨⟨q2,rfl⟩⟩⟩) | (go_at_call 105;refine (HR.out _ (HT.out.of_below (ak (Below.refl _ _) _))).mono ?_;rintro e w3 ⟨rfl,hb3⟩))
  rw [HRE.out];go_ret;have hb4:Below w.heap.size w (w.drewN (q+q2)):=ak (Below.refl _ _) _;exact ⟨rfl,hb4.trans hb3⟩
 have g1:decide ((x:Int) < (y:Int))=false:=decide_eq_false (by omega);have g2:decide (x < y)=false:=decide_eq_false hlt;obtain ⟨R,hR,hRe,hRc⟩:=key 39 (by rw [HX.out,if_neg hlt];rfl);have HR:=Lib.hid hRc;have HRE:=aj.mk hRe;clear key hRc hRe hlt HX;have z1:(9223372036854775807 < 1+R.size)=False:=eq_false (by omega);have z2:(1+R.size<=9223372036854775807)=True:=eq_true (by omega);have hsz:((⟨#[39]⟩:ByteArray)++R).size=1+R.size:=by rw [ByteArray.size_append];rfl
 have z3:(9223372036854775807 < ((⟨#[39]⟩:ByteArray)++R).size+1)=False:=eq_false (by omega);have z4:(((⟨#[39]⟩:ByteArray)++R).size+1<=9223372036854775807)=True:=eq_true (by omega);clear hsz;go_enter Tryz.func66,Tryz.ntmps66
 go_wp2_with (first | (go_at_call 77;with_reducible refine HD1.out.mono ?_;rintro e w' ⟨rfl,⟨⟨q,rfl⟩⟩⟩) | (go_at_call 77;with_reducible refine (HD2.out _).mono ?_;rintro e w' ⟨rfl,⟨⟨q2,rfl⟩⟩⟩) | (go_at_call 105;refine (HR.out _ (HT.out.of_below (ak (Below.refl _ _) _))).mono ?_;rintro e w3 ⟨rfl,hb3⟩))
 rw [HRE.out];go_ret;have hb4:Below w.heap.size w (w.drewN (q+q2)):=ak (Below.refl _ _) _;exact ⟨rfl,hb4.trans hb3⟩
end Go.Proofs.YtkkpjonfaflkmaaGreatDoor.T
