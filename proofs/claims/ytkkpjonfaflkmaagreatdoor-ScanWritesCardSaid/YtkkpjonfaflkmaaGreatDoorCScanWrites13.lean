/- A part of the proof of ScanWrites. -/
import Derived.Test.YtkkpjonfaflkmaaGreatDoorCScanWrites12
set_option linter.all false
namespace Go.Proofs.YtkkpjonfaflkmaaGreatDoor.T
open Go.RowKit Go.Proofs.aj.aI Go.Proofs.aj.aY Go.Proofs.aj.bq
attribute [local go_sem] eY eZ gH gI dV dW fq fu
def bN.l0:Nat->ByteArray->Int->Int->Int->Option (Int)
 | 0,_,_,_,_=>none
 | k+1,x0,x1,x5,x6=>if x6 < (x0.size:Int) then (if 0<=x6 then (if (bt x0 x6)=x1 then (bN.l0 k x0 x1 (wrap64 (x5+1)) (wrap64 (x6+1))) else (bN.l0 k x0 x1 x5 (wrap64 (x6+1)))) else (none)) else (some x5)
def bN.f (k:Nat) (a0:ByteArray) (a1:Int):Option (Int):=bN.l0 k a0 a1 0 0
set_option maxHeartbeats 8000000 in
set_option maxRecDepth 100000 in
theorem bN.calls (k:Nat) (a0:ByteArray) (a1:Int) (r:Int) (w:World) (h:bN.f k a0 a1=some r) :
  Calls Tryz.prog 67 #[.string a0,.int .u8 a1] w fun e w'=>e=.returned (.int .i64 r)/\aG w w':=by
 have H:(bN.l0 k a0 a1 0 0)=some r:=h;clear h;have H':=ah.mk H;clear H;go_enter Tryz.func67,Tryz.ntmps67
 go_wp2;go_loopg [5,6] k (fun kq v5 v6 w'=>∃ (bM:Int) (fK:Int),v5=.int .i64 bM/\v6=.int .i64 fK/\ah (bN.l0 kq a0 a1 bM fK=some r)/\ah (kq<=k)/\aG w w')
 case atStart=>exact ⟨(0),(0),(by first | rfl | (simp;done) | (simp [*];done)),(by first | rfl | (simp;done) | (simp [*];done)),H',⟨Nat.le_refl _⟩,by repeat (first | exact aG.refl _ | apply aG.step)⟩
 case round =>
  clear H';obtain ⟨bM,fK,rfl,rfl,HA,jY,⟨m1,rfl⟩⟩:=hrel;cases gk with
  | zero=>exact absurd HA.out (by simp [bN.l0])
  | succ k1 =>
   have H:=HA.out;clear HA;simp only [bN.l0] at H;by_cases c3:fK < (a0.size:Int)
   rotate_left
   ·rw [if_neg c3] at H
    have nH:decide (fK < (a0.size:Int))=false:=decide_eq_false c3;clear c3;obtain rfl:=Option.some.inj H;go_wp2;go_ret;exact ⟨by first | rfl | (simp;done) | (simp [*];done),by repeat (first | exact aG.refl _ | apply aG.step)⟩
   rw [if_pos c3] at H;have nH:decide (fK < (a0.size:Int))=true:=decide_eq_true c3;clear c3;by_cases c4:0<=fK
   rotate_left
   ·rw [if_neg c4] at H
    exact absurd H (by simp)
   rw [if_pos c4] at H;have kP:decide (0<=fK)=true:=decide_eq_true c4;clear c4;by_cases c6:(bt a0 fK)=a1
   ·rw [if_pos c6] at H
    have lJ:((bt a0 fK)==a1)=true:=beq_iff_eq.mpr c6;have BA:((bt a0 fK) != a1)=false:=bne_eq_false_iff_eq.mpr c6;clear c6;have H':=ah.mk H;clear H;have p5:0<=(fK:Int):=of_decide_eq_true (by with_reducible assumption);have q5:fK < (a0.size:Int):=of_decide_eq_true (by with_reducible assumption);have hx5:=dJ a0 fK;replace p5:=eq_true p5;replace q5:=eq_true q5;go_wp2;go_roundg k1
    case measure=>have:=jY.out;omega
    case rel=>exact ⟨(wrap64 (bM+1)),(wrap64 (fK+1)),(by first | rfl | (simp;done) | (simp [*];done)),(by first | rfl | (simp;done) | (simp [*];done)),H',⟨by have:=jY.out;omega⟩,by repeat (first | exact aG.refl _ | apply aG.step)⟩
   rw [if_neg c6] at H;have lJ:((bt a0 fK)==a1)=false:=beq_eq_false_iff_ne.mpr c6;have BA:((bt a0 fK) != a1)=true:=bne_iff_ne.mpr c6;have H':=ah.mk H;clear H;have p5:0<=(fK:Int):=of_decide_eq_true (by with_reducible assumption);have q5:fK < (a0.size:Int):=of_decide_eq_true (by with_reducible assumption);have hx5:=dJ a0 fK;replace p5:=eq_true p5;replace q5:=eq_true q5;go_wp2;go_roundg k1
   case measure=>have:=jY.out;omega
   case rel=>exact ⟨(bM),(wrap64 (fK+1)),(by first | rfl | (simp;done) | (simp [*];done)),(by first | rfl | (simp;done) | (simp [*];done)),H',⟨by have:=jY.out;omega⟩,by repeat (first | exact aG.refl _ | apply aG.step)⟩
def bF.l0:Nat->ByteArray->Int->List Int->Int->Option (ByteArray)
 | 0,_,_,_,_=>none
 | k+1,x0,x1,x5,x6=>if x6 < (x0.size:Int) then (if 0<=x6 then (if x5.length < 140737488355328 then ((some (x5++[bt x0 x6]:List Int)).bind fun BJ=>(if (bt x0 x6)=x1 then (if BJ.length < 140737488355328 then (bF.l0 k x0 x1 (BJ++[x1]) (wrap64 (x6+1))) else (none)) else (bF.l0 k x0 x1 BJ (wrap64 (x6+1))))) else (none)) else (none)) else (if x5.length < 140737488355328 then (some (strOfNums (x5++[x1]))) else (none))
def bF.f (k:Nat) (a0:ByteArray) (a1:Int):Option (ByteArray):=bF.l0 k a0 a1 (([a1]:List Int)) 0
set_option maxHeartbeats 8000000 in
set_option maxRecDepth 100000 in
theorem bF.calls (k:Nat) (a0:ByteArray) (a1:Int) (r:ByteArray) (w:World) (h:bF.f k a0 a1=some r) :
  Calls Tryz.prog 68 #[.string a0,.int .u8 a1] w fun e w'=>e=.returned (.string r)/\Below w.heap.size w w':=by
 have HB:=ah.mk (Below.refl w.heap.size w);have H:(bF.l0 k a0 a1 (([a1]:List Int)) 0)=some r:=h;clear h;obtain ⟨ael,Jk⟩:∃ y_:List Int,y_=(([a1]:List Int)):=⟨_,rfl⟩;replace H:(bF.l0 k a0 a1 ael 0)=some r:=by first | (rw [Jk];with_reducible exact H) | (have qQ:=(Option.bind_some _ _).symm.trans H;rw [Jk];with_reducible exact qQ) | (have qQ:=(Option.bind_some _ _).symm.trans H;with_reducible exact qQ) | with_reducible exact H | (rw [Jk];exact H) | exact H
 have aah:=ah.mk Jk;clear Jk;have H':=ah.mk H;clear H;go_enter Tryz.func68,Tryz.ntmps68
 go_wp2_with (first | ((with_reducible refine fO (N:=8) rfl ?_);refine Kd.ZI (Kd.int .u8) _ 5 ?hg (N:=8) ?hd (xs:=([a1]:List Int)) (inner:=[.int .u8 a1]) (ok:=fun _=>True) (Dr:=fun _=>True) ?hr ?hp (fun _ hk=>hk) trivial (Below.refl _ _) (Nat.le_refl _) (by simp) ?_;(case hd=>rfl);(case hg=>rfl);(case hr=>first | (go_simp;done) | (go_simp;rfl));(case hp=>exact (dz.one (show Kd.M (Kd.int .u8) _ _ _ a1 [.int .u8 a1] from rfl) (dz.none _ _)));intro alu w3 Tw hb hg_ Tx;clear hg_ Tx;(first | rw [<- aah.out] at Tw | (simp only [Int.reduceToNat] at Tw;rw [<- aah.out] at Tw));have bY:=ah.mk (Kd.nZ Tw (bG (by with_reducible repeat (first | exact HB.out | apply av | apply ak | apply ay))));have dO:=ah.mk (aX (by with_reducible repeat (first | exact HB.out | apply av | apply ak | apply ay)) hb);clear HB;have aem:=bY;have HB:=dO;clear bY dO;clear hb Tw))
 go_loopg [5,6] k (fun kq v5 v6 w'=>∃ (bM:List Int) (fK:Int),v6=.int .i64 fK/\ah (bF.l0 kq a0 a1 bM fK=some r)/\ah (kq<=k)/\ah (Kd.R (Kd.int .u8) 5 w' w.heap.size (fun _=>True) v5 bM)/\ah (Below w.heap.size w w'))
 case atStart=>exact ⟨(ael),(0),(by first | rfl | (simp;done) | (simp [*];done)),H',⟨Nat.le_refl _⟩,⟨by (with_reducible repeat (first | apply Kd.cO | apply Kd.cB | apply Kd.dF));exact aem.out⟩,⟨by with_reducible repeat (first | exact HB.out | apply av | apply ak | apply ay)⟩⟩
 case round =>
  clear H';obtain ⟨bM,fK,rfl,HA,jY,sw,HB⟩:=hrel;cases gk with
  | zero=>exact absurd HA.out (by simp [bF.l0])
  | succ k1 =>
   have H:=HA.out;clear HA;simp only [bF.l0] at H;by_cases c5:fK < (a0.size:Int)
   rotate_left
   ·rw [if_neg c5] at H
    have kN:decide (fK < (a0.size:Int))=false:=decide_eq_false c5;clear c5;by_cases c15:bM.length < 140737488355328
    rotate_left
    ·rw [if_neg c15] at H
     exact absurd H (by simp)
    rw [if_pos c15] at H;have aen:=ah.mk c15;clear c15;obtain ⟨aiW,Jl⟩:∃ y_:List Int,y_=(bM++[a1]):=⟨_,rfl⟩;replace H:(some (strOfNums aiW))=some r:=by first | (rw [Jl];with_reducible exact H) | (have qQ:=(Option.bind_some _ _).symm.trans H;rw [Jl];with_reducible exact qQ) | (have qQ:=(Option.bind_some _ _).symm.trans H;with_reducible exact qQ) | with_reducible exact H | (rw [Jl];exact H) | exact H
    have aeo:=ah.mk Jl;clear Jl;obtain rfl:=Option.some.inj H;go_wp2_with (first | ((with_reducible refine jZ (b:=.append) (xs:=#[.tmp 30,.tmp 32]) rfl ?_);at_builtin;refine Kd.qj (Kd.int .u8) (w0:=w) w.heap.size rfl (.tmp 30) (.tmp 32) 100 5 (.int .u8 0) 1 rfl Tryz.underlying100 info5 rfl (by decide) (by omega) u5 bM a1 [.int .u8 a1] (fun _=>True) (fun _=>False) rfl rfl ?aP (fun _ hk=>hk.elim) ?aF ?aO ?aB ?aS ?aL ?_;(case aP=>exact rfl);(case aB=>exact (by with_reducible repeat (first | exact HB.out | apply av | apply ak | apply ay)));(case aF=>exact (fun _ _=>trivial));(case aO=>exact (by (with_reducible repeat (first | apply Kd.cO | apply Kd.cB | apply Kd.dF));exact sw.out));(case aS=>exact (bG (by with_reducible repeat (first | exact HB.out | apply av | apply ak | apply ay))));(case aL=>have:=aen.out;omega);intro alv w16 ho hb hg hat;rw [<- aeo.out] at ho;have bY:=ah.mk (hb);have dO:=ah.mk (ho);clear HB;clear sw;have HB:=bY;have aep:=dO;clear bY dO;clear ho hb hg hat;have akb:=vw (P:=Tryz.prog) Tryz.underlying100 Tryz.underlying5 Tryz.underlying9 (Kd.Im aep.out)))
    go_ret;exact ⟨by first | rfl | (simp [aJ,aK]<;>rfl) | (simp [*,aJ,aK]<;>rfl),by with_reducible repeat (first | exact HB.out | apply av | apply ak | apply ay)⟩
   rw [if_pos c5] at H;have kN:decide (fK < (a0.size:Int))=true:=decide_eq_true c5;clear c5;by_cases c6:0<=fK
   rotate_left
   ·rw [if_neg c6] at H
    exact absurd H (by simp)
   rw [if_pos c6] at H;have lJ:decide (0<=fK)=true:=decide_eq_true c6;clear c6;by_cases c8:bM.length < 140737488355328
   rotate_left
   ·rw [if_neg c8] at H
    exact absurd H (by simp)
   rw [if_pos c8] at H;have aer:=ah.mk c8;clear c8;obtain ⟨BJ,Jm⟩:∃ y_:List Int,y_=(bM++[bt a0 fK]):=⟨_,rfl⟩;replace H:(if (bt a0 fK)=a1 then (if BJ.length < 140737488355328 then (bF.l0 k1 a0 a1 (BJ++[a1]) (wrap64 (fK+1))) else (none)) else (bF.l0 k1 a0 a1 BJ (wrap64 (fK+1))))=some r:=by first | (rw [Jm];with_reducible exact H) | (have qQ:=(Option.bind_some _ _).symm.trans H;rw [Jm];with_reducible exact qQ) | (have qQ:=(Option.bind_some _ _).symm.trans H;with_reducible exact qQ) | with_reducible exact H | (rw [Jm];exact H) | exact H
   have aai:=ah.mk Jm;clear Jm;by_cases c10:(bt a0 fK)=a1
   rotate_left
   ·rw [if_neg c10] at H
    have sN:((bt a0 fK)==a1)=false:=beq_eq_false_iff_ne.mpr c10;have Jb:((bt a0 fK) != a1)=true:=bne_iff_ne.mpr c10;have H':=ah.mk H;clear H;have p7:0<=(fK:Int):=of_decide_eq_true (by with_reducible assumption);have q7:fK < (a0.size:Int):=of_decide_eq_true (by with_reducible assumption);have hx7:=dJ a0 fK;replace p7:=eq_true p7;replace q7:=eq_true q7;go_wp2_with (first | ((with_reducible refine jZ (b:=.append) (xs:=#[.tmp 15,.tmp 19]) rfl ?_);at_builtin;refine Kd.qj (Kd.int .u8) (w0:=w) w.heap.size rfl (.tmp 15) (.tmp 19) 100 5 (.int .u8 0) 1 rfl Tryz.underlying100 info5 rfl (by decide) (by omega) u5 bM (bt a0 fK) [.int .u8 (bt a0 fK)] (fun _=>True) (fun _=>False) rfl rfl ?aP (fun _ hk=>hk.elim) ?aF ?aO ?aB ?aS ?aL ?_;(case aP=>exact rfl);(case aB=>exact (by with_reducible repeat (first | exact HB.out | apply av | apply ak | apply ay)));(case aF=>exact (fun _ _=>trivial));(case aO=>exact (by (with_reducible repeat (first | apply Kd.cO | apply Kd.cB | apply Kd.dF));exact sw.out));(case aS=>exact (bG (by with_reducible repeat (first | exact HB.out | apply av | apply ak | apply ay))));(case aL=>have:=aer.out;omega);intro aes WO ho hb hg hat;rw [<- aai.out] at ho;have bY:=ah.mk (hb);have dO:=ah.mk (ho);clear HB;clear sw;have HB:=bY;have NU:=dO;clear bY dO;clear ho hb hg hat;have p9:0<=(fK:Int):=of_decide_eq_true (by with_reducible assumption);have q9:fK < (a0.size:Int):=of_decide_eq_true (by with_reducible assumption);have hx9:=dJ a0 fK;replace p9:=eq_true p9;replace q9:=eq_true q9))
    go_roundg k1
    case measure=>have:=jY.out;omega
    case rel=>exact ⟨(BJ),(wrap64 (fK+1)),(by first | rfl | (simp;done) | (simp [*];done)),H',⟨by have:=jY.out;omega⟩,⟨by (with_reducible repeat (first | apply Kd.cO | apply Kd.cB | apply Kd.dF));exact NU.out⟩,⟨by with_reducible repeat (first | exact HB.out | apply av | apply ak | apply ay)⟩⟩
   rw [if_pos c10] at H;have sN:((bt a0 fK)==a1)=true:=beq_iff_eq.mpr c10;have Jb:((bt a0 fK) != a1)=false:=bne_eq_false_iff_eq.mpr c10;clear c10;by_cases c11:BJ.length < 140737488355328
   rotate_left
   ·rw [if_neg c11] at H
    exact absurd H (by simp)
   rw [if_pos c11] at H;have aeu:=ah.mk c11;clear c11;obtain ⟨aev,Jo⟩:∃ y_:List Int,y_=(BJ++[a1]):=⟨_,rfl⟩;replace H:(bF.l0 k1 a0 a1 aev (wrap64 (fK+1)))=some r:=by first | (rw [Jo];with_reducible exact H) | (have qQ:=(Option.bind_some _ _).symm.trans H;rw [Jo];with_reducible exact qQ) | (have qQ:=(Option.bind_some _ _).symm.trans H;with_reducible exact qQ) | with_reducible exact H | (rw [Jo];exact H) | exact H
   have aew:=ah.mk Jo;clear Jo;have H':=ah.mk H;clear H;have p7:0<=(fK:Int):=of_decide_eq_true (by with_reducible assumption);have q7:fK < (a0.size:Int):=of_decide_eq_true (by with_reducible assumption);have hx7:=dJ a0 fK;replace p7:=eq_true p7;replace q7:=eq_true q7;go_wp2_with (first | ((with_reducible refine jZ (b:=.append) (xs:=#[.tmp 15,.tmp 19]) rfl ?_);at_builtin;refine Kd.qj (Kd.int .u8) (w0:=w) w.heap.size rfl (.tmp 15) (.tmp 19) 100 5 (.int .u8 0) 1 rfl Tryz.underlying100 info5 rfl (by decide) (by omega) u5 bM (bt a0 fK) [.int .u8 (bt a0 fK)] (fun _=>True) (fun _=>False) rfl rfl ?aP (fun _ hk=>hk.elim) ?aF ?aO ?aB ?aS ?aL ?_;(case aP=>exact rfl);(case aB=>exact (by with_reducible repeat (first | exact HB.out | apply av | apply ak | apply ay)));(case aF=>exact (fun _ _=>trivial));(case aO=>exact (by (with_reducible repeat (first | apply Kd.cO | apply Kd.cB | apply Kd.dF));exact sw.out));(case aS=>exact (bG (by with_reducible repeat (first | exact HB.out | apply av | apply ak | apply ay))));(case aL=>have:=aer.out;omega);intro aes ZT ho hb hg hat;rw [<- aai.out] at ho;have bY:=ah.mk (hb);have dO:=ah.mk (ho);clear HB;clear sw;have HB:=bY;have NU:=dO;clear bY dO;clear ho hb hg hat;have p9:0<=(fK:Int):=of_decide_eq_true (by with_reducible assumption);have q9:fK < (a0.size:Int):=of_decide_eq_true (by with_reducible assumption);have hx9:=dJ a0 fK;replace p9:=eq_true p9;replace q9:=eq_true q9) | ((with_reducible refine jZ (b:=.append) (xs:=#[.tmp 26,.tmp 28]) rfl ?_);at_builtin;refine Kd.qj (Kd.int .u8) (w0:=w) w.heap.size rfl (.tmp 26) (.tmp 28) 100 5 (.int .u8 0) 1 rfl Tryz.underlying100 info5 rfl (by decide) (by omega) aes BJ a1 [.int .u8 a1] (fun _=>True) (fun _=>False) rfl rfl ?aP (fun _ hk=>hk.elim) ?aF ?aO ?aB ?aS ?aL ?_;(case aP=>exact rfl);(case aB=>exact (by with_reducible repeat (first | exact HB.out | apply av | apply ak | apply ay)));(case aF=>exact (fun _ _=>trivial));(case aO=>exact (by (with_reducible repeat (first | apply Kd.cO | apply Kd.cB | apply Kd.dF));exact NU.out));(case aS=>exact (bG (by with_reducible repeat (first | exact HB.out | apply av | apply ak | apply ay))));(case aL=>have:=aeu.out;omega);intro alx VA ho hb hg hat;rw [<- aew.out] at ho;have bY:=ah.mk (hb);have dO:=ah.mk (ho);clear HB;clear NU;have HB:=bY;have aex:=dO;clear bY dO;clear ho hb hg hat))
   go_roundg k1
   case measure=>have:=jY.out;omega
   case rel=>exact ⟨(aev),(wrap64 (fK+1)),(by first | rfl | (simp;done) | (simp [*];done)),H',⟨by have:=jY.out;omega⟩,⟨by (with_reducible repeat (first | apply Kd.cO | apply Kd.cB | apply Kd.dF));exact aex.out⟩,⟨by with_reducible repeat (first | exact HB.out | apply av | apply ak | apply ay)⟩⟩
def bJ.j0:Nat->ByteArray->Bool->Option (ByteArray × Int × List ByteArray × Int)
 | 0,_,_=>none
 | k+1,x0,x10=>if x10=true then (some ((⟨#[]⟩:ByteArray),0,([]:List ByteArray),1)) else ((bN.f k x0 34).bind fun FQ=>((bN.f k x0 39).bind fun Df=>(if FQ < Df then ((bF.f k x0 34).bind fun zV=>(some (zV,0,([]:List ByteArray),0))) else ((bF.f k x0 39).bind fun zW=>(some (zW,0,([]:List ByteArray),0))))))
def bJ.f (k:Nat) (a0:ByteArray):Option (ByteArray × Int × List ByteArray × Int):=if (a0.size:Int) > 1000 then (bJ.j0 k a0 true) else ((bR.f k a0).bind fun LU=>(bJ.j0 k a0 (!LU)))
set_option maxHeartbeats 8000000 in
set_option maxRecDepth 100000 in
theorem bJ.calls (k:Nat) (a0:ByteArray) (r1:ByteArray) (r2:Int) (r3:List ByteArray) (r4:Int) (w:World) (h:bJ.f k a0=some (r1,r2,r3,r4)) :
  Calls Tryz.prog 31 #[.string a0] w fun e w'=>∃ v2_:Value,e=.returned (.agg #[.string r1,.int .i64 r2,v2_,.int .i64 r4])/\Kd.R Kd.string 9 w' w.heap.size (fun _=>True) v2_ r3/\Below w.heap.size w w':=by
 have aey:=Tryz.underlying45;have HB:=ah.mk (Below.refl w.heap.size w);have H:(if (a0.size:Int) > 1000 then (bJ.j0 k a0 true) else ((bR.f k a0).bind fun LU=>(bJ.j0 k a0 (!LU))))=some (r1,r2,r3,r4):=h;clear h;have qo:=ah.mk H;clear H;go_enter Tryz.func31,Tryz.ntmps31
 go_upto_region 1 with (first | ((with_reducible refine fO (N:=2) rfl ?_);refine fG ?hg (N:=2) ?hd (cs:=#[.string (⟨#[]⟩:ByteArray),.int .i64 0,.slice none 0 0,.int .i64 0]) (t:=45) ?hr ?_;(case hd=>rfl);(case hg=>rfl);(case hr=>first | (go_simp;done) | (go_simp;rfl));intro jL hg w3 iE hb;have bY:=ah.mk (aX (by with_reducible repeat (first | exact HB.out | apply av | apply ak | apply ay)) hb);have dO:=ah.mk (iE);have jA:=ah.mk ((by rw [hg];exact (bG (by with_reducible repeat (first | exact HB.out | apply av | apply ak | apply ay))):w.heap.size<=jL));have mW:=ah.mk ((by rw [hg];exact (bG (by with_reducible repeat (first | exact HB.out | apply av | apply ak | apply ay))):w.heap.size<=jL));clear HB;have HB:=bY;have dY:=dO;have akc:=jA;have sW:=mW;clear bY dO jA mW;clear hb iE hg))
 (try simp only [Act.put,sArr,sZer,sSuc])
 go_cut [10] (fun v10 wc=>∃ (kq:Nat) (nX:Bool),v10=.bool nX/\ah (bJ.j0 kq a0 nX=some (r1,r2,r3,r4))/\ah (kq<=k)/\ah (wc.heap[jL]?=some (.cells #[.string (⟨#[]⟩:ByteArray),.int .i64 0,(.slice none 0 0),.int .i64 0] 45 (0,0)))/\ah (Below w.heap.size w wc))
 case first =>
  have H:=qo.out;clear qo;by_cases c4:(a0.size:Int) > 1000
  ·rw [if_pos c4] at H
   have kP:decide (1000 < (a0.size:Int))=true:=decide_eq_true c4;have CW:decide (1000 < a0.size)=true:=decide_eq_true (by omega);clear c4
   (first | rw [kP] | (simp only [dK,fM];rw [kP]) | skip)
   have H':=ah.mk H;clear H;go_wp2;go_meet
   case rel=>exact ⟨_,(true),(by first | rfl | (simp;done) | (simp [*];done)),H',⟨by first | omega | exact Nat.le_refl _⟩,⟨by (with_reducible repeat (first | refine aH ?_ _ | refine aU ?_ | refine aN ?_ _));exact dY.out⟩,⟨by with_reducible repeat (first | exact HB.out | apply av | apply ak | apply ay | refine bf ?_ sW.out)⟩⟩
  rw [if_neg c4] at H;have kP:decide (1000 < (a0.size:Int))=false:=decide_eq_false c4;have CW:decide (1000 < a0.size)=false:=decide_eq_false (by omega);clear c4
  (first | rw [kP] | (simp only [dK,fM];rw [kP]) | skip)
  replace H:=Option.bind_eq_some_iff.mp H;obtain ⟨LU,A50,H⟩:=H;replace H:(bJ.j0 k a0 (!LU))=some (r1,r2,r3,r4):=H;have A5:=ah.mk A50;clear A50;have H':=ah.mk H;clear H;go_wp2_with (first | (go_at_call 43;(with_reducible refine (bR.calls k a0 LU _ A5.out).mono ?_);rintro e w' ⟨rfl,⟨nd,rfl⟩⟩))
  go_meet
  case rel=>exact ⟨_,(!LU),(by first | rfl | (simp;done) | (simp [*];done)),H',⟨by first | omega | exact Nat.le_refl _⟩,⟨by (with_reducible repeat (first | refine aH ?_ _ | refine aU ?_ | refine aN ?_ _));exact dY.out⟩,⟨by with_reducible repeat (first | exact HB.out | apply av | apply ak | apply ay | refine bf ?_ sW.out)⟩⟩
 case rest =>
  clear qo;obtain ⟨kq,nX,rfl,HA,HJ1,dY,HB⟩:=hcut;cases kq with
  | zero=>exact absurd HA.out (by simp [bJ.j0])
  | succ NV =>
   have H:=HA.out;clear HA;simp only [bJ.j0] at H;by_cases c6:nX=true
   ·subst c6
    rw [if_pos rfl] at H;simp only [Option.some.injEq,Prod.mk.injEq] at H;obtain ⟨rfl,rfl,rfl,rfl⟩:=H;have Sj:wc.cell? ⟨jL,0,none⟩=some (.string (⟨#[]⟩:ByteArray)):=(au dY.out 0).trans rfl;have Sk:wc.cell? ⟨jL,1,none⟩=some (.int .i64 0):=(au dY.out 1).trans rfl;have Sl:wc.cell? ⟨jL,2,none⟩=some (.slice none 0 0):=(au dY.out 2).trans rfl;have Sm:wc.cell? ⟨jL,3,none⟩=some (.int .i64 0):=(au dY.out 3).trans rfl;have Sn:=aA dY.out 0;have Sq:=aA dY.out 1;have Sr:=aA dY.out 2;have Sv:=aA dY.out 3;go_wp2;refine bodyPost_ret (results_cell_row rfl _ _ jL 45 #[.string (⟨#[]⟩:ByteArray),.int .i64 0,.slice none 0 0,.int .i64 1] (0,0) _ rfl (by (with_reducible repeat (first | refine aH ?_ _ | refine aU ?_ | refine aN ?_ _));refine aW (cs:=#[.string (⟨#[]⟩:ByteArray),.int .i64 0,.slice none 0 0,.int .i64 0]) ?_ 3 _ rfl;(with_reducible repeat (first | refine aH ?_ _ | refine aU ?_ | refine aN ?_ _));refine aW (cs:=#[.string (⟨#[]⟩:ByteArray),.int .i64 0,.slice none 0 0,.int .i64 0]) ?_ 2 _ rfl;(with_reducible repeat (first | refine aH ?_ _ | refine aU ?_ | refine aN ?_ _));refine aW (cs:=#[.string (⟨#[]⟩:ByteArray),.int .i64 0,.slice none 0 0,.int .i64 0]) ?_ 1 _ rfl;(with_reducible repeat (first | refine aH ?_ _ | refine aU ?_ | refine aN ?_ _));refine aW (cs:=#[.string (⟨#[]⟩:ByteArray),.int .i64 0,.slice none 0 0,.int .i64 0]) ?_ 0 _ rfl;(with_reducible repeat (first | refine aH ?_ _ | refine aU ?_ | refine aN ?_ _));exact dY.out) Tryz.underlying45 rfl (by kernel_rfl)) rfl ?_;exact ⟨_,by first | rfl | (simp [aJ,aK]<;>rfl) | (simp [*,aJ,aK]<;>rfl),by first | exact Kd.nG _ _ _ _ _ | exact Kd.pJ _ _ _ _ _ | exact Kd.rX _ _ _ _ _ | exact Kd.rU _ _ _ _ _ | exact Kd.rW _ _ _ _ _,by with_reducible repeat (first | exact HB.out | apply av | apply ak | apply ay | refine bf ?_ sW.out)⟩
   replace c6:=Bool.eq_false_iff.mpr c6;subst c6;rw [if_neg (show ¬ (false=true) by decide)] at H;replace H:=Option.bind_eq_some_iff.mp H;obtain ⟨FQ,RG,H⟩:=H;replace H:((bN.f NV a0 39).bind fun Df=>(if FQ < Df then ((bF.f NV a0 34).bind fun zV=>(some (zV,0,([]:List ByteArray),0))) else ((bF.f NV a0 39).bind fun zW=>(some (zW,0,([]:List ByteArray),0)))))=some (r1,r2,r3,r4):=H;have A8:=ah.mk RG;clear RG;replace H:=Option.bind_eq_some_iff.mp H;obtain ⟨Df,RF,H⟩:=H;replace H:(if FQ < Df then ((bF.f NV a0 34).bind fun zV=>(some (zV,0,([]:List ByteArray),0))) else ((bF.f NV a0 39).bind fun zW=>(some (zW,0,([]:List ByteArray),0))))=some (r1,r2,r3,r4):=H;have A9:=ah.mk RF;clear RF;by_cases c10:FQ < Df
   ·rw [if_pos c10] at H
    have sN:decide (FQ < Df)=true:=decide_eq_true c10;clear c10;replace H:=Option.bind_eq_some_iff.mp H;obtain ⟨zV,wL,H⟩:=H;replace H:(some (zV,0,([]:List ByteArray),0))=some (r1,r2,r3,r4):=H;have Pv:=ah.mk wL;clear wL;simp only [Option.some.injEq,Prod.mk.injEq] at H;obtain ⟨rfl,rfl,rfl,rfl⟩:=H;go_wp2_with (first | ((with_reducible refine aQ (f:=67) rfl ?_);refine bL (some 13) rfl rfl Tryz.func67 (by kernel_rfl) rfl #[.string a0,.int .u8 34] rfl (by (try simp only [List.map_toArray,List.map_cons,List.map_nil]);first | done | rfl) ?_;(with_reducible refine (bN.calls NV a0 34 FQ _ A8.out).mono ?_);rintro e w' ⟨rfl,⟨nd,rfl⟩⟩;refine ⟨_,rfl,?_⟩;(try (rw [kW wc];generalize vP:World.drewN wc _=wc;have bY:ah (wc.heap[jL]?=some (.cells #[.string (⟨#[]⟩:ByteArray),.int .i64 0,.slice none 0 0,.int .i64 0] 45 (0,0))):=⟨by rw [<- vP];exact (by (with_reducible repeat (first | refine aH ?_ _ | refine aU ?_ | refine aN ?_ _));exact dY.out)⟩;have dO:ah (Below w.heap.size w wc):=⟨by rw [<- vP];exact (by with_reducible repeat (first | exact HB.out | apply av | apply ak | apply ay | refine bf ?_ sW.out))⟩;clear dY HB vP;have dY:=bY;have HB:=dO;clear bY dO))) | ((with_reducible refine aQ (f:=67) rfl ?_);refine bL (some 15) rfl rfl Tryz.func67 (by kernel_rfl) rfl #[.string a0,.int .u8 39] rfl (by (try simp only [List.map_toArray,List.map_cons,List.map_nil]);first | done | rfl) ?_;(with_reducible refine (bN.calls NV a0 39 Df _ A9.out).mono ?_);rintro e w' ⟨rfl,⟨nd,rfl⟩⟩;refine ⟨_,rfl,?_⟩;(try (rw [kW wc];generalize vP:World.drewN wc _=wc;have bY:ah (wc.heap[jL]?=some (.cells #[.string (⟨#[]⟩:ByteArray),.int .i64 0,.slice none 0 0,.int .i64 0] 45 (0,0))):=⟨by rw [<- vP];exact (by (with_reducible repeat (first | refine aH ?_ _ | refine aU ?_ | refine aN ?_ _));exact dY.out)⟩;have dO:ah (Below w.heap.size w wc):=⟨by rw [<- vP];exact (by with_reducible repeat (first | exact HB.out | apply av | apply ak | apply ay | refine bf ?_ sW.out))⟩;clear dY HB vP;have dY:=bY;have HB:=dO;clear bY dO))) | ((with_reducible refine aQ (f:=68) rfl ?_);refine bL (some 18) rfl rfl Tryz.func68 (by kernel_rfl) rfl #[.string a0,.int .u8 34] rfl (by (try simp only [List.map_toArray,List.map_cons,List.map_nil]);first | done | rfl) ?_;(with_reducible refine (bF.calls NV a0 34 zV _ Pv.out).mono ?_);rintro e ZT ⟨rfl,hb⟩;refine ⟨_,rfl,?_⟩;have bY:=ah.mk (fF (g:=jL) (o:=.cells #[.string (⟨#[]⟩:ByteArray),.int .i64 0,.slice none 0 0,.int .i64 0] 45 (0,0)) (by (with_reducible repeat (first | refine aH ?_ _ | refine aU ?_ | refine aN ?_ _));exact dY.out) hb);have dO:=ah.mk (aX (by with_reducible repeat (first | exact HB.out | apply av | apply ak | apply ay | refine bf ?_ sW.out)) hb);clear dY;clear HB;have dY:=bY;have HB:=dO;clear bY dO;(try clear hb);(try clear hb2);(try clear hk);(try clear hi);have Xa:ZT.cell? ⟨jL,0,none⟩=some (.string (⟨#[]⟩:ByteArray)):=(au dY.out 0).trans rfl;have Xb:ZT.cell? ⟨jL,1,none⟩=some (.int .i64 0):=(au dY.out 1).trans rfl;have Xc:ZT.cell? ⟨jL,2,none⟩=some (.slice none 0 0):=(au dY.out 2).trans rfl;have Xd:ZT.cell? ⟨jL,3,none⟩=some (.int .i64 0):=(au dY.out 3).trans rfl;have Xe:=aA dY.out 0;have Xf:=aA dY.out 1;have Xg:=aA dY.out 2;have Xi:=aA dY.out 3))
    refine bodyPost_ret (results_cell_row rfl _ _ jL 45 #[.string zV,.int .i64 0,.slice none 0 0,.int .i64 0] (0,0) _ rfl (by (with_reducible repeat (first | refine aH ?_ _ | refine aU ?_ | refine aN ?_ _));refine aW (cs:=#[.string zV,.int .i64 0,.slice none 0 0,.int .i64 0]) ?_ 3 _ rfl;(with_reducible repeat (first | refine aH ?_ _ | refine aU ?_ | refine aN ?_ _));refine aW (cs:=#[.string zV,.int .i64 0,.slice none 0 0,.int .i64 0]) ?_ 2 _ rfl;(with_reducible repeat (first | refine aH ?_ _ | refine aU ?_ | refine aN ?_ _));refine aW (cs:=#[.string zV,.int .i64 0,.slice none 0 0,.int .i64 0]) ?_ 1 _ rfl;(with_reducible repeat (first | refine aH ?_ _ | refine aU ?_ | refine aN ?_ _));refine aW (cs:=#[.string (⟨#[]⟩:ByteArray),.int .i64 0,.slice none 0 0,.int .i64 0]) ?_ 0 _ rfl;(with_reducible repeat (first | refine aH ?_ _ | refine aU ?_ | refine aN ?_ _));exact dY.out) Tryz.underlying45 rfl (by kernel_rfl)) rfl ?_;exact ⟨_,by first | rfl | (simp [aJ,aK]<;>rfl) | (simp [*,aJ,aK]<;>rfl),by first | exact Kd.nG _ _ _ _ _ | exact Kd.pJ _ _ _ _ _ | exact Kd.rX _ _ _ _ _ | exact Kd.rU _ _ _ _ _ | exact Kd.rW _ _ _ _ _,by with_reducible repeat (first | exact HB.out | apply av | apply ak | apply ay | refine bf ?_ sW.out)⟩
   rw [if_neg c10] at H;have sN:decide (FQ < Df)=false:=decide_eq_false c10;clear c10;replace H:=Option.bind_eq_some_iff.mp H;obtain ⟨zW,Tz,H⟩:=H;replace H:(some (zW,0,([]:List ByteArray),0))=some (r1,r2,r3,r4):=H;have A14:=ah.mk Tz;clear Tz;simp only [Option.some.injEq,Prod.mk.injEq] at H;obtain ⟨rfl,rfl,rfl,rfl⟩:=H;go_wp2_with (first | ((with_reducible refine aQ (f:=67) rfl ?_);refine bL (some 13) rfl rfl Tryz.func67 (by kernel_rfl) rfl #[.string a0,.int .u8 34] rfl (by (try simp only [List.map_toArray,List.map_cons,List.map_nil]);first | done | rfl) ?_;(with_reducible refine (bN.calls NV a0 34 FQ _ A8.out).mono ?_);rintro e w' ⟨rfl,⟨nd,rfl⟩⟩;refine ⟨_,rfl,?_⟩;(try (rw [kW wc];generalize vP:World.drewN wc _=wc;have bY:ah (wc.heap[jL]?=some (.cells #[.string (⟨#[]⟩:ByteArray),.int .i64 0,.slice none 0 0,.int .i64 0] 45 (0,0))):=⟨by rw [<- vP];exact (by (with_reducible repeat (first | refine aH ?_ _ | refine aU ?_ | refine aN ?_ _));exact dY.out)⟩;have dO:ah (Below w.heap.size w wc):=⟨by rw [<- vP];exact (by with_reducible repeat (first | exact HB.out | apply av | apply ak | apply ay | refine bf ?_ sW.out))⟩;clear dY HB vP;have dY:=bY;have HB:=dO;clear bY dO))) | ((with_reducible refine aQ (f:=67) rfl ?_);refine bL (some 15) rfl rfl Tryz.func67 (by kernel_rfl) rfl #[.string a0,.int .u8 39] rfl (by (try simp only [List.map_toArray,List.map_cons,List.map_nil]);first | done | rfl) ?_;(with_reducible refine (bN.calls NV a0 39 Df _ A9.out).mono ?_);rintro e w' ⟨rfl,⟨nd,rfl⟩⟩;refine ⟨_,rfl,?_⟩;(try (rw [kW wc];generalize vP:World.drewN wc _=wc;have bY:ah (wc.heap[jL]?=some (.cells #[.string (⟨#[]⟩:ByteArray),.int .i64 0,.slice none 0 0,.int .i64 0] 45 (0,0))):=⟨by rw [<- vP];exact (by (with_reducible repeat (first | refine aH ?_ _ | refine aU ?_ | refine aN ?_ _));exact dY.out)⟩;have dO:ah (Below w.heap.size w wc):=⟨by rw [<- vP];exact (by with_reducible repeat (first | exact HB.out | apply av | apply ak | apply ay | refine bf ?_ sW.out))⟩;clear dY HB vP;have dY:=bY;have HB:=dO;clear bY dO))) | ((with_reducible refine aQ (f:=68) rfl ?_);refine bL (some 21) rfl rfl Tryz.func68 (by kernel_rfl) rfl #[.string a0,.int .u8 39] rfl (by (try simp only [List.map_toArray,List.map_cons,List.map_nil]);first | done | rfl) ?_;(with_reducible refine (bF.calls NV a0 39 zW _ A14.out).mono ?_);rintro e w15 ⟨rfl,hb⟩;refine ⟨_,rfl,?_⟩;have bY:=ah.mk (fF (g:=jL) (o:=.cells #[.string (⟨#[]⟩:ByteArray),.int .i64 0,.slice none 0 0,.int .i64 0] 45 (0,0)) (by (with_reducible repeat (first | refine aH ?_ _ | refine aU ?_ | refine aN ?_ _));exact dY.out) hb);have dO:=ah.mk (aX (by with_reducible repeat (first | exact HB.out | apply av | apply ak | apply ay | refine bf ?_ sW.out)) hb);clear dY;clear HB;have dY:=bY;have HB:=dO;clear bY dO;(try clear hb);(try clear hb2);(try clear hk);(try clear hi);have agN:w15.cell? ⟨jL,0,none⟩=some (.string (⟨#[]⟩:ByteArray)):=(au dY.out 0).trans rfl;have agO:w15.cell? ⟨jL,1,none⟩=some (.int .i64 0):=(au dY.out 1).trans rfl;have agP:w15.cell? ⟨jL,2,none⟩=some (.slice none 0 0):=(au dY.out 2).trans rfl;have agQ:w15.cell? ⟨jL,3,none⟩=some (.int .i64 0):=(au dY.out 3).trans rfl;have agR:=aA dY.out 0;have agS:=aA dY.out 1;have agT:=aA dY.out 2;have agU:=aA dY.out 3))
   refine bodyPost_ret (results_cell_row rfl _ _ jL 45 #[.string zW,.int .i64 0,.slice none 0 0,.int .i64 0] (0,0) _ rfl (by (with_reducible repeat (first | refine aH ?_ _ | refine aU ?_ | refine aN ?_ _));refine aW (cs:=#[.string zW,.int .i64 0,.slice none 0 0,.int .i64 0]) ?_ 3 _ rfl;(with_reducible repeat (first | refine aH ?_ _ | refine aU ?_ | refine aN ?_ _));refine aW (cs:=#[.string zW,.int .i64 0,.slice none 0 0,.int .i64 0]) ?_ 2 _ rfl;(with_reducible repeat (first | refine aH ?_ _ | refine aU ?_ | refine aN ?_ _));refine aW (cs:=#[.string zW,.int .i64 0,.slice none 0 0,.int .i64 0]) ?_ 1 _ rfl;(with_reducible repeat (first | refine aH ?_ _ | refine aU ?_ | refine aN ?_ _));refine aW (cs:=#[.string (⟨#[]⟩:ByteArray),.int .i64 0,.slice none 0 0,.int .i64 0]) ?_ 0 _ rfl;(with_reducible repeat (first | refine aH ?_ _ | refine aU ?_ | refine aN ?_ _));exact dY.out) Tryz.underlying45 rfl (by kernel_rfl)) rfl ?_;exact ⟨_,by first | rfl | (simp [aJ,aK]<;>rfl) | (simp [*,aJ,aK]<;>rfl),by first | exact Kd.nG _ _ _ _ _ | exact Kd.pJ _ _ _ _ _ | exact Kd.rX _ _ _ _ _ | exact Kd.rU _ _ _ _ _ | exact Kd.rW _ _ _ _ _,by with_reducible repeat (first | exact HB.out | apply av | apply ak | apply ay | refine bf ?_ sW.out)⟩
def bD.f (a0:Int):Option (Bool):=if a0>=48 then (some (decide (a0<=57))) else (some false)
set_option maxHeartbeats 8000000 in
set_option maxRecDepth 100000 in
theorem bD.calls (a0:Int) (r:Bool) (w:World) (h:bD.f a0=some r) :
  Calls Tryz.prog 60 #[.int .u8 a0] w fun e w'=>e=.returned (.bool r)/\aG w w':=by
 have H:(if a0>=48 then (some (decide (a0<=57))) else (some false))=some r:=h;clear h;by_cases c2:a0>=48
 ·rw [if_pos c2] at H
  have kX:decide (48<=a0)=true:=decide_eq_true c2;clear c2;obtain rfl:=Option.some.inj H;go_enter Tryz.func60,Tryz.ntmps60
  go_wp2;go_ret;exact ⟨by first | rfl | (simp;done) | (simp [*];done),by repeat (first | exact aG.refl _ | apply aG.step)⟩
 rw [if_neg c2] at H;have kX:decide (48<=a0)=false:=decide_eq_false c2;clear c2;obtain rfl:=Option.some.inj H;go_enter Tryz.func60,Tryz.ntmps60
 go_wp2;go_ret;exact ⟨by first | rfl | (simp;done) | (simp [*];done),by repeat (first | exact aG.refl _ | apply aG.step)⟩
def bT.j0:Nat->Int->Bool->Option (Int)
 | 0,_,_=>none
 | k+1,x0,x9=>if x9=true then (some (((x0 - 97) % 256)+10)) else (if x0>=65 then (if x0<=70 then (some (((x0 - 65) % 256)+10)) else (some (-1))) else (some (-1)))
def bT.f (k:Nat) (a0:Int):Option (Int):=(bD.f a0).bind fun t160=>(if t160=true then (some ((a0 - 48) % 256)) else (if a0>=97 then (bT.j0 k a0 (decide (a0<=102))) else (bT.j0 k a0 false)))
set_option maxHeartbeats 8000000 in
set_option maxRecDepth 100000 in
theorem bT.calls (k:Nat) (a0:Int) (r:Int) (w:World) (h:bT.f k a0=some r) :
  Calls Tryz.prog 134 #[.int .u8 a0] w fun e w'=>e=.returned (.int .i64 r)/\aG w w':=by
 have H:((bD.f a0).bind fun t160=>(if t160=true then (some ((a0 - 48) % 256)) else (if a0>=97 then (bT.j0 k a0 (decide (a0<=102))) else (bT.j0 k a0 false))))=some r:=h;clear h;replace H:=Option.bind_eq_some_iff.mp H;obtain ⟨t160,EY,H⟩:=H;replace H:(if t160=true then (some ((a0 - 48) % 256)) else (if a0>=97 then (bT.j0 k a0 (decide (a0<=102))) else (bT.j0 k a0 false)))=some r:=H;have A2:=ah.mk EY;clear EY;by_cases c3:t160=true
 ·subst c3
  rw [if_pos rfl] at H;obtain rfl:=Option.some.inj H;go_enter Tryz.func134,Tryz.ntmps134
  go_wp2_with (first | ((with_reducible refine aQ (f:=60) rfl ?_);refine bL (some 5) rfl rfl Tryz.func60 (by kernel_rfl) rfl #[.int .u8 a0] rfl (by (try simp only [List.map_toArray,List.map_cons,List.map_nil]);first | done | rfl) ?_;(with_reducible refine (bD.calls a0 true _ A2.out).mono ?_);rintro e w' ⟨rfl,⟨nd,rfl⟩⟩;refine ⟨_,rfl,?_⟩))
  go_ret;exact ⟨by first | rfl | (simp;done) | (simp [*];done),by repeat (first | exact aG.refl _ | apply aG.step)⟩
 replace c3:=Bool.eq_false_iff.mpr c3;subst c3;rw [if_neg (show ¬ (false=true) by decide)] at H;have Jp:=ah.mk H;clear H;go_enter Tryz.func134,Tryz.ntmps134
 go_upto_region 3 with (first | ((with_reducible refine aQ (f:=60) rfl ?_);refine bL (some 5) rfl rfl Tryz.func60 (by kernel_rfl) rfl #[.int .u8 a0] rfl (by (try simp only [List.map_toArray,List.map_cons,List.map_nil]);first | done | rfl) ?_;(with_reducible refine (bD.calls a0 false _ A2.out).mono ?_);rintro e w' ⟨rfl,⟨nd,rfl⟩⟩;refine ⟨_,rfl,?_⟩))
 (try simp only [Act.put,sArr,sZer,sSuc])
 go_cut [9] (fun v9 wc=>∃ (kq:Nat) (XC:Bool),v9=.bool XC/\ah (bT.j0 kq a0 XC=some r)/\ah (kq<=k)/\aG w wc)
 case first =>
  have H:=Jp.out;clear Jp;by_cases c5:a0>=97
  ·rw [if_pos c5] at H
   have kN:decide (97<=a0)=true:=decide_eq_true c5;clear c5
   (first | rw [kN] | (simp only [dK,fM];rw [kN]) | skip)
   have H':=ah.mk H;clear H;go_wp2;go_meet
   case rel=>exact ⟨_,(decide (a0<=102)),(by first | rfl | (simp;done) | (simp [*];done)),H',⟨by first | omega | exact Nat.le_refl _⟩,by repeat (first | exact aG.refl _ | apply aG.step)⟩
  rw [if_neg c5] at H;have kN:decide (97<=a0)=false:=decide_eq_false c5;clear c5
  (first | rw [kN] | (simp only [dK,fM];rw [kN]) | skip)
  have H':=ah.mk H;clear H;go_wp2;go_meet
  case rel=>exact ⟨_,(false),(by first | rfl | (simp;done) | (simp [*];done)),H',⟨by first | omega | exact Nat.le_refl _⟩,by repeat (first | exact aG.refl _ | apply aG.step)⟩
 case rest =>
  clear Jp;obtain ⟨kq,XC,rfl,HA,LV,⟨mc3,rfl⟩⟩:=hcut;cases kq with
  | zero=>exact absurd HA.out (by simp [bT.j0])
  | succ CK =>
   have H:=HA.out;clear HA;simp only [bT.j0] at H;by_cases c6:XC=true
   ·subst c6
    rw [if_pos rfl] at H;obtain rfl:=Option.some.inj H;go_wp2;go_ret;exact ⟨by first | rfl | (simp;done) | (simp [*];done),by repeat (first | exact aG.refl _ | apply aG.step)⟩
   replace c6:=Bool.eq_false_iff.mpr c6;subst c6;rw [if_neg (show ¬ (false=true) by decide)] at H;by_cases c7:a0>=65
   rotate_left
   ·rw [if_neg c7] at H
    have sJ:decide (65<=a0)=false:=decide_eq_false c7;clear c7;obtain rfl:=Option.some.inj H;go_wp2;go_ret;exact ⟨by first | rfl | (simp;done) | (simp [*];done),by repeat (first | exact aG.refl _ | apply aG.step)⟩
   rw [if_pos c7] at H;have sJ:decide (65<=a0)=true:=decide_eq_true c7;clear c7;by_cases c8:a0<=70
   ·rw [if_pos c8] at H
    have zO:decide (a0<=70)=true:=decide_eq_true c8;clear c8;obtain rfl:=Option.some.inj H;go_wp2;go_ret;exact ⟨by first | rfl | (simp;done) | (simp [*];done),by repeat (first | exact aG.refl _ | apply aG.step)⟩
   rw [if_neg c8] at H;have zO:decide (a0<=70)=false:=decide_eq_false c8;clear c8;obtain rfl:=Option.some.inj H;go_wp2;go_ret;exact ⟨by first | rfl | (simp;done) | (simp [*];done),by repeat (first | exact aG.refl _ | apply aG.step)⟩
mutual
def bg.l0:Nat->ByteArray->Int->Int->List Int->Int->Option (ByteArray × Bool)
 | 0,_,_,_,_,_=>none
 | k+1,x0,x1,x2,x8,x9=>if x9 < (x0.size:Int) then (bg.l1 k x0 x1 x2 x8 x9 0 0) else (some (strOfNums x8,true))
def bg.l1:Nat->ByteArray->Int->Int->List Int->Int->Int->Int->Option (ByteArray × Bool)
 | 0,_,_,_,_,_,_,_=>none
 | k+1,x0,x1,x2,x8,x9,x10,x11=>if x11 < x2 then (if 0<=(wrap64 (x9+x11)) then (if (wrap64 (x9+x11)) < (x0.size:Int) then ((bT.f k (bt x0 (wrap64 (x9+x11)))).bind fun qg=>(if qg < 0 then (some ((⟨#[]⟩:ByteArray),false)) else (if qg>=x1 then (some ((⟨#[]⟩:ByteArray),false)) else (bg.l1 k x0 x1 x2 x8 x9 (wrap64 ((wrap64 (x10*x1))+qg)) (wrap64 (x11+1)))))) else (none)) else (none)) else (if x10 < 32 then (some ((⟨#[]⟩:ByteArray),false)) else (if x10 > 126 then (some ((⟨#[]⟩:ByteArray),false)) else (if x8.length < 140737488355328 then (bg.l0 k x0 x1 x2 (x8++[(x10) % 256]) (wrap64 (x9+x2))) else (none))))
end
def bg.f (k:Nat) (a0:ByteArray) (a1:Int) (a2:Int):Option (ByteArray × Bool):=if a2=0 then (none) else (if ((a0.size:Int) % a2)=0 then (bg.l0 k a0 a1 a2 ([]:List Int) 0) else (some ((⟨#[]⟩:ByteArray),false)))
set_option maxHeartbeats 8000000 in
set_option maxRecDepth 100000 in
theorem bg.calls (k:Nat) (a0:ByteArray) (a1:Int) (a2:Int) (r1:ByteArray) (r2:Bool) (w:World) (h:bg.f k a0 a1 a2=some (r1,r2)) :
  Calls Tryz.prog 110 #[.string a0,.int .i64 a1,.int .i64 a2] w fun e w'=>e=.returned (.tuple #[.string r1,.bool r2])/\Below w.heap.size w w':=by
 have HB:=ah.mk (Below.refl w.heap.size w);have H:(if a2=0 then (none) else (if ((a0.size:Int) % a2)=0 then (bg.l0 k a0 a1 a2 ([]:List Int) 0) else (some ((⟨#[]⟩:ByteArray),false))))=some (r1,r2):=h;clear h;by_cases c4:a2=0
 ·rw [if_pos c4] at H
  exact absurd H (by simp)
 rw [if_neg c4] at H;have kP:(a2==0)=false:=beq_eq_false_iff_ne.mpr c4;have CW:(a2 != 0)=true:=bne_iff_ne.mpr c4;by_cases c5:((a0.size:Int) % a2)=0
 rotate_left
 ·rw [if_neg c5] at H
  have kN:(((a0.size:Int) % a2)==0)=false:=beq_eq_false_iff_ne.mpr c5;have EF:(((a0.size:Int) % a2) != 0)=true:=bne_iff_ne.mpr c5;simp only [Option.some.injEq,Prod.mk.injEq] at H;obtain ⟨rfl,rfl⟩:=H;go_enter Tryz.func110,Tryz.ntmps110
  go_wp2;go_ret2
  exact ⟨by first | rfl | (simp [aJ,aK]<;>rfl) | (simp [*,aJ,aK]<;>rfl),by with_reducible repeat (first | exact HB.out | apply av | apply ak | apply ay)⟩
 rw [if_pos c5] at H;have kN:(((a0.size:Int) % a2)==0)=true:=beq_iff_eq.mpr c5;have EF:(((a0.size:Int) % a2) != 0)=false:=bne_eq_false_iff_eq.mpr c5;clear c5;have H':=ah.mk H;clear H;go_enter Tryz.func110,Tryz.ntmps110
 go_wp2;go_loopg [8,9] k (fun kq v8 v9 w'=>∃ (gq:List Int) (yK:Int),v9=.int .i64 yK/\ah (bg.l0 kq a0 a1 a2 gq yK=some (r1,r2))/\ah (kq<=k)/\ah (Kd.R (Kd.int .u8) 5 w' w.heap.size (fun _=>True) v8 gq)/\ah (Below w.heap.size w w'))
 case atStart=>exact ⟨(([]:List Int)),(0),(by first | rfl | (simp;done) | (simp [*];done)),H',⟨Nat.le_refl _⟩,⟨by first | exact Kd.nG _ _ _ _ _ | exact Kd.pJ _ _ _ _ _ | exact Kd.rX _ _ _ _ _ | exact Kd.rU _ _ _ _ _ | exact Kd.rW _ _ _ _ _⟩,⟨by with_reducible repeat (first | exact HB.out | apply av | apply ak | apply ay)⟩⟩
 case round =>
  clear H';obtain ⟨gq,yK,rfl,HA,jY,Qh,HB⟩:=hrel;cases gk with
  | zero=>exact absurd HA.out (by simp [bg.l0])
  | succ k1 =>
   have H:=HA.out;clear HA;simp only [bg.l0] at H;by_cases c6:yK < (a0.size:Int)
   rotate_left
   ·rw [if_neg c6] at H
    have lJ:decide (yK < (a0.size:Int))=false:=decide_eq_false c6;clear c6;simp only [Option.some.injEq,Prod.mk.injEq] at H;obtain ⟨rfl,rfl⟩:=H;have akd:=vw (P:=Tryz.prog) Tryz.underlying100 Tryz.underlying5 Tryz.underlying9 (Kd.Im Qh.out);go_wp2;go_ret2
    exact ⟨by first | rfl | (simp [aJ,aK]<;>rfl) | (simp [*,aJ,aK]<;>rfl),by with_reducible repeat (first | exact HB.out | apply av | apply ak | apply ay)⟩
   rw [if_pos c6] at H;have lJ:decide (yK < (a0.size:Int))=true:=decide_eq_true c6;clear c6;have H':=ah.mk H;clear H;go_wp2;go_loopg [10,11] k1 (fun kq v10 v11 w'=>∃ (dx:Int) (sZ:Int),v10=.int .i64 dx/\v11=.int .i64 sZ/\ah (bg.l1 kq a0 a1 a2 gq yK dx sZ=some (r1,r2))/\ah (kq<=k1)/\ah (Kd.R (Kd.int .u8) 5 w' w.heap.size (fun _=>True) u8 gq)/\ah (Below w.heap.size w w'))
   case atStart=>exact ⟨(0),(0),(by first | rfl | (simp;done) | (simp [*];done)),(by first | rfl | (simp;done) | (simp [*];done)),H',⟨Nat.le_refl _⟩,⟨by (with_reducible repeat (first | apply Kd.cO | apply Kd.cB | apply Kd.dF));exact Qh.out⟩,⟨by with_reducible repeat (first | exact HB.out | apply av | apply ak | apply ay)⟩⟩
   case round =>
    clear H';obtain ⟨dx,sZ,rfl,rfl,HA,CG,Qh,HB⟩:=hrel;cases gk with
    | zero=>exact absurd HA.out (by simp [bg.l1])
    | succ k2 =>
     have H:=HA.out;clear HA;simp only [bg.l1] at H;by_cases c7:sZ < a2
     rotate_left
     ·rw [if_neg c7] at H
      have sJ:decide (sZ < a2)=false:=decide_eq_false c7;clear c7;by_cases c15:dx < 32
      ·rw [if_pos c15] at H
       have wK:decide (dx < 32)=true:=decide_eq_true c15;clear c15;simp only [Option.some.injEq,Prod.mk.injEq] at H;obtain ⟨rfl,rfl⟩:=H;go_wp2;go_ret2
       exact ⟨by first | rfl | (simp [aJ,aK]<;>rfl) | (simp [*,aJ,aK]<;>rfl),by with_reducible repeat (first | exact HB.out | apply av | apply ak | apply ay)⟩
      rw [if_neg c15] at H;have wK:decide (dx < 32)=false:=decide_eq_false c15;clear c15;by_cases c16:dx > 126
      ·rw [if_pos c16] at H
       have sM:decide (126 < dx)=true:=decide_eq_true c16;clear c16;simp only [Option.some.injEq,Prod.mk.injEq] at H;obtain ⟨rfl,rfl⟩:=H;go_wp2;go_ret2
       exact ⟨by first | rfl | (simp [aJ,aK]<;>rfl) | (simp [*,aJ,aK]<;>rfl),by with_reducible repeat (first | exact HB.out | apply av | apply ak | apply ay)⟩
      rw [if_neg c16] at H;have sM:decide (126 < dx)=false:=decide_eq_false c16;clear c16;by_cases c17:gq.length < 140737488355328
      rotate_left
      ·rw [if_neg c17] at H
       exact absurd H (by simp)
      rw [if_pos c17] at H;have aez:=ah.mk c17;clear c17;obtain ⟨aeA,Jq⟩:∃ y_:List Int,y_=(gq++[(dx) % 256]):=⟨_,rfl⟩;replace H:(bg.l0 k2 a0 a1 a2 aeA (wrap64 (yK+a2)))=some (r1,r2):=by first | (rw [Jq];with_reducible exact H) | (have qQ:=(Option.bind_some _ _).symm.trans H;rw [Jq];with_reducible exact qQ) | (have qQ:=(Option.bind_some _ _).symm.trans H;with_reducible exact qQ) | with_reducible exact H | (rw [Jq];exact H) | exact H
      have aeB:=ah.mk Jq;clear Jq;have H':=ah.mk H;clear H;go_wp2_with (first | ((with_reducible refine jZ (b:=.append) (xs:=#[.tmp 54,.tmp 57]) rfl ?_);at_builtin;refine Kd.qj (Kd.int .u8) (w0:=w) w.heap.size rfl (.tmp 54) (.tmp 57) 100 5 (.int .u8 0) 1 rfl Tryz.underlying100 info5 rfl (by decide) (by omega) u8 gq ((dx) % 256) [.int .u8 ((dx) % 256)] (fun _=>True) (fun _=>False) rfl rfl ?aP (fun _ hk=>hk.elim) ?aF ?aO ?aB ?aS ?aL ?_;(case aP=>exact rfl);(case aB=>exact (by with_reducible repeat (first | exact HB.out | apply av | apply ak | apply ay)));(case aF=>exact (fun _ _=>trivial));(case aO=>exact (by (with_reducible repeat (first | apply Kd.cO | apply Kd.cB | apply Kd.dF));exact Qh.out));(case aS=>exact (bG (by with_reducible repeat (first | exact HB.out | apply av | apply ak | apply ay))));(case aL=>have:=aez.out;omega);intro aly w18 ho hb hg hat;rw [<- aeB.out] at ho;have bY:=ah.mk (hb);have dO:=ah.mk (ho);clear HB;clear Qh;have HB:=bY;have aeC:=dO;clear bY dO;clear ho hb hg hat))
      go_roundg k2
      case measure=>have:=jY.out;have:=CG.out;omega
      case rel=>exact ⟨(aeA),(wrap64 (yK+a2)),(by first | rfl | (simp;done) | (simp [*];done)),H',⟨by have:=jY.out;have:=CG.out;omega⟩,⟨by (with_reducible repeat (first | apply Kd.cO | apply Kd.cB | apply Kd.dF));exact aeC.out⟩,⟨by with_reducible repeat (first | exact HB.out | apply av | apply ak | apply ay)⟩⟩
     rw [if_pos c7] at H;have sJ:decide (sZ < a2)=true:=decide_eq_true c7;clear c7;obtain ⟨BK,Jr⟩:∃ j_:Int,(wrap64 (yK+sZ))=j_:=⟨_,rfl⟩;replace H:(if 0<=(BK) then (if (BK) < (a0.size:Int) then ((bT.f k2 (bt a0 (BK))).bind fun qg=>(if qg < 0 then (some ((⟨#[]⟩:ByteArray),false)) else (if qg>=a1 then (some ((⟨#[]⟩:ByteArray),false)) else (bg.l1 k2 a0 a1 a2 gq yK (wrap64 ((wrap64 (dx*a1))+qg)) (wrap64 (sZ+1)))))) else (none)) else (none))=some (r1,r2):=by first | (rw [Jr] at H;exact H) | (simp only [Jr] at H |-;exact H)
     have ake:(IntKind.i64.wrap (yK+sZ))=BK:=(dK _).trans Jr;by_cases c9:0<=(BK)
     rotate_left
     ·rw [if_neg c9] at H
      exact absurd H (by simp)
     rw [if_pos c9] at H;have KW:decide (0<=(BK))=true:=decide_eq_true c9;clear c9;by_cases c10:(BK) < (a0.size:Int)
     rotate_left
     ·rw [if_neg c10] at H
      exact absurd H (by simp)
     rw [if_pos c10] at H;have sN:decide ((BK) < (a0.size:Int))=true:=decide_eq_true c10;clear c10;replace H:=Option.bind_eq_some_iff.mp H;obtain ⟨qg,Bh,H⟩:=H;replace H:(if qg < 0 then (some ((⟨#[]⟩:ByteArray),false)) else (if qg>=a1 then (some ((⟨#[]⟩:ByteArray),false)) else (bg.l1 k2 a0 a1 a2 gq yK (wrap64 ((wrap64 (dx*a1))+qg)) (wrap64 (sZ+1)))))=some (r1,r2):=H;have WM:=ah.mk Bh;clear Bh;by_cases c13:qg < 0
     ·rw [if_pos c13] at H
      have wR:decide (qg < 0)=true:=decide_eq_true c13;clear c13;simp only [Option.some.injEq,Prod.mk.injEq] at H;obtain ⟨rfl,rfl⟩:=H;have p11:0<=((BK):Int):=of_decide_eq_true (by with_reducible assumption);have QL:(BK) < (a0.size:Int):=of_decide_eq_true (by with_reducible assumption);have aeD:=dJ a0 (BK);replace p11:=eq_true p11;replace QL:=eq_true QL;go_wp2_with (first | ((with_reducible refine aQ (f:=134) rfl ?_);refine bL (some 35) rfl rfl Tryz.func134 (by kernel_rfl) rfl #[.int .u8 (bt a0 (BK))] rfl (by (try simp only [List.map_toArray,List.map_cons,List.map_nil]);first | done | (simp only [Jr];rfl) | rfl | (simp only [List.length_drop,List.length_take];rfl)) ?_;(with_reducible refine (bT.calls k2 (bt a0 (BK)) qg _ WM.out).mono ?_);rintro e w' ⟨rfl,⟨nd,rfl⟩⟩;refine ⟨_,rfl,?_⟩))
      go_ret2
      exact ⟨by first | rfl | (simp [aJ,aK]<;>rfl) | (simp only [<- Jr];first | rfl | (simp [aJ,aK]<;>rfl)) | (simp [*,aJ,aK]<;>rfl),by with_reducible repeat (first | exact HB.out | apply av | apply ak | apply ay)⟩
     rw [if_neg c13] at H;have wR:decide (qg < 0)=false:=decide_eq_false c13;clear c13;by_cases c14:qg>=a1
     ·rw [if_pos c14] at H
      have wJ:decide (a1<=qg)=true:=decide_eq_true c14;clear c14;simp only [Option.some.injEq,Prod.mk.injEq] at H;obtain ⟨rfl,rfl⟩:=H;have p11:0<=((BK):Int):=of_decide_eq_true (by with_reducible assumption);have QL:(BK) < (a0.size:Int):=of_decide_eq_true (by with_reducible assumption);have aeD:=dJ a0 (BK);replace p11:=eq_true p11;replace QL:=eq_true QL;go_wp2_with (first | ((with_reducible refine aQ (f:=134) rfl ?_);refine bL (some 35) rfl rfl Tryz.func134 (by kernel_rfl) rfl #[.int .u8 (bt a0 (BK))] rfl (by (try simp only [List.map_toArray,List.map_cons,List.map_nil]);first | done | (simp only [Jr];rfl) | rfl | (simp only [List.length_drop,List.length_take];rfl)) ?_;(with_reducible refine (bT.calls k2 (bt a0 (BK)) qg _ WM.out).mono ?_);rintro e w' ⟨rfl,⟨nd,rfl⟩⟩;refine ⟨_,rfl,?_⟩))
      go_ret2
      exact ⟨by first | rfl | (simp [aJ,aK]<;>rfl) | (simp only [<- Jr];first | rfl | (simp [aJ,aK]<;>rfl)) | (simp [*,aJ,aK]<;>rfl),by with_reducible repeat (first | exact HB.out | apply av | apply ak | apply ay)⟩
     rw [if_neg c14] at H;have wJ:decide (a1<=qg)=false:=decide_eq_false c14;clear c14;have H':=ah.mk H;clear H;have p11:0<=((BK):Int):=of_decide_eq_true (by with_reducible assumption);have QL:(BK) < (a0.size:Int):=of_decide_eq_true (by with_reducible assumption);have aeD:=dJ a0 (BK);replace p11:=eq_true p11;replace QL:=eq_true QL;go_wp2_with (first | ((with_reducible refine aQ (f:=134) rfl ?_);refine bL (some 35) rfl rfl Tryz.func134 (by kernel_rfl) rfl #[.int .u8 (bt a0 (BK))] rfl (by (try simp only [List.map_toArray,List.map_cons,List.map_nil]);first | done | (simp only [Jr];rfl) | rfl | (simp only [List.length_drop,List.length_take];rfl)) ?_;(with_reducible refine (bT.calls k2 (bt a0 (BK)) qg _ WM.out).mono ?_);rintro e w' ⟨rfl,⟨nd,rfl⟩⟩;refine ⟨_,rfl,?_⟩))
     go_roundg k2
     case measure=>have:=jY.out;have:=CG.out;omega
     case rel=>exact ⟨(wrap64 ((wrap64 (dx*a1))+qg)),(wrap64 (sZ+1)),(by first | rfl | (simp;done) | (simp [*];done)),(by first | rfl | (simp;done) | (simp [*];done)),H',⟨by have:=jY.out;have:=CG.out;omega⟩,⟨by (with_reducible repeat (first | apply Kd.cO | apply Kd.cB | apply Kd.dF));exact Qh.out⟩,⟨by with_reducible repeat (first | exact HB.out | apply av | apply ak | apply ay)⟩⟩
end Go.Proofs.YtkkpjonfaflkmaaGreatDoor.T
namespace Go.Proofs.YtkkpjonfaflkmaaGreatDoor.T
open Go.RowKit Go.Proofs.aj.aI Go.Proofs.aj.aY Go.Proofs.aj.bq
theorem DT (a0:ByteArray) (hs:a0.size<=100000):∀ (m k i:Nat),i+m=a0.size->m < k ->
  bR.l0 k a0 (i:Int)=some (((bytesOf a0).drop i).all S.iT)
 | 0,k,i,h,hk=>by
  obtain ⟨k,rfl⟩:∃ k',k=k'+1:=⟨k - 1,by omega⟩;rw [bR.l0,if_neg (by omega),List.drop_of_length_le (by rw [bytesOf_length];omega)];rfl
 | m+1,k,i,h,hk=>by
  obtain ⟨k,rfl⟩:∃ k',k=k'+1:=⟨k - 1,by omega⟩;rw [bR.l0,if_pos (by omega),if_pos (by omega),fB a0 (by omega),List.all_cons,yI (by omega)];have ih:=DT a0 hs m k (i+1) (by omega) (by omega);unfold S.iT;by_cases h1:bt a0 (i:Int) < 32
  ·rw [if_pos h1,decide_eq_false (show ¬ 32<=bt a0 (i:Int) by omega)];rfl
  rw [if_neg h1,decide_eq_true (show 32<=bt a0 (i:Int) by omega)];by_cases h2:bt a0 (i:Int) > 126
  ·rw [if_pos h2,decide_eq_false (show ¬ bt a0 (i:Int)<=126 by omega)];rfl
  ·rw [if_neg h2,decide_eq_true (show bt a0 (i:Int)<=126 by omega),ih];rfl
theorem LW (a0:ByteArray) (hs:a0.size<=100000) (k:Nat) (hk:a0.size < k):bR.f k a0=some ((bytesOf a0).all S.iT):=DT a0 hs a0.size k 0 (by omega) hk
theorem yL (a0:ByteArray) (hs:a0.size<=100000) (x:Int):∀ (m k i c:Nat),i+m=a0.size->m < k->c<=i ->
  bN.l0 k a0 x (c:Int) (i:Int)=some ((c+((bytesOf a0).drop i).count x:Nat):Int)
 | 0,k,i,c,h,hk,hc=>by
  obtain ⟨k,rfl⟩:∃ k',k=k'+1:=⟨k - 1,by omega⟩;rw [bN.l0,if_neg (by omega),List.drop_of_length_le (by rw [bytesOf_length];omega)];rfl
 | m+1,k,i,c,h,hk,hc=>by
  obtain ⟨k,rfl⟩:∃ k',k=k'+1:=⟨k - 1,by omega⟩;rw [bN.l0,if_pos (by omega),if_pos (by omega),fB a0 (by omega),List.count_cons,yI (by omega),yI (by omega)];by_cases h1:bt a0 (i:Int)=x
  ·rw [if_pos h1,yL a0 hs x m k (i+1) (c+1) (by omega) (by omega) (by omega),if_pos (beq_iff_eq.2 h1)]
   have e:c+1+((bytesOf a0).drop (i+1)).count x=c+(((bytesOf a0).drop (i+1)).count x+1):=by omega
   rw [e]
  rw [if_neg h1,yL a0 hs x m k (i+1) c (by omega) (by omega) (by omega),if_neg (fun e=>h1 (beq_iff_eq.1 e))];rfl
theorem TA (a0:ByteArray) (hs:a0.size<=100000) (x:Int) (k:Nat) (hk:a0.size < k):bN.f k a0 x=some (((bytesOf a0).count x:Nat):Int):=by
 have:=yL a0 hs x a0.size k 0 0 (by omega) hk (Nat.le_refl _);rw [List.drop_zero,Nat.zero_add] at this;exact this
theorem vQ (a0:ByteArray) (hs:a0.size<=100000) (q:Int):∀ (m k i:Nat) (acc:List Int),i+m=a0.size->m < k->acc.length<=2*i+1 ->
  bF.l0 k a0 q acc (i:Int)=some (strOfNums (acc++(S.Da q ((bytesOf a0).drop i)++[q])))
 | 0,k,i,acc,h,hk,hc=>by
  obtain ⟨k,rfl⟩:∃ k',k=k'+1:=⟨k - 1,by omega⟩;rw [bF.l0,if_neg (by omega),List.drop_of_length_le (by rw [bytesOf_length];omega),if_pos (by omega)];rfl
 | m+1,k,i,acc,h,hk,hc=>by
  obtain ⟨k,rfl⟩:∃ k',k=k'+1:=⟨k - 1,by omega⟩;rw [bF.l0,if_pos (by omega),if_pos (by omega),if_pos (by omega),Option.bind_some,fB a0 (by omega),S.wP,yI (by omega)];by_cases h1:bt a0 (i:Int)=q
  ·rw [if_pos h1,if_pos h1,if_pos (by rw [List.length_append,List.length_singleton];omega),vQ a0 hs q m k (i+1) _ (by omega) (by omega) (by simp only [List.length_append,List.length_singleton];omega),h1]
   simp
  rw [if_neg h1,if_neg h1,vQ a0 hs q m k (i+1) _ (by omega) (by omega) (by simp only [List.length_append,List.length_singleton];omega)];simp
theorem NW (a0:ByteArray) (hs:a0.size<=100000) (q:Int) (k:Nat) (hk:a0.size < k):bF.f k a0 q=some (strOfNums (q::(S.Da q (bytesOf a0)++[q]))):=by
 have:=vQ a0 hs q a0.size k 0 [q] (by omega) hk (Nat.le_refl _);rw [List.drop_zero] at this;exact this
theorem FR (a0:ByteArray) (hs:a0.size<=2100):∃ t er,iO.f a0=some (t,er)/\∀ k,3000<=k->bJ.f k a0=some (t,0,[],er):=by
 unfold iO.f;by_cases h:1000 < a0.size\/(bytesOf a0).all S.iT=false
 ·refine ⟨⟨#[]⟩,1,if_pos h,fun k hk=>?_⟩
  obtain ⟨k,rfl⟩:∃ k',k=k'+1:=⟨k - 1,by omega⟩;unfold bJ.f;by_cases h1:(a0.size:Int) > 1000
  ·rw [if_pos h1,bJ.j0,if_pos rfl]
  ·rw [if_neg h1,LW a0 (by omega) _ (by omega),Option.bind_some,h.resolve_left (by omega),bJ.j0,if_pos (show (!false)=true from rfl)]
 refine ⟨_,_,if_neg h,fun k hk=>?_⟩;obtain ⟨k,rfl⟩:∃ k',k=k'+1:=⟨k - 1,by omega⟩;have h1:¬ (a0.size:Int) > 1000:=fun e=>h (.inl (by omega))
 have h2:(bytesOf a0).all S.iT=true:=by
  cases hp:(bytesOf a0).all S.iT with
  | true=>rfl
  | false=>exact absurd (.inr hp) h
 unfold bJ.f;rw [if_neg h1,LW a0 (by omega) _ (by omega),Option.bind_some,h2,bJ.j0,if_neg (show ¬ (!true)=true from Bool.false_ne_true),TA a0 (by omega) 34 k (by omega),TA a0 (by omega) 39 k (by omega)];simp only [Option.bind_some];rw [NW a0 (by omega) 34 k (by omega),NW a0 (by omega) 39 k (by omega)];unfold S.quote S.wh;by_cases hc:(bytesOf a0).count 34 < (bytesOf a0).count 39
 ·rw [if_pos hc,if_pos (by omega)];rfl
 ·rw [if_neg hc,if_neg (by omega)];rfl
end Go.Proofs.YtkkpjonfaflkmaaGreatDoor.T
