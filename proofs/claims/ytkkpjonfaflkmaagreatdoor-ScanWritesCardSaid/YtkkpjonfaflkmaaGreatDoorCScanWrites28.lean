/- A part of the proof of ScanWrites. -/
import Derived.Test.YtkkpjonfaflkmaaGreatDoorCScanWrites27
set_option linter.all false
namespace Go.Proofs.YtkkpjonfaflkmaaGreatDoor.T
open Go.RowKit Go.Proofs.aj.aI Go.Proofs.aj.aY Go.Proofs.aj.bq
attribute [local go_sem] eY eZ gH gI dV dW fq fu
def aZ.j0:Nat->List (dh)->List (dh)->Bool->Option (Bool)
 | 0,_,_,_=>none
 | k+1,x0,x1,x15=>if x15=true then ((dS.f).bind fun Zz=>(some Zz)) else ((jv.f x0).bind fun aaC=>((eF.f k x0).bind fun Ki=>((dS.f).bind fun Kj=>(if Kj=true then (if aaC.1.toList=Ki.1.toList then (if aaC.2=Ki.2.2.2 then ((iJ.f x0 x1).bind fun Cx=>((bO.f k x0 x1).bind fun Ab=>(some (Cx==Ab)))) else (some false)) else (some false)) else (some false)))))
def aZ.f (k:Nat) (l0:List (dh)) (l1:List (dh)):Option (Bool):=(bP.f k l0).bind fun Qy=>(if Qy=true then ((bP.f k l1).bind fun Ic=>(aZ.j0 k l0 l1 (!Ic))) else (aZ.j0 k l0 l1 true))
set_option maxHeartbeats 8000000 in
set_option maxRecDepth 100000 in
theorem aZ.calls (k:Nat) (A0:Option Addr) (c0:Nat) (l0:List (dh)) (A1:Option Addr) (c1:Nat) (l1:List (dh)) (r:Bool) (hr:r=true) (w:World) (hT:dR w) (hr0:Kd.C jP w A0 l0.length l0) (hc0:l0.length<=c0) (hr1:Kd.C jP w A1 l1.length l1) (hc1:l1.length<=c1) (h:aZ.f k l0 l1=some r) :
  Calls Tryz.prog 6 #[.slice A0 l0.length c0,.slice A1 l1.length c1] w fun e w'=>e=.returned (.bool r)/\Below w.heap.size w w':=by
 have aey:=Tryz.underlying45;have iG:=ah.mk hr0;have CV:=ah.mk hc0;clear hr0 hc0;have HR1:=ah.mk hr1;have EG:=ah.mk hc1;clear hr1 hc1;have HB:=ah.mk (Below.refl w.heap.size w);have H:((bP.f k l0).bind fun Qy=>(if Qy=true then ((bP.f k l1).bind fun Ic=>(aZ.j0 k l0 l1 (!Ic))) else (aZ.j0 k l0 l1 true)))=some r:=h;clear h;have Sd:=ah.mk H;clear H;go_enter Tryz.func6,Tryz.ntmps6
 go_upto_region 1 with (fail)
 go_cut [15] (fun v15 wc=>∃ (kq:Nat) (OJ:Bool),v15=.bool OJ/\ah (aZ.j0 kq l0 l1 OJ=some r)/\ah (kq<=k)/\ah (Below w.heap.size w wc))
 case first =>
  have H:=Sd.out;clear Sd;replace H:=Option.bind_eq_some_iff.mp H;obtain ⟨Qy,RH,H⟩:=H;replace H:(if Qy=true then ((bP.f k l1).bind fun Ic=>(aZ.j0 k l0 l1 (!Ic))) else (aZ.j0 k l0 l1 true))=some r:=H;have A4:=ah.mk RH;clear RH;by_cases c5:Qy=true
  ·subst c5
   rw [if_pos rfl] at H;replace H:=Option.bind_eq_some_iff.mp H;obtain ⟨Ic,A60,H⟩:=H;replace H:(aZ.j0 k l0 l1 (!Ic))=some r:=H;have A6:=ah.mk A60;clear A60;have H':=ah.mk H;clear H;go_wp2_with (first | ((with_reducible refine aQ (f:=34) rfl ?_);refine bL (some 9) rfl rfl Tryz.func34 (by kernel_rfl) rfl #[.slice A0 l0.length c0] rfl (by (try simp only [List.map_toArray,List.map_cons,List.map_nil]);first | done | rfl) ?_;(with_reducible refine (bP.calls k _ _ l0 true _ ?gT ?gU A4.out).mono ?_);(case gT=>repeat (first | exact (Kd.bS iG.out HB.out) | (with_reducible refine Kd.eT ?_ _) | (with_reducible refine Kd.fA ?_ _) | (with_reducible refine Kd.gN ?_)));(case gU=>exact CV.out);rintro e w' ⟨rfl,⟨nd,rfl⟩⟩;refine ⟨_,rfl,?_⟩) | (go_at_call 34;(with_reducible refine (bP.calls k _ _ l1 Ic _ ?gT ?gU A6.out).mono ?_);(case gT=>repeat (first | exact (Kd.bS HR1.out (by with_reducible repeat (first | exact HB.out | apply av | apply ak | apply ay))) | (with_reducible refine Kd.eT ?_ _) | (with_reducible refine Kd.fA ?_ _) | (with_reducible refine Kd.gN ?_)));(case gU=>exact EG.out);rintro e w' ⟨rfl,⟨nd,rfl⟩⟩))
   go_meet
   case rel=>exact ⟨_,(!Ic),(by first | rfl | (simp;done) | (simp [*];done)),H',⟨by first | omega | exact Nat.le_refl _⟩,⟨by with_reducible repeat (first | exact HB.out | apply av | apply ak | apply ay)⟩⟩
  replace c5:=Bool.eq_false_iff.mpr c5;subst c5;rw [if_neg (show ¬ (false=true) by decide)] at H;have H':=ah.mk H;clear H;go_wp2_with (first | ((with_reducible refine aQ (f:=34) rfl ?_);refine bL (some 9) rfl rfl Tryz.func34 (by kernel_rfl) rfl #[.slice A0 l0.length c0] rfl (by (try simp only [List.map_toArray,List.map_cons,List.map_nil]);first | done | rfl) ?_;(with_reducible refine (bP.calls k _ _ l0 false _ ?gT ?gU A4.out).mono ?_);(case gT=>repeat (first | exact (Kd.bS iG.out HB.out) | (with_reducible refine Kd.eT ?_ _) | (with_reducible refine Kd.fA ?_ _) | (with_reducible refine Kd.gN ?_)));(case gU=>exact CV.out);rintro e w' ⟨rfl,⟨nd,rfl⟩⟩;refine ⟨_,rfl,?_⟩))
  go_meet
  case rel=>exact ⟨_,(true),(by first | rfl | (simp;done) | (simp [*];done)),H',⟨by first | omega | exact Nat.le_refl _⟩,⟨by with_reducible repeat (first | exact HB.out | apply av | apply ak | apply ay)⟩⟩
 case rest =>
  clear Sd;obtain ⟨kq,OJ,rfl,HA,HJ2,HB⟩:=hcut;cases kq with
  | zero=>exact absurd HA.out (by simp [aZ.j0])
  | succ yA =>
   have H:=HA.out;clear HA;simp only [aZ.j0] at H;by_cases c7:OJ=true
   ·subst c7
    rw [if_pos rfl] at H;replace H:=Option.bind_eq_some_iff.mp H;obtain ⟨Zz,RG,H⟩:=H;replace H:(some Zz)=some r:=H;have A8:=ah.mk RG;clear RG;obtain rfl:=Option.some.inj H;go_wp2_with (first | ((with_reducible refine aQ (f:=16) rfl ?_);refine bL (some 16) rfl rfl Tryz.func16 (by kernel_rfl) rfl #[] rfl (by (try simp only [List.map_toArray,List.map_cons,List.map_nil]);first | done | rfl) ?_;(with_reducible refine (dS.calls  Zz _ (dR.of_below hT (by with_reducible repeat (first | exact HB.out | apply av | apply ak | apply ay))) A8.out).mono ?_);rintro e w9 ⟨rfl,hb⟩;refine ⟨_,rfl,?_⟩;have bY:=ah.mk (aX (by with_reducible repeat (first | exact HB.out | apply av | apply ak | apply ay)) hb);clear HB;have HB:=bY;clear bY;(try clear hb);(try clear hb2);(try clear hk);(try clear hi)))
    go_ret;exact ⟨by first | rfl | (simp [aJ,aK]<;>rfl) | (simp [*,aJ,aK]<;>rfl),by with_reducible repeat (first | exact HB.out | apply av | apply ak | apply ay)⟩
   replace c7:=Bool.eq_false_iff.mpr c7;subst c7;rw [if_neg (show ¬ (false=true) by decide)] at H;replace H:=Option.bind_eq_some_iff.mp H;obtain ⟨⟨Ie,Ig⟩,Vd,H⟩:=H;replace H:((eF.f yA l0).bind fun Ki=>((dS.f).bind fun Kj=>(if Kj=true then (if Ie.toList=Ki.1.toList then (if Ig=Ki.2.2.2 then ((iJ.f l0 l1).bind fun Cx=>((bO.f yA l0 l1).bind fun Ab=>(some (Cx==Ab)))) else (some false)) else (some false)) else (some false))))=some r:=H;have A10:=ah.mk Vd;clear Vd;replace H:=Option.bind_eq_some_iff.mp H;obtain ⟨⟨vY,MS,Qz,Ac⟩,wL,H⟩:=H;replace H:((dS.f).bind fun Kj=>(if Kj=true then (if Ie.toList=vY.toList then (if Ig=Ac then ((iJ.f l0 l1).bind fun Cx=>((bO.f yA l0 l1).bind fun Ab=>(some (Cx==Ab)))) else (some false)) else (some false)) else (some false)))=some r:=H;have Pv:=ah.mk wL;clear wL;replace H:=Option.bind_eq_some_iff.mp H;obtain ⟨Kj,Bh,H⟩:=H;replace H:(if Kj=true then (if Ie.toList=vY.toList then (if Ig=Ac then ((iJ.f l0 l1).bind fun Cx=>((bO.f yA l0 l1).bind fun Ab=>(some (Cx==Ab)))) else (some false)) else (some false)) else (some false))=some r:=H;have WM:=ah.mk Bh;clear Bh;by_cases c13:Kj=true
   rotate_left
   ·replace c13:=Bool.eq_false_iff.mpr c13
    subst c13;rw [if_neg (show ¬ (false=true) by decide)] at H;exact absurd ((Option.some.inj H).trans hr) (by decide)
   subst c13;rw [if_pos rfl] at H;by_cases c14:Ie.toList=vY.toList
   rotate_left
   ·rw [if_neg c14] at H
    have wJ:(Ie.toList==vY.toList)=false:=beq_eq_false_iff_ne.mpr c14;have TW:(Ie.toList != vY.toList)=true:=bne_iff_ne.mpr c14;exact absurd ((Option.some.inj H).trans hr) (by decide)
   rw [if_pos c14] at H;have wJ:(Ie.toList==vY.toList)=true:=beq_iff_eq.mpr c14;have TW:(Ie.toList != vY.toList)=false:=bne_eq_false_iff_eq.mpr c14;clear c14;by_cases c15:Ig=Ac
   rotate_left
   ·rw [if_neg c15] at H
    have wK:(Ig==Ac)=false:=beq_eq_false_iff_ne.mpr c15;have agb:(Ig != Ac)=true:=bne_iff_ne.mpr c15;exact absurd ((Option.some.inj H).trans hr) (by decide)
   rw [if_pos c15] at H;have wK:(Ig==Ac)=true:=beq_iff_eq.mpr c15;have agb:(Ig != Ac)=false:=bne_eq_false_iff_eq.mpr c15;clear c15;replace H:=Option.bind_eq_some_iff.mp H;obtain ⟨Cx,agc,H⟩:=H;replace H:((bO.f yA l0 l1).bind fun Ab=>(some (Cx==Ab)))=some r:=H;have A16:=ah.mk agc;clear agc;replace H:=Option.bind_eq_some_iff.mp H;obtain ⟨Ab,agd,H⟩:=H;replace H:(some (Cx==Ab))=some r:=H;have A17:=ah.mk agd;clear agd;obtain rfl:=Option.some.inj H
   go_wp2_with (first | ((with_reducible refine aQ (f:=35) rfl ?_);refine bL (some 19) rfl rfl Tryz.func35 (by kernel_rfl) rfl #[.slice A0 l0.length c0] rfl (by (try simp only [List.map_toArray,List.map_cons,List.map_nil]);first | done | rfl) ?_;(with_reducible refine (jv.calls _ _ l0 Ie Ig _ (dR.of_below hT (by with_reducible repeat (first | exact HB.out | apply av | apply ak | apply ay))) ?gT ?gU A10.out).mono ?_);(case gT=>repeat (first | exact (Kd.bS iG.out HB.out) | (with_reducible refine Kd.eT ?_ _) | (with_reducible refine Kd.fA ?_ _) | (with_reducible refine Kd.gN ?_)));(case gU=>exact CV.out);rintro e w18 ⟨rfl,hb⟩;refine ⟨_,rfl,?_⟩;have bY:=ah.mk (aX (by with_reducible repeat (first | exact HB.out | apply av | apply ak | apply ay)) hb);clear HB;have HB:=bY;clear bY;(try clear hb);(try clear hb2);(try clear hk);(try clear hi)) | ((with_reducible refine aQ (f:=36) rfl ?_);refine bL (some 23) rfl rfl Tryz.func36 (by kernel_rfl) rfl #[.slice A0 l0.length c0] rfl (by (try simp only [List.map_toArray,List.map_cons,List.map_nil]);first | done | rfl) ?_;(with_reducible refine (eF.calls yA _ _ l0 vY MS Qz Ac _ ?gT ?gU Pv.out).mono ?_);(case gT=>repeat (first | exact (Kd.bS iG.out HB.out) | (with_reducible refine Kd.eT ?_ _) | (with_reducible refine Kd.fA ?_ _) | (with_reducible refine Kd.gN ?_)));(case gU=>exact CV.out);rintro e w19 ⟨amA,rfl,ho0,hb⟩;refine ⟨_,rfl,?_⟩;have bY:=ah.mk (Kd.nZ ho0 (bG (by with_reducible repeat (first | exact HB.out | apply av | apply ak | apply ay))));have dO:=ah.mk (aX (by with_reducible repeat (first | exact HB.out | apply av | apply ak | apply ay)) hb);clear HB;have uZ:=bY;have HB:=dO;clear bY dO;(try clear hb);(try clear hb2);(try clear hk);(try clear hi);(try clear ho0)) | ((with_reducible refine fO (N:=7) rfl ?_);refine fG ?hg (N:=7) ?hd (cs:=#[.string (⟨#[]⟩:ByteArray),.int .i64 0,.slice none 0 0,.int .i64 0]) (t:=45) ?hr ?_;(case hd=>rfl);(case hg=>rfl);(case hr=>first | (go_simp;done) | (go_simp;rfl));intro nY hg w20 iE hb;have bY:=ah.mk (Kd.jJ (by (with_reducible repeat (first | apply Kd.cO | apply Kd.cB | apply Kd.dF));exact uZ.out) hb);have dO:=ah.mk (aX (by with_reducible repeat (first | exact HB.out | apply av | apply ak | apply ay)) hb);have jA:=ah.mk (iE);have mW:=ah.mk ((by rw [hg];exact (bG (by with_reducible repeat (first | exact HB.out | apply av | apply ak | apply ay))):w.heap.size<=nY));have zy:=ah.mk ((by rw [hg];exact (bG (by with_reducible repeat (first | exact HB.out | apply av | apply ak | apply ay))):w.heap.size<=nY));clear uZ;clear HB;have uZ:=bY;have HB:=dO;have jX:=jA;have ale:=mW;have OL:=zy;clear bY dO jA mW zy;clear hb iE hg;have aii:w20.cell? ⟨nY,0,none⟩=some (.string (⟨#[]⟩:ByteArray)):=(au jX.out 0).trans rfl;have aij:w20.cell? ⟨nY,1,none⟩=some (.int .i64 0):=(au jX.out 1).trans rfl;have aik:w20.cell? ⟨nY,2,none⟩=some (.slice none 0 0):=(au jX.out 2).trans rfl;have ail:w20.cell? ⟨nY,3,none⟩=some (.int .i64 0):=(au jX.out 3).trans rfl;have ain:=aA jX.out 0;have aio:=aA jX.out 1;have aip:=aA jX.out 2;have aiq:=aA jX.out 3;obtain ⟨Vi,Vj,ajU⟩:=Kd.nD uZ.out;subst ajU) | ((with_reducible refine aQ (f:=16) rfl ?_);refine bL (some 24) rfl rfl Tryz.func16 (by kernel_rfl) rfl #[] rfl (by (try simp only [List.map_toArray,List.map_cons,List.map_nil]);first | done | rfl) ?_;(with_reducible refine (dS.calls  true _ (dR.of_below hT (by with_reducible repeat (first | exact HB.out | apply av | apply ak | apply ay | refine bf ?_ OL.out))) WM.out).mono ?_);rintro e VJ ⟨rfl,hb⟩;refine ⟨_,rfl,?_⟩;have bY:=ah.mk (Kd.jJ (by (with_reducible repeat (first | apply Kd.cO | apply Kd.cB | apply Kd.dF));exact (Kd.yg (Kd.pF (p:=⟨nY,3,none⟩) (Kd.pF (p:=⟨nY,2,none⟩) (Kd.pF (p:=⟨nY,1,none⟩) (Kd.pF (p:=⟨nY,0,none⟩) (Kd.Ez uZ.out jX.out (by decide)) (fun _ hk=>hk.2) (.string vY)) (fun _ hk=>hk.2) (.int .i64 MS)) (fun _ hk=>hk.2) (.slice Vi Qz.length Vj)) (fun _ hk=>hk.2) (.int .i64 Ac)) (fun _ h_=>h_.1))) hb);have dO:=ah.mk (fF (g:=nY) (o:=.cells #[.string vY,.int .i64 MS,.slice Vi Qz.length Vj,.int .i64 Ac] 45 (0,0)) (by (with_reducible repeat (first | refine aH ?_ _ | refine aU ?_ | refine aN ?_ _));refine aW (cs:=#[.string vY,.int .i64 MS,.slice Vi Qz.length Vj,.int .i64 0]) ?_ 3 _ rfl;(with_reducible repeat (first | refine aH ?_ _ | refine aU ?_ | refine aN ?_ _));refine aW (cs:=#[.string vY,.int .i64 MS,.slice none 0 0,.int .i64 0]) ?_ 2 _ rfl;(with_reducible repeat (first | refine aH ?_ _ | refine aU ?_ | refine aN ?_ _));refine aW (cs:=#[.string vY,.int .i64 0,.slice none 0 0,.int .i64 0]) ?_ 1 _ rfl;(with_reducible repeat (first | refine aH ?_ _ | refine aU ?_ | refine aN ?_ _));refine aW (cs:=#[.string (⟨#[]⟩:ByteArray),.int .i64 0,.slice none 0 0,.int .i64 0]) ?_ 0 _ rfl;(with_reducible repeat (first | refine aH ?_ _ | refine aU ?_ | refine aN ?_ _));exact jX.out) hb);have jA:=ah.mk (aX (by with_reducible repeat (first | exact HB.out | apply av | apply ak | apply ay | refine bf ?_ OL.out)) hb);clear uZ;clear jX;clear HB;have uZ:=bY;have jX:=dO;have HB:=jA;clear bY dO jA;(try clear hb);(try clear hb2);(try clear hk);(try clear hi);have YI:VJ.cell? ⟨nY,0,none⟩=some (.string vY):=(au jX.out 0).trans rfl;have YJ:VJ.cell? ⟨nY,1,none⟩=some (.int .i64 MS):=(au jX.out 1).trans rfl;have YK:VJ.cell? ⟨nY,2,none⟩=some (.slice Vi Qz.length Vj):=(au jX.out 2).trans rfl;have YL:VJ.cell? ⟨nY,3,none⟩=some (.int .i64 Ac):=(au jX.out 3).trans rfl;have YM:=aA jX.out 0;have YN:=aA jX.out 1;have YP:=aA jX.out 2;have YQ:=aA jX.out 3) | (go_at_call 37;(with_reducible refine (iJ.calls _ _ l0 _ _ l1 Cx _ ?gT ?gU ?Vk ?Vl A16.out).mono ?_);(case gT=>repeat (first | exact (Kd.bS iG.out HB.out) | (with_reducible refine Kd.eT ?_ _) | (with_reducible refine Kd.fA ?_ _) | (with_reducible refine Kd.gN ?_)));(case gU=>exact CV.out);(case Vk=>repeat (first | exact (Kd.bS HR1.out HB.out) | (with_reducible refine Kd.eT ?_ _) | (with_reducible refine Kd.fA ?_ _) | (with_reducible refine Kd.gN ?_)));(case Vl=>exact EG.out);rintro e w25 ⟨rfl,hb⟩;have bY:=ah.mk (Kd.jJ (by (with_reducible repeat (first | apply Kd.cO | apply Kd.cB | apply Kd.dF));exact uZ.out) hb);have dO:=ah.mk (fF (g:=nY) (o:=.cells #[.string vY,.int .i64 MS,.slice Vi Qz.length Vj,.int .i64 Ac] 45 (0,0)) (by (with_reducible repeat (first | refine aH ?_ _ | refine aU ?_ | refine aN ?_ _));exact jX.out) hb);have jA:=ah.mk (aX (by with_reducible repeat (first | exact HB.out | apply av | apply ak | apply ay | refine bf ?_ OL.out)) hb);clear uZ;clear jX;clear HB;have uZ:=bY;have jX:=dO;have HB:=jA;clear bY dO jA;(try clear hb);(try clear hb2);(try clear hk);(try clear hi)) | (go_at_call 38;(with_reducible refine (bO.calls yA _ _ l0 _ _ l1 Ab _ ?gT ?gU ?Vk ?Vl A17.out).mono ?_);(case gT=>repeat (first | exact (Kd.bS iG.out HB.out) | (with_reducible refine Kd.eT ?_ _) | (with_reducible refine Kd.fA ?_ _) | (with_reducible refine Kd.gN ?_)));(case gU=>exact CV.out);(case Vk=>repeat (first | exact (Kd.bS HR1.out HB.out) | (with_reducible refine Kd.eT ?_ _) | (with_reducible refine Kd.fA ?_ _) | (with_reducible refine Kd.gN ?_)));(case Vl=>exact EG.out);rintro e w' ⟨rfl,⟨nd,rfl⟩⟩))
   go_ret;exact ⟨by first | rfl | (simp [aJ,aK]<;>rfl) | (simp [*,aJ,aK]<;>rfl),by with_reducible repeat (first | exact HB.out | apply av | apply ak | apply ay | refine bf ?_ OL.out)⟩
end Go.Proofs.YtkkpjonfaflkmaaGreatDoor.T
namespace Go.Proofs.YtkkpjonfaflkmaaGreatDoor.T
open Go.RowKit Go.Proofs.aj.aI Go.Proofs.aj.aY Go.Proofs.aj.bq

end Go.Proofs.YtkkpjonfaflkmaaGreatDoor.T
namespace Go.Proofs.YtkkpjonfaflkmaaGreatDoor.S
end Go.Proofs.YtkkpjonfaflkmaaGreatDoor.S
namespace Go.Proofs.YtkkpjonfaflkmaaGreatDoor.T
open Go.RowKit Go.Proofs.aj.aI Go.Proofs.aj.aY Go.Proofs.aj.bq
theorem OM (a b:ByteArray):(a.toList==b.toList)=decide (bytesOf a=bytesOf b):=by
 rw [str_eq,gY b,Lib.toList_data]
theorem ZA {a b:S.Tk} (ha:Bytes a) (hb:Bytes b):mX (toS a) (toS b)=decide (S.kt a=S.kt b):=by
 unfold mX;show (decide ((a.kind:Int)=(b.kind:Int))&&((strOfNums a.text).toList==(strOfNums b.text).toList))=_
 rw [OM,bW _ ha,bW _ hb,<- Bool.decide_and];refine decide_eq_decide.2 ?_;simp only [S.kt,Prod.mk.injEq];exact ⟨fun h=>⟨by omega,h.2⟩,fun h=>⟨by omega,h.2⟩⟩
theorem Cy:∀ (l m:List S.Tk),(∀ t∈l,Bytes t)->(∀ t∈m,Bytes t)->sG mX (l.map toS) (m.map toS)=decide (l.map S.kt=m.map S.kt)
 | [],[],_,_=>rfl
 | [],_::_,_,_=>rfl
 | _::_,[],_,_=>rfl
 | a::l,b::m,hl,hm=>by
  have ih:=Cy l m (fun t ht=>hl t (by simp [ht])) (fun t ht=>hm t (by simp [ht]));simp only [List.map_cons,sG];rw [ih,ZA (hl a (by simp)) (hm b (by simp)),<- Bool.decide_and];refine decide_eq_decide.2 ?_;simp
theorem agf {t:S.Tk} (h:Bytes t):yc (toS t)=S.zX (S.kt t):=by
 unfold yc S.zX;show (if ((t.kind:Nat):Int)=2 then S.quote (bytesOf (strOfNums t.text)) else bytesOf (strOfNums t.text))=_
 rw [bW _ h];by_cases e:t.kind=2
 ·rw [if_pos (by omega)];exact (if_pos e).symm
 ·rw [if_neg (by omega)];exact (if_neg e).symm
theorem Vm:∀ (l:List S.Tk),(∀ t∈l,Bytes t)->Ej (l.map toS)=S.spl (l.map S.kt)
 | [],_=>rfl
 | a::l,h=>by
  have ih:=Vm l (fun t ht=>h t (by simp [ht]));rw [List.map_cons,List.map_cons,S.jV,<- ih,<- agf (h a (by simp))];simp [Ej]
theorem QA (l:List S.Tk) (h:∀ t∈l,Bytes t):kJ (l.map toS)=S.yV (l.map S.kt):=by
 unfold kJ S.yV;rw [List.getLast?_map,List.getLast?_map];cases hl:l.getLast? with
 | none=>rfl
 | some t =>
  have ht:=h t (List.mem_of_getLast? hl);simp only [Option.map_some,Option.some.injEq,S.kt,Prod.mk.injEq];show (decide (((t.kind:Nat):Int)=3)&&((strOfNums t.text).toList==[44]))=_
  rw [Ah ht,<- Bool.decide_and];exact decide_eq_decide.2 (by
   have:((UInt8.toNat 44:Nat):Int)=44:=rfl;rw [this];exact ⟨fun h=>⟨by omega,h.2⟩,fun h=>⟨by omega,h.2⟩⟩)
theorem Ep {xs:List Int} (hb:∀ x∈xs,0<=x/\x < 256) (he:(S.scan xs).err=none):∀ t∈S.tokens xs,Bytes t:=by
 intro t ht
 obtain ⟨cl,hcl,ht⟩:=List.mem_flatten.1 ht;obtain ⟨b,e,rfl,h1,h2,h3,h4,h5⟩:=S.JL hb he cl hcl;rcases List.mem_append.1 ht with e2 | e2
 ·exact S.Ca (h2.good t e2)
 ·rw [List.mem_singleton.1 e2]
  intro x hx
  rw [h4] at hx;cases hx
theorem QB (l:List S.Tk) (h:∀ t∈l,Bytes t) (hg:∀ t∈l,S.Good (S.kt t)):iq (l.map toS)=S.JK (l.map S.kt):=by
 unfold iq S.JK;rw [Vm l h,QA l h];cases he:(S.scan (S.spl (l.map S.kt))).err with
 | some p=>rfl
 | none =>
  have hb:∀ x∈S.spl (l.map S.kt),0<=x/\x < 256:=(S.tO (fun x hx=>by
   obtain ⟨t,ht,rfl⟩:=List.mem_map.1 hx;exact hg t ht)).1
  have hm:=Ep hb he;have hn:∀ t∈lY (S.tokens (S.spl (l.map S.kt))),Bytes t:=fun t ht=>hm t (List.mem_filter.1 ht).1
  show (false||_)=(false||_)
  rw [Bool.false_or,Bool.false_or];have hne:lY (S.tokens (S.spl (l.map S.kt)))=S.lW (S.tokens (S.spl (l.map S.kt))):=rfl;rw [<- hne];congr 1
  rw [List.length_map,List.length_map];by_cases hc:S.yV (l.map S.kt)=true/\(lY (S.tokens (S.spl (l.map S.kt)))).length+1=l.length
  ·rw [if_pos hc,if_pos hc,<- List.map_take,<- List.map_take]
   exact Cy _ _ hn (fun t ht=>h t (List.mem_of_mem_take ht))
  rw [if_neg hc,if_neg hc];exact Cy _ _ hn h
end Go.Proofs.YtkkpjonfaflkmaaGreatDoor.T
namespace Go.Proofs.YtkkpjonfaflkmaaGreatDoor.T
open Go.RowKit Go.Proofs.aj.aI Go.Proofs.aj.aY Go.Proofs.aj.bq
def er (x:dh):dh:=⟨x.f0,x.f1,x.f2,0,0,0⟩
theorem ado (l:List dh):Ej (l.map er)=Ej l:=by
 unfold Ej;rw [List.flatMap_map];rfl
theorem Vn (X:List dh):∀ l:List dh,sG mX X (l.map er)=sG mX X l:=by
 induction X with
 | nil=>intro l;cases l<;>rfl
 | cons x X ih =>
  intro l
  cases l with
  | nil=>rfl
  | cons a l=>simp only [List.map_cons,sG];rw [ih];rfl
theorem QC (l:List dh):kJ (l.map er)=kJ l:=by
 unfold kJ;rw [List.getLast?_map];cases l.getLast?<;>rfl
theorem QD (l:List dh):iq (l.map er)=iq l:=by
 unfold iq;rw [ado,QC,List.length_map];congr 2
 split
 ·rw [<- List.map_take,Vn]
 ·rw [Vn]
def tkK (x:S.KT):dh:=⟨((x.1:Nat):Int),strOfNums x.2,false,0,0,0⟩
theorem MU:∀ xs:List Int,([47,42]:List Int).isPrefixOf xs=S.dQ xs
 | []=>rfl
 | [c]=>by simp [List.isPrefixOf,S.dQ]
 | c::d::t=>by
  rw [Al];simp [S.dQ]
def MV (acc:List dh):Option (List S.KT)->List dh × Bool
 | some l=>(acc++l.map tkK,true)
 | none=>([],false)
theorem uG (a0:ByteArray) (hs:a0.size<=100000):∀ (f k i:Nat) (acc:List dh),i<=a0.size->a0.size - i < f->10*a0.size+4000+2*f < k->acc.length<=i ->
  bn.l0 k a0 acc (i:Int)=some (MV acc (S.uW f ((bytesOf a0).drop i)))
 | 0,k,i,acc,hi,hf,hk,ha=>by omega
 | f+1,0,i,acc,hi,hf,hk,ha=>by omega
 | f+1,1,i,acc,hi,hf,hk,ha=>by omega
 | f+1,k+2,i,acc,hi,hf,hk,ha=>by
  rw [bn.l0,S.uW];by_cases hlt:i < a0.size
  rotate_left
  ·have:(bytesOf a0).drop i=[]:=List.drop_eq_nil_of_le (by rw [bytesOf_length];omega)
   rw [if_neg (by omega),this];simp [S.step,MV]
  have hbb:∀ x∈(bytesOf a0).drop i,0<=x/\x < 256:=S.fQ (eG a0) i;have hst:=tK a0 ⟨#[47,42]⟩ i hi hs (by decide);replace hst:bC.f a0 (i:Int) ⟨#[47,42]⟩=some (([47,42]:List Int).isPrefixOf ((bytesOf a0).drop i)):=hst;rw [if_pos (by omega),hst,Option.bind_some,if_pos (by omega),MU];have hlen:((bytesOf a0).drop i).length=a0.size - i:=by rw [List.length_drop,bytesOf_length]
  have hw1:wrap64 ((i:Int)+1)=((i+1:Nat):Int):=by unfold wrap64;omega
  have hd:(bytesOf a0).drop i=bt a0 (i:Int)::(bytesOf a0).drop (i+1):=fB a0 hlt;have one:bn.l0 k a0 acc ((i+1:Nat):Int)=some (MV acc (S.uW f ((bytesOf a0).drop (i+1)))):=uG a0 hs f k (i+1) acc (by omega) (by omega) (by omega) (by omega);by_cases h32:bt a0 (i:Int)=32
  ·rw [if_pos h32,bn.j1,if_pos rfl,hw1,one]
   have:S.step ((bytesOf a0).drop i)=.blank:=by rw [hd,h32];rfl
   rw [this];simp only [List.drop_drop]
  rw [if_neg h32,bn.j1];by_cases h10:bt a0 (i:Int)=10
  ·rw [if_pos (by rw [h10];rfl),hw1,one]
   have:S.step ((bytesOf a0).drop i)=.line:=by rw [hd,h10];rfl
   rw [this];simp only [List.drop_drop]
  rw [if_neg (by simpa using h10)];by_cases hsl:S.dQ ((bytesOf a0).drop i)=true
  ·rw [if_pos hsl]
   have hstep:S.step ((bytesOf a0).drop i)=S.gX (S.jD ((bytesOf a0).drop i) 0 0 1 0):=by
    rw [hd] at hsl |-
    rw [S.step,if_neg h10,if_neg h32,if_pos hsl]
   have hc:=JH a0 hs i 1 hi (Nat.le_refl _) (by omega) hsl k (by omega);rw [<- hstep] at hc;cases he:S.step ((bytesOf a0).drop i) with
   | jD n dl =>
    rw [he] at hc;have hn:=S.sP he;simp only at hc;rw [show ((1:Nat):Int)=1 from rfl] at hc;rw [hc.1,Option.bind_some];simp only [if_pos];rw [uG a0 hs f k (i+n) acc (by omega) (by omega) (by omega) (by omega)];simp only [List.drop_drop]
   | err c dl =>
    rw [he] at hc;simp only at hc;rw [show ((1:Nat):Int)=1 from rfl] at hc;rw [hc,Option.bind_some];have hcz:=S.tC he;simp only [MV];rw [if_neg (by omega)]
   | fin=>rw [he] at hc;exact hc.elim
   | line=>rw [he] at hc;exact hc.elim
   | blank=>rw [he] at hc;exact hc.elim
   | tok k2 t n=>rw [he] at hc;exact hc.elim
  rw [if_neg hsl];have hc:=Uf a0 hs i 1 hlt h10 h32 (Bool.eq_false_iff.2 hsl) k (by omega);cases he:S.step ((bytesOf a0).drop i) with
  | tok k2 t n =>
   rw [he] at hc;have hn:=S.kR hbb he;simp only at hc;rw [show ((1:Nat):Int)=1 from rfl] at hc;rw [hc,Option.bind_some];simp only [if_pos];rw [if_pos (by omega),uG a0 hs f k (i+n) _ (by omega) (by omega) (by omega) (by rw [List.length_append,List.length_singleton];omega)];simp only [List.drop_drop];cases S.uW f ((bytesOf a0).drop (i+n)) with
   | none=>rfl
   | some l=>simp [MV,tkK]
  | err c dl =>
   rw [he] at hc;simp only at hc;rw [show ((1:Nat):Int)=1 from rfl] at hc;rw [hc.1,Option.bind_some];have hcz:=S.tC he;simp only [MV];rw [if_neg (by omega)]
  | fin=>rw [he] at hc;exact hc.elim
  | line=>rw [he] at hc;exact hc.elim
  | blank=>rw [he] at hc;exact hc.elim
  | jD n dl=>rw [he] at hc;exact hc.elim
theorem Vo (a0:ByteArray) (hs:a0.size<=100000) (k:Nat) (hk:12*a0.size+4010 < k):bn.f k a0=some (MV [] (S.uW (a0.size+1) (bytesOf a0))):=by
 have:=uG a0 hs (a0.size+1) k 0 [] (Nat.zero_le _) (by omega) (by omega) (Nat.le_refl _);rw [List.drop_zero] at this;exact this
def Kk (x:dh):List Int:=if x.f0=2 then (if 1000 < x.f1.size\/(bytesOf x.f1).all S.iT=false then [] else S.quote (bytesOf x.f1)) else bytesOf x.f1
def qC (l:List dh):List Int:=l.flatMap Kk
def kz (x:dh):Int × List Int:=(x.f0,bytesOf x.f1)
theorem Er (x:dh):∀ y∈Kk x,0<=y/\y < 256:=by
 unfold Kk;split
 ·split
  ·simp
  ·exact S.pQ (eG _)
 ·exact eG _
theorem MW (l:List dh):∀ y∈qC l,0<=y/\y < 256:=by
 intro y hy
 obtain ⟨x,_,h⟩:=List.mem_flatMap.1 hy;exact Er x y h
theorem Ih (x:dh):(Kk x).length<=2*x.f1.size+2:=by
 unfold Kk;have hb:(bytesOf x.f1).length=x.f1.size:=bytesOf_length _;split
 ·split
  ·simp
  ·rw [S.qH]
   have:=List.count_le_length (a:=S.wh (bytesOf x.f1)) (l:=bytesOf x.f1);omega
 ·omega
theorem Cz:∀ l:List dh,(qC l).length<=nV l
 | []=>by simp [qC,nV]
 | x::l=>by
  have h1:=Cz l;have h2:=Ih x;simp only [qC,nV,List.flatMap_cons,List.length_append,List.map_cons,List.sum_cons] at h1 |-
  omega
theorem Es (x:dh) (h:x.f1.size<=2100) (k:Nat) (hk:3000<=k):bH.f k x.f0 x.f1 x.f2 x.f3 x.f4 x.f5=some (strOfNums (Kk x)):=by
 unfold bH.f Kk;by_cases e:x.f0=2
 ·rw [if_pos e,if_pos e]
  obtain ⟨t,er,h1,h2⟩:=FR x.f1 h;rw [h2 k hk,Option.bind_some];unfold iO.f at h1;by_cases hb:1000 < x.f1.size\/(bytesOf x.f1).all S.iT=false
  ·rw [if_pos hb] at h1 |-
   cases h1;rfl
  rw [if_neg hb] at h1 |-
  cases h1;rfl
 ·rw [if_neg e,if_neg e,yJ]
theorem oz (a b:List Int):strOfNums a++strOfNums b=strOfNums (a++b):=by
 apply ByteArray.ext
 rw [ByteArray.data_append];simp [strOfNums]
theorem OO (a b:dh):kz a=kz b <-> a.f0=b.f0/\a.f1.toList=b.f1.toList:=by
 have h:=OM a.f1 b.f1;unfold kz;rw [Prod.mk.injEq];constructor
 ·rintro ⟨h1,h2⟩
  exact ⟨h1,by rw [decide_eq_true h2] at h;exact beq_iff_eq.1 h⟩
 ·rintro ⟨h1,h2⟩
  exact ⟨h1,by rw [beq_iff_eq.2 h2] at h;exact of_decide_eq_true h.symm⟩
theorem Kl (l m:List dh) (hl:l.length<=100000) (hm:m.length=l.length):∀ (n k i:Nat),i+n=l.length->n < k ->
  aM.l1 k l m (i:Int)=some (decide ((m.drop i).map kz=(l.drop i).map kz))
 | n,0,i,h,hk=>by omega
 | 0,k+1,i,h,hk=>by
  rw [aM.l1,if_neg (by omega),List.drop_eq_nil_of_le (by omega),List.drop_eq_nil_of_le (by omega)];simp
 | n+1,k+1,i,h,hk=>by
  have hw:wrap64 ((i:Int)+1)=((i+1:Nat):Int):=by unfold wrap64;omega
  have e1:l.drop i=aC l (i:Int)::l.drop (i+1):=ig (by omega);have e2:m.drop i=aC m (i:Int)::m.drop (i+1):=ig (by omega);rw [aM.l1,if_pos (by omega),if_pos (by omega),if_pos (by omega),e1,e2,List.map_cons,List.map_cons];have hk1:=OO (aC m (i:Int)) (aC l (i:Int));by_cases h0:(aC m (i:Int)).f0=(aC l (i:Int)).f0
  ·rw [if_pos h0]
   by_cases h1:(aC m (i:Int)).f1.toList=(aC l (i:Int)).f1.toList
   ·rw [if_pos h1,hw,Kl l m hl hm n k (i+1) (by omega) (by omega),hk1.2 ⟨h0,h1⟩]
    simp
   ·rw [if_neg h1,decide_eq_false (fun e=>h1 (hk1.1 (List.cons.inj e).1).2)]
  ·rw [if_neg h0,decide_eq_false (fun e=>h0 (hk1.1 (List.cons.inj e).1).1)]
def QN (l:List dh):Bool:=match S.uW ((qC l).length+1) (qC l) with
 | none=>false
 | some m=>decide ((m.map tkK).map kz=l.map kz)
theorem QE (l:List dh) (hl:l.length<=1000) (hz:nV l<=20000) (k:Nat) (hk:400000 < k) :
  ((bn.f k (strOfNums (qC l))).bind fun OP=>(if OP.2=true then (aM.j1 k l OP.1 ((OP.1.length:Int) != (l.length:Int))) else (aM.j1 k l OP.1 true)))=some (QN l):=by
 have hs:(strOfNums (qC l)).size=(qC l).length:=by simp [strOfNums,ByteArray.size]
 have hc:=Cz l;rw [Vo _ (by omega) k (by omega),Option.bind_some,hs,bW _ (MW l)];unfold QN;obtain ⟨k,rfl⟩:∃ k',k=k'+1:=⟨k - 1,by omega⟩;cases S.uW ((qC l).length+1) (qC l) with
 | none =>
  show (if false=true then _ else aM.j1 (k+1) l [] true)=some false
  rw [if_neg Bool.false_ne_true,aM.j1,if_pos rfl]
 | some m =>
  show (if true=true then aM.j1 (k+1) l (m.map tkK) (((m.map tkK).length:Int) != (l.length:Int)) else _)=some _
  rw [List.length_map,if_pos rfl,aM.j1];by_cases hm:m.length=l.length
  ·rw [if_neg (by rw [hm];simp)]
   have:=Kl l (m.map tkK) (by omega) (by rw [List.length_map,hm]) l.length k 0 (by omega) (by omega);rw [List.drop_zero,List.drop_zero] at this;exact this
  rw [if_pos (bne_iff_ne.2 (by omega))];show some false=some (decide _)
  rw [decide_eq_false];intro e
  have:=congrArg List.length e;simp only [List.length_map] at this;exact hm this
theorem Km (l:List dh) (hl:l.length<=1000) (hz:nV l<=20000) (ht:∀ t∈l,t.f1.size<=2100):∀ (n k i:Nat),i+n=l.length->400001+n < k ->
  aM.l0 k l (strOfNums (qC (l.take i))) (i:Int)=some (QN l)
 | n,0,i,h,hk=>by omega
 | 0,k+1,i,h,hk=>by
  rw [aM.l0,if_neg (by omega),List.take_of_length_le (by omega)];exact QE l hl hz k (by omega)
 | n+1,k+1,i,h,hk=>by
  have hw:wrap64 ((i:Int)+1)=((i+1:Nat):Int):=by unfold wrap64;omega
  have e1:l.drop i=aC l (i:Int)::l.drop (i+1):=ig (by omega);have hmem:aC l (i:Int)∈l:=List.mem_of_mem_drop (by rw [e1];exact List.mem_cons_self);have htk:l.take (i+1)=l.take i++[aC l (i:Int)]:=by
   have h3:l[i]?=some (aC l (i:Int)):=by
    have:=congrArg List.head? e1;rwa [List.head?_drop,List.head?_cons] at this
   rw [List.take_add_one,h3];rfl
  have agh:qC (l.take (i+1))=qC (l.take i)++Kk (aC l (i:Int)):=by
   rw [htk];simp [qC]
  rw [aM.l0,if_pos (by omega),if_pos (by omega),Es _ (ht _ hmem) k (by omega),Option.bind_some];have hsz:(strOfNums (qC (l.take i))).size+(strOfNums (Kk (aC l (i:Int)))).size<=9223372036854775807:=by
   have h1:=Cz (l.take (i+1));have h2:=nO l (i+1);rw [agh,List.length_append] at h1;have e1:(strOfNums (qC (l.take i))).size=(qC (l.take i)).length:=by simp [strOfNums,ByteArray.size]
   have e2:(strOfNums (Kk (aC l (i:Int)))).size=(Kk (aC l (i:Int))).length:=by simp [strOfNums,ByteArray.size]
   omega
  rw [if_pos hsz,oz,<- agh,hw];exact Km l hl hz ht n k (i+1) (by omega) (by omega)
theorem ZB (l:List dh) (hl:l.length<=1000) (hz:nV l<=20000) (ht:∀ t∈l,t.f1.size<=2100) (k:Nat) (hk:402000 < k):aM.f k l=some (QN l) :=
 Km l hl hz ht l.length k 0 (by omega) (by omega)
def joB (l:List dh) (i:Nat):Bool :=
 !QN ((l.take (i+1)).drop (i - 1))||(decide (2<=i)&&!(bU l (i - 1)).f2&&decide ((bU l (i - 2)).f0=1)&&!QN ((l.take (i+1)).drop (i - 2)))
theorem Kn (l:List dh) (i:Nat):nV (l.drop i)<=nV l:=by
 conv=>{ rhs;rw [<- List.take_append_drop i l] }
 simp only [nV,List.map_append,List.sum_append];omega
theorem Vp {l:List dh} (hl:l.length<=1000) (hz:nV l<=20000) (ht:∀ t∈l,t.f1.size<=2100) (a b:Nat) (k:Nat) (hk:402000 < k):aM.f k ((l.take b).drop a)=some (QN ((l.take b).drop a)) :=
 ZB _ (by rw [List.length_drop,List.length_take];omega) (by have h1:=Kn (l.take b) a;have h2:=nO l b;omega) (fun t h=>ht t (List.mem_of_mem_take (List.mem_of_mem_drop h))) k hk
theorem ZC (l:List dh) (hl:l.length<=1000) (hz:nV l<=20000) (ht:∀ t∈l,t.f1.size<=2100) (i:Nat) (h1:1<=i) (h2:i < l.length) (k:Nat) (hk:402000 < k):fV.f k l (i:Int)=some (joB l i):=by
 have w1:wrap64 ((i:Int) - 1)=((i - 1:Nat):Int):=by unfold wrap64;omega
 have w2:wrap64 ((i:Int)+1)=((i+1:Nat):Int):=by unfold wrap64;omega
 unfold fV.f joB;rw [w1,w2,if_pos (by omega),if_pos (by omega),if_pos (by omega)];simp only [Int.toNat_natCast];rw [Vp hl hz ht _ _ k hk,Option.bind_some];cases QN ((l.take (i+1)).drop (i - 1)) with
 | false=>rw [if_neg Bool.false_ne_true];rfl
 | true =>
  rw [if_pos rfl];by_cases h3:2<=i
  rotate_left
  ·rw [if_neg (by omega),decide_eq_false h3];rfl
  have w3:wrap64 ((i:Int) - 2)=((i - 2:Nat):Int):=by unfold wrap64;omega
  rw [if_pos (by omega),if_pos (by omega),w3,decide_eq_true h3];simp only [Int.toNat_natCast];show (if (bU l (i - 1)).f2=true then some false else _)=_
  cases (bU l (i - 1)).f2 with
  | true=>rw [if_pos rfl];rfl
  | false =>
   rw [if_neg Bool.false_ne_true,if_pos (by omega),if_pos (by omega)];show (if (bU l (i - 2)).f0=1 then _ else some false)=_
   by_cases h4:(bU l (i - 2)).f0=1
   ·rw [if_pos h4,if_pos (by omega),Vp hl hz ht _ _ k hk,Option.bind_some,decide_eq_true h4]
    simp
   ·rw [if_neg h4,decide_eq_false h4];rfl
def Ko (l:List dh) (i:Nat):List Int:=if i=0 then [] else if (bU l i).f2=true then [32] else if joB l i=true then [47,42,42,47] else []
def xX (l:List dh):Nat->List Int
 | 0=>[]
 | i+1=>xX l i++Ko l i++Kk (bU l i)
def vk (l:List dh):List Int:=xX l l.length++(if 0 < l.length/\kz (bU l (l.length - 1))=(3,[44]) then [59] else [])++[10]
theorem Vq (l:List dh) (i:Nat):(Ko l i).length<=4:=by
 unfold Ko;split
 ·simp
 ·split
  ·simp
  ·split<;>simp
theorem CF {l:List dh} {i:Nat} (hi:i < l.length):nV (l.take (i+1))=nV (l.take i)+(2*(bU l i).f1.size+2):=by
 have hd:l.take (i+1)=l.take i++[bU l i]:=by
  rw [List.take_add_one,List.getElem?_eq_getElem hi];unfold bU aC;rw [Int.toNat_natCast,List.getD_eq_getElem?_getD,List.getElem?_eq_getElem hi];rfl
 rw [hd];simp [nV]
theorem Ay (l:List dh):∀ i,i<=l.length->(xX l i).length<=nV (l.take i)+4*i
 | 0,_=>by simp [xX]
 | i+1,h=>by
  have h1:=Ay l i (by omega);have h2:=Vq l i;have h3:=Ih (bU l i);have h4:=CF (l:=l) (i:=i) (by omega);simp only [xX,List.length_append];omega
theorem Et (l:List dh):(vk l).length<=nV l+4*l.length+2:=by
 have h:=Ay l l.length (Nat.le_refl _);rw [List.take_length] at h;unfold vk;rw [List.length_append,List.length_append];split<;>simp<;>omega
theorem rT (L:List Int):(strOfNums L).size=L.length:=by simp [strOfNums,ByteArray.size]
theorem OQ (l:List dh) (hl:l.length<=1000) (hz:nV l<=20000) (ht:∀ t∈l,t.f1.size<=2100):∀ (n k i:Nat),i+n=l.length->402001+2*n < k ->
  bE.l0 k l (strOfNums (xX l i)) (i:Int)=some (strOfNums (vk l))
 | n,0,i,h,hk=>by omega
 | 0,k+1,i,h,hk=>by
  obtain rfl:i=l.length:=by omega
  have hb:=Ay l l.length (Nat.le_refl _);rw [List.take_length] at hb;have s1:(strOfNums (xX l l.length)).size+1<=9223372036854775807:=by rw [rT];omega
  have one:strOfNums (xX l l.length)++(⟨#[10]⟩:ByteArray)=strOfNums (xX l l.length++[10]):=oz _ [10];rw [bE.l0,if_neg (by omega)];unfold vk;by_cases h0:0 < l.length
  rotate_left
  ·rw [if_neg (by omega),if_pos s1,one,if_neg (fun e=>h0 e.1),List.append_nil]
  have w1:wrap64 ((l.length:Int) - 1)=((l.length - 1:Nat):Int):=by unfold wrap64;omega
  rw [if_pos (by omega),w1,if_pos (by omega),if_pos (by omega)];show (if (bU l (l.length - 1)).f0=3 then _ else _)=_
  have hkz:kz (bU l (l.length - 1))=(3,[44]) <-> (bU l (l.length - 1)).f0=3/\(bU l (l.length - 1)).f1.toList=([44]:List UInt8):=by
   have h:=OO (bU l (l.length - 1)) ⟨3,⟨#[44]⟩,false,0,0,0⟩;have h44:(⟨#[44]⟩:ByteArray).toList=[44]:=by rw [Lib.toList_data]
   simp only [h44] at h;exact h
  by_cases h3:(bU l (l.length - 1)).f0=3
  ·rw [if_pos h3]
   show (if (bU l (l.length - 1)).f1.toList=([44]:List UInt8) then _ else _)=_
   by_cases h4:(bU l (l.length - 1)).f1.toList=([44]:List UInt8)
   ·have two:strOfNums (xX l l.length)++(⟨#[59]⟩:ByteArray)=strOfNums (xX l l.length++[59]):=oz _ [59]
    have tri:strOfNums (xX l l.length++[59])++(⟨#[10]⟩:ByteArray)=strOfNums (xX l l.length++[59]++[10]):=oz _ [10];rw [if_pos h4,if_pos s1,two,if_pos (by rw [rT,List.length_append,List.length_singleton];omega),tri,if_pos ⟨h0,hkz.2 ⟨h3,h4⟩⟩]
   ·rw [if_neg h4,if_pos s1,one,if_neg (fun e=>h4 (hkz.1 e.2).2),List.append_nil]
  ·rw [if_neg h3,if_pos s1,one,if_neg (fun e=>h3 (hkz.1 e.2).1),List.append_nil]
 | n+1,1,i,h,hk=>by omega
 | n+1,k+2,i,h,hk=>by
  have hw:wrap64 ((i:Int)+1)=((i+1:Nat):Int):=by unfold wrap64;omega
  have hmem:bU l i∈l:=by
   have:=ig (l:=l) (k:=i) (by omega);exact List.mem_of_mem_drop (by rw [this];exact List.mem_cons_self)
  have hwr:=Es (bU l i) (ht _ hmem) k (by omega);have ih:=OQ l hl hz ht n k (i+1) (by omega) (by omega);rw [xX,<- oz,<- oz] at ih;have hb:=Ay l i (by omega);have h2:=Ih (bU l i);have h4:=CF (l:=l) (i:=i) (by omega);have h5:=nO l (i+1);obtain ⟨A,hA⟩:∃ A,strOfNums (xX l i)=A:=⟨_,rfl⟩;have hAs:A.size=(xX l i).length:=by rw [<- hA,rT]
  rw [hA] at ih |-
  obtain ⟨Bt,hB⟩:∃ Bt,strOfNums (Kk (bU l i))=Bt:=⟨_,rfl⟩;have hBs:Bt.size=(Kk (bU l i)).length:=by rw [<- hB,rT]
  rw [hB] at ih hwr;have hJ:bE.j1 (k+1) l A (i:Int) (decide (i≠0)&&(bU l i).f2)=some (strOfNums (vk l)):=by
   rw [bE.j1];unfold Ko at ih;by_cases h0:i=0
   ·rw [if_pos h0] at ih
    rw [decide_eq_false (by omega),Bool.false_and,if_neg Bool.false_ne_true,if_neg (by omega),if_pos (by omega),if_pos (by omega)];rw [show A++strOfNums []=A from by rw [<- hA,oz,List.append_nil]] at ih;show ((bH.f k (bU l i).f0 (bU l i).f1 (bU l i).f2 (bU l i).f3 (bU l i).f4 (bU l i).f5).bind _)=_
    rw [hwr,Option.bind_some,if_pos (by omega),hw];exact ih
   rw [if_neg h0] at ih;rw [decide_eq_true h0,Bool.true_and];cases hg:(bU l i).f2 with
   | true =>
    rw [hg,if_pos rfl] at ih;rw [if_pos rfl,if_pos (by omega),if_pos (by omega),if_pos (by omega)];show ((bH.f k (bU l i).f0 (bU l i).f1 (bU l i).f2 (bU l i).f3 (bU l i).f4 (bU l i).f5).bind _)=_
    rw [hwr,Option.bind_some,if_pos (by rw [ByteArray.size_append,show (⟨#[32]⟩:ByteArray).size=1 from rfl];omega),hw];exact ih
   | false =>
    rw [hg,if_neg Bool.false_ne_true] at ih;rw [if_neg Bool.false_ne_true,if_pos (by omega),ZC l hl hz ht i (by omega) (by omega) k (by omega),Option.bind_some];cases hj:joB l i with
    | true =>
     rw [hj,if_pos rfl] at ih;rw [if_pos rfl,if_pos (by omega),if_pos (by omega),if_pos (by omega)];show ((bH.f k (bU l i).f0 (bU l i).f1 (bU l i).f2 (bU l i).f3 (bU l i).f4 (bU l i).f5).bind _)=_
     rw [hwr,Option.bind_some,if_pos (by rw [ByteArray.size_append,show (⟨#[47,42,42,47]⟩:ByteArray).size=4 from rfl];omega),hw];exact ih
    | false =>
     rw [hj,if_neg Bool.false_ne_true] at ih;rw [show A++strOfNums []=A from by rw [<- hA,oz,List.append_nil]] at ih;rw [if_neg Bool.false_ne_true,if_pos (by omega),if_pos (by omega)];show ((bH.f k (bU l i).f0 (bU l i).f1 (bU l i).f2 (bU l i).f3 (bU l i).f4 (bU l i).f5).bind _)=_
     rw [hwr,Option.bind_some,if_pos (by omega),hw];exact ih
  rw [bE.l0,if_pos (by omega)];by_cases h0:i=0
  ·rw [if_neg (by omega)]
   rw [decide_eq_false (by omega),Bool.false_and] at hJ;exact hJ
  rw [if_pos (by omega),if_pos (by omega)];rw [decide_eq_true h0,Bool.true_and] at hJ;exact hJ
theorem adp (l:List dh) (hl:l.length<=1000) (hz:nV l<=20000) (ht:∀ t∈l,t.f1.size<=2100) (k:Nat) (hk:410000 < k):bE.f k l=some (strOfNums (vk l)) :=
 OQ l hl hz ht l.length k 0 (by omega) (by omega)
def Kq (x:dh):S.KT:=(x.f0.toNat,bytesOf x.f1)
def oV (x:dh):Prop:=0<=x.f0/\S.Good (Kq x)
def ZE (x:dh):S.Tk:=⟨x.f0.toNat,bytesOf x.f1,x.f2,0,0,0⟩
theorem Vr {x:dh} (h:oV x):toS (ZE x)=er x:=by
 unfold toS ZE er;simp only [yJ];rw [Int.toNat_of_nonneg h.1];rfl
theorem OT {x:dh} (h:oV x):Kk x=S.zX (Kq x):=by
 unfold Kk S.zX Kq;by_cases e:x.f0=2
 rotate_left
 ·rw [if_neg e,if_neg (show ¬ x.f0.toNat=2 from fun e2=>e (by have:=h.1;omega))]
 rw [if_pos e,if_pos (show x.f0.toNat=2 by omega)];have hg:=h.2.1;have hk:(Kq x).1=2:=by show x.f0.toNat=2;omega
 obtain ⟨c,r,hc,hn1,hn2,zS,hh⟩:=S.oP hg;clear hn1 hn2 zS;rcases hh with ⟨h1,hq,hl⟩ | ⟨h1,-⟩ | ⟨h1,-⟩
 ·rw [hc] at hl
  obtain ⟨v1,v2⟩:=S.BS hl;have v1':(bytesOf x.f1).all S.iT=true:=v1;have v2':(bytesOf x.f1).length<=1000:=v2;rw [bytesOf_length] at v2';rw [if_neg (by rintro (e1 | e1);omega;rw [v1'] at e1;cases e1)]
 ·omega
 ·omega
theorem Kr:∀ c:List dh,(∀ x∈c,oV x)->qC c=S.spl (c.map Kq)
 | [],_=>rfl
 | x::c,h=>by
  have ih:=Kr c (fun y hy=>h y (List.mem_cons_of_mem _ hy));rw [List.map_cons,S.jV,<- ih,<- OT (h x List.mem_cons_self)];simp [qC]
theorem qD:∀ (f:Nat) (xs:List Int) (l:List S.KT),(∀ x∈xs,0<=x/\x < 256)->S.uW f xs=some l->∀ y∈l,∀ z∈y.2,0<=z/\z < 256
 | 0,_,_,_,h=>by cases h
 | f+1,xs,l,hb,h=>by
  rw [S.uW] at h;cases hs:S.step xs with
  | fin=>rw [hs] at h;cases h;simp
  | line=>rw [hs] at h;exact qD f _ l (S.fQ hb 1) h
  | blank=>rw [hs] at h;exact qD f _ l (S.fQ hb 1) h
  | jD n d=>rw [hs] at h;exact qD f _ l (S.fQ hb n) h
  | err c d=>rw [hs] at h;cases h
  | tok k t n =>
   rw [hs] at h;simp only at h;obtain ⟨m,hm,rfl⟩:=Option.map_eq_some_iff.1 h;intro y hy
   rcases List.mem_cons.1 hy with rfl | hy
   ·exact (S.kR hb hs).2.2.1
   ·exact qD f _ m (S.fQ hb n) hm y hy
theorem Vs:∀ (m K:List S.KT),m.map (fun x=>((x.1:Int),x.2))=K.map (fun x=>((x.1:Int),x.2))->m=K
 | [],[],_=>rfl
 | [],_::_,h=>by cases h
 | _::_,[],h=>by cases h
 | x::m,y::K,h=>by
  simp only [List.map_cons,List.cons.injEq,Prod.mk.injEq] at h;have:=Vs m K h.2;have e1:x.1=y.1:=by omega
  rw [this,Prod.ext e1 h.1.2]
theorem adq {c:List dh} (h:∀ x∈c,oV x):QN c=true <-> S.Rd (c.map Kq):=by
 have hg:∀ x∈c.map Kq,S.Good x:=fun x hx=>by
  obtain ⟨t,ht,rfl⟩:=List.mem_map.1 hx;exact (h t ht).2
 have hb:=(S.tO hg).1;have hkz:c.map kz=(c.map Kq).map (fun x=>((x.1:Int),x.2)):=by
  rw [List.map_map];refine List.map_congr_left fun x hx=>?_
  show (x.f0,bytesOf x.f1)=(((x.f0.toNat:Nat):Int),bytesOf x.f1)
  rw [Int.toNat_of_nonneg (h x hx).1]
 unfold QN;rw [Kr c h,hkz];constructor
 ·intro e
  cases hp:S.uW ((S.spl (c.map Kq)).length+1) (S.spl (c.map Kq)) with
  | none=>rw [hp] at e;cases e
  | some m =>
   rw [hp] at e;have e2:=of_decide_eq_true e;have hmb:=qD _ _ m hb hp;have e3:(m.map tkK).map kz=m.map (fun x=>((x.1:Int),x.2)):=by
    rw [List.map_map];refine List.map_congr_left fun x hx=>?_
    show (((x.1:Nat):Int),bytesOf (strOfNums x.2))=_
    rw [bW _ (hmb x hx)]
   rw [e3] at e2;rw [Vs _ _ e2] at hp;exact S.yO _ _ hb hp
 ·intro e
  rw [S.yP _ _ hb (Nat.lt_succ_self _) e];refine decide_eq_true ?_;rw [List.map_map];refine List.map_congr_left fun x hx=>?_
  show (((x.1:Nat):Int),bytesOf (strOfNums x.2))=_
  rw [bW _ (S.Ca (hg x hx))]
theorem Eu {c:List dh} (h:∀ x∈c,oV x):iq c=!QN c:=by
 have hg:∀ x∈c.map Kq,S.Good x:=fun x hx=>by
  obtain ⟨t,ht,rfl⟩:=List.mem_map.1 hx;exact (h t ht).2
 have e1:c.map er=(c.map ZE).map toS:=by
  rw [List.map_map];exact List.map_congr_left fun x hx=>(Vr (h x hx)).symm
 have e2:(c.map ZE).map S.kt=c.map Kq:=by
  rw [List.map_map];rfl
 rw [<- QD,e1,QB _ (fun t ht=>by
  obtain ⟨x,hx,rfl⟩:=List.mem_map.1 ht;exact eG _) (fun t ht=>by
  obtain ⟨x,hx,rfl⟩:=List.mem_map.1 ht;exact (h x hx).2),e2]
 have hi:=S.Qr (l:=c.map Kq) (S.tO hg).1 (S.tO hg).2.1 (S.tO hg).2.2;have ha:=adq h;cases hm:S.JK (c.map Kq) with
 | false=>rw [ha.2 (hi.1 hm)];rfl
 | true =>
  cases hp:QN c with
  | false=>rfl
  | true=>rw [hi.2 (ha.1 hp)] at hm;cases hm
def uM (l:List dh):Nat->Nat × List Int
 | 0=>(0,[])
 | i+1=>if (bU l i).f0=4 then (i+1,(uM l i).2++vk ((l.drop (uM l i).1).take (i - (uM l i).1))) else uM l i
theorem ZF (a b:List dh):nV (a++b)=nV a+nV b:=by simp [nV]
theorem uH (l:List dh):∀ i,i<=l.length->(uM l i).1<=i/\(uM l i).2.length<=nV (l.take (uM l i).1)+6*(uM l i).1
 | 0,_=>by simp [uM]
 | i+1,h=>by
  obtain ⟨h1,h2⟩:=uH l i (by omega);rw [uM];by_cases h4:(bU l i).f0=4
  rotate_left
  ·rw [if_neg h4]
   exact ⟨by omega,h2⟩
  rw [if_pos h4];obtain ⟨p,hp⟩:∃ p,uM l i=p:=⟨_,rfl⟩;rw [hp] at h1 h2 |-
  have h3:=Et ((l.drop p.1).take (i - p.1));have h5:((l.drop p.1).take (i - p.1)).length=i - p.1:=by rw [List.length_take,List.length_drop];omega
  have h6:l.take i=l.take p.1++(l.drop p.1).take (i - p.1):=by
   conv=>{ lhs;rw [show i=p.1+(i - p.1) by omega,List.take_add] }
  have h7:=CF (l:=l) (i:=i) (by omega);rw [h6,ZF] at h7;refine ⟨Nat.le_refl _,?_⟩;simp only [List.length_append];omega
theorem aaD (l:List dh) (hl:l.length<=1000) (hz:nV l<=20000) (ht:∀ t∈l,t.f1.size<=2100) (k:Nat) (hk:410000 < k):∀ (m i:Nat),i+m=l.length ->
  Zh k l m (uM l i).1 (strOfNums (uM l i).2)=some (strOfNums (uM l l.length).2)
 | 0,i,h=>by
  obtain rfl:i=l.length:=by omega
  rfl
 | m+1,i,h=>by
  have ih:=aaD l hl hz ht k hk m (i+1) (by omega);obtain ⟨f1,f2⟩:=uH l i (by omega);rw [uM] at ih;rw [Zh,show l.length - (m+1)=i by omega];by_cases h4:(bU l i).f0=4
  ·rw [if_pos h4] at ih
   obtain ⟨p,hp⟩:∃ p,uM l i=p:=⟨_,rfl⟩;rw [hp] at ih f1 f2 |-
   have h3:=Et ((l.drop p.1).take (i - p.1));have h5:((l.drop p.1).take (i - p.1)).length=i - p.1:=by rw [List.length_take,List.length_drop];omega
   have h6:=nO (l.drop p.1) (i - p.1);have h7:=Kn l p.1;have h8:=nO l p.1;rw [if_pos h4,adp _ (by omega) (by omega) (fun t h=>ht t (List.mem_of_mem_drop (List.mem_of_mem_take h))) k hk,Option.bind_some,if_pos (by rw [rT,rT];omega),oz];exact ih
  rw [if_neg h4] at ih;rw [if_neg h4];exact ih
theorem ZG {x:dh} (h:oV x):yc x=Kk x:=by
 rw [OT h];unfold yc S.zX Kq;by_cases e:x.f0=2
 ·rw [if_pos e,if_pos (show x.f0.toNat=2 by omega)]
 ·rw [if_neg e,if_neg (show ¬ x.f0.toNat=2 from fun e2=>e (by have:=h.1;omega))]
theorem nQ {l:List dh} {a n j:Nat} (hj:j < n) (hn:a+n<=l.length):bU ((l.drop a).take n) j=bU l (a+j):=by
 unfold bU aC;rw [Int.toNat_natCast,Int.toNat_natCast,List.getD_eq_getElem?_getD,List.getD_eq_getElem?_getD,List.getElem?_take_of_lt hj,List.getElem?_drop]
theorem KM {l:List dh} {i:Nat} (h:i+1 < l.length):(l.drop i).take 2=[bU l i,bU l (i+1)]:=by
 have e1:l.drop i=bU l i::l.drop (i+1):=ig (by omega);have e2:l.drop (i+1)=bU l (i+1)::l.drop (i+1+1):=ig h;rw [e1,e2];rfl
theorem Iq {l:List dh} {i:Nat} (h:i+2 < l.length):(l.drop i).take 3=[bU l i,bU l (i+1),bU l (i+2)]:=by
 have e1:l.drop i=bU l i::l.drop (i+1):=ig (by omega);rw [e1,List.take_succ_cons,KM (by omega)]
theorem Ii {l:List dh} {a n j:Nat} (hj:j < n) (hn:a+n<=l.length) (h1:1<=j) (hg:∀ t,t < n->oV (bU l (a+t))):joB ((l.drop a).take n) j=xA l (a+j) a:=by
 unfold joB xA;have w1:((((l.drop a).take n).take (j+1)).drop (j - 1))=[bU l (a+j - 1),bU l (a+j)]:=by
  rw [List.take_take,Nat.min_eq_left (by omega),List.drop_take,List.drop_drop,show j+1 - (j - 1)=2 by omega,show a+(j - 1)=a+j - 1 by omega,KM (by omega),show a+j - 1+1=a+j by omega]
 have g1:oV (bU l (a+j - 1)):=by have:=hg (j - 1) (by omega);rwa [show a+(j - 1)=a+j - 1 by omega] at this
 have g0:oV (bU l (a+j)):=hg j hj;rw [w1,<- Eu (fun x hx=>by
  simp only [List.mem_cons,List.not_mem_nil,or_false] at hx;rcases hx with rfl | rfl
  ·exact g1
  ·exact g0)]
 congr 1
 by_cases h2:2<=j
 ·have w2:((((l.drop a).take n).take (j+1)).drop (j - 2))=[bU l (a+j - 2),bU l (a+j - 1),bU l (a+j)]:=by
   rw [List.take_take,Nat.min_eq_left (by omega),List.drop_take,List.drop_drop,show j+1 - (j - 2)=3 by omega,show a+(j - 2)=a+j - 2 by omega,Iq (by omega),show a+j - 2+1=a+j - 1 by omega,show a+j - 2+2=a+j by omega]
  have g2:oV (bU l (a+j - 2)):=by have:=hg (j - 2) (by omega);rwa [show a+(j - 2)=a+j - 2 by omega] at this
  rw [w2,<- Eu (fun x hx=>by
   simp only [List.mem_cons,List.not_mem_nil,or_false] at hx;rcases hx with rfl | rfl | rfl
   ·exact g2
   ·exact g1
   ·exact g0),nQ (by omega) hn,nQ (by omega) hn,decide_eq_true h2,decide_eq_true (show a+2<=a+j by omega),show a+(j - 1)=a+j - 1 by omega,show a+(j - 2)=a+j - 2 by omega]
 rw [decide_eq_false h2,decide_eq_false (show ¬ a+2<=a+j by omega)];simp
theorem OU {l:List dh} {a:Nat}:∀ (j n:Nat),j<=n->a+n<=l.length->(∀ t,t < n->oV (bU l (a+t)))->∀ n',n<=n'->a+n'<=l.length->(∀ t,t < n'->oV (bU l (a+t)))->xX ((l.drop a).take n) j=xX ((l.drop a).take n') j
 | 0,_,_,_,_,_,_,_,_=>rfl
 | j+1,n,h1,h2,hg,n',h3,h4,hg'=>by
  rw [xX,xX,OU j n (by omega) h2 hg n' h3 h4 hg',nQ (by omega) h2,nQ (by omega) h4];congr 2
  unfold Ko;rw [nQ (by omega) h2,nQ (by omega) h4];by_cases h0:j=0
  ·rw [if_pos h0,if_pos h0]
  ·rw [Ii (by omega) h2 (by omega) hg,Ii (by omega) h4 (by omega) hg']
theorem MX (c:List dh):kJ c=true <-> (0 < c.length/\kz (bU c (c.length - 1))=(3,[44])):=by
 unfold kJ;rw [List.getLast?_eq_getElem?];have hkz:kz (bU c (c.length - 1))=(3,[44]) <-> (bU c (c.length - 1)).f0=3/\(bU c (c.length - 1)).f1.toList=([44]:List UInt8):=by
  have h:=OO (bU c (c.length - 1)) ⟨3,⟨#[44]⟩,false,0,0,0⟩;have h44:(⟨#[44]⟩:ByteArray).toList=[44]:=by rw [Lib.toList_data]
  simp only [h44] at h;exact h
 rw [hkz];by_cases h0:0 < c.length
 ·have e:c[c.length - 1]?=some (bU c (c.length - 1)):=by
   unfold bU aC;rw [Int.toNat_natCast,List.getD_eq_getElem?_getD,List.getElem?_eq_getElem (by omega)];rfl
  rw [e];simp only [Bool.and_eq_true,decide_eq_true_eq,beq_iff_eq];exact ⟨fun h=>⟨h0,h⟩,fun h=>h.2⟩
 have e:c[c.length - 1]?=none:=List.getElem?_eq_none (by omega);rw [e];exact ⟨fun h=>(by cases h),fun h=>absurd h.1 h0⟩
theorem aaE (l:List dh) (hg:∀ i,i < l.length->(bU l i).f0≠4->oV (bU l i)):∀ i,i<=l.length ->
  (Cb l i).1=(uM l i).1/\(Cb l i).2=(uM l i).2++xX ((l.drop (uM l i).1).take (i - (uM l i).1)) (i - (uM l i).1)/\∀ t,(uM l i).1+t < i->(bU l ((uM l i).1+t)).f0≠4
 | 0,_=>by simp [Cb,uM,xX]
 | i+1,h=>by
  obtain ⟨h1,h2,h3⟩:=aaE l hg i (by omega);obtain ⟨f1,-⟩:=uH l i (by omega);rw [Cb,uM];unfold vW;obtain ⟨p,hp⟩:∃ p,uM l i=p:=⟨_,rfl⟩;obtain ⟨q,hq⟩:∃ q,Cb l i=q:=⟨_,rfl⟩;rw [hp] at h1 h2 h3 f1 |-
  rw [hq] at h1 h2 |-
  obtain ⟨a,out⟩:=p;obtain ⟨a',out'⟩:=q;simp only at h1 h2 h3 f1 |-
  subst h1;by_cases h4:(bU l i).f0=4
  ·rw [if_pos h4,if_pos h4]
   refine ⟨rfl,?_,fun t ht=>by omega⟩;simp only [Nat.sub_self];rw [h2];unfold Mx vk;have h5:((l.drop a').take (i - a')).length=i - a':=by rw [List.length_take,List.length_drop];omega
   rw [h5];have hcm:(kJ ((l.drop a').take (i - a'))=true) <-> (0 < i - a'/\kz (bU ((l.drop a').take (i - a')) (i - a' - 1))=(3,[44])):=by
    have:=MX ((l.drop a').take (i - a'));rwa [h5] at this
   by_cases hc:kJ ((l.drop a').take (i - a'))=true
   ·rw [if_pos hc,if_pos (hcm.1 hc)];simp [xX]
   ·rw [if_neg hc,if_neg (fun e=>hc (hcm.2 e))];simp [xX]
  rw [if_neg h4,if_neg h4];have hgg:∀ t,t < i+1 - a'->oV (bU l (a'+t)):=fun t ht=>by
   by_cases e:a'+t=i
   ·rw [e];exact hg i (by omega) h4
   ·exact hg _ (by omega) (h3 t (by omega))
  refine ⟨rfl,?_,fun t ht=>?_⟩
  ·obtain ⟨n,hn⟩:∃ n,i - a'=n:=⟨_,rfl⟩
   rw [hn] at h2;rw [show i+1 - a'=n+1 by omega] at hgg |-
   rw [h2,xX,<- OU n n (Nat.le_refl _) (by omega) (fun t ht=>hgg t (by omega)) (n+1) (by omega) (by omega) hgg,nQ (by omega) (by omega),show a'+n=i by omega,<- ZG (hg i (by omega) h4)];have ajV:oq l i a'=Ko ((l.drop a').take (n+1)) n:=by
    unfold oq Ko;rw [nQ (by omega) (by omega),show a'+n=i by omega];by_cases e:i=a'
    ·rw [if_pos e,if_pos (by omega)]
    ·rw [if_neg e,if_neg (show ¬ n=0 by omega),Ii (by omega) (by omega) (by omega) hgg,show a'+n=i by omega]
   rw [ajV];simp
  ·by_cases e:a'+t=i
   ·rw [e];exact h4
   ·exact h3 t (by omega)
theorem OV (l m:List dh) (hl:l.length<=1000000) (hm:l.length=m.length):∀ (n k i:Nat),i+n=l.length->n < k ->
  bO.l0 k l m (i:Int)=some (sG jK (l.drop i) (m.drop i))
 | n,0,i,h,hk=>by omega
 | 0,k+1,i,h,hk=>by
  rw [bO.l0,if_neg (by omega),List.drop_eq_nil_of_le (by omega),List.drop_eq_nil_of_le (by omega)];rfl
 | n+1,k+1,i,h,hk=>by
  have hw:wrap64 ((i:Int)+1)=((i+1:Nat):Int):=by unfold wrap64;omega
  have e1:l.drop i=aC l (i:Int)::l.drop (i+1):=ig (by omega);have e2:m.drop i=aC m (i:Int)::m.drop (i+1):=ig (by omega);have ih:=OV l m hl hm n k (i+1) (by omega) (by omega);rw [bO.l0,if_pos (by omega),if_pos (by omega),if_pos (by omega),e1,e2,hw,ih];generalize aC l (i:Int)=x;generalize aC m (i:Int)=y;simp only [sG,jK,mX];by_cases h0:x.f0=y.f0
  ·rw [if_pos h0]
   by_cases h1:x.f1.toList=y.f1.toList
   ·rw [if_pos h1]
    cases x.f2<;>cases y.f2<;>simp [h0,h1]
   ·rw [if_neg h1];simp [h1]
  ·rw [if_neg h0];simp [h0]
theorem Vt (l m:List dh) (hl:l.length<=1000000) (k:Nat) (hk:l.length < k):bO.f k l m=some (sG jK l m):=by
 unfold bO.f;by_cases h:(l.length:Int)=(m.length:Int)
 ·rw [if_pos h]
  have:=OV l m hl (by omega) l.length k 0 (by omega) hk;rwa [List.drop_zero,List.drop_zero] at this
 ·rw [if_neg h,Fp _ _ _ (by omega)]
end Go.Proofs.YtkkpjonfaflkmaaGreatDoor.T
