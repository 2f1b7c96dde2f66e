/- A part of the proof of ScanWrites. -/
import Derived.Test.YtkkpjonfaflkmaaGreatDoorCScanWrites23
import Derived.Test.YtkkpjonfaflkmaaGreatDoorCScanWrites21
set_option linter.all false
namespace Go.Proofs.YtkkpjonfaflkmaaGreatDoor.T
open Go.RowKit Go.Proofs.aj.aI Go.Proofs.aj.aY Go.Proofs.aj.bq
attribute [local go_sem] eY eZ gH gI dV dW fq fu
mutual
def bE.l0:Nat->List (dh)->ByteArray->Int->Option (ByteArray)
 | 0,_,_,_=>none
 | k+1,x0,x3,x4=>if x4 < (x0.length:Int) then (if x4 > 0 then (if 0<=x4 then (bE.j1 k x0 x3 x4 ((aC x0 x4).f2)) else (none)) else (bE.j1 k x0 x3 x4 false)) else (if (x0.length:Int) > 0 then (if 0<=(wrap64 ((x0.length:Int) - 1)) then (if (wrap64 ((x0.length:Int) - 1)) < (x0.length:Int) then (if ((aC x0 (wrap64 ((x0.length:Int) - 1))).f0)=3 then (if ((aC x0 (wrap64 ((x0.length:Int) - 1))).f1).toList=([44]:List UInt8) then (if x3.size+1<=9223372036854775807 then (if (x3++(⟨#[59]⟩:ByteArray)).size+1<=9223372036854775807 then (some ((x3++(⟨#[59]⟩:ByteArray))++(⟨#[10]⟩:ByteArray))) else (none)) else (none)) else (if x3.size+1<=9223372036854775807 then (some (x3++(⟨#[10]⟩:ByteArray))) else (none))) else (if x3.size+1<=9223372036854775807 then (some (x3++(⟨#[10]⟩:ByteArray))) else (none))) else (none)) else (none)) else (if x3.size+1<=9223372036854775807 then (some (x3++(⟨#[10]⟩:ByteArray))) else (none)))
def bE.j1:Nat->List (dh)->ByteArray->Int->Bool->Option (ByteArray)
 | 0,_,_,_,_=>none
 | k+1,x0,x3,x4,x21=>if x21=true then (if x3.size+1<=9223372036854775807 then (if 0<=x4 then (if x4 < (x0.length:Int) then ((bH.f k ((aC x0 x4).f0) ((aC x0 x4).f1) ((aC x0 x4).f2) ((aC x0 x4).f3) ((aC x0 x4).f4) ((aC x0 x4).f5)).bind fun Cn=>(if (x3++(⟨#[32]⟩:ByteArray)).size+Cn.size<=9223372036854775807 then (bE.l0 k x0 ((x3++(⟨#[32]⟩:ByteArray))++Cn) (wrap64 (x4+1))) else (none))) else (none)) else (none)) else (none)) else (if x4 > 0 then ((fV.f k x0 x4).bind fun Zg=>(if Zg=true then (if x3.size+4<=9223372036854775807 then (if 0<=x4 then (if x4 < (x0.length:Int) then ((bH.f k ((aC x0 x4).f0) ((aC x0 x4).f1) ((aC x0 x4).f2) ((aC x0 x4).f3) ((aC x0 x4).f4) ((aC x0 x4).f5)).bind fun xE=>(if (x3++(⟨#[47,42,42,47]⟩:ByteArray)).size+xE.size<=9223372036854775807 then (bE.l0 k x0 ((x3++(⟨#[47,42,42,47]⟩:ByteArray))++xE) (wrap64 (x4+1))) else (none))) else (none)) else (none)) else (none)) else (if 0<=x4 then (if x4 < (x0.length:Int) then ((bH.f k ((aC x0 x4).f0) ((aC x0 x4).f1) ((aC x0 x4).f2) ((aC x0 x4).f3) ((aC x0 x4).f4) ((aC x0 x4).f5)).bind fun yZ=>(if x3.size+yZ.size<=9223372036854775807 then (bE.l0 k x0 (x3++yZ) (wrap64 (x4+1))) else (none))) else (none)) else (none)))) else (if 0<=x4 then (if x4 < (x0.length:Int) then ((bH.f k ((aC x0 x4).f0) ((aC x0 x4).f1) ((aC x0 x4).f2) ((aC x0 x4).f3) ((aC x0 x4).f4) ((aC x0 x4).f5)).bind fun Dl=>(if x3.size+Dl.size<=9223372036854775807 then (bE.l0 k x0 (x3++Dl) (wrap64 (x4+1))) else (none))) else (none)) else (none)))
end
def bE.f (k:Nat) (l0:List (dh)):Option (ByteArray):=bE.l0 k l0 (⟨#[]⟩:ByteArray) 0
set_option maxHeartbeats 8000000 in
set_option maxRecDepth 100000 in
theorem bE.calls (k:Nat) (A0:Option Addr) (c0:Nat) (l0:List (dh)) (r:ByteArray) (w:World) (hr0:Kd.C jP w A0 l0.length l0) (hc0:l0.length<=c0) (h:bE.f k l0=some r) :
  Calls Tryz.prog 73 #[.slice A0 l0.length c0] w fun e w'=>e=.returned (.string r)/\Below w.heap.size w w':=by
 have Bu:=Tryz.underlying53;have iG:=ah.mk hr0;have CV:=ah.mk hc0;clear hr0 hc0;have HB:=ah.mk (Below.refl w.heap.size w);have H:(bE.l0 k l0 (⟨#[]⟩:ByteArray) 0)=some r:=h;clear h;have H':=ah.mk H;clear H;go_enter Tryz.func73,Tryz.ntmps73
 go_wp2;go_loopg [3,4] k (fun kq v3 v4 w'=>∃ (bZ:ByteArray) (bB:Int),v3=.string bZ/\v4=.int .i64 bB/\ah (bE.l0 kq l0 bZ bB=some r)/\ah (kq<=k)/\ah (Below w.heap.size w w'))
 case atStart=>exact ⟨((⟨#[]⟩:ByteArray)),(0),(by first | rfl | (simp;done) | (simp [*];done)),(by first | rfl | (simp;done) | (simp [*];done)),H',⟨Nat.le_refl _⟩,⟨by with_reducible repeat (first | exact HB.out | apply av | apply ak | apply ay)⟩⟩
 case round =>
  clear H';obtain ⟨bZ,bB,rfl,rfl,HA,jY,HB⟩:=hrel;cases gk with
  | zero=>exact absurd HA.out (by simp [bE.l0])
  | succ k1 =>
   have H:=HA.out;clear HA;simp only [bE.l0] at H;by_cases c2:bB < (l0.length:Int)
   rotate_left
   ·rw [if_neg c2] at H
    have kX:decide (bB < (l0.length:Int))=false:=decide_eq_false c2;clear c2;by_cases c34:(l0.length:Int) > 0
    rotate_left
    ·rw [if_neg c34] at H
     have afE:decide (0 < (l0.length:Int))=false:=decide_eq_false c34;have afF:decide (0 < l0.length)=false:=decide_eq_false (by omega);clear c34;by_cases c44:bZ.size+1<=9223372036854775807
     ·rw [if_pos c44] at H
      have aks:=eq_true c44;have akt:decide (bZ.size+1<=9223372036854775807)=true:=decide_eq_true c44;try have aku:(9223372036854775807 < bZ.size+1)=False:=eq_false (Nat.not_lt.2 c44)
      obtain rfl:=Option.some.inj H;go_wp2;go_ret;exact ⟨by first | rfl | (simp [aJ,aK]<;>rfl) | (simp [*,aJ,aK]<;>rfl),by with_reducible repeat (first | exact HB.out | apply av | apply ak | apply ay)⟩
     rw [if_neg c44] at H;exact absurd H (by simp)
    rw [if_pos c34] at H;have afE:decide (0 < (l0.length:Int))=true:=decide_eq_true c34;have afF:decide (0 < l0.length)=true:=decide_eq_true (by omega);clear c34;obtain ⟨kE,En⟩:∃ j_:Int,(wrap64 ((l0.length:Int) - 1))=j_:=⟨_,rfl⟩;replace H:(if 0<=(kE) then (if (kE) < (l0.length:Int) then (if ((aC l0 (kE)).f0)=3 then (if ((aC l0 (kE)).f1).toList=([44]:List UInt8) then (if bZ.size+1<=9223372036854775807 then (if (bZ++(⟨#[59]⟩:ByteArray)).size+1<=9223372036854775807 then (some ((bZ++(⟨#[59]⟩:ByteArray))++(⟨#[10]⟩:ByteArray))) else (none)) else (none)) else (if bZ.size+1<=9223372036854775807 then (some (bZ++(⟨#[10]⟩:ByteArray))) else (none))) else (if bZ.size+1<=9223372036854775807 then (some (bZ++(⟨#[10]⟩:ByteArray))) else (none))) else (none)) else (none))=some r:=by first | (rw [En] at H;exact H) | (simp only [En] at H |-;exact H)
    have ajG:(IntKind.i64.wrap ((l0.length:Int) - 1))=kE:=(dK _).trans En;by_cases c36:0<=(kE)
    rotate_left
    ·rw [if_neg c36] at H
     exact absurd H (by simp)
    rw [if_pos c36] at H;have akv:decide (0<=(kE))=true:=decide_eq_true c36;clear c36;by_cases c37:(kE) < (l0.length:Int)
    rotate_left
    ·rw [if_neg c37] at H
     exact absurd H (by simp)
    rw [if_pos c37] at H;have akw:decide ((kE) < (l0.length:Int))=true:=decide_eq_true c37;clear c37;by_cases c38:((aC l0 (kE)).f0)=3
    rotate_left
    ·rw [if_neg c38] at H
     have afG:(((aC l0 (kE)).f0)==3)=false:=beq_eq_false_iff_ne.mpr c38;have afH:(((aC l0 (kE)).f0) != 3)=true:=bne_iff_ne.mpr c38;by_cases c43:bZ.size+1<=9223372036854775807
     rotate_left
     ·rw [if_neg c43] at H
      exact absurd H (by simp)
     rw [if_pos c43] at H;have akx:=eq_true c43;have aky:decide (bZ.size+1<=9223372036854775807)=true:=decide_eq_true c43;try have akz:(9223372036854775807 < bZ.size+1)=False:=eq_false (Nat.not_lt.2 c43)
     obtain rfl:=Option.some.inj H;have Co:0<=((kE):Int):=of_decide_eq_true (by with_reducible assumption);have Cq:(kE) < (l0.length:Int):=of_decide_eq_true (by with_reducible assumption);obtain ⟨OG,UZ,mJ,mK,mM,mO,mP,mQ⟩:=bQ iG.out (kE) Co Cq;cases UZ
     replace mJ:=(HB.out.cell (World.block_lt_of_cell? w _ mJ)).trans mJ;replace mK:=(HB.out.cell (World.block_lt_of_cell? w _ mK)).trans mK;replace mM:=(HB.out.cell (World.block_lt_of_cell? w _ mM)).trans mM;replace mO:=(HB.out.cell (World.block_lt_of_cell? w _ mO)).trans mO;replace mP:=(HB.out.cell (World.block_lt_of_cell? w _ mP)).trans mP;replace mQ:=(HB.out.cell (World.block_lt_of_cell? w _ mQ)).trans mQ;replace Co:=eq_true Co;replace Cq:=eq_true Cq;go_wp2;go_ret;exact ⟨by first | rfl | (simp [aJ,aK]<;>rfl) | (simp only [<- En];first | rfl | (simp [aJ,aK]<;>rfl)) | (simp [*,aJ,aK]<;>rfl),by with_reducible repeat (first | exact HB.out | apply av | apply ak | apply ay)⟩
    rw [if_pos c38] at H;have afG:(((aC l0 (kE)).f0)==3)=true:=beq_iff_eq.mpr c38;have afH:(((aC l0 (kE)).f0) != 3)=false:=bne_eq_false_iff_eq.mpr c38;clear c38;by_cases c39:((aC l0 (kE)).f1).toList=([44]:List UInt8)
    rotate_left
    ·rw [if_neg c39] at H
     have afI:(((aC l0 (kE)).f1).toList==([44]:List UInt8))=false:=beq_eq_false_iff_ne.mpr c39;have afJ:(((aC l0 (kE)).f1).toList != ([44]:List UInt8))=true:=bne_iff_ne.mpr c39;by_cases c42:bZ.size+1<=9223372036854775807
     rotate_left
     ·rw [if_neg c42] at H
      exact absurd H (by simp)
     rw [if_pos c42] at H;have akA:=eq_true c42;have akB:decide (bZ.size+1<=9223372036854775807)=true:=decide_eq_true c42;try have akC:(9223372036854775807 < bZ.size+1)=False:=eq_false (Nat.not_lt.2 c42)
     obtain rfl:=Option.some.inj H;have Co:0<=((kE):Int):=of_decide_eq_true (by with_reducible assumption);have Cq:(kE) < (l0.length:Int):=of_decide_eq_true (by with_reducible assumption);obtain ⟨OG,UZ,mJ,mK,mM,mO,mP,mQ⟩:=bQ iG.out (kE) Co Cq;cases UZ
     replace mJ:=(HB.out.cell (World.block_lt_of_cell? w _ mJ)).trans mJ;replace mK:=(HB.out.cell (World.block_lt_of_cell? w _ mK)).trans mK;replace mM:=(HB.out.cell (World.block_lt_of_cell? w _ mM)).trans mM;replace mO:=(HB.out.cell (World.block_lt_of_cell? w _ mO)).trans mO;replace mP:=(HB.out.cell (World.block_lt_of_cell? w _ mP)).trans mP;replace mQ:=(HB.out.cell (World.block_lt_of_cell? w _ mQ)).trans mQ;replace Co:=eq_true Co;replace Cq:=eq_true Cq;have ML:0<=((kE):Int):=of_decide_eq_true (by with_reducible assumption);have MN:(kE) < (l0.length:Int):=of_decide_eq_true (by with_reducible assumption);obtain ⟨Va,acL,rF,rG,rH,rJ,rM,rO⟩:=bQ iG.out (kE) ML MN;obtain rfl:OG=Va:=(by injection acL);replace rF:=(HB.out.cell (World.block_lt_of_cell? w _ rF)).trans rF;replace rG:=(HB.out.cell (World.block_lt_of_cell? w _ rG)).trans rG;replace rH:=(HB.out.cell (World.block_lt_of_cell? w _ rH)).trans rH;replace rJ:=(HB.out.cell (World.block_lt_of_cell? w _ rJ)).trans rJ;replace rM:=(HB.out.cell (World.block_lt_of_cell? w _ rM)).trans rM;replace rO:=(HB.out.cell (World.block_lt_of_cell? w _ rO)).trans rO;replace ML:=eq_true ML;replace MN:=eq_true MN;go_wp2;go_ret;exact ⟨by first | rfl | (simp [aJ,aK]<;>rfl) | (simp only [<- En];first | rfl | (simp [aJ,aK]<;>rfl)) | (simp [*,aJ,aK]<;>rfl),by with_reducible repeat (first | exact HB.out | apply av | apply ak | apply ay)⟩
    rw [if_pos c39] at H;have afI:(((aC l0 (kE)).f1).toList==([44]:List UInt8))=true:=beq_iff_eq.mpr c39;have afJ:(((aC l0 (kE)).f1).toList != ([44]:List UInt8))=false:=bne_eq_false_iff_eq.mpr c39;clear c39;by_cases c40:bZ.size+1<=9223372036854775807
    rotate_left
    ·rw [if_neg c40] at H
     exact absurd H (by simp)
    rw [if_pos c40] at H;have akD:=eq_true c40;have akE:decide (bZ.size+1<=9223372036854775807)=true:=decide_eq_true c40;try have akF:(9223372036854775807 < bZ.size+1)=False:=eq_false (Nat.not_lt.2 c40)
    by_cases c41:(bZ++(⟨#[59]⟩:ByteArray)).size+1<=9223372036854775807
    rotate_left
    ·rw [if_neg c41] at H
     exact absurd H (by simp)
    rw [if_pos c41] at H;have akG:=eq_true c41;have akH:decide ((bZ++(⟨#[59]⟩:ByteArray)).size+1<=9223372036854775807)=true:=decide_eq_true c41;try have akI:(9223372036854775807 < (bZ++(⟨#[59]⟩:ByteArray)).size+1)=False:=eq_false (Nat.not_lt.2 c41)
    try have akJ:(9223372036854775807 < bZ.size+1+1)=False:=eq_false (by have q_:=c41;rw [ByteArray.size_append] at q_;have e_:(⟨#[59]⟩:ByteArray).size=1:=rfl;omega)
    obtain rfl:=Option.some.inj H;have Co:0<=((kE):Int):=of_decide_eq_true (by with_reducible assumption);have Cq:(kE) < (l0.length:Int):=of_decide_eq_true (by with_reducible assumption);obtain ⟨OG,UZ,mJ,mK,mM,mO,mP,mQ⟩:=bQ iG.out (kE) Co Cq;cases UZ
    replace mJ:=(HB.out.cell (World.block_lt_of_cell? w _ mJ)).trans mJ;replace mK:=(HB.out.cell (World.block_lt_of_cell? w _ mK)).trans mK;replace mM:=(HB.out.cell (World.block_lt_of_cell? w _ mM)).trans mM;replace mO:=(HB.out.cell (World.block_lt_of_cell? w _ mO)).trans mO;replace mP:=(HB.out.cell (World.block_lt_of_cell? w _ mP)).trans mP;replace mQ:=(HB.out.cell (World.block_lt_of_cell? w _ mQ)).trans mQ;replace Co:=eq_true Co;replace Cq:=eq_true Cq;have ML:0<=((kE):Int):=of_decide_eq_true (by with_reducible assumption);have MN:(kE) < (l0.length:Int):=of_decide_eq_true (by with_reducible assumption);obtain ⟨Va,acL,rF,rG,rH,rJ,rM,rO⟩:=bQ iG.out (kE) ML MN;obtain rfl:OG=Va:=(by injection acL);replace rF:=(HB.out.cell (World.block_lt_of_cell? w _ rF)).trans rF;replace rG:=(HB.out.cell (World.block_lt_of_cell? w _ rG)).trans rG;replace rH:=(HB.out.cell (World.block_lt_of_cell? w _ rH)).trans rH;replace rJ:=(HB.out.cell (World.block_lt_of_cell? w _ rJ)).trans rJ;replace rM:=(HB.out.cell (World.block_lt_of_cell? w _ rM)).trans rM;replace rO:=(HB.out.cell (World.block_lt_of_cell? w _ rO)).trans rO;replace ML:=eq_true ML;replace MN:=eq_true MN;go_wp2;go_ret;exact ⟨by first | rfl | (simp [aJ,aK]<;>rfl) | (simp only [<- En];first | rfl | (simp [aJ,aK]<;>rfl)) | (simp [*,aJ,aK]<;>rfl),by with_reducible repeat (first | exact HB.out | apply av | apply ak | apply ay)⟩
   rw [if_pos c2] at H;have kX:decide (bB < (l0.length:Int))=true:=decide_eq_true c2;clear c2;have Sd:=ah.mk H;clear H;go_upto_region 5 with (fail)
   go_cut [21] (fun v21 wc=>∃ (kq:Nat) (OH:Bool),v21=.bool OH/\ah (bE.j1 kq l0 bZ bB OH=some r)/\ah (kq<=k1)/\ah (Below w.heap.size w wc))
   case first =>
    have H:=Sd.out;clear Sd;by_cases c4:bB > 0
    rotate_left
    ·rw [if_neg c4] at H
     have kP:decide (0 < bB)=false:=decide_eq_false c4;clear c4
     (first | rw [kP] | (simp only [dK,fM];rw [kP]) | skip)
     have H':=ah.mk H;clear H;go_wp2;go_meet
     case rel=>exact ⟨_,(false),(by first | rfl | (simp;done) | (simp [*];done)),H',⟨by have:=jY.out;first | omega | exact Nat.le_refl _⟩,⟨by with_reducible repeat (first | exact HB.out | apply av | apply ak | apply ay)⟩⟩
    rw [if_pos c4] at H;have kP:decide (0 < bB)=true:=decide_eq_true c4;clear c4
    (first | rw [kP] | (simp only [dK,fM];rw [kP]) | skip)
    by_cases c5:0<=bB
    rotate_left
    ·rw [if_neg c5] at H
     exact absurd H (by simp)
    rw [if_pos c5] at H;have kN:decide (0<=bB)=true:=decide_eq_true c5;clear c5;have H':=ah.mk H;clear H;have acM:0<=(bB:Int):=of_decide_eq_true (by with_reducible assumption);have acN:bB < (l0.length:Int):=of_decide_eq_true (by with_reducible assumption);obtain ⟨akK,ajH,Gq,Gr,Gs,Gt,Gu,Gv⟩:=bQ iG.out bB acM acN;cases ajH
    replace Gq:=(HB.out.cell (World.block_lt_of_cell? w _ Gq)).trans Gq;replace Gr:=(HB.out.cell (World.block_lt_of_cell? w _ Gr)).trans Gr;replace Gs:=(HB.out.cell (World.block_lt_of_cell? w _ Gs)).trans Gs;replace Gt:=(HB.out.cell (World.block_lt_of_cell? w _ Gt)).trans Gt;replace Gu:=(HB.out.cell (World.block_lt_of_cell? w _ Gu)).trans Gu;replace Gv:=(HB.out.cell (World.block_lt_of_cell? w _ Gv)).trans Gv;replace acM:=eq_true acM;replace acN:=eq_true acN;go_wp2;go_meet
    case rel=>exact ⟨_,((aC l0 bB).f2),(by first | rfl | (simp;done) | (simp [*];done)),H',⟨by have:=jY.out;first | omega | exact Nat.le_refl _⟩,⟨by with_reducible repeat (first | exact HB.out | apply av | apply ak | apply ay)⟩⟩
   case rest =>
    clear Sd;obtain ⟨kq,OH,rfl,HA,HJ2,HB⟩:=hcut;cases kq with
    | zero=>exact absurd HA.out (by simp [bE.j1])
    | succ yA =>
     have H:=HA.out;clear HA;simp only [bE.j1] at H;by_cases c6:OH=true
     ·subst c6
      rw [if_pos rfl] at H;by_cases c7:bZ.size+1<=9223372036854775807
      rotate_left
      ·rw [if_neg c7] at H
       exact absurd H (by simp)
      rw [if_pos c7] at H;have sJ:=eq_true c7;have KS:decide (bZ.size+1<=9223372036854775807)=true:=decide_eq_true c7;try have amr:(9223372036854775807 < bZ.size+1)=False:=eq_false (Nat.not_lt.2 c7)
      by_cases c8:0<=bB
      rotate_left
      ·rw [if_neg c8] at H
       exact absurd H (by simp)
      rw [if_pos c8] at H;have zO:decide (0<=bB)=true:=decide_eq_true c8;clear c8;by_cases c9:bB < (l0.length:Int)
      rotate_left
      ·rw [if_neg c9] at H
       exact absurd H (by simp)
      rw [if_pos c9] at H;have KW:decide (bB < (l0.length:Int))=true:=decide_eq_true c9;clear c9;replace H:=Option.bind_eq_some_iff.mp H;obtain ⟨Cn,Vd,H⟩:=H;replace H:(if (bZ++(⟨#[32]⟩:ByteArray)).size+Cn.size<=9223372036854775807 then (bE.l0 yA l0 ((bZ++(⟨#[32]⟩:ByteArray))++Cn) (wrap64 (bB+1))) else (none))=some r:=H;have A10:=ah.mk Vd;clear Vd;by_cases c11:(bZ++(⟨#[32]⟩:ByteArray)).size+Cn.size<=9223372036854775807
      rotate_left
      ·rw [if_neg c11] at H
       exact absurd H (by simp)
      rw [if_pos c11] at H;have Bg:=eq_true c11;have Sg:decide ((bZ++(⟨#[32]⟩:ByteArray)).size+Cn.size<=9223372036854775807)=true:=decide_eq_true c11;try have akL:(9223372036854775807 < (bZ++(⟨#[32]⟩:ByteArray)).size+Cn.size)=False:=eq_false (Nat.not_lt.2 c11)
      try have akM:(9223372036854775807 < bZ.size+1+Cn.size)=False:=eq_false (by have q_:=c11;rw [ByteArray.size_append] at q_;have e_:(⟨#[32]⟩:ByteArray).size=1:=rfl;omega)
      have H':=ah.mk H;clear H;have acO:0<=(bB:Int):=of_decide_eq_true (by with_reducible assumption);have acP:bB < (l0.length:Int):=of_decide_eq_true (by with_reducible assumption);obtain ⟨akN,ajI,Gw,Gx,Gy,Gz,GA,GD⟩:=bQ iG.out bB acO acP;cases ajI
      replace Gw:=(HB.out.cell (World.block_lt_of_cell? w _ Gw)).trans Gw;replace Gx:=(HB.out.cell (World.block_lt_of_cell? w _ Gx)).trans Gx;replace Gy:=(HB.out.cell (World.block_lt_of_cell? w _ Gy)).trans Gy;replace Gz:=(HB.out.cell (World.block_lt_of_cell? w _ Gz)).trans Gz;replace GA:=(HB.out.cell (World.block_lt_of_cell? w _ GA)).trans GA;replace GD:=(HB.out.cell (World.block_lt_of_cell? w _ GD)).trans GD;replace acO:=eq_true acO;replace acP:=eq_true acP;go_wp2_with (first | ((with_reducible refine aQ (f:=115) rfl ?_);refine bL (some 37) rfl rfl Tryz.func115 (by kernel_rfl) rfl #[.agg #[.int .i64 ((aC l0 bB).f0),.string ((aC l0 bB).f1),.bool ((aC l0 bB).f2),.int .i64 ((aC l0 bB).f3),.int .i64 ((aC l0 bB).f4),.int .i64 ((aC l0 bB).f5)]] rfl (by (try simp only [List.map_toArray,List.map_cons,List.map_nil]);first | done | rfl) ?_;(with_reducible refine (bH.calls yA ((aC l0 bB).f0) ((aC l0 bB).f1) ((aC l0 bB).f2) ((aC l0 bB).f3) ((aC l0 bB).f4) ((aC l0 bB).f5) Cn _ A10.out).mono ?_);rintro e ZT ⟨rfl,hb⟩;refine ⟨_,rfl,?_⟩;have bY:=ah.mk (aX (by with_reducible repeat (first | exact HB.out | apply av | apply ak | apply ay)) hb);clear HB;have HB:=bY;clear bY;(try clear hb);(try clear hb2);(try clear hk);(try clear hi)))
      go_roundg yA
      case measure=>have:=jY.out;have:=HJ2.out;omega
      case rel=>exact ⟨((bZ++(⟨#[32]⟩:ByteArray))++Cn),(wrap64 (bB+1)),(by first | rfl | (simp;done) | (simp [*];done)),(by first | rfl | (simp;done) | (simp [*];done)),H',⟨by have:=jY.out;have:=HJ2.out;omega⟩,⟨by with_reducible repeat (first | exact HB.out | apply av | apply ak | apply ay)⟩⟩
     replace c6:=Bool.eq_false_iff.mpr c6;subst c6;rw [if_neg (show ¬ (false=true) by decide)] at H;by_cases c13:bB > 0
     rotate_left
     ·rw [if_neg c13] at H
      have wR:decide (0 < bB)=false:=decide_eq_false c13;clear c13;by_cases c29:0<=bB
      rotate_left
      ·rw [if_neg c29] at H
       exact absurd H (by simp)
      rw [if_pos c29] at H;have akO:decide (0<=bB)=true:=decide_eq_true c29;clear c29;by_cases c30:bB < (l0.length:Int)
      rotate_left
      ·rw [if_neg c30] at H
       exact absurd H (by simp)
      rw [if_pos c30] at H;have akP:decide (bB < (l0.length:Int))=true:=decide_eq_true c30;clear c30;replace H:=Option.bind_eq_some_iff.mp H;obtain ⟨Dl,afK,H⟩:=H;replace H:(if bZ.size+Dl.size<=9223372036854775807 then (bE.l0 yA l0 (bZ++Dl) (wrap64 (bB+1))) else (none))=some r:=H;have A31:=ah.mk afK;clear afK;by_cases c32:bZ.size+Dl.size<=9223372036854775807
      rotate_left
      ·rw [if_neg c32] at H
       exact absurd H (by simp)
      rw [if_pos c32] at H;have akQ:=eq_true c32;have akR:decide (bZ.size+Dl.size<=9223372036854775807)=true:=decide_eq_true c32;try have akS:(9223372036854775807 < bZ.size+Dl.size)=False:=eq_false (Nat.not_lt.2 c32)
      have H':=ah.mk H;clear H;have acQ:0<=(bB:Int):=of_decide_eq_true (by with_reducible assumption);have acR:bB < (l0.length:Int):=of_decide_eq_true (by with_reducible assumption);obtain ⟨akT,ajJ,GH,GI,GJ,GK,GL,GN⟩:=bQ iG.out bB acQ acR;cases ajJ
      replace GH:=(HB.out.cell (World.block_lt_of_cell? w _ GH)).trans GH;replace GI:=(HB.out.cell (World.block_lt_of_cell? w _ GI)).trans GI;replace GJ:=(HB.out.cell (World.block_lt_of_cell? w _ GJ)).trans GJ;replace GK:=(HB.out.cell (World.block_lt_of_cell? w _ GK)).trans GK;replace GL:=(HB.out.cell (World.block_lt_of_cell? w _ GL)).trans GL;replace GN:=(HB.out.cell (World.block_lt_of_cell? w _ GN)).trans GN;replace acQ:=eq_true acQ;replace acR:=eq_true acR;go_wp2_with (first | ((with_reducible refine aQ (f:=115) rfl ?_);refine bL (some 37) rfl rfl Tryz.func115 (by kernel_rfl) rfl #[.agg #[.int .i64 ((aC l0 bB).f0),.string ((aC l0 bB).f1),.bool ((aC l0 bB).f2),.int .i64 ((aC l0 bB).f3),.int .i64 ((aC l0 bB).f4),.int .i64 ((aC l0 bB).f5)]] rfl (by (try simp only [List.map_toArray,List.map_cons,List.map_nil]);first | done | rfl) ?_;(with_reducible refine (bH.calls yA ((aC l0 bB).f0) ((aC l0 bB).f1) ((aC l0 bB).f2) ((aC l0 bB).f3) ((aC l0 bB).f4) ((aC l0 bB).f5) Dl _ A31.out).mono ?_);rintro e w33 ⟨rfl,hb⟩;refine ⟨_,rfl,?_⟩;have bY:=ah.mk (aX (by with_reducible repeat (first | exact HB.out | apply av | apply ak | apply ay)) hb);clear HB;have HB:=bY;clear bY;(try clear hb);(try clear hb2);(try clear hk);(try clear hi)))
      go_roundg yA
      case measure=>have:=jY.out;have:=HJ2.out;omega
      case rel=>exact ⟨(bZ++Dl),(wrap64 (bB+1)),(by first | rfl | (simp;done) | (simp [*];done)),(by first | rfl | (simp;done) | (simp [*];done)),H',⟨by have:=jY.out;have:=HJ2.out;omega⟩,⟨by with_reducible repeat (first | exact HB.out | apply av | apply ak | apply ay)⟩⟩
     rw [if_pos c13] at H;have wR:decide (0 < bB)=true:=decide_eq_true c13;clear c13;replace H:=Option.bind_eq_some_iff.mp H;obtain ⟨Zg,Tz,H⟩:=H;replace H:(if Zg=true then (if bZ.size+4<=9223372036854775807 then (if 0<=bB then (if bB < (l0.length:Int) then ((bH.f yA ((aC l0 bB).f0) ((aC l0 bB).f1) ((aC l0 bB).f2) ((aC l0 bB).f3) ((aC l0 bB).f4) ((aC l0 bB).f5)).bind fun xE=>(if (bZ++(⟨#[47,42,42,47]⟩:ByteArray)).size+xE.size<=9223372036854775807 then (bE.l0 yA l0 ((bZ++(⟨#[47,42,42,47]⟩:ByteArray))++xE) (wrap64 (bB+1))) else (none))) else (none)) else (none)) else (none)) else (if 0<=bB then (if bB < (l0.length:Int) then ((bH.f yA ((aC l0 bB).f0) ((aC l0 bB).f1) ((aC l0 bB).f2) ((aC l0 bB).f3) ((aC l0 bB).f4) ((aC l0 bB).f5)).bind fun yZ=>(if bZ.size+yZ.size<=9223372036854775807 then (bE.l0 yA l0 (bZ++yZ) (wrap64 (bB+1))) else (none))) else (none)) else (none)))=some r:=H;have A14:=ah.mk Tz;clear Tz;by_cases c15:Zg=true
     ·subst c15
      rw [if_pos rfl] at H;by_cases c16:bZ.size+4<=9223372036854775807
      rotate_left
      ·rw [if_neg c16] at H
       exact absurd H (by simp)
      rw [if_pos c16] at H;have sM:=eq_true c16;have NH:decide (bZ.size+4<=9223372036854775807)=true:=decide_eq_true c16;try have akU:(9223372036854775807 < bZ.size+4)=False:=eq_false (Nat.not_lt.2 c16)
      by_cases c17:0<=bB
      rotate_left
      ·rw [if_neg c17] at H
       exact absurd H (by simp)
      rw [if_pos c17] at H;have DC:decide (0<=bB)=true:=decide_eq_true c17;clear c17;by_cases c18:bB < (l0.length:Int)
      rotate_left
      ·rw [if_neg c18] at H
       exact absurd H (by simp)
      rw [if_pos c18] at H;have Oa:decide (bB < (l0.length:Int))=true:=decide_eq_true c18;clear c18;replace H:=Option.bind_eq_some_iff.mp H;obtain ⟨xE,IG,H⟩:=H;replace H:(if (bZ++(⟨#[47,42,42,47]⟩:ByteArray)).size+xE.size<=9223372036854775807 then (bE.l0 yA l0 ((bZ++(⟨#[47,42,42,47]⟩:ByteArray))++xE) (wrap64 (bB+1))) else (none))=some r:=H;have A19:=ah.mk IG;clear IG;by_cases c20:(bZ++(⟨#[47,42,42,47]⟩:ByteArray)).size+xE.size<=9223372036854775807
      rotate_left
      ·rw [if_neg c20] at H
       exact absurd H (by simp)
      rw [if_pos c20] at H;have IE:=eq_true c20;have UE:decide ((bZ++(⟨#[47,42,42,47]⟩:ByteArray)).size+xE.size<=9223372036854775807)=true:=decide_eq_true c20;try have akV:(9223372036854775807 < (bZ++(⟨#[47,42,42,47]⟩:ByteArray)).size+xE.size)=False:=eq_false (Nat.not_lt.2 c20)
      try have akW:(9223372036854775807 < bZ.size+4+xE.size)=False:=eq_false (by have q_:=c20;rw [ByteArray.size_append] at q_;have e_:(⟨#[47,42,42,47]⟩:ByteArray).size=4:=rfl;omega)
      have H':=ah.mk H;clear H;go_wp2_with (first | ((with_reducible refine aQ (f:=114) rfl ?_);refine bL (some 28) rfl rfl Tryz.func114 (by kernel_rfl) rfl #[.slice A0 l0.length c0,.int .i64 bB] rfl (by (try simp only [List.map_toArray,List.map_cons,List.map_nil]);first | done | rfl) ?_;(with_reducible refine (fV.calls yA _ _ l0 bB true _ ?gT ?gU A14.out).mono ?_);(case gT=>repeat (first | exact (Kd.bS iG.out HB.out) | (with_reducible refine Kd.eT ?_ _) | (with_reducible refine Kd.fA ?_ _) | (with_reducible refine Kd.gN ?_)));(case gU=>exact CV.out);rintro e w21 ⟨rfl,hb⟩;refine ⟨_,rfl,?_⟩;have bY:=ah.mk (aX (by with_reducible repeat (first | exact HB.out | apply av | apply ak | apply ay)) hb);clear HB;have HB:=bY;clear bY;(try clear hb);(try clear hb2);(try clear hk);(try clear hi);have acS:0<=(bB:Int):=of_decide_eq_true (by with_reducible assumption);have acT:bB < (l0.length:Int):=of_decide_eq_true (by with_reducible assumption);obtain ⟨akX,ajK,GQ,GR,GU,GV,GX,GY⟩:=bQ iG.out bB acS acT;cases ajK;replace GQ:=(HB.out.cell (World.block_lt_of_cell? w _ GQ)).trans GQ;replace GR:=(HB.out.cell (World.block_lt_of_cell? w _ GR)).trans GR;replace GU:=(HB.out.cell (World.block_lt_of_cell? w _ GU)).trans GU;replace GV:=(HB.out.cell (World.block_lt_of_cell? w _ GV)).trans GV;replace GX:=(HB.out.cell (World.block_lt_of_cell? w _ GX)).trans GX;replace GY:=(HB.out.cell (World.block_lt_of_cell? w _ GY)).trans GY;replace acS:=eq_true acS;replace acT:=eq_true acT) | ((with_reducible refine aQ (f:=115) rfl ?_);refine bL (some 37) rfl rfl Tryz.func115 (by kernel_rfl) rfl #[.agg #[.int .i64 ((aC l0 bB).f0),.string ((aC l0 bB).f1),.bool ((aC l0 bB).f2),.int .i64 ((aC l0 bB).f3),.int .i64 ((aC l0 bB).f4),.int .i64 ((aC l0 bB).f5)]] rfl (by (try simp only [List.map_toArray,List.map_cons,List.map_nil]);first | done | rfl) ?_;(with_reducible refine (bH.calls yA ((aC l0 bB).f0) ((aC l0 bB).f1) ((aC l0 bB).f2) ((aC l0 bB).f3) ((aC l0 bB).f4) ((aC l0 bB).f5) xE _ A19.out).mono ?_);rintro e w22 ⟨rfl,hb⟩;refine ⟨_,rfl,?_⟩;have bY:=ah.mk (aX (by with_reducible repeat (first | exact HB.out | apply av | apply ak | apply ay)) hb);clear HB;have HB:=bY;clear bY;(try clear hb);(try clear hb2);(try clear hk);(try clear hi)))
      go_roundg yA
      case measure=>have:=jY.out;have:=HJ2.out;omega
      case rel=>exact ⟨((bZ++(⟨#[47,42,42,47]⟩:ByteArray))++xE),(wrap64 (bB+1)),(by first | rfl | (simp;done) | (simp [*];done)),(by first | rfl | (simp;done) | (simp [*];done)),H',⟨by have:=jY.out;have:=HJ2.out;omega⟩,⟨by with_reducible repeat (first | exact HB.out | apply av | apply ak | apply ay)⟩⟩
     replace c15:=Bool.eq_false_iff.mpr c15;subst c15;rw [if_neg (show ¬ (false=true) by decide)] at H;by_cases c23:0<=bB
     rotate_left
     ·rw [if_neg c23] at H
      exact absurd H (by simp)
     rw [if_pos c23] at H;have akY:decide (0<=bB)=true:=decide_eq_true c23;clear c23;by_cases c24:bB < (l0.length:Int)
     rotate_left
     ·rw [if_neg c24] at H
      exact absurd H (by simp)
     rw [if_pos c24] at H;have aal:decide (bB < (l0.length:Int))=true:=decide_eq_true c24;clear c24;replace H:=Option.bind_eq_some_iff.mp H;obtain ⟨yZ,afL,H⟩:=H;replace H:(if bZ.size+yZ.size<=9223372036854775807 then (bE.l0 yA l0 (bZ++yZ) (wrap64 (bB+1))) else (none))=some r:=H;have A25:=ah.mk afL;clear afL;by_cases VG:bZ.size+yZ.size<=9223372036854775807
     ·rw [if_pos VG] at H
      have aeS:=eq_true VG;have akZ:decide (bZ.size+yZ.size<=9223372036854775807)=true:=decide_eq_true VG;try have ala:(9223372036854775807 < bZ.size+yZ.size)=False:=eq_false (Nat.not_lt.2 VG)
      have H':=ah.mk H;clear H;go_wp2_with (first | ((with_reducible refine aQ (f:=114) rfl ?_);refine bL (some 28) rfl rfl Tryz.func114 (by kernel_rfl) rfl #[.slice A0 l0.length c0,.int .i64 bB] rfl (by (try simp only [List.map_toArray,List.map_cons,List.map_nil]);first | done | rfl) ?_;(with_reducible refine (fV.calls yA _ _ l0 bB false _ ?gT ?gU A14.out).mono ?_);(case gT=>repeat (first | exact (Kd.bS iG.out HB.out) | (with_reducible refine Kd.eT ?_ _) | (with_reducible refine Kd.fA ?_ _) | (with_reducible refine Kd.gN ?_)));(case gU=>exact CV.out);rintro e w27 ⟨rfl,hb⟩;refine ⟨_,rfl,?_⟩;have bY:=ah.mk (aX (by with_reducible repeat (first | exact HB.out | apply av | apply ak | apply ay)) hb);clear HB;have HB:=bY;clear bY;(try clear hb);(try clear hb2);(try clear hk);(try clear hi);have acU:0<=(bB:Int):=of_decide_eq_true (by with_reducible assumption);have acV:bB < (l0.length:Int):=of_decide_eq_true (by with_reducible assumption);obtain ⟨alb,ajL,GZ,He,Hf,Hg,Hl,Ho⟩:=bQ iG.out bB acU acV;cases ajL;replace GZ:=(HB.out.cell (World.block_lt_of_cell? w _ GZ)).trans GZ;replace He:=(HB.out.cell (World.block_lt_of_cell? w _ He)).trans He;replace Hf:=(HB.out.cell (World.block_lt_of_cell? w _ Hf)).trans Hf;replace Hg:=(HB.out.cell (World.block_lt_of_cell? w _ Hg)).trans Hg;replace Hl:=(HB.out.cell (World.block_lt_of_cell? w _ Hl)).trans Hl;replace Ho:=(HB.out.cell (World.block_lt_of_cell? w _ Ho)).trans Ho;replace acU:=eq_true acU;replace acV:=eq_true acV) | ((with_reducible refine aQ (f:=115) rfl ?_);refine bL (some 37) rfl rfl Tryz.func115 (by kernel_rfl) rfl #[.agg #[.int .i64 ((aC l0 bB).f0),.string ((aC l0 bB).f1),.bool ((aC l0 bB).f2),.int .i64 ((aC l0 bB).f3),.int .i64 ((aC l0 bB).f4),.int .i64 ((aC l0 bB).f5)]] rfl (by (try simp only [List.map_toArray,List.map_cons,List.map_nil]);first | done | rfl) ?_;(with_reducible refine (bH.calls yA ((aC l0 bB).f0) ((aC l0 bB).f1) ((aC l0 bB).f2) ((aC l0 bB).f3) ((aC l0 bB).f4) ((aC l0 bB).f5) yZ _ A25.out).mono ?_);rintro e w28 ⟨rfl,hb⟩;refine ⟨_,rfl,?_⟩;have bY:=ah.mk (aX (by with_reducible repeat (first | exact HB.out | apply av | apply ak | apply ay)) hb);clear HB;have HB:=bY;clear bY;(try clear hb);(try clear hb2);(try clear hk);(try clear hi)))
      go_roundg yA
      case measure=>have:=jY.out;have:=HJ2.out;omega
      case rel=>exact ⟨(bZ++yZ),(wrap64 (bB+1)),(by first | rfl | (simp;done) | (simp [*];done)),(by first | rfl | (simp;done) | (simp [*];done)),H',⟨by have:=jY.out;have:=HJ2.out;omega⟩,⟨by with_reducible repeat (first | exact HB.out | apply av | apply ak | apply ay)⟩⟩
     rw [if_neg VG] at H;exact absurd H (by simp)
end Go.Proofs.YtkkpjonfaflkmaaGreatDoor.T
namespace Go.Proofs.YtkkpjonfaflkmaaGreatDoor.T
open Go.RowKit Go.Maps Go.Proofs.aj.aI Go.Proofs.aj.aY Go.Proofs.aj.bq
attribute [local go_sem] Oper.semAt_some
def Zh (k:Nat) (l:List dh):Nat->Nat->ByteArray->Option ByteArray
 | 0,_,out=>some out
 | m+1,first,out=>if (bU l (l.length - (m+1))).f0=4 then (bE.f k ((l.drop first).take (l.length - (m+1) - first))).bind fun t=>(if out.size+t.size<=9223372036854775807 then Zh k l m (l.length - (m+1)+1) (out++t) else none) else Zh k l m first out
def Eo (out:ByteArray) (same:Bool):Option (ByteArray × Int × List ByteArray × Int) :=
 if vV (S.scan (bytesOf out)).err≠0\/same=false then some (⟨#[]⟩,0,[],2) else if 20000 < out.size then some (⟨#[]⟩,0,[],3) else some (out,0,[],0)
def eF.f (k:Nat) (l0:List dh):Option (ByteArray × Int × List ByteArray × Int) :=
 if l0.length<=10000 then (Zh k l0 l0.length 0 ⟨#[]⟩).bind fun out=>(if out.size<=50000 then (bO.f k ((S.tokens (bytesOf out)).map toS) l0).bind fun same=>Eo out same else none) else none
set_option maxRecDepth 100000 in
set_option maxHeartbeats 8000000 in
theorem eF.calls (k:Nat) (A0:Option Addr) (c0:Nat) (l0:List dh) (r1:ByteArray) (r2:Int) (r3:List ByteArray) (r4:Int) (w:World) (hr0:Kd.C jP w A0 l0.length l0) (hc0:l0.length<=c0) (h:eF.f k l0=some (r1,r2,r3,r4)) :
  Calls Tryz.prog 36 #[.slice A0 l0.length c0] w fun e w'=>∃ v0:Value,e=.returned (.agg #[.string r1,.int .i64 r2,v0,.int .i64 r4])/\Kd.R Kd.string 9 w' w.heap.size (fun _=>True) v0 r3/\Below w.heap.size w w':=by
 unfold eF.f at h;have Bu:=Tryz.underlying53;have aey:=Tryz.underlying45;by_cases hsm:l0.length<=10000
 rotate_left
 ·rw [if_neg hsm] at h;cases h
 rw [if_pos hsm] at h;obtain ⟨res,hres,h⟩:=Option.bind_eq_some_iff.1 h;by_cases hrs:res.size<=50000
 rotate_left
 ·rw [if_neg hrs] at h;cases h
 rw [if_pos hrs] at h;obtain ⟨same,hsame,h⟩:=Option.bind_eq_some_iff.1 h;obtain ⟨n,hn⟩:∃ n,l0.length=n:=⟨_,rfl⟩;have rY:=ah.mk hn;rw [hn] at hr0 hc0 hsm hres |-
 have iG:=ah.mk hr0;have abl:=ah.mk hres;have afM:=ah.mk hsame;have ajM:=ah.mk h;have HRS:=ah.mk hrs;clear hn hr0 hres hsame h hrs;obtain ⟨G,hG⟩:∃ G,w.heap.size=G:=⟨_,rfl⟩;have hn1:=heap_alloc_new w (.cells #[.string ⟨#[]⟩,.int .i64 0,.slice none 0 0,.int .i64 0] 45);have hb1:=av (Below.refl w.heap.size w) (.cells #[.string ⟨#[]⟩,.int .i64 0,.slice none 0 0,.int .i64 0] 45);have hs1:=World.size_alloc w (.cells #[.string ⟨#[]⟩,.int .i64 0,.slice none 0 0,.int .i64 0] 45);rw [hG] at hn1 hb1 hs1;have HN1:=ah.mk hn1;have HB1:=ah.mk hb1;have Py:=ah.mk hs1;have HG:=ah.mk hG;clear hn1 hb1 hs1;go_enter Tryz.func36,Tryz.ntmps36
 go_upto_region 1 with (fail)
 generalize w.alloc (.cells #[.string ⟨#[]⟩,.int .i64 0,.slice none 0 0,.int .i64 0] 45)=W1 at *;have hpt:(Value.pointer (some ⟨w.heap.size,0,none⟩))=.pointer (some ⟨G,0,none⟩):=by rw [HG.out]
 try rw [hG]
 clear hG hpt;go_wp2;go_loopg [3,4,5] n (fun gg s3 s4 s5 wr=>∃ (kk first:Nat) (out:ByteArray),kk<=n/\n - kk<=gg/\s3=.string out/\s4=.int .i64 first/\s5=.int .i64 kk/\first<=kk/\ah (Below (G+1) W1 wr)/\ah (Zh k l0 (n - kk) first out=some res))
 case atStart=>exact ⟨0,0,⟨#[]⟩,by omega,by omega,rfl,rfl,rfl,by omega,⟨Below.refl _ _⟩,abl⟩
 case round =>
  obtain ⟨kk,first,out,hkk,hg,rfl,rfl,rfl,hfk,HB,HW⟩:=hrel;have HBw:ah (Below G w wr):=⟨HB1.out.trans (HB.out.mono (by omega))⟩;by_cases hlt:kk < n
  ·have hltz:(kk:Int) < (n:Int):=by omega
   have hz0:(0:Int)<=(kk:Int):=by omega
   have hw1:IntKind.i64.wrap ((kk:Int)+1)=((kk+1:Nat):Int):=by rw [uq _ (by omega) (by omega)];omega
   have hW:=HW.out;obtain ⟨m,hm⟩:∃ m,n - kk=m+1:=⟨n - kk - 1,by omega⟩;rw [hm] at hW;unfold Zh at hW;rw [rY.out,show n - (m+1)=kk by omega,show m=n - (kk+1) by omega] at hW;clear hm HW;have hCr:=Kd.bS iG.out (by rw [HG.out];exact HBw.out);obtain ⟨ad,rfl,x0,x1,x2,x3,x4,x5⟩:=bQ hCr (kk:Int) hz0 hltz;simp only [Int.toNat_natCast] at x0 x1 x2 x3 x4 x5;have htx:bU l0 kk=aC l0 (kk:Int):=rfl;rw [htx] at hW;generalize aC l0 (kk:Int)=tx at *;clear htx;by_cases hk4:tx.f0=4
   rotate_left
   ·have g1:(tx.f0==4)=false:=beq_eq_false_iff_ne.2 hk4
    rw [if_neg hk4] at hW;have HW2:=ah.mk hW;clear hW hCr x1 x2 x3 x4 x5;go_wp2_with fail
    go_roundg (n - (kk+1))
    case measure=>omega
    case rel=>exact ⟨kk+1,first,out,by omega,by omega,rfl,rfl,by go_num,by omega,HB,HW2⟩
   have g1:(tx.f0==4)=true:=beq_iff_eq.2 hk4;rw [if_pos hk4] at hW;obtain ⟨t,ht,hW⟩:=Option.bind_eq_some_iff.1 hW;by_cases hov:out.size+t.size<=9223372036854775807
   rotate_left
   ·rw [if_neg hov] at hW;cases hW
   rw [if_pos hov] at hW;have HW2:=ah.mk hW;have hz1:(0:Int)<=(first:Int):=by omega
   have hz2:(first:Int)<=(kk:Int):=by omega
   have hz3:kk<=c0:=by omega
   have ams:decide (out.size+t.size<=9223372036854775807)=true:=decide_eq_true hov;have amt:(9223372036854775807 < out.size+t.size)=False:=eq_false (Nat.not_lt.2 hov);obtain ⟨cl,hcl⟩:∃ cl,(l0.drop first).take (kk - first)=cl:=⟨_,rfl⟩;have Cc:cl.length=kk - first:=by rw [<- hcl,List.length_take,List.length_drop,rY.out];omega
   have hCc:=aan first (kk - first) (l:=l0) (by rw [rY.out];omega) (by rw [rY.out];exact hCr)
   rw [hcl] at hCc ht;have hcm:=bE.calls k (some (ad.add (first*6))) (c0 - first) cl t wr (by rw [Cc];exact hCc) (by omega) ht;rw [Cc] at hcm;have HCM:=Lib.hid hcm;clear hCc hcl Cc hCr hcm ht hW hov x1 x2 x3 x4 x5;go_wp2_with (go_at_call 73;refine HCM.out.mono ?_;rintro e w2 ⟨rfl,hb2⟩;have HB2:ah (Below (G+1) W1 w2):=⟨HB.out.trans (hb2.mono (by have:=HB.out.size;have:=Py.out;omega))⟩)
   go_roundg (n - (kk+1))
   case measure=>omega
   case rel=>exact ⟨kk+1,kk+1,out++t,by omega,by omega,by go_num,by go_num,by go_num,Nat.le_refl _,HB2,HW2⟩
  have hltz:¬ (kk:Int) < (n:Int):=by omega
  have hkn:n - kk=0:=by omega
  have hW:=HW.out;rw [hkn] at hW;unfold Zh at hW;have hW:=Option.some.inj hW;subst hW;clear hkn HW;have hrd:=fun W=>read.calls out W HRS.out
  obtain ⟨c,hc⟩:∃ c,vV (S.scan (bytesOf out)).err=c:=⟨_,rfl⟩;obtain ⟨ln,hln⟩:∃ ln,zY (S.scan (bytesOf out)).err=ln:=⟨_,rfl⟩;obtain ⟨ts,hts⟩:∃ ts,S.tokens (bytesOf out)=ts:=⟨_,rfl⟩;have Fb:=Lib.hid hrd;have HC:=ah.mk hc;have HLN:=ah.mk hln;have HTS:=ah.mk hts;have hend:=ajM.out;unfold Eo at hend;rw [hc] at hend;have LM:=ah.mk hend;clear hrd hc hln hts hend;obtain ⟨on,hon⟩:∃ on,out.size=on:=⟨_,rfl⟩;have HON:=ah.mk hon;go_upto_region 10 with (go_at_call 52;refine (Fb.out _).mono ?_;rintro en w2 ⟨i,line,first',v,gap,pk,pt,pe,rfl,hO,hb2⟩;rw [HC.out,HLN.out];rw [HTS.out] at hO;obtain ⟨A,cp,rfl,-⟩:=jC hO;have HO:=ah.mk hO;have HB2:=ah.mk hb2;clear hO hb2)
  have hb3:=(But.refl (fun _=>False) w2).alloc (.cells #[.string out,.int .i64 i,.int .i64 line,.slice A ts.length cp,.int .i64 first',.bool gap] 80);have hs3:=World.size_alloc w2 (.cells #[.string out,.int .i64 i,.int .i64 line,.slice A ts.length cp,.int .i64 first',.bool gap] 80);have zS:=heap_alloc_new w2 (.cells #[.string out,.int .i64 i,.int .i64 line,.slice A ts.length cp,.int .i64 first',.bool gap] 80);obtain ⟨X,hX⟩:∃ X,w2.heap.size=X:=⟨_,rfl⟩;have HX:=ah.mk hX;rw [hX] at hs3 zS |-
  generalize w2.alloc (.cells #[.string out,.int .i64 i,.int .i64 line,.slice A ts.length cp,.int .i64 first',.bool gap] 80)=W3 at *;have hb4:=hb3.alloc (.cells #[.int .i64 pk,.string pt,.int .i64 pe,.int .i64 c,.int .i64 ln] 82);have hb5:=(But.refl (fun _=>False) W3).alloc (.cells #[.int .i64 pk,.string pt,.int .i64 pe,.int .i64 c,.int .i64 ln] 82);have nR:=heap_alloc_new W3 (.cells #[.int .i64 pk,.string pt,.int .i64 pe,.int .i64 c,.int .i64 ln] 82);rw [hs3] at nR;have afN:=(hb5.block X (Array.getElem?_eq_some_iff.1 zS).1 (fun e=>e)).trans zS;clear zS hb5;generalize W3.alloc (.cells #[.int .i64 pk,.string pt,.int .i64 pe,.int .i64 c,.int .i64 ln] 82)=W4 at *;have y3:W4.cell? ⟨X,3,none⟩=some (.slice A ts.length cp):=(au afN 3).trans rfl;have hsz1:=HB.out.size;have hsz2:=HB2.out.size;have ajN:=Py.out;have afO:ah (Below (G+1) W1 W4):=⟨HB.out.trans ((HB2.out.mono (by omega)).trans (hb4.jS (by omega) (fun _ _ e=>e)))⟩;have CJ:ah (Below G w W4):=⟨HB1.out.trans (afO.out.mono (by omega))⟩;have HG4:=ah.mk ((afO.out.block G (by omega)).trans HN1.out);have HO4:=bV HO.out hb4 (fun k e=>e.elim);obtain ⟨hxx,hNc,YC⟩:=uU HO4;clear hxx;obtain ⟨L,hL⟩:∃ L,ts.length=L:=⟨_,rfl⟩;have hsc:=bO.calls k A cp (ts.map toS) A0 c0 l0 same W4 YC (by rw [List.length_map];exact hNc) (by rw [rY.out];exact Kd.bS iG.out (by rw [HG.out];exact CJ.out)) (by rw [rY.out];exact hc0) (by rw [<- HTS.out];exact afM.out);rw [List.length_map,hL,rY.out] at hsc;have uR:=Lib.hid hsc;have HN4:=ah.mk nR;rw [hL] at y3;clear afN hb3 hb4 hs3 hX hL hNc YC HO4 hsc hsz1 hsz2 ajN nR;have fin:∀ (q:Nat) (sv:ByteArray) (ev:Int),some (sv,(0:Int),([]:List ByteArray),ev)=some (r1,r2,r3,r4)->∀ (tmps:Array Value),tmps.getD 2 undef=.pointer (some ⟨G,0,none⟩) ->
    bodyPost Tryz.prog Tryz.f36 (fun e w'=>∃ v0:Value,e=.returned (.agg #[.string r1,.int .i64 r2,v0,.int .i64 r4])/\Kd.R Kd.string 9 w' G (fun _=>True) v0 r3/\Below G w w') Exit.ret { tmps:=tmps,defers:=[] } (((((W4.drewN q).setCell ⟨G,0,none⟩ (.string sv)).setCell ⟨G,1,none⟩ (.int .i64 0)).setCell ⟨G,2,none⟩ (.slice none 0 0)).setCell ⟨G,3,none⟩ (.int .i64 ev)):=by
   intro q sv ev hh tmps ht
   have hr:=Option.some.inj hh;simp only [Prod.mk.injEq] at hr;obtain ⟨rfl,rfl,rfl,rfl⟩:=hr;have ajO:(W4.drewN q).heap[G]?=_:=HG4.out;have e1:=aW (cs:=#[.string ⟨#[]⟩,.int .i64 0,.slice none 0 0,.int .i64 0]) (cs':=#[.string sv,.int .i64 0,.slice none 0 0,.int .i64 0]) ajO 0 (.string sv) rfl;have e2:=aW (cs':=#[.string sv,.int .i64 0,.slice none 0 0,.int .i64 0]) e1 1 (.int .i64 0) rfl;have e3:=aW (cs':=#[.string sv,.int .i64 0,.slice none 0 0,.int .i64 0]) e2 2 (.slice none 0 0) rfl;have e4:=aW (cs':=#[.string sv,.int .i64 0,.slice none 0 0,.int .i64 ev]) e3 3 (.int .i64 ev) rfl;have b4:=((((But.refl (fun k=>k=G) (W4.drewN q)).set ⟨G,0,none⟩ (.string sv) rfl).set ⟨G,1,none⟩ (.int .i64 0) rfl).set ⟨G,2,none⟩ (.slice none 0 0) rfl).set ⟨G,3,none⟩ (.int .i64 ev) rfl;generalize ((((W4.drewN q).setCell ⟨G,0,none⟩ (.string sv)).setCell ⟨G,1,none⟩ (.int .i64 0)).setCell ⟨G,2,none⟩ (.slice none 0 0)).setCell ⟨G,3,none⟩ (.int .i64 ev)=W5 at *;refine bodyPost_ret (results_cell_row rfl tmps W5 G 45 #[.string sv,.int .i64 0,.slice none 0 0,.int .i64 ev] (0,0) _ ht e4 Tryz.underlying45 rfl (by kernel_rfl)) rfl ?_;exact ⟨_,rfl,Kd.nG _ _ _ _ _,(ak CJ.out q).trans (b4.jS (by have:=(ak CJ.out q).size;have:=HG.out;omega) (fun k hk e=>by omega))⟩
  have HF:=Lib.hid fin;clear fin;have z3:∀ q,(W4.drewN q).cell? ⟨X+1,3,none⟩=some (.int .i64 c):=fun q=>(au (w:=W4) HN4.out 3).trans rfl
  have u0:∀ q,(W4.drewN q).cell? ⟨G,0,none⟩=some (.string ⟨#[]⟩):=fun q=>(au (w:=W4) HG4.out 0).trans rfl
  have u1:∀ q,(W4.drewN q).cell? ⟨G,1,none⟩=some (.int .i64 0):=fun q=>(au (w:=W4) HG4.out 1).trans rfl
  have u2:∀ q,(W4.drewN q).cell? ⟨G,2,none⟩=some (.slice none 0 0):=fun q=>(au (w:=W4) HG4.out 2).trans rfl
  have u3:∀ q,(W4.drewN q).cell? ⟨G,3,none⟩=some (.int .i64 0):=fun q=>(au (w:=W4) HG4.out 3).trans rfl
  have HGN:ah (∀ q,(W4.drewN q).heap[G]?=some (.cells #[.string ⟨#[]⟩,.int .i64 0,.slice none 0 0,.int .i64 0] 45 (0,0))):=⟨fun q=>HG4.out⟩;go_upto_region 11 with (go_at_call 38;refine uR.out.mono ?_;rintro e w5 ⟨rfl,⟨⟨q,rfl⟩⟩⟩)
  have z3:=z3 q;have u0:=u0 q;have u1:=u1 q;have u2:=u2 q;have u3:=u3 q;have f0:=aA (HGN.out q) 0;have f1:=aA (HGN.out q) 1;have f2:=aA (HGN.out q) 2;have f3:=aA (HGN.out q) 3;have Uv:=fun (h1:¬ (c≠0\/same=false))=>(if_neg h1).symm.trans LM.out
  by_cases hc0:c=0
  rotate_left
  ·have q1:(c != 0)=true:=bne_iff_ne.2 hc0
   have H2:=ah.mk ((if_pos (.inl hc0)).symm.trans LM.out);clear Uv hc0;go_wp2_with fail
   rw [HG.out];exact HF.out q _ _ H2.out _ rfl
  have q1:(c != 0)=false:=bne_eq_false_iff_eq.2 hc0;cases same with
  | false =>
   have H2:=ah.mk ((if_pos (.inr rfl)).symm.trans LM.out);clear Uv hc0;go_wp2_with fail
   rw [HG.out];exact HF.out q _ _ H2.out _ rfl
  | true =>
   have hE:=Uv (by rintro (e | e);exact e hc0;cases e);rw [HON.out] at hE;clear Uv hc0;by_cases hbig:20000 < on
   ·have H2:=ah.mk ((if_pos hbig).symm.trans hE)
    have b1:decide ((20000:Int) < (on:Int))=true:=decide_eq_true (by omega);have b2:decide (20000 < on)=true:=decide_eq_true hbig;clear hE hbig;go_wp2_with fail
    rw [HG.out];exact HF.out q _ _ H2.out _ rfl
   have H2:=ah.mk ((if_neg hbig).symm.trans hE);have b1:decide ((20000:Int) < (on:Int))=false:=decide_eq_false (by omega);have b2:decide (20000 < on)=false:=decide_eq_false hbig;clear hE hbig;go_wp2_with fail
   rw [HG.out];exact HF.out q _ _ H2.out _ rfl
set_option maxRecDepth 100000 in
set_option maxHeartbeats 4000000 in
theorem jv.calls (A0:Option Addr) (c0:Nat) (l0:List dh) (r1:ByteArray) (r2:Int) (w:World) (hT:dR w) (hr0:Kd.C jP w A0 l0.length l0) (hc0:l0.length<=c0) (h:jv.f l0=some (r1,r2)) :
  Calls Tryz.prog 35 #[.slice A0 l0.length c0] w fun e w'=>e=.returned (.tuple #[.string r1,.int .i64 r2])/\Below w.heap.size w w':=by
 unfold jv.f at h;by_cases hg:l0.length<=10000/\nV l0<=20000
 rotate_left
 ·rw [if_neg hg] at h;cases h
 rw [if_pos hg] at h;obtain ⟨hg1,hg2⟩:=hg;have hwc:=Gg.calls A0 c0 l0 w hT hr0 hc0 hg1 hg2;have hwf:=uF l0 l0.length (Nat.le_refl _);rw [List.take_length] at hwf;obtain ⟨out,hout⟩:∃ out,kU l0=out:=⟨_,rfl⟩;rw [show (Cb l0 l0.length).2=out from hout] at hwf;rw [hout] at hwc h;obtain ⟨src,hsrc⟩:∃ src,strOfNums out=src:=⟨_,rfl⟩;have hsb:bytesOf src=out:=by rw [<- hsrc];exact bW _ hwf.2.2
 have hss:src.size=out.length:=by rw [<- hsb,bytesOf_length]
 have hsz:src.size<=100000:=by have:=hwf.2.1;omega
 rw [hsrc] at hwc h;have htk:=fun W hW=>qd.calls src W hsz hW
 rw [hsb] at htk;obtain ⟨toks,xw⟩:∃ toks,S.tokens out=toks:=⟨_,rfl⟩;obtain ⟨er,her⟩:∃ er,(S.scan out).err=er:=⟨_,rfl⟩;rw [xw,her,FZ] at htk;rw [xw,her,<- hss] at h;obtain ⟨ec,hec⟩:∃ ec,vV er=ec:=⟨_,rfl⟩;obtain ⟨el,hel⟩:∃ el,zY er=el:=⟨_,rfl⟩;rw [hec,hel] at htk;have Mw:ah (ec=0 <-> er=none):=⟨by
  rw [<- hec];cases er with
  | none=>exact ⟨fun _=>rfl,fun _=>rfl⟩
  | some p =>
   have:=S.wW (c:=p.1) (ln:=p.2) her;constructor
   ·intro e
    exact absurd (Int.ofNat_eq_zero.1 e) this
   ·intro e;cases e⟩
 have Uu:ah (toks.length<=300000):=⟨by
  rw [<- xw];have h1:=S.qh (xs:=out) hwf.2.2;omega⟩
 have HT:=ah.mk hT;have HWC:=Lib.hid hwc;have zR:=Lib.hid htk;have H:=ah.mk h;have iG:=ah.mk hr0;obtain ⟨n,hn⟩:∃ n,l0.length=n:=⟨_,rfl⟩;have rY:=ah.mk hn;rw [hn] at HWC iG hc0 hg1 |-
 obtain ⟨ss,ajP⟩:∃ ss,src.size=ss:=⟨_,rfl⟩;clear hwc htk h hec hel xw her hsb hwf hss hsrc hout hg2 hT hr0 hn hsz;go_enter Tryz.func35,Tryz.ntmps35
 go_upto_region 3 with (first | (go_at_call 72;refine HWC.out.mono ?_;rintro e w2 ⟨rfl,hb2⟩) | (go_at_call 51;refine (zR.out _ (HT.out.of_below hb2)).mono ?_;rintro e w3 ⟨v,rfl,hown,hb3⟩))
 obtain ⟨A,N,cap,rfl,hN⟩:∃ A cn cap,v=.slice A cn cap/\toks.length=cn:=by
  rcases hown.2 with ⟨rfl,e2⟩ | ⟨g,cap,cs,rfl,_⟩
  ·exact ⟨_,_,_,rfl,e2⟩
  ·exact ⟨_,_,_,rfl,rfl⟩
 have nR:=heap_alloc_new w3 (.cells #[.int .i64 ec,.int .i64 el] 76);have Tw:=bV hown ((But.refl (fun _=>False) w3).alloc (.cells #[.int .i64 ec,.int .i64 el] 76)) (fun _ e=>e.elim);have hb4:Below w.heap.size w (w3.alloc (.cells #[.int .i64 ec,.int .i64 el] 76)):=av (hb2.trans (hb3.mono hb2.size)) _;obtain ⟨fb,yD⟩:∃ fb,w3.heap.size=fb:=⟨_,rfl⟩;rw [yD] at nR |-
 clear hown hb2 hb3 yD;generalize w3.alloc (.cells #[.int .i64 ec,.int .i64 el] 76)=W4 at *;obtain ⟨hxx,hNc,YC⟩:=uU Tw;clear hxx;have hsc:=fun r hr=>iJ.calls A cap (toks.map toS) A0 c0 l0 r W4 YC (by rw [List.length_map,hN];exact hNc) (by rw [rY.out];exact Kd.bS iG.out hb4) (by rw [rY.out];exact hc0) hr
 rw [List.length_map,hN,rY.out] at hsc;have hsf:iJ.f (toks.map toS) l0=some (sG jK (toks.map toS) l0):=by
  unfold iJ.f;rw [if_pos (by rw [List.length_map];have:=Uu.out;omega)]
 have uR:=Lib.hid (hsc _ hsf);have CJ:=ah.mk hb4;have hf0:W4.cell? ⟨fb,0,none⟩=some (.int .i64 ec):=(au nR 0).trans rfl;clear hsc hsf hb4 nR Tw YC hN hNc;obtain ⟨sm,hsm⟩:∃ sm,sG jK (toks.map toS) l0=sm:=⟨_,rfl⟩;rw [hsm] at uR H;clear hsm;by_cases he0:ec=0
 rotate_left
 ·have hi:er.isSome=true:=by
   cases er with
   | none=>exact absurd (Mw.out.2 rfl) he0
   | some _=>rfl
  have h:=H.out;rw [if_pos (.inl hi)] at h;simp only [Option.some.injEq,Prod.mk.injEq] at h;obtain ⟨rfl,rfl⟩:=h;have g1:(ec != 0)=true:=bne_iff_ne.2 he0;clear he0 hi;go_wp2_with fail
  refine bodyPost_ret (results_tmp2 rfl _ _ _) rfl ?_;exact ⟨rfl,CJ.out⟩
 have hen:er=none:=Mw.out.1 he0;rw [hen] at H;have g1:(ec != 0)=false:=bne_eq_false_iff_eq.2 he0;cases sm with
 | false =>
  have h:=H.out;rw [if_pos (.inr rfl)] at h;simp only [Option.some.injEq,Prod.mk.injEq] at h;obtain ⟨rfl,rfl⟩:=h;clear he0 hen;go_wp2_with (go_at_call 37;refine uR.out.mono ?_;rintro e w5 ⟨rfl,hb5⟩)
  refine bodyPost_ret (results_tmp2 rfl _ _ _) rfl ?_;exact ⟨rfl,CJ.out.trans (hb5.mono CJ.out.size)⟩
 | true =>
  have h:=H.out;rw [if_neg (by rintro (e | e)<;>cases e)] at h;rw [ajP] at h;by_cases hbig:20000 < ss
  ·rw [if_pos hbig] at h
   simp only [Option.some.injEq,Prod.mk.injEq] at h;obtain ⟨rfl,rfl⟩:=h;have g2:decide ((20000:Int) < (ss:Int))=true:=decide_eq_true (by omega);have g3:decide (20000 < ss)=true:=decide_eq_true hbig;clear he0 hen hbig;go_wp2_with (go_at_call 37;refine uR.out.mono ?_;rintro e w5 ⟨rfl,hb5⟩)
   refine bodyPost_ret (results_tmp2 rfl _ _ _) rfl ?_;exact ⟨rfl,CJ.out.trans (hb5.mono CJ.out.size)⟩
  rw [if_neg hbig] at h;simp only [Option.some.injEq,Prod.mk.injEq] at h;obtain ⟨rfl,rfl⟩:=h;have g2:decide ((20000:Int) < (ss:Int))=false:=decide_eq_false (by omega);have g3:decide (20000 < ss)=false:=decide_eq_false hbig;clear he0 hen hbig;go_wp2_with (go_at_call 37;refine uR.out.mono ?_;rintro e w5 ⟨rfl,hb5⟩)
  refine bodyPost_ret (results_tmp2 rfl _ _ _) rfl ?_;exact ⟨rfl,CJ.out.trans (hb5.mono CJ.out.size)⟩
end Go.Proofs.YtkkpjonfaflkmaaGreatDoor.T
