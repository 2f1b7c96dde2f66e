/- For ScanTokens: its callees return what is said of them. -/
import Derived.Test.YtkkpjonfaflkmaaGreatDoorCScanTokens12
namespace Go.Proofs.YtkkpjonfaflkmaaGreatDoor.T
open Go.RowKit Go.Proofs.ah.aT Go.Proofs.ah.bn Go.Proofs.ah.bA
set_option linter.unusedSimpArgs false
set_option linter.unusedVariables false
attribute [local go_sem high] Xf
attribute [local go_sem] fB fC gI gJ eD eF fD fE   -- for this text's walks alone
def bO.l0:Nat->List (nQ)->List (nQ)->Int->Option (Bool)
 | 0,_,_,_=>none
 | k+1,x0,x1,x5=>if x5 < (x0.length:Int) then (if 0<=x5 then (if x5 < (x1.length:Int) then (if (!((((jT x0 x5).f0).toList)==(((jT x1 x5).f0).toList))||(!(((jT x0 x5).f1)==((jT x1 x5).f1))))=true then (some false) else (bO.l0 k x0 x1 (wrap64 (x5+1)))) else (none)) else (none)) else (some true)
def bO.f (k:Nat) (l0:List (nQ)) (l1:List (nQ)):Option (Bool):=if (l0.length:Int)=(l1.length:Int) then (bO.l0 k l0 l1 0) else (some false)
set_option maxHeartbeats 8000000 in
set_option maxRecDepth 100000 in
theorem bO.calls (k:Nat) (A0:Option Addr) (c0:Nat) (l0:List (nQ)) (A1:Option Addr) (c1:Nat) (l1:List (nQ)) (r:Bool) (w:World) (hr0:Kd.C LK w A0 l0.length l0) (hc0:l0.length<=c0) (hr1:Kd.C LK w A1 l1.length l1) (hc1:l1.length<=c1) (h:bO.f k l0 l1=some r) :
  Calls Tryz.prog 23 #[.slice A0 l0.length c0,.slice A1 l1.length c1] w fun e w'=>e=.returned (.bool r)/\aM w w':=by
 have abw:=Tryz.underlying73;have mE:=aj.mk hr0;have HC0:=aj.mk hc0;clear hr0 hc0;have HR1:=aj.mk hr1;have Ju:=aj.mk hc1;clear hr1 hc1;have H:(if (l0.length:Int)=(l1.length:Int) then (bO.l0 k l0 l1 0) else (some false))=some r:=h;clear h;by_cases c3:(l0.length:Int)=(l1.length:Int)
 rotate_left
 ·rw [if_neg c3] at H
  have nU:((l0.length:Int)==(l1.length:Int))=false:=beq_eq_false_iff_ne.mpr c3;have xq:((l0.length:Int) != (l1.length:Int))=true:=bne_iff_ne.mpr c3;have YT:(l0.length==l1.length)=false:=by first | simpa using c3 | (simp at c3 |-;omega)
  obtain rfl:=Option.some.inj H;go_enter Tryz.func23,Tryz.ntmps23
  go_wp2;repeat (go_quiet (fail);try go_wp2)
  go_ret;exact ⟨by first | rfl | (simp;done) | (simp [*];done),by repeat (first | exact aM.refl _ | apply aM.step)⟩
 rw [if_pos c3] at H;have nU:((l0.length:Int)==(l1.length:Int))=true:=beq_iff_eq.mpr c3;have xq:((l0.length:Int) != (l1.length:Int))=false:=bne_eq_false_iff_eq.mpr c3;have YT:(l0.length==l1.length)=true:=by first | simpa using c3 | (simp at c3 |-;omega)
 clear c3;have H':=aj.mk H;clear H;go_enter Tryz.func23,Tryz.ntmps23
 go_wp2;repeat (go_quiet (fail);try go_wp2)
 go_loopg [5] k (fun kq v5 w'=>∃ (bZ:Int),v5=.int .i64 bZ/\aj (bO.l0 kq l0 l1 bZ=some r)/\aj (kq<=k)/\aM w w')
 case atStart=>exact ⟨(0),(by first | rfl | (simp;done) | (simp [*];done)),H',⟨Nat.le_refl _⟩,by repeat (first | exact aM.refl _ | apply aM.step)⟩
 case round =>
  clear H';obtain ⟨bZ,rfl,HA,jQ,⟨m1,rfl⟩⟩:=hrel;cases gk with
  | zero=>exact absurd HA.out (by simp [bO.l0])
  | succ k1 =>
   have H:=HA.out;clear HA;simp only [bO.l0] at H;by_cases c4:bZ < (l0.length:Int)
   rotate_left
   ·rw [if_neg c4] at H
    have pF:decide (bZ < (l0.length:Int))=false:=decide_eq_false c4;clear c4;obtain rfl:=Option.some.inj H;go_wp2;repeat (go_quiet (fail);try go_wp2)
    go_ret;exact ⟨by first | rfl | (simp;done) | (simp [*];done),by repeat (first | exact aM.refl _ | apply aM.step)⟩
   rw [if_pos c4] at H;have pF:decide (bZ < (l0.length:Int))=true:=decide_eq_true c4;clear c4;by_cases c5:0<=bZ
   rotate_left
   ·rw [if_neg c5] at H
    exact absurd H (by simp)
   rw [if_pos c5] at H;have nV:decide (0<=bZ)=true:=decide_eq_true c5;clear c5;by_cases c6:bZ < (l1.length:Int)
   rotate_left
   ·rw [if_neg c6] at H
    exact absurd H (by simp)
   rw [if_pos c6] at H;have kP:decide (bZ < (l1.length:Int))=true:=decide_eq_true c6;clear c6;by_cases c7:(!((((jT l0 bZ).f0).toList)==(((jT l1 bZ).f0).toList))||(!(((jT l0 bZ).f1)==((jT l1 bZ).f1))))=true
   ·rw [if_pos c7] at H
    have sI:(!((((jT l0 bZ).f0).toList)==(((jT l1 bZ).f0).toList))||(!(((jT l0 bZ).f1)==((jT l1 bZ).f1))))=true:=c7;clear c7;obtain rfl:=Option.some.inj H;have Kz:0<=(bZ:Int):=of_decide_eq_true (by first | (with_reducible assumption) | assumption);have KE:bZ < (l0.length:Int):=of_decide_eq_true (by first | (with_reducible assumption) | assumption);obtain ⟨abL,YU,Uu,Uv⟩:=Bf mE.out bZ Kz KE;cases YU
    replace Kz:=eq_true Kz;replace KE:=eq_true KE;have KF:0<=(bZ:Int):=of_decide_eq_true (by first | (with_reducible assumption) | assumption);have KG:bZ < (l1.length:Int):=of_decide_eq_true (by first | (with_reducible assumption) | assumption);obtain ⟨abM,e226,Uw,Ux⟩:=Bf HR1.out bZ KF KG;cases e226
    replace KF:=eq_true KF;replace KG:=eq_true KG;go_wp2;repeat (go_quiet (fail);try go_wp2)
    go_ret;exact ⟨by first | rfl | (simp;done) | (simp [*];done),by repeat (first | exact aM.refl _ | apply aM.step)⟩
   rw [if_neg c7] at H;have sI:(!((((jT l0 bZ).f0).toList)==(((jT l1 bZ).f0).toList))||(!(((jT l0 bZ).f1)==((jT l1 bZ).f1))))=false:=by simpa using c7
   clear c7;have H':=aj.mk H;clear H;have Kz:0<=(bZ:Int):=of_decide_eq_true (by first | (with_reducible assumption) | assumption);have KE:bZ < (l0.length:Int):=of_decide_eq_true (by first | (with_reducible assumption) | assumption);obtain ⟨abL,YU,Uu,Uv⟩:=Bf mE.out bZ Kz KE;cases YU
   replace Kz:=eq_true Kz;replace KE:=eq_true KE;have KF:0<=(bZ:Int):=of_decide_eq_true (by first | (with_reducible assumption) | assumption);have KG:bZ < (l1.length:Int):=of_decide_eq_true (by first | (with_reducible assumption) | assumption);obtain ⟨abM,e226,Uw,Ux⟩:=Bf HR1.out bZ KF KG;cases e226
   replace KF:=eq_true KF;replace KG:=eq_true KG;go_wp2;repeat (go_quiet (fail);try go_wp2)
   go_roundg k1
   case measure=>have:=jQ.out;omega
   case rel=>exact ⟨(wrap64 (bZ+1)),(by first | rfl | (simp;done) | (simp [*];done)),H',⟨by have:=jQ.out;omega⟩,by repeat (first | exact aM.refl _ | apply aM.step)⟩
end Go.Proofs.YtkkpjonfaflkmaaGreatDoor.T
namespace Go.Proofs.YtkkpjonfaflkmaaGreatDoor.T
open Go.RowKit Go.Proofs.ah.aT Go.Proofs.ah.bn Go.Proofs.ah.bA
set_option linter.unusedSimpArgs false
set_option linter.unusedVariables false
attribute [local go_sem] fB fC gI gJ eD eF fD fE   -- for this text's walks alone
def bD.l0:Nat->List (List (gD))->List (nQ)->Int->Option ((List (nQ)))
 | 0,_,_,_=>none
 | k+1,x0,x3,x4=>if x4 < (x0.length:Int) then (if 0<=x4 then (if ((bE x0 x4).length:Int)=2 then (if 0 < ((bE x0 x4).length:Int) then (if ((aU (bE x0 x4) 0).f0)=1 then (if 1 < ((bE x0 x4).length:Int) then (if ((aU (bE x0 x4) 1).f0)=3 then (if ((aU (bE x0 x4) 1).f1).toList=([58]:List UInt8) then (if x3.length < 5864062014805 then (bD.l0 k x0 (x3++[(⟨(aU (bE x0 x4) 0).f1,(aU (bE x0 x4) 0).f3⟩:nQ)]) (wrap64 (x4+1))) else (none)) else (bD.l0 k x0 x3 (wrap64 (x4+1)))) else (bD.l0 k x0 x3 (wrap64 (x4+1)))) else (none)) else (bD.l0 k x0 x3 (wrap64 (x4+1)))) else (none)) else (bD.l0 k x0 x3 (wrap64 (x4+1)))) else (none)) else (some x3)
def bD.f (k:Nat) (l0:List (List (gD))):Option ((List (nQ))):=bD.l0 k l0 ([]:List (nQ)) 0
def bD.T6:Bool × List (List Nat × List Nat):=(true,[([],[]),([],[]),([],[]),([1,2],[1,2]),([3],[3]),([4],[4]),([5],[5]),([6],[6]),([],[]),([],[]),([8,9],[8,9]),([10],[10]),([11],[11]),([12],[12]),([13],[13]),([7,14],[7,14]),([15],[15]),([0,16],[0,16]),([17,17,0,1,2,3,4,5,6,7,8,9,10,11,12,13,14,15,16,17],[0,17])])
def bD.B6:List Nat:=[0,0,0,6,14,30,62,126,0,0,768,1792,3840,7936,16128,32766,65534,131071,262143]
theorem bD.aje:pz .any (opsOf Tryz.f24 6)=bD.T6:=by kernel_rfl
theorem bD.abN:rU bD.T6.2 bD.B6=true:=by kernel_rfl
set_option maxHeartbeats 8000000 in
set_option maxRecDepth 100000 in
theorem bD.calls (k:Nat) (A0:Option Addr) (c0:Nat) (l0:List (List (gD))) (r:List (nQ)) (w:World) (hr0:Kd.C (Kd.slice 53 lD) w A0 l0.length l0) (hc0:l0.length<=c0) (h:bD.f k l0=some r) :
  Calls Tryz.prog 24 #[.slice A0 l0.length c0] w fun e w'=>∃ QB:Value,e=.returned (QB)/\Kd.R LK 73 w' w.heap.size (fun _=>True) QB r/\Below w.heap.size w w':=by
 have abw:=Tryz.underlying73;have mE:=aj.mk hr0;have HC0:=aj.mk hc0;clear hr0 hc0;have HB:=aj.mk (Below.refl w.heap.size w);have H:(bD.l0 k l0 ([]:List (nQ)) 0)=some r:=h;clear h;have H':=aj.mk H;clear H;go_enter Tryz.func24,Tryz.ntmps24
 go_wp2;go_loopg [3,4] k (fun kq v3 v4 w'=>∃ (gU:List (nQ)) (bN:Int),v4=.int .i64 bN/\aj (bD.l0 kq l0 gU bN=some r)/\aj (kq<=k)/\aj (Kd.R LK 73 w' w.heap.size (fun _=>True) v3 gU)/\aj (Below w.heap.size w w'))
 case atStart=>exact ⟨(([]:List (nQ))),(0),(by first | rfl | (simp;done) | (simp [*];done)),H',⟨Nat.le_refl _⟩,⟨by first | exact Kd.rD _ _ _ _ _ | exact Kd.tT _ _ _ _ _ | exact Kd.xk _ _ _ _ _ | exact Kd.wS _ _ _ _ _ | exact Kd.wX _ _ _ _ _⟩,⟨by repeat (first | (with_reducible first | exact HB.out | apply ay | apply ak | apply aD) | exact HB.out)⟩⟩
 case round =>
  clear H';obtain ⟨gU,bN,rfl,HA,jQ,vG,HB⟩:=hrel;cases gk with
  | zero=>exact absurd HA.out (by simp [bD.l0])
  | succ k1 =>
   have H:=HA.out;clear HA;simp only [bD.l0] at H;by_cases c2:bN < (l0.length:Int)
   rotate_left
   ·rw [if_neg c2] at H
    have oG:decide (bN < (l0.length:Int))=false:=decide_eq_false c2;clear c2;obtain rfl:=Option.some.inj H;go_wp2;go_ret;exact ⟨_,by first | rfl | (simp [aV,aW]<;>rfl) | (simp [*,aV,aW]<;>rfl),by (with_reducible repeat (first | apply Kd.bW | apply Kd.bV | apply Kd.dw));exact vG.out,by repeat (first | (with_reducible first | exact HB.out | apply ay | apply ak | apply aD) | exact HB.out)⟩
   rw [if_pos c2] at H;have oG:decide (bN < (l0.length:Int))=true:=decide_eq_true c2;clear c2;by_cases c3:0<=bN
   rotate_left
   ·rw [if_neg c3] at H
    exact absurd H (by simp)
   rw [if_pos c3] at H;have nU:decide (0<=bN)=true:=decide_eq_true c3;clear c3;by_cases c4:((bE l0 bN).length:Int)=2
   rotate_left
   ·rw [if_neg c4] at H
    have pF:(((bE l0 bN).length:Int)==2)=false:=beq_eq_false_iff_ne.mpr c4;have Et:(((bE l0 bN).length:Int) != 2)=true:=bne_iff_ne.mpr c4;have H':=aj.mk H;clear H;have sO:0<=(bN:Int):=of_decide_eq_true (by first | (with_reducible assumption) | assumption);have sP:bN < (l0.length:Int):=of_decide_eq_true (by first | (with_reducible assumption) | assumption);obtain ⟨oo,EZ,Fa,e227,fA,kF,kG⟩:=lX mE.out bN sO sP;cases e227
    replace fA:=(HB.out.cell (World.block_lt_of_cell? w _ fA)).trans fA;have Al:=aj.mk kG;have Am:=aj.mk kF;clear kG kF;replace sO:=eq_true sO;replace sP:=eq_true sP;go_wp2;go_roundg k1
    case measure=>have:=jQ.out;omega
    case rel=>exact ⟨(gU),(wrap64 (bN+1)),(by first | rfl | (simp;done) | (simp [*];done)),H',⟨by have:=jQ.out;omega⟩,⟨by (with_reducible repeat (first | apply Kd.bW | apply Kd.bV | apply Kd.dw));exact vG.out⟩,⟨by repeat (first | (with_reducible first | exact HB.out | apply ay | apply ak | apply aD) | exact HB.out)⟩⟩
   rw [if_pos c4] at H;have pF:(((bE l0 bN).length:Int)==2)=true:=beq_iff_eq.mpr c4;have Et:(((bE l0 bN).length:Int) != 2)=false:=bne_eq_false_iff_eq.mpr c4;clear c4;by_cases c5:0 < ((bE l0 bN).length:Int)
   rotate_left
   ·rw [if_neg c5] at H
    exact absurd H (by simp)
   rw [if_pos c5] at H;have nV:decide (0 < ((bE l0 bN).length:Int))=true:=decide_eq_true c5;have JK:decide (0 < (bE l0 bN).length)=true:=decide_eq_true (by omega);clear c5;by_cases c6:((aU (bE l0 bN) 0).f0)=1
   rotate_left
   ·rw [if_neg c6] at H
    have kP:(((aU (bE l0 bN) 0).f0)==1)=false:=beq_eq_false_iff_ne.mpr c6;have Bj:(((aU (bE l0 bN) 0).f0) != 1)=true:=bne_iff_ne.mpr c6;have H':=aj.mk H;clear H;have sO:0<=(bN:Int):=of_decide_eq_true (by first | (with_reducible assumption) | assumption);have sP:bN < (l0.length:Int):=of_decide_eq_true (by first | (with_reducible assumption) | assumption);obtain ⟨oo,EZ,Fa,e227,fA,kF,kG⟩:=lX mE.out bN sO sP;cases e227
    replace fA:=(HB.out.cell (World.block_lt_of_cell? w _ fA)).trans fA;have Al:=aj.mk kG;have Am:=aj.mk kF;clear kG kF;replace sO:=eq_true sO;replace sP:=eq_true sP;have wD:0<=(bN:Int):=of_decide_eq_true (by first | (with_reducible assumption) | assumption);have wE:bN < (l0.length:Int):=of_decide_eq_true (by first | (with_reducible assumption) | assumption);obtain ⟨BU,KH,KI,e228,iZ,mO,mP⟩:=lX mE.out bN wD wE;obtain rfl:oo=BU:=(by injection e228);replace iZ:=(HB.out.cell (World.block_lt_of_cell? w _ iZ)).trans iZ;have sQ:=aj.mk mP;have Fb:=aj.mk mO;clear mP mO;replace wD:=eq_true wD;replace wE:=eq_true wE;have sS:=Option.some.inj (fA.symm.trans iZ);injection sS with sS Fe Fg
    subst sS;subst Fg;clear Fe;have wF:0<=(0:Int):=(by omega);have wG:0 < ((bE l0 bN).length:Int):=of_decide_eq_true (by first | (with_reducible assumption) | assumption);obtain ⟨QE,e229,fI,fJ,fK,fM,fO,fP⟩:=eY sQ.out 0 wF wG;cases e229
    have QF:(0 < (bE l0 bN).length)=True:=eq_true (by omega)
    (try rw [show ((0:Int)).toNat=0 from rfl] at fI)
    (try rw [show 0*6=0 from rfl] at fI)
    (try rw [Addr.add_zero'] at fI)
    (try rw [show ((0:Int)).toNat=0 from rfl] at fJ)
    (try rw [show 0*6=0 from rfl] at fJ)
    (try rw [Addr.add_zero'] at fJ)
    (try rw [show ((0:Int)).toNat=0 from rfl] at fK)
    (try rw [show 0*6=0 from rfl] at fK)
    (try rw [Addr.add_zero'] at fK)
    (try rw [show ((0:Int)).toNat=0 from rfl] at fM)
    (try rw [show 0*6=0 from rfl] at fM)
    (try rw [Addr.add_zero'] at fM)
    (try rw [show ((0:Int)).toNat=0 from rfl] at fO)
    (try rw [show 0*6=0 from rfl] at fO)
    (try rw [Addr.add_zero'] at fO)
    (try rw [show ((0:Int)).toNat=0 from rfl] at fP)
    (try rw [show 0*6=0 from rfl] at fP)
    (try rw [Addr.add_zero'] at fP)
    replace fI:=(HB.out.cell (World.block_lt_of_cell? w _ fI)).trans fI;replace fJ:=(HB.out.cell (World.block_lt_of_cell? w _ fJ)).trans fJ;replace fK:=(HB.out.cell (World.block_lt_of_cell? w _ fK)).trans fK;replace fM:=(HB.out.cell (World.block_lt_of_cell? w _ fM)).trans fM;replace fO:=(HB.out.cell (World.block_lt_of_cell? w _ fO)).trans fO;replace fP:=(HB.out.cell (World.block_lt_of_cell? w _ fP)).trans fP;replace wF:=eq_true wF;replace wG:=eq_true wG;go_wp2;go_roundg k1
    case measure=>have:=jQ.out;omega
    case rel=>exact ⟨(gU),(wrap64 (bN+1)),(by first | rfl | (simp;done) | (simp [*];done)),H',⟨by have:=jQ.out;omega⟩,⟨by (with_reducible repeat (first | apply Kd.bW | apply Kd.bV | apply Kd.dw));exact vG.out⟩,⟨by repeat (first | (with_reducible first | exact HB.out | apply ay | apply ak | apply aD) | exact HB.out)⟩⟩
   rw [if_pos c6] at H;have kP:(((aU (bE l0 bN) 0).f0)==1)=true:=beq_iff_eq.mpr c6;have Bj:(((aU (bE l0 bN) 0).f0) != 1)=false:=bne_eq_false_iff_eq.mpr c6;clear c6;by_cases c7:1 < ((bE l0 bN).length:Int)
   rotate_left
   ·rw [if_neg c7] at H
    exact absurd H (by simp)
   rw [if_pos c7] at H;have sI:decide (1 < ((bE l0 bN).length:Int))=true:=decide_eq_true c7;have Ut:decide (1 < (bE l0 bN).length)=true:=decide_eq_true (by omega);clear c7;by_cases c8:((aU (bE l0 bN) 1).f0)=3
   rotate_left
   ·rw [if_neg c8] at H
    have yO:(((aU (bE l0 bN) 1).f0)==3)=false:=beq_eq_false_iff_ne.mpr c8;have GQ:(((aU (bE l0 bN) 1).f0) != 3)=true:=bne_iff_ne.mpr c8;have H':=aj.mk H;clear H;have sO:0<=(bN:Int):=of_decide_eq_true (by first | (with_reducible assumption) | assumption);have sP:bN < (l0.length:Int):=of_decide_eq_true (by first | (with_reducible assumption) | assumption);obtain ⟨oo,EZ,Fa,e227,fA,kF,kG⟩:=lX mE.out bN sO sP;cases e227
    replace fA:=(HB.out.cell (World.block_lt_of_cell? w _ fA)).trans fA;have Al:=aj.mk kG;have Am:=aj.mk kF;clear kG kF;replace sO:=eq_true sO;replace sP:=eq_true sP;have wD:0<=(bN:Int):=of_decide_eq_true (by first | (with_reducible assumption) | assumption);have wE:bN < (l0.length:Int):=of_decide_eq_true (by first | (with_reducible assumption) | assumption);obtain ⟨BU,KH,KI,e228,iZ,mO,mP⟩:=lX mE.out bN wD wE;obtain rfl:oo=BU:=(by injection e228);replace iZ:=(HB.out.cell (World.block_lt_of_cell? w _ iZ)).trans iZ;have sQ:=aj.mk mP;have Fb:=aj.mk mO;clear mP mO;replace wD:=eq_true wD;replace wE:=eq_true wE;have sS:=Option.some.inj (fA.symm.trans iZ);injection sS with sS Fe Fg
    subst sS;subst Fg;clear Fe;have wF:0<=(0:Int):=(by omega);have wG:0 < ((bE l0 bN).length:Int):=of_decide_eq_true (by first | (with_reducible assumption) | assumption);obtain ⟨QE,e229,fI,fJ,fK,fM,fO,fP⟩:=eY sQ.out 0 wF wG;cases e229
    have QF:(0 < (bE l0 bN).length)=True:=eq_true (by omega)
    (try rw [show ((0:Int)).toNat=0 from rfl] at fI)
    (try rw [show 0*6=0 from rfl] at fI)
    (try rw [Addr.add_zero'] at fI)
    (try rw [show ((0:Int)).toNat=0 from rfl] at fJ)
    (try rw [show 0*6=0 from rfl] at fJ)
    (try rw [Addr.add_zero'] at fJ)
    (try rw [show ((0:Int)).toNat=0 from rfl] at fK)
    (try rw [show 0*6=0 from rfl] at fK)
    (try rw [Addr.add_zero'] at fK)
    (try rw [show ((0:Int)).toNat=0 from rfl] at fM)
    (try rw [show 0*6=0 from rfl] at fM)
    (try rw [Addr.add_zero'] at fM)
    (try rw [show ((0:Int)).toNat=0 from rfl] at fO)
    (try rw [show 0*6=0 from rfl] at fO)
    (try rw [Addr.add_zero'] at fO)
    (try rw [show ((0:Int)).toNat=0 from rfl] at fP)
    (try rw [show 0*6=0 from rfl] at fP)
    (try rw [Addr.add_zero'] at fP)
    replace fI:=(HB.out.cell (World.block_lt_of_cell? w _ fI)).trans fI;replace fJ:=(HB.out.cell (World.block_lt_of_cell? w _ fJ)).trans fJ;replace fK:=(HB.out.cell (World.block_lt_of_cell? w _ fK)).trans fK;replace fM:=(HB.out.cell (World.block_lt_of_cell? w _ fM)).trans fM;replace fO:=(HB.out.cell (World.block_lt_of_cell? w _ fO)).trans fO;replace fP:=(HB.out.cell (World.block_lt_of_cell? w _ fP)).trans fP;replace wF:=eq_true wF;replace wG:=eq_true wG;have BX:0<=(bN:Int):=of_decide_eq_true (by first | (with_reducible assumption) | assumption);have BZ:bN < (l0.length:Int):=of_decide_eq_true (by first | (with_reducible assumption) | assumption);obtain ⟨Hz,QG,QH,e230,kH,qA,qB⟩:=lX mE.out bN BX BZ;obtain rfl:oo=Hz:=(by injection e230);replace kH:=(HB.out.cell (World.block_lt_of_cell? w _ kH)).trans kH;have xY:=aj.mk qB;have Mg:=aj.mk qA;clear qB qA;replace BX:=eq_true BX;replace BZ:=eq_true BZ;have sS:=Option.some.inj (fA.symm.trans kH);injection sS with sS Fe Fg
    subst sS;subst Fg;clear Fe;have Ca:0<=(1:Int):=(by omega);have Cb:1 < ((bE l0 bN).length:Int):=of_decide_eq_true (by first | (with_reducible assumption) | assumption);obtain ⟨Xg,e231,iF,iG,iH,iI,iJ,iK⟩:=eY xY.out 1 Ca Cb;cases e231
    (try simp only [show (1:Int).toNat=1 from rfl,Nat.reduceMul,Nat.reduceEqDiff,Go.Addr.add,↓reduceIte] at iF)
    (try simp only [show (1:Int).toNat=1 from rfl,Nat.reduceMul,Nat.reduceEqDiff,Go.Addr.add,↓reduceIte] at iG)
    (try simp only [show (1:Int).toNat=1 from rfl,Nat.reduceMul,Nat.reduceEqDiff,Go.Addr.add,↓reduceIte] at iH)
    (try simp only [show (1:Int).toNat=1 from rfl,Nat.reduceMul,Nat.reduceEqDiff,Go.Addr.add,↓reduceIte] at iI)
    (try simp only [show (1:Int).toNat=1 from rfl,Nat.reduceMul,Nat.reduceEqDiff,Go.Addr.add,↓reduceIte] at iJ)
    (try simp only [show (1:Int).toNat=1 from rfl,Nat.reduceMul,Nat.reduceEqDiff,Go.Addr.add,↓reduceIte] at iK)
    have Xi:(1 < (bE l0 bN).length)=True:=eq_true (by omega)
    (try rw [show ((1:Int)).toNat=1 from rfl] at iF)
    (try rw [show 1*6=6 from rfl] at iF)
    (try rw [show ((1:Int)).toNat=1 from rfl] at iG)
    (try rw [show 1*6=6 from rfl] at iG)
    (try rw [show ((1:Int)).toNat=1 from rfl] at iH)
    (try rw [show 1*6=6 from rfl] at iH)
    (try rw [show ((1:Int)).toNat=1 from rfl] at iI)
    (try rw [show 1*6=6 from rfl] at iI)
    (try rw [show ((1:Int)).toNat=1 from rfl] at iJ)
    (try rw [show 1*6=6 from rfl] at iJ)
    (try rw [show ((1:Int)).toNat=1 from rfl] at iK)
    (try rw [show 1*6=6 from rfl] at iK)
    replace iF:=(HB.out.cell (World.block_lt_of_cell? w _ iF)).trans iF;replace iG:=(HB.out.cell (World.block_lt_of_cell? w _ iG)).trans iG;replace iH:=(HB.out.cell (World.block_lt_of_cell? w _ iH)).trans iH;replace iI:=(HB.out.cell (World.block_lt_of_cell? w _ iI)).trans iI;replace iJ:=(HB.out.cell (World.block_lt_of_cell? w _ iJ)).trans iJ;replace iK:=(HB.out.cell (World.block_lt_of_cell? w _ iK)).trans iK;replace Ca:=eq_true Ca;replace Cb:=eq_true Cb;go_wp2;go_roundg k1
    case measure=>have:=jQ.out;omega
    case rel=>exact ⟨(gU),(wrap64 (bN+1)),(by first | rfl | (simp;done) | (simp [*];done)),H',⟨by have:=jQ.out;omega⟩,⟨by (with_reducible repeat (first | apply Kd.bW | apply Kd.bV | apply Kd.dw));exact vG.out⟩,⟨by repeat (first | (with_reducible first | exact HB.out | apply ay | apply ak | apply aD) | exact HB.out)⟩⟩
   rw [if_pos c8] at H;have yO:(((aU (bE l0 bN) 1).f0)==3)=true:=beq_iff_eq.mpr c8;have GQ:(((aU (bE l0 bN) 1).f0) != 3)=false:=bne_eq_false_iff_eq.mpr c8;clear c8;by_cases c9:((aU (bE l0 bN) 1).f1).toList=([58]:List UInt8)
   rotate_left
   ·rw [if_neg c9] at H
    have Uy:(((aU (bE l0 bN) 1).f1).toList==([58]:List UInt8))=false:=beq_eq_false_iff_ne.mpr c9;have YV:(((aU (bE l0 bN) 1).f1).toList != ([58]:List UInt8))=true:=bne_iff_ne.mpr c9;have H':=aj.mk H;clear H;have sO:0<=(bN:Int):=of_decide_eq_true (by first | (with_reducible assumption) | assumption);have sP:bN < (l0.length:Int):=of_decide_eq_true (by first | (with_reducible assumption) | assumption);obtain ⟨oo,EZ,Fa,e227,fA,kF,kG⟩:=lX mE.out bN sO sP;cases e227
    replace fA:=(HB.out.cell (World.block_lt_of_cell? w _ fA)).trans fA;have Al:=aj.mk kG;have Am:=aj.mk kF;clear kG kF;replace sO:=eq_true sO;replace sP:=eq_true sP;have wD:0<=(bN:Int):=of_decide_eq_true (by first | (with_reducible assumption) | assumption);have wE:bN < (l0.length:Int):=of_decide_eq_true (by first | (with_reducible assumption) | assumption);obtain ⟨BU,KH,KI,e228,iZ,mO,mP⟩:=lX mE.out bN wD wE;obtain rfl:oo=BU:=(by injection e228);replace iZ:=(HB.out.cell (World.block_lt_of_cell? w _ iZ)).trans iZ;have sQ:=aj.mk mP;have Fb:=aj.mk mO;clear mP mO;replace wD:=eq_true wD;replace wE:=eq_true wE;have sS:=Option.some.inj (fA.symm.trans iZ);injection sS with sS Fe Fg
    subst sS;subst Fg;clear Fe;have wF:0<=(0:Int):=(by omega);have wG:0 < ((bE l0 bN).length:Int):=of_decide_eq_true (by first | (with_reducible assumption) | assumption);obtain ⟨QE,e229,fI,fJ,fK,fM,fO,fP⟩:=eY sQ.out 0 wF wG;cases e229
    have QF:(0 < (bE l0 bN).length)=True:=eq_true (by omega)
    (try rw [show ((0:Int)).toNat=0 from rfl] at fI)
    (try rw [show 0*6=0 from rfl] at fI)
    (try rw [Addr.add_zero'] at fI)
    (try rw [show ((0:Int)).toNat=0 from rfl] at fJ)
    (try rw [show 0*6=0 from rfl] at fJ)
    (try rw [Addr.add_zero'] at fJ)
    (try rw [show ((0:Int)).toNat=0 from rfl] at fK)
    (try rw [show 0*6=0 from rfl] at fK)
    (try rw [Addr.add_zero'] at fK)
    (try rw [show ((0:Int)).toNat=0 from rfl] at fM)
    (try rw [show 0*6=0 from rfl] at fM)
    (try rw [Addr.add_zero'] at fM)
    (try rw [show ((0:Int)).toNat=0 from rfl] at fO)
    (try rw [show 0*6=0 from rfl] at fO)
    (try rw [Addr.add_zero'] at fO)
    (try rw [show ((0:Int)).toNat=0 from rfl] at fP)
    (try rw [show 0*6=0 from rfl] at fP)
    (try rw [Addr.add_zero'] at fP)
    replace fI:=(HB.out.cell (World.block_lt_of_cell? w _ fI)).trans fI;replace fJ:=(HB.out.cell (World.block_lt_of_cell? w _ fJ)).trans fJ;replace fK:=(HB.out.cell (World.block_lt_of_cell? w _ fK)).trans fK;replace fM:=(HB.out.cell (World.block_lt_of_cell? w _ fM)).trans fM;replace fO:=(HB.out.cell (World.block_lt_of_cell? w _ fO)).trans fO;replace fP:=(HB.out.cell (World.block_lt_of_cell? w _ fP)).trans fP;replace wF:=eq_true wF;replace wG:=eq_true wG;have BX:0<=(bN:Int):=of_decide_eq_true (by first | (with_reducible assumption) | assumption);have BZ:bN < (l0.length:Int):=of_decide_eq_true (by first | (with_reducible assumption) | assumption);obtain ⟨Hz,QG,QH,e230,kH,qA,qB⟩:=lX mE.out bN BX BZ;obtain rfl:oo=Hz:=(by injection e230);replace kH:=(HB.out.cell (World.block_lt_of_cell? w _ kH)).trans kH;have xY:=aj.mk qB;have Mg:=aj.mk qA;clear qB qA;replace BX:=eq_true BX;replace BZ:=eq_true BZ;have sS:=Option.some.inj (fA.symm.trans kH);injection sS with sS Fe Fg
    subst sS;subst Fg;clear Fe;have Ca:0<=(1:Int):=(by omega);have Cb:1 < ((bE l0 bN).length:Int):=of_decide_eq_true (by first | (with_reducible assumption) | assumption);obtain ⟨Xg,e231,iF,iG,iH,iI,iJ,iK⟩:=eY xY.out 1 Ca Cb;cases e231
    (try simp only [show (1:Int).toNat=1 from rfl,Nat.reduceMul,Nat.reduceEqDiff,Go.Addr.add,↓reduceIte] at iF)
    (try simp only [show (1:Int).toNat=1 from rfl,Nat.reduceMul,Nat.reduceEqDiff,Go.Addr.add,↓reduceIte] at iG)
    (try simp only [show (1:Int).toNat=1 from rfl,Nat.reduceMul,Nat.reduceEqDiff,Go.Addr.add,↓reduceIte] at iH)
    (try simp only [show (1:Int).toNat=1 from rfl,Nat.reduceMul,Nat.reduceEqDiff,Go.Addr.add,↓reduceIte] at iI)
    (try simp only [show (1:Int).toNat=1 from rfl,Nat.reduceMul,Nat.reduceEqDiff,Go.Addr.add,↓reduceIte] at iJ)
    (try simp only [show (1:Int).toNat=1 from rfl,Nat.reduceMul,Nat.reduceEqDiff,Go.Addr.add,↓reduceIte] at iK)
    have Xi:(1 < (bE l0 bN).length)=True:=eq_true (by omega)
    (try rw [show ((1:Int)).toNat=1 from rfl] at iF)
    (try rw [show 1*6=6 from rfl] at iF)
    (try rw [show ((1:Int)).toNat=1 from rfl] at iG)
    (try rw [show 1*6=6 from rfl] at iG)
    (try rw [show ((1:Int)).toNat=1 from rfl] at iH)
    (try rw [show 1*6=6 from rfl] at iH)
    (try rw [show ((1:Int)).toNat=1 from rfl] at iI)
    (try rw [show 1*6=6 from rfl] at iI)
    (try rw [show ((1:Int)).toNat=1 from rfl] at iJ)
    (try rw [show 1*6=6 from rfl] at iJ)
    (try rw [show ((1:Int)).toNat=1 from rfl] at iK)
    (try rw [show 1*6=6 from rfl] at iK)
    replace iF:=(HB.out.cell (World.block_lt_of_cell? w _ iF)).trans iF;replace iG:=(HB.out.cell (World.block_lt_of_cell? w _ iG)).trans iG;replace iH:=(HB.out.cell (World.block_lt_of_cell? w _ iH)).trans iH;replace iI:=(HB.out.cell (World.block_lt_of_cell? w _ iI)).trans iI;replace iJ:=(HB.out.cell (World.block_lt_of_cell? w _ iJ)).trans iJ;replace iK:=(HB.out.cell (World.block_lt_of_cell? w _ iK)).trans iK;replace Ca:=eq_true Ca;replace Cb:=eq_true Cb;have KJ:0<=(bN:Int):=of_decide_eq_true (by first | (with_reducible assumption) | assumption);have KL:bN < (l0.length:Int):=of_decide_eq_true (by first | (with_reducible assumption) | assumption);obtain ⟨QI,YW,YX,e232,oP,xZ,yc⟩:=lX mE.out bN KJ KL;obtain rfl:oo=QI:=(by injection e232);replace oP:=(HB.out.cell (World.block_lt_of_cell? w _ oP)).trans oP;have Fh:=aj.mk yc;have Uz:=aj.mk xZ;clear yc xZ;replace KJ:=eq_true KJ;replace KL:=eq_true KL;have sS:=Option.some.inj (fA.symm.trans oP);injection sS with sS Fe Fg
    subst sS;subst Fg;clear Fe;have KM:0<=(1:Int):=(by omega);have KN:1 < ((bE l0 bN).length:Int):=of_decide_eq_true (by first | (with_reducible assumption) | assumption);obtain ⟨abO,e233,kW,kX,kY,kZ,lg,lq⟩:=eY Fh.out 1 KM KN;cases e233
    (try simp only [show (1:Int).toNat=1 from rfl,Nat.reduceMul,Nat.reduceEqDiff,Go.Addr.add,↓reduceIte] at kW)
    (try simp only [show (1:Int).toNat=1 from rfl,Nat.reduceMul,Nat.reduceEqDiff,Go.Addr.add,↓reduceIte] at kX)
    (try simp only [show (1:Int).toNat=1 from rfl,Nat.reduceMul,Nat.reduceEqDiff,Go.Addr.add,↓reduceIte] at kY)
    (try simp only [show (1:Int).toNat=1 from rfl,Nat.reduceMul,Nat.reduceEqDiff,Go.Addr.add,↓reduceIte] at kZ)
    (try simp only [show (1:Int).toNat=1 from rfl,Nat.reduceMul,Nat.reduceEqDiff,Go.Addr.add,↓reduceIte] at lg)
    (try simp only [show (1:Int).toNat=1 from rfl,Nat.reduceMul,Nat.reduceEqDiff,Go.Addr.add,↓reduceIte] at lq)
    have abP:(1 < (bE l0 bN).length)=True:=eq_true (by omega)
    (try rw [show ((1:Int)).toNat=1 from rfl] at kW)
    (try rw [show 1*6=6 from rfl] at kW)
    (try rw [show ((1:Int)).toNat=1 from rfl] at kX)
    (try rw [show 1*6=6 from rfl] at kX)
    (try rw [show ((1:Int)).toNat=1 from rfl] at kY)
    (try rw [show 1*6=6 from rfl] at kY)
    (try rw [show ((1:Int)).toNat=1 from rfl] at kZ)
    (try rw [show 1*6=6 from rfl] at kZ)
    (try rw [show ((1:Int)).toNat=1 from rfl] at lg)
    (try rw [show 1*6=6 from rfl] at lg)
    (try rw [show ((1:Int)).toNat=1 from rfl] at lq)
    (try rw [show 1*6=6 from rfl] at lq)
    replace kW:=(HB.out.cell (World.block_lt_of_cell? w _ kW)).trans kW;replace kX:=(HB.out.cell (World.block_lt_of_cell? w _ kX)).trans kX;replace kY:=(HB.out.cell (World.block_lt_of_cell? w _ kY)).trans kY;replace kZ:=(HB.out.cell (World.block_lt_of_cell? w _ kZ)).trans kZ;replace lg:=(HB.out.cell (World.block_lt_of_cell? w _ lg)).trans lg;replace lq:=(HB.out.cell (World.block_lt_of_cell? w _ lq)).trans lq;replace KM:=eq_true KM;replace KN:=eq_true KN;go_wp2;go_roundg k1
    case measure=>have:=jQ.out;omega
    case rel=>exact ⟨(gU),(wrap64 (bN+1)),(by first | rfl | (simp;done) | (simp [*];done)),H',⟨by have:=jQ.out;omega⟩,⟨by (with_reducible repeat (first | apply Kd.bW | apply Kd.bV | apply Kd.dw));exact vG.out⟩,⟨by repeat (first | (with_reducible first | exact HB.out | apply ay | apply ak | apply aD) | exact HB.out)⟩⟩
   rw [if_pos c9] at H;have Uy:(((aU (bE l0 bN) 1).f1).toList==([58]:List UInt8))=true:=beq_iff_eq.mpr c9;have YV:(((aU (bE l0 bN) 1).f1).toList != ([58]:List UInt8))=false:=bne_eq_false_iff_eq.mpr c9;clear c9;by_cases c10:gU.length < 5864062014805
   rotate_left
   ·rw [if_neg c10] at H
    exact absurd H (by simp)
   rw [if_pos c10] at H;have abQ:=aj.mk c10;clear c10;obtain ⟨abR,HZ⟩:∃ y_:List (nQ),y_=(gU++[(⟨(aU (bE l0 bN) 0).f1,(aU (bE l0 bN) 0).f3⟩:nQ)]):=⟨_,rfl⟩;replace H:(bD.l0 k1 l0 abR (wrap64 (bN+1)))=some r:=by first | (rw [HZ];with_reducible exact H) | (have wC:=(Option.bind_some _ _).symm.trans H;rw [HZ];with_reducible exact wC) | (have wC:=(Option.bind_some _ _).symm.trans H;with_reducible exact wC) | with_reducible exact H | (rw [HZ];exact H) | exact H
   have abS:=aj.mk HZ;clear HZ;have H':=aj.mk H;clear H;have sO:0<=(bN:Int):=of_decide_eq_true (by first | (with_reducible assumption) | assumption);have sP:bN < (l0.length:Int):=of_decide_eq_true (by first | (with_reducible assumption) | assumption);obtain ⟨oo,EZ,Fa,e227,fA,kF,kG⟩:=lX mE.out bN sO sP;cases e227
   replace fA:=(HB.out.cell (World.block_lt_of_cell? w _ fA)).trans fA;have Al:=aj.mk kG;have Am:=aj.mk kF;clear kG kF;replace sO:=eq_true sO;replace sP:=eq_true sP;have wD:0<=(bN:Int):=of_decide_eq_true (by first | (with_reducible assumption) | assumption);have wE:bN < (l0.length:Int):=of_decide_eq_true (by first | (with_reducible assumption) | assumption);obtain ⟨BU,KH,KI,e228,iZ,mO,mP⟩:=lX mE.out bN wD wE;obtain rfl:oo=BU:=(by injection e228);replace iZ:=(HB.out.cell (World.block_lt_of_cell? w _ iZ)).trans iZ;have sQ:=aj.mk mP;have Fb:=aj.mk mO;clear mP mO;replace wD:=eq_true wD;replace wE:=eq_true wE;have sS:=Option.some.inj (fA.symm.trans iZ);injection sS with sS Fe Fg
   subst sS;subst Fg;clear Fe;have wF:0<=(0:Int):=(by omega);have wG:0 < ((bE l0 bN).length:Int):=of_decide_eq_true (by first | (with_reducible assumption) | assumption);obtain ⟨QE,e229,fI,fJ,fK,fM,fO,fP⟩:=eY sQ.out 0 wF wG;cases e229
   have QF:(0 < (bE l0 bN).length)=True:=eq_true (by omega)
   (try rw [show ((0:Int)).toNat=0 from rfl] at fI)
   (try rw [show 0*6=0 from rfl] at fI)
   (try rw [Addr.add_zero'] at fI)
   (try rw [show ((0:Int)).toNat=0 from rfl] at fJ)
   (try rw [show 0*6=0 from rfl] at fJ)
   (try rw [Addr.add_zero'] at fJ)
   (try rw [show ((0:Int)).toNat=0 from rfl] at fK)
   (try rw [show 0*6=0 from rfl] at fK)
   (try rw [Addr.add_zero'] at fK)
   (try rw [show ((0:Int)).toNat=0 from rfl] at fM)
   (try rw [show 0*6=0 from rfl] at fM)
   (try rw [Addr.add_zero'] at fM)
   (try rw [show ((0:Int)).toNat=0 from rfl] at fO)
   (try rw [show 0*6=0 from rfl] at fO)
   (try rw [Addr.add_zero'] at fO)
   (try rw [show ((0:Int)).toNat=0 from rfl] at fP)
   (try rw [show 0*6=0 from rfl] at fP)
   (try rw [Addr.add_zero'] at fP)
   replace fI:=(HB.out.cell (World.block_lt_of_cell? w _ fI)).trans fI;replace fJ:=(HB.out.cell (World.block_lt_of_cell? w _ fJ)).trans fJ;replace fK:=(HB.out.cell (World.block_lt_of_cell? w _ fK)).trans fK;replace fM:=(HB.out.cell (World.block_lt_of_cell? w _ fM)).trans fM;replace fO:=(HB.out.cell (World.block_lt_of_cell? w _ fO)).trans fO;replace fP:=(HB.out.cell (World.block_lt_of_cell? w _ fP)).trans fP;replace wF:=eq_true wF;replace wG:=eq_true wG;have BX:0<=(bN:Int):=of_decide_eq_true (by first | (with_reducible assumption) | assumption);have BZ:bN < (l0.length:Int):=of_decide_eq_true (by first | (with_reducible assumption) | assumption);obtain ⟨Hz,QG,QH,e230,kH,qA,qB⟩:=lX mE.out bN BX BZ;obtain rfl:oo=Hz:=(by injection e230);replace kH:=(HB.out.cell (World.block_lt_of_cell? w _ kH)).trans kH;have xY:=aj.mk qB;have Mg:=aj.mk qA;clear qB qA;replace BX:=eq_true BX;replace BZ:=eq_true BZ;have sS:=Option.some.inj (fA.symm.trans kH);injection sS with sS Fe Fg
   subst sS;subst Fg;clear Fe;have Ca:0<=(1:Int):=(by omega);have Cb:1 < ((bE l0 bN).length:Int):=of_decide_eq_true (by first | (with_reducible assumption) | assumption);obtain ⟨Xg,e231,iF,iG,iH,iI,iJ,iK⟩:=eY xY.out 1 Ca Cb;cases e231
   (try simp only [show (1:Int).toNat=1 from rfl,Nat.reduceMul,Nat.reduceEqDiff,Go.Addr.add,↓reduceIte] at iF)
   (try simp only [show (1:Int).toNat=1 from rfl,Nat.reduceMul,Nat.reduceEqDiff,Go.Addr.add,↓reduceIte] at iG)
   (try simp only [show (1:Int).toNat=1 from rfl,Nat.reduceMul,Nat.reduceEqDiff,Go.Addr.add,↓reduceIte] at iH)
   (try simp only [show (1:Int).toNat=1 from rfl,Nat.reduceMul,Nat.reduceEqDiff,Go.Addr.add,↓reduceIte] at iI)
   (try simp only [show (1:Int).toNat=1 from rfl,Nat.reduceMul,Nat.reduceEqDiff,Go.Addr.add,↓reduceIte] at iJ)
   (try simp only [show (1:Int).toNat=1 from rfl,Nat.reduceMul,Nat.reduceEqDiff,Go.Addr.add,↓reduceIte] at iK)
   have Xi:(1 < (bE l0 bN).length)=True:=eq_true (by omega)
   (try rw [show ((1:Int)).toNat=1 from rfl] at iF)
   (try rw [show 1*6=6 from rfl] at iF)
   (try rw [show ((1:Int)).toNat=1 from rfl] at iG)
   (try rw [show 1*6=6 from rfl] at iG)
   (try rw [show ((1:Int)).toNat=1 from rfl] at iH)
   (try rw [show 1*6=6 from rfl] at iH)
   (try rw [show ((1:Int)).toNat=1 from rfl] at iI)
   (try rw [show 1*6=6 from rfl] at iI)
   (try rw [show ((1:Int)).toNat=1 from rfl] at iJ)
   (try rw [show 1*6=6 from rfl] at iJ)
   (try rw [show ((1:Int)).toNat=1 from rfl] at iK)
   (try rw [show 1*6=6 from rfl] at iK)
   replace iF:=(HB.out.cell (World.block_lt_of_cell? w _ iF)).trans iF;replace iG:=(HB.out.cell (World.block_lt_of_cell? w _ iG)).trans iG;replace iH:=(HB.out.cell (World.block_lt_of_cell? w _ iH)).trans iH;replace iI:=(HB.out.cell (World.block_lt_of_cell? w _ iI)).trans iI;replace iJ:=(HB.out.cell (World.block_lt_of_cell? w _ iJ)).trans iJ;replace iK:=(HB.out.cell (World.block_lt_of_cell? w _ iK)).trans iK;replace Ca:=eq_true Ca;replace Cb:=eq_true Cb;have KJ:0<=(bN:Int):=of_decide_eq_true (by first | (with_reducible assumption) | assumption);have KL:bN < (l0.length:Int):=of_decide_eq_true (by first | (with_reducible assumption) | assumption);obtain ⟨QI,YW,YX,e232,oP,xZ,yc⟩:=lX mE.out bN KJ KL;obtain rfl:oo=QI:=(by injection e232);replace oP:=(HB.out.cell (World.block_lt_of_cell? w _ oP)).trans oP;have Fh:=aj.mk yc;have Uz:=aj.mk xZ;clear yc xZ;replace KJ:=eq_true KJ;replace KL:=eq_true KL;have sS:=Option.some.inj (fA.symm.trans oP);injection sS with sS Fe Fg
   subst sS;subst Fg;clear Fe;have KM:0<=(1:Int):=(by omega);have KN:1 < ((bE l0 bN).length:Int):=of_decide_eq_true (by first | (with_reducible assumption) | assumption);obtain ⟨abO,e233,kW,kX,kY,kZ,lg,lq⟩:=eY Fh.out 1 KM KN;cases e233
   (try simp only [show (1:Int).toNat=1 from rfl,Nat.reduceMul,Nat.reduceEqDiff,Go.Addr.add,↓reduceIte] at kW)
   (try simp only [show (1:Int).toNat=1 from rfl,Nat.reduceMul,Nat.reduceEqDiff,Go.Addr.add,↓reduceIte] at kX)
   (try simp only [show (1:Int).toNat=1 from rfl,Nat.reduceMul,Nat.reduceEqDiff,Go.Addr.add,↓reduceIte] at kY)
   (try simp only [show (1:Int).toNat=1 from rfl,Nat.reduceMul,Nat.reduceEqDiff,Go.Addr.add,↓reduceIte] at kZ)
   (try simp only [show (1:Int).toNat=1 from rfl,Nat.reduceMul,Nat.reduceEqDiff,Go.Addr.add,↓reduceIte] at lg)
   (try simp only [show (1:Int).toNat=1 from rfl,Nat.reduceMul,Nat.reduceEqDiff,Go.Addr.add,↓reduceIte] at lq)
   have abP:(1 < (bE l0 bN).length)=True:=eq_true (by omega)
   (try rw [show ((1:Int)).toNat=1 from rfl] at kW)
   (try rw [show 1*6=6 from rfl] at kW)
   (try rw [show ((1:Int)).toNat=1 from rfl] at kX)
   (try rw [show 1*6=6 from rfl] at kX)
   (try rw [show ((1:Int)).toNat=1 from rfl] at kY)
   (try rw [show 1*6=6 from rfl] at kY)
   (try rw [show ((1:Int)).toNat=1 from rfl] at kZ)
   (try rw [show 1*6=6 from rfl] at kZ)
   (try rw [show ((1:Int)).toNat=1 from rfl] at lg)
   (try rw [show 1*6=6 from rfl] at lg)
   (try rw [show ((1:Int)).toNat=1 from rfl] at lq)
   (try rw [show 1*6=6 from rfl] at lq)
   replace kW:=(HB.out.cell (World.block_lt_of_cell? w _ kW)).trans kW;replace kX:=(HB.out.cell (World.block_lt_of_cell? w _ kX)).trans kX;replace kY:=(HB.out.cell (World.block_lt_of_cell? w _ kY)).trans kY;replace kZ:=(HB.out.cell (World.block_lt_of_cell? w _ kZ)).trans kZ;replace lg:=(HB.out.cell (World.block_lt_of_cell? w _ lg)).trans lg;replace lq:=(HB.out.cell (World.block_lt_of_cell? w _ lq)).trans lq;replace KM:=eq_true KM;replace KN:=eq_true KN;try go_wp2
   have dW:=aj.mk (Kd.dw vG.out);have fF:=aj.mk (aD HB.out);clear vG;clear HB;have vG:=dW;have HB:=fF;clear dW fF;have YZ:0<=(bN:Int):=of_decide_eq_true (by first | (with_reducible assumption) | assumption);have Za:bN < (l0.length:Int):=of_decide_eq_true (by first | (with_reducible assumption) | assumption);obtain ⟨abT,ajf,QJ,e234,uW,Mh,Mi⟩:=lX mE.out bN YZ Za;have qC:=uW;obtain rfl:oo=abT:=(by injection e234);replace uW:=(HB.out.cell (World.block_lt_of_cell? w _ uW)).trans uW;have Mj:=aj.mk Mi;have aeC:=aj.mk Mh;clear Mi Mh;replace YZ:=eq_true YZ;replace Za:=eq_true Za;have Zb:0<=(0:Int):=(by omega);have Zc:0 < ((bE l0 bN).length:Int):=of_decide_eq_true (by first | (with_reducible assumption) | assumption);obtain ⟨kI,ajg,qD,qE,qF,qG,qH,qI⟩:=eY Mj.out 0 Zb Zc;have mQ:=qI
   (try rw [show ((0:Int)).toNat=0 from rfl] at mQ)
   (try rw [show 0*6=0 from rfl] at mQ)
   (try rw [Addr.add_zero'] at mQ)
   have mR:=qH
   (try rw [show ((0:Int)).toNat=0 from rfl] at mR)
   (try rw [show 0*6=0 from rfl] at mR)
   (try rw [Addr.add_zero'] at mR)
   have mU:=qG
   (try rw [show ((0:Int)).toNat=0 from rfl] at mU)
   (try rw [show 0*6=0 from rfl] at mU)
   (try rw [Addr.add_zero'] at mU)
   have mV:=qF
   (try rw [show ((0:Int)).toNat=0 from rfl] at mV)
   (try rw [show 0*6=0 from rfl] at mV)
   (try rw [Addr.add_zero'] at mV)
   have mW:=qE
   (try rw [show ((0:Int)).toNat=0 from rfl] at mW)
   (try rw [show 0*6=0 from rfl] at mW)
   (try rw [Addr.add_zero'] at mW)
   have mX:=qD
   (try rw [show ((0:Int)).toNat=0 from rfl] at mX)
   (try rw [show 0*6=0 from rfl] at mX)
   (try rw [Addr.add_zero'] at mX)
   cases ajg
   have akC:(0 < (bE l0 bN).length)=True:=eq_true (by omega)
   (try rw [show ((0:Int)).toNat=0 from rfl] at qD)
   (try rw [show 0*6=0 from rfl] at qD)
   (try rw [Addr.add_zero'] at qD)
   (try rw [show ((0:Int)).toNat=0 from rfl] at qE)
   (try rw [show 0*6=0 from rfl] at qE)
   (try rw [Addr.add_zero'] at qE)
   (try rw [show ((0:Int)).toNat=0 from rfl] at qF)
   (try rw [show 0*6=0 from rfl] at qF)
   (try rw [Addr.add_zero'] at qF)
   (try rw [show ((0:Int)).toNat=0 from rfl] at qG)
   (try rw [show 0*6=0 from rfl] at qG)
   (try rw [Addr.add_zero'] at qG)
   (try rw [show ((0:Int)).toNat=0 from rfl] at qH)
   (try rw [show 0*6=0 from rfl] at qH)
   (try rw [Addr.add_zero'] at qH)
   (try rw [show ((0:Int)).toNat=0 from rfl] at qI)
   (try rw [show 0*6=0 from rfl] at qI)
   (try rw [Addr.add_zero'] at qI)
   replace qD:=(HB.out.cell (World.block_lt_of_cell? w _ qD)).trans qD;replace qE:=(HB.out.cell (World.block_lt_of_cell? w _ qE)).trans qE;replace qF:=(HB.out.cell (World.block_lt_of_cell? w _ qF)).trans qF;replace qG:=(HB.out.cell (World.block_lt_of_cell? w _ qG)).trans qG;replace qH:=(HB.out.cell (World.block_lt_of_cell? w _ qH)).trans qH;replace qI:=(HB.out.cell (World.block_lt_of_cell? w _ qI)).trans qI;replace Zb:=eq_true Zb;replace Zc:=eq_true Zc;have Zd:0<=(bN:Int):=of_decide_eq_true (by first | (with_reducible assumption) | assumption);have Ze:bN < (l0.length:Int):=of_decide_eq_true (by first | (with_reducible assumption) | assumption);obtain ⟨abU,ajh,aji,ajj,uX,Mk,Ml⟩:=lX mE.out bN Zd Ze;have qJ:=uX;obtain rfl:oo=abU:=(by injection ajj);replace uX:=(HB.out.cell (World.block_lt_of_cell? w _ uX)).trans uX;have Mq:=aj.mk Ml;have aeD:=aj.mk Mk;clear Ml Mk;replace Zd:=eq_true Zd;replace Ze:=eq_true Ze;have sS:=Option.some.inj (uW.symm.trans uX);injection sS with sS Fe Fg
   subst sS;subst Fg;clear Fe;have Zf:0<=(0:Int):=(by omega);have Zg:0 < ((bE l0 bN).length:Int):=of_decide_eq_true (by first | (with_reducible assumption) | assumption);obtain ⟨akD,e237,qK,qL,qM,qN,qO,qP⟩:=eY Mq.out 0 Zf Zg;have mY:=qP
   (try rw [show ((0:Int)).toNat=0 from rfl] at mY)
   (try rw [show 0*6=0 from rfl] at mY)
   (try rw [Addr.add_zero'] at mY)
   have mZ:=qO
   (try rw [show ((0:Int)).toNat=0 from rfl] at mZ)
   (try rw [show 0*6=0 from rfl] at mZ)
   (try rw [Addr.add_zero'] at mZ)
   have ng:=qN
   (try rw [show ((0:Int)).toNat=0 from rfl] at ng)
   (try rw [show 0*6=0 from rfl] at ng)
   (try rw [Addr.add_zero'] at ng)
   have ni:=qM
   (try rw [show ((0:Int)).toNat=0 from rfl] at ni)
   (try rw [show 0*6=0 from rfl] at ni)
   (try rw [Addr.add_zero'] at ni)
   have nk:=qL
   (try rw [show ((0:Int)).toNat=0 from rfl] at nk)
   (try rw [show 0*6=0 from rfl] at nk)
   (try rw [Addr.add_zero'] at nk)
   have nu:=qK
   (try rw [show ((0:Int)).toNat=0 from rfl] at nu)
   (try rw [show 0*6=0 from rfl] at nu)
   (try rw [Addr.add_zero'] at nu)
   cases e237
   have akE:(0 < (bE l0 bN).length)=True:=eq_true (by omega)
   (try rw [show ((0:Int)).toNat=0 from rfl] at qK)
   (try rw [show 0*6=0 from rfl] at qK)
   (try rw [Addr.add_zero'] at qK)
   (try rw [show ((0:Int)).toNat=0 from rfl] at qL)
   (try rw [show 0*6=0 from rfl] at qL)
   (try rw [Addr.add_zero'] at qL)
   (try rw [show ((0:Int)).toNat=0 from rfl] at qM)
   (try rw [show 0*6=0 from rfl] at qM)
   (try rw [Addr.add_zero'] at qM)
   (try rw [show ((0:Int)).toNat=0 from rfl] at qN)
   (try rw [show 0*6=0 from rfl] at qN)
   (try rw [Addr.add_zero'] at qN)
   (try rw [show ((0:Int)).toNat=0 from rfl] at qO)
   (try rw [show 0*6=0 from rfl] at qO)
   (try rw [Addr.add_zero'] at qO)
   (try rw [show ((0:Int)).toNat=0 from rfl] at qP)
   (try rw [show 0*6=0 from rfl] at qP)
   (try rw [Addr.add_zero'] at qP)
   replace qK:=(HB.out.cell (World.block_lt_of_cell? w _ qK)).trans qK;replace qL:=(HB.out.cell (World.block_lt_of_cell? w _ qL)).trans qL;replace qM:=(HB.out.cell (World.block_lt_of_cell? w _ qM)).trans qM;replace qN:=(HB.out.cell (World.block_lt_of_cell? w _ qN)).trans qN;replace qO:=(HB.out.cell (World.block_lt_of_cell? w _ qO)).trans qO;replace qP:=(HB.out.cell (World.block_lt_of_cell? w _ qP)).trans qP;replace Zf:=eq_true Zf;replace Zg:=eq_true Zg;refine JF (n:=19) (S:=fun w'=>w'.cell? (oo.add (bN).toNat)=some (.slice (some kI) (bE l0 bN).length QJ)/\w'.cell? kI=some (.int .i64 ((aU (bE l0 bN) 0).f0))/\w'.cell? ⟨kI.block,kI.off+1,none⟩=some (.string ((aU (bE l0 bN) 0).f1))/\w'.cell? ⟨kI.block,kI.off+2,none⟩=some (.bool ((aU (bE l0 bN) 0).f2))/\w'.cell? ⟨kI.block,kI.off+3,none⟩=some (.int .i64 ((aU (bE l0 bN) 0).f3))/\w'.cell? ⟨kI.block,kI.off+4,none⟩=some (.int .i64 ((aU (bE l0 bN) 0).f4))/\w'.cell? ⟨kI.block,kI.off+5,none⟩=some (.int .i64 ((aU (bE l0 bN) 0).f5))/\w'.cell? (oo.add (bN).toNat)=some (.slice (some kI) (bE l0 bN).length QJ)/\w'.cell? kI=some (.int .i64 ((aU (bE l0 bN) 0).f0))/\w'.cell? ⟨kI.block,kI.off+1,none⟩=some (.string ((aU (bE l0 bN) 0).f1))/\w'.cell? ⟨kI.block,kI.off+2,none⟩=some (.bool ((aU (bE l0 bN) 0).f2))/\w'.cell? ⟨kI.block,kI.off+3,none⟩=some (.int .i64 ((aU (bE l0 bN) 0).f3))/\w'.cell? ⟨kI.block,kI.off+4,none⟩=some (.int .i64 ((aU (bE l0 bN) 0).f4))/\w'.cell? ⟨kI.block,kI.off+5,none⟩=some (.int .i64 ((aU (bE l0 bN) 0).f5))) (ds:=[]) #[false,false,false,false,false,false,false,false,false,false,false,false,false,false,false,false,false,false,false] (by kernel_rfl) rfl rfl ⟨((HB.out.cell (World.block_lt_of_cell? w _ qC)).trans qC),((HB.out.cell (World.block_lt_of_cell? w _ mX)).trans mX),((HB.out.cell (World.block_lt_of_cell? w _ mW)).trans mW),((HB.out.cell (World.block_lt_of_cell? w _ mV)).trans mV),((HB.out.cell (World.block_lt_of_cell? w _ mU)).trans mU),((HB.out.cell (World.block_lt_of_cell? w _ mR)).trans mR),((HB.out.cell (World.block_lt_of_cell? w _ mQ)).trans mQ),((HB.out.cell (World.block_lt_of_cell? w _ qJ)).trans qJ),((HB.out.cell (World.block_lt_of_cell? w _ nu)).trans nu),((HB.out.cell (World.block_lt_of_cell? w _ nk)).trans nk),((HB.out.cell (World.block_lt_of_cell? w _ ni)).trans ni),((HB.out.cell (World.block_lt_of_cell? w _ ng)).trans ng),((HB.out.cell (World.block_lt_of_cell? w _ mZ)).trans mZ),((HB.out.cell (World.block_lt_of_cell? w _ mY)).trans mY)⟩ (fun hHeld=>?_);refine yN bD.aje bD.abN (fun oK Sz=>?_);generalize wr.drew=w11 at vG HB Mj Mq uW qD qE qF qG qH qI uX qK qL qM qN qO qP hHeld |-
   refine je (i:=0) (N:=some 47) (v:=?_) (a':=?_) #[true,false,false,false,false,false,false,false,false,false,false,false,false,false,false,false,false,false,false] rfl rfl (fV oK.out (by kernel_rfl)) (fun _ _ _ h=>h) (Or.inl ⟨by rfl,?_⟩) ?_ ?_;rotate_left
   ·intro w'
    go_simp;with_reducible rfl
   rotate_left
   ·simp only [Act.put,List.setIfInBounds_toArray,List.set_cons_zero,List.set_cons_succ,dx,dK]
    rfl
   refine je (i:=1) (N:=some 48) (v:=?_) (a':=?_) #[true,true,false,false,false,false,false,false,false,false,false,false,false,false,false,false,false,false,false] rfl rfl (fV oK.out (by kernel_rfl)) (fun _ _ _ h=>h) (Or.inl ⟨by rfl,?_⟩) ?_ ?_;rotate_left
   ·intro w'
    go_simp;with_reducible rfl
   rotate_left
   ·simp only [Act.put,List.setIfInBounds_toArray,List.set_cons_zero,List.set_cons_succ,dx,dK]
    rfl
   refine je (i:=2) (N:=some 49) (v:=?_) (a':=?_) #[true,true,true,false,false,false,false,false,false,false,false,false,false,false,false,false,false,false,false] rfl rfl (fV oK.out (by kernel_rfl)) (fun _ _ _ h=>h) (Or.inl ⟨by rfl,?_⟩) ?_ ?_;rotate_left
   ·intro w'
    go_simp;with_reducible rfl
   rotate_left
   ·simp only [Act.put,List.setIfInBounds_toArray,List.set_cons_zero,List.set_cons_succ,dx,dK]
    rfl
   refine je (i:=3) (N:=some 50) (v:=?_) (a':=?_) #[true,true,true,true,false,false,false,false,false,false,false,false,false,false,false,false,false,false,false] rfl rfl (fV oK.out (by kernel_rfl)) (fun _ _ _ h=>h) (Or.inl ⟨by rfl,?_⟩) ?_ ?_;rotate_left
   ·intro w'
    go_simp;with_reducible rfl
   rotate_left
   ·simp only [Act.put,List.setIfInBounds_toArray,List.set_cons_zero,List.set_cons_succ,dx,dK]
    rfl
   refine je (i:=8) (N:=some 55) (v:=?_) (a':=?_) #[true,true,true,true,false,false,false,false,true,false,false,false,false,false,false,false,false,false,false] rfl rfl (fV oK.out (by kernel_rfl)) (fun _ _ _ h=>h) (Or.inl ⟨by rfl,?_⟩) ?_ ?_;rotate_left
   ·intro w'
    go_simp;with_reducible rfl
   rotate_left
   ·simp only [Act.put,List.setIfInBounds_toArray,List.set_cons_zero,List.set_cons_succ,dx,dK]
    rfl
   refine je (i:=9) (N:=some 56) (v:=?_) (a':=?_) #[true,true,true,true,false,false,false,false,true,true,false,false,false,false,false,false,false,false,false] rfl rfl (fV oK.out (by kernel_rfl)) (fun _ _ _ h=>h) (Or.inl ⟨by rfl,?_⟩) ?_ ?_;rotate_left
   ·intro w'
    go_simp;with_reducible rfl
   rotate_left
   ·simp only [Act.put,List.setIfInBounds_toArray,List.set_cons_zero,List.set_cons_succ,dx,dK]
    rfl
   refine je (i:=10) (N:=some 57) (v:=?_) (a':=?_) #[true,true,true,true,false,false,false,false,true,true,true,false,false,false,false,false,false,false,false] rfl rfl (fV oK.out (by kernel_rfl)) (fun _ _ _ h=>h) (Or.inl ⟨by rfl,?_⟩) ?_ ?_;rotate_left
   ·intro w'
    go_simp;with_reducible rfl
   rotate_left
   ·simp only [Act.put,List.setIfInBounds_toArray,List.set_cons_zero,List.set_cons_succ,dx,dK]
    rfl
   refine vK (i:=4) (N:=some 51) (v:=?_) (a':=?_) #[true,true,true,true,true,false,false,false,true,true,true,false,false,false,false,false,false,false,false] rfl rfl (nT oK.out Sz.out (by kernel_rfl)) (fun _ _ _ h=>h) (Or.inl ⟨by rfl,?_⟩) hHeld ?_ ?_;rotate_left
   ·rintro w' ⟨s0,s1,s2,s3,s4,s5,s6,s7,s8,s9,s10,s11,s12,s13⟩
    go_simp;with_reducible rfl
   rotate_left
   ·simp only [Act.put,List.setIfInBounds_toArray,List.set_cons_zero,List.set_cons_succ,dx,dK]
    rfl
   refine je (i:=5) (N:=some 52) (v:=?_) (a':=?_) #[true,true,true,true,true,true,false,false,true,true,true,false,false,false,false,false,false,false,false] rfl rfl (fV oK.out (by kernel_rfl)) (fun _ _ _ h=>h) (Or.inl ⟨by rfl,?_⟩) ?_ ?_;rotate_left
   ·intro w'
    go_simp;with_reducible rfl
   rotate_left
   ·simp only [Act.put,List.setIfInBounds_toArray,List.set_cons_zero,List.set_cons_succ,dx,dK]
    rfl
   refine je (i:=6) (N:=some 53) (v:=?_) (a':=?_) #[true,true,true,true,true,true,true,false,true,true,true,false,false,false,false,false,false,false,false] rfl rfl (fV oK.out (by kernel_rfl)) (fun _ _ _ h=>h) (Or.inl ⟨by rfl,?_⟩) ?_ ?_;rotate_left
   ·intro w'
    go_simp;with_reducible rfl
   rotate_left
   ·simp only [Act.put,List.setIfInBounds_toArray,List.set_cons_zero,List.set_cons_succ,dx,dK]
    rfl
   refine vK (i:=7) (N:=some 54) (v:=?_) (a':=?_) #[true,true,true,true,true,true,true,true,true,true,true,false,false,false,false,false,false,false,false] rfl rfl (nT oK.out Sz.out (by kernel_rfl)) (fun _ _ _ h=>h) (Or.inl ⟨by rfl,?_⟩) hHeld ?_ ?_;rotate_left
   ·rintro w' ⟨s0,s1,s2,s3,s4,s5,s6,s7,s8,s9,s10,s11,s12,s13⟩
    go_simp;with_reducible rfl
   rotate_left
   ·simp only [Act.put,List.setIfInBounds_toArray,List.set_cons_zero,List.set_cons_succ,dx,dK]
    rfl
   refine vK (i:=11) (N:=some 58) (v:=?_) (a':=?_) #[true,true,true,true,true,true,true,true,true,true,true,true,false,false,false,false,false,false,false] rfl rfl (nT oK.out Sz.out (by kernel_rfl)) (fun _ _ _ h=>h) (Or.inl ⟨by rfl,?_⟩) hHeld ?_ ?_;rotate_left
   ·rintro w' ⟨s0,s1,s2,s3,s4,s5,s6,s7,s8,s9,s10,s11,s12,s13⟩
    go_simp;with_reducible rfl
   rotate_left
   ·simp only [Act.put,List.setIfInBounds_toArray,List.set_cons_zero,List.set_cons_succ,dx,dK]
    rfl
   refine je (i:=12) (N:=some 59) (v:=?_) (a':=?_) #[true,true,true,true,true,true,true,true,true,true,true,true,true,false,false,false,false,false,false] rfl rfl (fV oK.out (by kernel_rfl)) (fun _ _ _ h=>h) (Or.inl ⟨by rfl,?_⟩) ?_ ?_;rotate_left
   ·intro w'
    go_simp;with_reducible rfl
   rotate_left
   ·simp only [Act.put,List.setIfInBounds_toArray,List.set_cons_zero,List.set_cons_succ,dx,dK]
    rfl
   refine je (i:=13) (N:=some 60) (v:=?_) (a':=?_) #[true,true,true,true,true,true,true,true,true,true,true,true,true,true,false,false,false,false,false] rfl rfl (fV oK.out (by kernel_rfl)) (fun _ _ _ h=>h) (Or.inl ⟨by rfl,?_⟩) ?_ ?_;rotate_left
   ·intro w'
    go_simp;with_reducible rfl
   rotate_left
   ·simp only [Act.put,List.setIfInBounds_toArray,List.set_cons_zero,List.set_cons_succ,dx,dK]
    rfl
   refine vK (i:=14) (N:=some 61) (v:=?_) (a':=?_) #[true,true,true,true,true,true,true,true,true,true,true,true,true,true,true,false,false,false,false] rfl rfl (nT oK.out Sz.out (by kernel_rfl)) (fun _ _ _ h=>h) (Or.inl ⟨by rfl,?_⟩) hHeld ?_ ?_;rotate_left
   ·rintro w' ⟨s0,s1,s2,s3,s4,s5,s6,s7,s8,s9,s10,s11,s12,s13⟩
    go_simp;with_reducible rfl
   rotate_left
   ·simp only [Act.put,List.setIfInBounds_toArray,List.set_cons_zero,List.set_cons_succ,dx,dK]
    rfl
   refine je (i:=15) (N:=some 62) (v:=?_) (a':=?_) #[true,true,true,true,true,true,true,true,true,true,true,true,true,true,true,true,false,false,false] rfl rfl (fV oK.out (by kernel_rfl)) (fun _ _ _ h=>h) (Or.inl ⟨by rfl,?_⟩) ?_ ?_;rotate_left
   ·intro w'
    go_simp;with_reducible rfl
   rotate_left
   ·simp only [Act.put,List.setIfInBounds_toArray,List.set_cons_zero,List.set_cons_succ,dx,dK]
    rfl
   refine XQ (i:=16) (N:=some 63) #[true,true,true,true,true,true,true,true,true,true,true,true,true,true,true,true,true,false,false] rfl rfl (Ba oK.out (by kernel_rfl)) (by decide) (fun K hK=>?_);refine Pq (w1:=?_) (v:=?_) (by rfl) rfl ?_ ?_;rotate_left 2
   ·go_simp
    constructor
    ·rfl
    ·rfl
   refine hK.out _ _ ⟨(World.cell?_alloc_lt _ _ _ (World.block_lt_of_cell? _ _ (((HB.out.cell (World.block_lt_of_cell? w _ qC)).trans qC)))).trans (((HB.out.cell (World.block_lt_of_cell? w _ qC)).trans qC)),(World.cell?_alloc_lt _ _ _ (World.block_lt_of_cell? _ _ (((HB.out.cell (World.block_lt_of_cell? w _ mX)).trans mX)))).trans (((HB.out.cell (World.block_lt_of_cell? w _ mX)).trans mX)),(World.cell?_alloc_lt _ _ _ (World.block_lt_of_cell? _ _ (((HB.out.cell (World.block_lt_of_cell? w _ mW)).trans mW)))).trans (((HB.out.cell (World.block_lt_of_cell? w _ mW)).trans mW)),(World.cell?_alloc_lt _ _ _ (World.block_lt_of_cell? _ _ (((HB.out.cell (World.block_lt_of_cell? w _ mV)).trans mV)))).trans (((HB.out.cell (World.block_lt_of_cell? w _ mV)).trans mV)),(World.cell?_alloc_lt _ _ _ (World.block_lt_of_cell? _ _ (((HB.out.cell (World.block_lt_of_cell? w _ mU)).trans mU)))).trans (((HB.out.cell (World.block_lt_of_cell? w _ mU)).trans mU)),(World.cell?_alloc_lt _ _ _ (World.block_lt_of_cell? _ _ (((HB.out.cell (World.block_lt_of_cell? w _ mR)).trans mR)))).trans (((HB.out.cell (World.block_lt_of_cell? w _ mR)).trans mR)),(World.cell?_alloc_lt _ _ _ (World.block_lt_of_cell? _ _ (((HB.out.cell (World.block_lt_of_cell? w _ mQ)).trans mQ)))).trans (((HB.out.cell (World.block_lt_of_cell? w _ mQ)).trans mQ)),(World.cell?_alloc_lt _ _ _ (World.block_lt_of_cell? _ _ (((HB.out.cell (World.block_lt_of_cell? w _ qJ)).trans qJ)))).trans (((HB.out.cell (World.block_lt_of_cell? w _ qJ)).trans qJ)),(World.cell?_alloc_lt _ _ _ (World.block_lt_of_cell? _ _ (((HB.out.cell (World.block_lt_of_cell? w _ nu)).trans nu)))).trans (((HB.out.cell (World.block_lt_of_cell? w _ nu)).trans nu)),(World.cell?_alloc_lt _ _ _ (World.block_lt_of_cell? _ _ (((HB.out.cell (World.block_lt_of_cell? w _ nk)).trans nk)))).trans (((HB.out.cell (World.block_lt_of_cell? w _ nk)).trans nk)),(World.cell?_alloc_lt _ _ _ (World.block_lt_of_cell? _ _ (((HB.out.cell (World.block_lt_of_cell? w _ ni)).trans ni)))).trans (((HB.out.cell (World.block_lt_of_cell? w _ ni)).trans ni)),(World.cell?_alloc_lt _ _ _ (World.block_lt_of_cell? _ _ (((HB.out.cell (World.block_lt_of_cell? w _ ng)).trans ng)))).trans (((HB.out.cell (World.block_lt_of_cell? w _ ng)).trans ng)),(World.cell?_alloc_lt _ _ _ (World.block_lt_of_cell? _ _ (((HB.out.cell (World.block_lt_of_cell? w _ mZ)).trans mZ)))).trans (((HB.out.cell (World.block_lt_of_cell? w _ mZ)).trans mZ)),(World.cell?_alloc_lt _ _ _ (World.block_lt_of_cell? _ _ (((HB.out.cell (World.block_lt_of_cell? w _ mY)).trans mY)))).trans (((HB.out.cell (World.block_lt_of_cell? w _ mY)).trans mY))⟩ (fun hHeld=>?_);clear hK K;refine LB (a':=?_) ?_ ?_;rotate_left
   ·show Act.put _ (some 63) _=_
    simp only [Act.put,List.setIfInBounds_toArray,List.set_cons_zero,List.set_cons_succ,dx,dK];rfl
   refine XQ (i:=17) (N:=some 64) #[true,true,true,true,true,true,true,true,true,true,true,true,true,true,true,true,true,true,false] rfl rfl (Ba oK.out (by kernel_rfl)) (by decide) (fun K hK=>?_);refine Kd.vL LK (w0:=w) w.heap.size (by rfl) (.tmp 47) (.tmp 63) 34 73 (.agg #[(.string ⟨#[]⟩),(.int .i64 0)]) 24 rfl Tryz.underlying34 PI rfl (by decide) (by omega) u3 gU (⟨(aU (bE l0 bN) 0).f1,(aU (bE l0 bN) 0).f3⟩:nQ) [.string ((aU (bE l0 bN) 0).f1),.int .i64 ((aU (bE l0 bN) 0).f3)] (fun _=>True) (fun _=>False) rfl rfl ?aP (fun _ hk=>hk.elim) ?aF ?aO ?aB ?aS ?aL ?_
   (case aP=>exact LM _ _ _ (⟨(aU (bE l0 bN) 0).f1,(aU (bE l0 bN) 0).f3⟩:nQ))
   (case aB=>exact (by repeat (first | (with_reducible first | exact HB.out | apply ay | apply ak | apply aD) | exact HB.out)))
   (case aF=>exact (fun _ _=>trivial))
   (case aO=>exact (by (with_reducible repeat (first | apply Kd.bW | apply Kd.bV | apply Kd.dw));exact vG.out))
   (case aS=>exact (bR (by repeat (first | (with_reducible first | exact HB.out | apply ay | apply ak | apply aD) | exact HB.out))))
   (case aL=>have:=abQ.out;omega)
   intro alU w12 ho hb hg hat
   rw [<- abS.out] at ho;have dW:=aj.mk (hb);have fF:=aj.mk (ho);clear HB;clear vG;have HB:=dW;have abV:=fF;clear dW fF;clear ho hb hg hat;refine hK.out _ _ ⟨((HB.out.cell (World.block_lt_of_cell? w _ qC)).trans qC),((HB.out.cell (World.block_lt_of_cell? w _ mX)).trans mX),((HB.out.cell (World.block_lt_of_cell? w _ mW)).trans mW),((HB.out.cell (World.block_lt_of_cell? w _ mV)).trans mV),((HB.out.cell (World.block_lt_of_cell? w _ mU)).trans mU),((HB.out.cell (World.block_lt_of_cell? w _ mR)).trans mR),((HB.out.cell (World.block_lt_of_cell? w _ mQ)).trans mQ),((HB.out.cell (World.block_lt_of_cell? w _ qJ)).trans qJ),((HB.out.cell (World.block_lt_of_cell? w _ nu)).trans nu),((HB.out.cell (World.block_lt_of_cell? w _ nk)).trans nk),((HB.out.cell (World.block_lt_of_cell? w _ ni)).trans ni),((HB.out.cell (World.block_lt_of_cell? w _ ng)).trans ng),((HB.out.cell (World.block_lt_of_cell? w _ mZ)).trans mZ),((HB.out.cell (World.block_lt_of_cell? w _ mY)).trans mY)⟩ (fun hHeld=>?_);clear hK K;refine LB (a':=?_) ?_ ?_;rotate_left
   ·show Act.put _ (some 64) _=_
    simp only [Act.put,List.setIfInBounds_toArray,List.set_cons_zero,List.set_cons_succ,dx,dK];rfl
   refine je (i:=18) (N:=some 3) (v:=?_) (a':=?_) #[true,true,true,true,true,true,true,true,true,true,true,true,true,true,true,true,true,true,true] rfl rfl (fV oK.out (by kernel_rfl)) (fun _ _ _ h=>h) (Or.inl ⟨by rfl,?_⟩) ?_ ?_;rotate_left
   ·intro w'
    go_simp;with_reducible rfl
   rotate_left
   ·simp only [Act.put,List.setIfInBounds_toArray,List.set_cons_zero,List.set_cons_succ,dx,dK]
    rfl
   refine Pp (Ep oK.out (by kernel_rfl)) ?_;try go_wp2
   go_roundg k1
   case measure=>have:=jQ.out;omega
   case rel=>exact ⟨(abR),(wrap64 (bN+1)),(by first | rfl | (simp;done) | (simp [*];done)),H',⟨by have:=jQ.out;omega⟩,⟨by (with_reducible repeat (first | apply Kd.bW | apply Kd.bV | apply Kd.dw));exact abV.out⟩,⟨by repeat (first | (with_reducible first | exact HB.out | apply ay | apply ak | apply aD) | exact HB.out)⟩⟩
end Go.Proofs.YtkkpjonfaflkmaaGreatDoor.T
