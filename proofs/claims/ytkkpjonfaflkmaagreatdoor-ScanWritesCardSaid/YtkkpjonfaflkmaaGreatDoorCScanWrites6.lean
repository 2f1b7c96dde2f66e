/- A part of the proof of ScanWrites. -/
import Derived.Test.YtkkpjonfaflkmaaGreatDoorCScanWrites5
set_option linter.all false
namespace Go.Proofs.YtkkpjonfaflkmaaGreatDoor.T
open Go.RowKit Go.Proofs.aj.aI Go.Proofs.aj.aY Go.Proofs.aj.bq
theorem uy (q:Int) (a:Nat):∀ (n:Nat) (xs:List Int) (i:Nat) (acc:List Int),xs.length<=n->S.lit q xs (i+a) acc=(S.lit q xs i acc).map fun p=>(p.1,p.2+a)
 | _,[],i,acc,_=>rfl
 | _,[c],i,acc,_=>by
  unfold S.lit;by_cases h0:c=10<;>by_cases h:c=q<;>simp [h,h0]
  all_goals (split<;>rfl)
 | 0,_::_::_,_,_,h=>by simp at h
 | n+1,c::d::t,i,acc,h=>by
  simp only [List.length_cons] at h;have h1:=uy q a n t (i+2) (acc++[q]) (by omega);have h2:=uy q a n (d::t) (i+1) (acc++[c]) (by simp;omega);unfold S.lit;by_cases e1:c=10
  ·simp [e1]
  by_cases e2:c=q
  ·by_cases e3:d=q
   ·rw [if_neg e1,if_pos e2,if_pos e3,if_neg e1,if_pos e2,if_pos e3,<- h1]
    congr 1;omega
   rw [if_neg e1,if_pos e2,if_neg e3,if_neg e1,if_pos e2,if_neg e3];rfl
  rw [if_neg e1,if_neg e2,if_neg e1,if_neg e2,<- h2];congr 1;omega
theorem zx {L:List Int} {i:Nat} {q:Int} (hd:L.drop i=q::L.drop (i+1)) (hR:S.lit q (L.drop (i+1)) (i+1) []=none):S.dZ (L.drop i)=.err 6:=by
 have h1:=uy q i _ (L.drop (i+1)) 1 [] (Nat.le_refl _);rw [Nat.add_comm 1 i,hR] at h1;rw [hd];unfold S.dZ;cases h:S.lit q (L.drop (i+1)) 1 [] with
 | none=>simp only [h]
 | some p=>rw [h] at h1;cases h1
theorem IQ {L:List Int} {i b:Nat} {q:Int} {v:List Int} (hd:L.drop i=q::L.drop (i+1)) (hR:S.lit q (L.drop (i+1)) (i+1) []=some (v,b)) :
  S.dZ (L.drop i)=if v.all S.iT=true then (if S.sfx (L.drop (b+1))=0 then S.jR v (b+1 - i) else match S.eU v (S.sfx (L.drop (b+1))) with
   | none=>.err 15
   | some u=>S.jR u (b+2 - i)) else .err 13:=by
 have h1:=uy q i _ (L.drop (i+1)) 1 [] (Nat.le_refl _);rw [Nat.add_comm 1 i,hR] at h1;rw [hd];unfold S.dZ;cases h:S.lit q (L.drop (i+1)) 1 [] with
 | none=>rw [h] at h1;cases h1
 | some p =>
  obtain ⟨v',j⟩:=p;rw [h] at h1;simp only [Option.map_some,Option.some.injEq,Prod.mk.injEq] at h1;obtain ⟨rfl,rfl⟩:=h1;have e1:(q::L.drop (i+1)).drop (j+1)=L.drop (j+i+1):=by
   rw [<- hd,List.drop_drop];congr 1;omega
  rw [show j+i+1 - i=j+1 by omega,show j+i+2 - i=j+2 by omega];simp only [h,e1];rfl
theorem WU (v:List Int):(v.any fun x=>!S.iT x)=!(v.all S.iT):=by
 rw [List.all_eq_not_any_not,Bool.not_not]
theorem IU (vs:ByteArray) (W:World) (hs:vs.size<=100000) (g:Nat) (eg:∀ args w,(callFunc g args).run Tryz.prog w=.ok (.enter g args) w) (hp:∀ w,IC g #[] (fun x=>Value.int .u8 x) (fun x=>!S.iT x) (fun _=>True) w) :
  Calls Tryz.prog 63 #[.slice (some ⟨W.heap.size,0,none⟩) vs.size (grownCap W vs.size 0 5),.func (.func g) #[] #[]] (Lib.bytesWorld W 5 vs) fun e W'=>e=.returned (.bool (!((bytesOf vs).all S.iT)))/\Below W.heap.size W W':=by
 have hO:=nu.conv (base:=W.heap.size) W vs (Nat.le_refl _) hs
 have hc:=adJ.calls (some ⟨W.heap.size,0,none⟩) (grownCap W vs.size 0 5) (bytesOf vs) g #[] (fun x=>!S.iT x) (fun _=>True) (Lib.bytesWorld W 5 vs) eg (by
  have e:(bytesOf vs).length=vs.size:=bytesOf_length vs;rw [<- e] at hO;exact hO.C) (fun _ _=>trivial) (hp _)
 rw [bytesOf_length,WU] at hc;refine hc.mono ?_;rintro e W' ⟨rfl,hb⟩
 have h1:Below W.heap.size W (Lib.bytesWorld W 5 vs):=pE (Below.refl _ _) (Nat.le_refl _) 5 vs;exact ⟨rfl,h1.trans (hb.mono (by have:=h1.size;omega))⟩
def ixS (c:Int):Int:=Lib.indexByte [88,120,66,98] c.toNat.toUInt8
def ixB (c:Int):Int:=Lib.indexByte [66,98] c.toNat.toUInt8
theorem adO (c:Int):strings_IndexByte.f ⟨#[88,120,66,98]⟩ c=some (ixS c):=rfl
theorem adP (c:Int):strings_IndexByte.f ⟨#[66,98]⟩ c=some (ixB c):=rfl
theorem IV (c:Int) (h0:0<=c) (h1:c < 256):decide (0<=ixS c)=decide (S.kF c≠0)/\(S.kF c=0\/(S.kF c=4/\decide (0<=ixB c)=false)\/(S.kF c=1/\decide (0<=ixB c)=true)) :=
 Bj (fun c=>decide (0<=ixS c)=decide (S.kF c≠0)/\(S.kF c=0\/(S.kF c=4/\decide (0<=ixB c)=false)\/(S.kF c=1/\decide (0<=ixB c)=true))) (by decide +kernel) c h0 h1
theorem IW (c:Int) (t:List Int):S.sfx (c::t)=match t with
 | []=>S.kF c
 | d::_=>if S.sym d=true then 0 else S.kF c:=by cases t<;>rfl
set_option maxRecDepth 100000 in
set_option maxHeartbeats 4000000 in
theorem oN.calls (s:Nat) (src:ByteArray) (m:Value) (i line:Nat) (w:World) (hsz:src.size<=100000) (hl:line<=1000000000) (hi:i < src.size) (h:Sc s src i line m w) :
  Calls Tryz.prog 70 #[.pointer (some ⟨s,0,none⟩)] w fun e w'=>But (·=s) w w'/\qG s src m i line e w' (S.dZ ((bytesOf src).drop i)):=by
 have HS:=ah.mk h;obtain ⟨n,hn⟩:∃ n,src.size=n:=⟨_,rfl⟩;obtain ⟨L,hL⟩:∃ L,bytesOf src=L:=⟨_,rfl⟩;have HN:ah (L.length=n):=⟨by rw [<- hL,bytesOf_length];exact hn⟩;have hbi:=jT src i hi;rw [hL] at hbi |-
 have PG:=ah.mk (drop_at L i (by rw [HN.out];omega));obtain ⟨q,hq⟩:∃ q,L.getD i 0=q:=⟨_,rfl⟩;rw [hq] at hbi PG;have HQ:=ah.mk hq;have HL:=ah.mk hL;have c0:=h.c0;have c1:=h.c1;have hz0:(0:Int)<=(i:Int):=by omega
 have hz1:(i:Int) < (n:Int):=by omega
 have hslt:=h.lt;obtain ⟨R,hR⟩:∃ R,S.lit q (L.drop (i+1)) (i+1) []=R:=⟨_,rfl⟩;have HR:=ah.mk hR;clear hL h hq hR;rw [hn] at hsz hi;go_enter Tryz.func70,Tryz.ntmps70
 go_wp2;go_region
 go_wp2;obtain ⟨W0,hW0⟩:∃ W0,(w.alloc (.cells #[.pointer none,.slice none 0 0] 126)).drew=W0:=⟨_,rfl⟩;have hB0:ah (vZ w.heap.size w.heap.size [] W0):=⟨by rw [<- hW0];exact vZ.new w⟩;have hb0:ah (Below w.heap.size w W0):=⟨by rw [<- hW0];exact ay (av (Below.refl _ _) _)⟩;rw [hW0];clear hW0;generalize hH:w.heap.size=H at *;have HSL:=ah.mk hslt;have HH:=ah.mk hH;clear hH;go_loopg [5] (n+1) (fun gg s5 wr=>∃ (kk:Nat) (acc:List Int),i < kk/\kk<=n/\n+1 - kk<=gg/\s5=.int .i64 kk/\acc.length<=kk/\ah (vZ H H acc wr)/\ah (Below H w wr)/\ah (∀ x∈acc,0<=x/\x < 256)/\ah (S.lit q (L.drop kk) kk acc=R))
 case atStart=>exact ⟨i+1,[],by omega,by omega,by omega,by go_num,by simp,hB0,hb0,⟨by simp⟩,HR⟩
 case round =>
  obtain ⟨kk,acc,hik,hkk,hg,rfl,hal,HB,HW,HAR,HA⟩:=hrel;have HC:ah (Sc s src i line m wr):=⟨(HW.out.block s HSL.out).trans HS.out⟩;have d0:=HC.out.c0;have d1:=HC.out.c1;have d2:=HC.out.c2;have HF:=Lib.hid (fun W=>kg.calls (.pointer (some ⟨s,0,none⟩)) 6 line W);by_cases hkn:kk=n
  ·have g1:decide ((n:Int)<=(kk:Int))=true:=decide_eq_true (by omega)
   have g2:decide (n<=kk)=true:=decide_eq_true (by omega);have hR:ah (S.dZ (L.drop i)=.err 6):=⟨zx PG.out (by
    rw [HR.out,<- HA.out,List.drop_eq_nil_of_le (by rw [HN.out];omega)];rfl)⟩
   clear hik;go_wp2_with (go_at_call 97;refine (HF.out _).mono ?_;rintro e w' ⟨rfl,rfl⟩;unfold Fails)
   refine ⟨rfl,But.of_below (by rw [HH.out];exact HW.out),?_⟩;rw [hR.out];exact ⟨rfl,_,HC.out⟩
  have hlt:kk < n:=by omega
  have g1:decide ((n:Int)<=(kk:Int))=false:=decide_eq_false (by omega);have g2:decide (n<=kk)=false:=decide_eq_false (by omega);have hby:=jT src kk (by omega);rw [HL.out] at hby;have HDK:=ah.mk (drop_at L kk (by rw [HN.out];omega));obtain ⟨y,hy⟩:∃ y,L.getD kk 0=y:=⟨_,rfl⟩;rw [hy] at hby HDK;have hyr:0<=y/\y < 256:=by rw [<- hy];exact eG src _ (by rw [HL.out];exact kQ _ _ (by rw [HN.out];omega))
  have HYR:=ah.mk hyr;clear hy hyr;have hkz:(kk:Int) < (n:Int):=by omega
  by_cases lM:y=10
  ·have g3:(y==10)=true:=beq_iff_eq.2 lM
   have hR:ah (S.dZ (L.drop i)=.err 6):=⟨zx PG.out (by
    rw [HR.out,<- HA.out,HDK.out];rcases L.drop (kk+1) with _ | ⟨d,t⟩
    ·unfold S.lit
     rw [if_pos lM]
    ·unfold S.lit
     rw [if_pos lM])⟩
   clear hik;go_wp2_with (go_at_call 97;refine (HF.out _).mono ?_;rintro e w' ⟨rfl,rfl⟩;unfold Fails)
   refine ⟨rfl,But.of_below (by rw [HH.out];exact HW.out),?_⟩;rw [hR.out];exact ⟨rfl,_,HC.out⟩
  have g3:(y==10)=false:=beq_eq_false_iff_ne.2 lM;have HWB:=Lib.hid (fun x=>CX H H acc x wr HB.out (by omega) (by have:=HW.out.size;have:=HH.out;omega));by_cases hyq:y=q
  rotate_left
  ·have g4:(y==q)=false:=beq_eq_false_iff_ne.2 hyq
   have hA2:ah (S.lit q (L.drop (kk+1)) (kk+1) (acc++[y])=R):=⟨by
    rw [<- HA.out,HDK.out];rcases L.drop (kk+1) with _ | ⟨d,t⟩
    ·unfold S.lit
     rw [if_neg lM,if_neg hyq]
    ·conv=>{ rhs;unfold S.lit }
     rw [if_neg lM,if_neg hyq]⟩
   go_wp2_with (go_at_call 106;refine (HWB.out _).mono ?_;rintro e w' ⟨rfl,hb1,hb2⟩)
   go_roundg (n+1 - (kk+1))
   case measure=>omega
   case rel =>
    refine ⟨kk+1,acc++[y],by omega,by omega,by omega,by go_num,by simp;omega,⟨hb1⟩,⟨HW.out.trans hb2⟩,⟨fun x hx=>?_⟩,hA2⟩;rcases List.mem_append.1 hx with hx | hx
    ·exact HAR.out x hx
    ·simp at hx;subst hx;exact HYR.out
  have g4:(y==q)=true:=beq_iff_eq.2 hyq;obtain ⟨brk,adQ⟩:∃ brk:Bool,(decide (n<=kk+1)||!decide (L.getD (kk+1) 0=q))=brk:=⟨_,rfl⟩;have HBR:=ah.mk adQ;clear adQ;go_upto_region 8 with (fail)
  go_cut [74] from 24 to 83 (fun s74 wc=>s74=.bool brk/\wc=wr)
  case first =>
   by_cases hk1:kk+1 < n
   rotate_left
   ·have e1:decide ((n:Int)<=(kk:Int)+1)=true:=decide_eq_true (by omega)
    have e2:decide (n<=kk+1)=true:=decide_eq_true (by omega);go_wp2_with fail
    go_meet
    exact ⟨by rw [<- HBR.out,e2];rfl,rfl⟩
   have e1:decide ((n:Int)<=(kk:Int)+1)=false:=decide_eq_false (by omega);have e2:decide (n<=kk+1)=false:=decide_eq_false (by omega);have hbz:=jT src (kk+1) (by omega);rw [HL.out] at hbz;have aiC:(kk:Int)+1 < (n:Int):=by omega
   have hk0:(0:Int)<=(kk:Int)+1:=by omega
   have abo:=HBR.out;rw [e2,Bool.false_or] at abo;generalize L.getD (kk+1) 0=z at *;by_cases Ll:z=q
   ·have e3:(z != q)=false:=bne_eq_false_iff_eq.2 Ll
    go_wp2_with fail
    go_meet
    exact ⟨by rw [<- abo,Ll];simp,rfl⟩
   have e3:(z != q)=true:=bne_iff_ne.2 Ll;go_wp2_with fail
   go_meet
   exact ⟨by rw [<- abo];simp [Ll],rfl⟩
  case rest =>
   obtain ⟨rfl,rfl⟩:=hcut;cases brk with
   | false =>
    have hb:=HBR.out;rw [Bool.or_eq_false_iff] at hb;have hk1:kk+1 < n:=by have:=of_decide_eq_false hb.1;omega
    have Ll:L.getD (kk+1) 0=q:=by
     have:=hb.2;rw [Bool.not_eq_false'] at this;exact of_decide_eq_true this
    have hbz:=jT src (kk+1) (by omega);rw [HL.out,Ll] at hbz;have aiC:(kk:Int)+1 < (n:Int):=by omega
    have hk0:(0:Int)<=(kk:Int)+1:=by omega
    have hA2:ah (S.lit q (L.drop (kk+2)) (kk+2) (acc++[q])=R):=⟨by
     rw [<- HA.out,HDK.out,drop_at L (kk+1) (by rw [HN.out];omega),Ll];conv=>{ rhs;unfold S.lit }
     rw [if_neg lM,if_pos hyq,if_pos rfl]⟩
    clear hb Ll;go_wp2_with (go_at_call 106;refine (HWB.out _).mono ?_;rintro e w' ⟨rfl,hb1,hb2⟩)
    go_roundg (n+1 - (kk+2))
    case measure=>omega
    case rel =>
     refine ⟨kk+2,acc++[q],by omega,by omega,by omega,by go_num,by simp;omega,⟨hb1⟩,⟨HW.out.trans hb2⟩,⟨fun x hx=>?_⟩,hA2⟩;rcases List.mem_append.1 hx with hx | hx
     ·exact HAR.out x hx
     ·simp at hx;subst hx;rw [<- hyq];exact HYR.out
   | true =>
    have hRR:R=some (acc,kk):=by
     rw [<- HA.out,HDK.out];rcases hd:L.drop (kk+1) with _ | ⟨d,t⟩
     ·unfold S.lit
      rw [if_neg lM,if_pos hyq]
     ·conv=>{ lhs;unfold S.lit }
      have hk1:kk+1 < n:=by
       have:=congrArg List.length hd;rw [List.length_drop,HN.out] at this;simp at this
       omega
      have hdz:L.getD (kk+1) 0=d:=by
       have:=drop_at L (kk+1) (by rw [HN.out];omega);rw [hd] at this;exact (List.cons.inj this).1.symm
      have hb:=HBR.out;rw [decide_eq_false (show ¬ n<=kk+1 by omega),Bool.false_or,hdz] at hb;have:¬ d=q:=by
       intro e
       rw [e] at hb;simp at hb
      rw [if_neg lM,if_pos hyq,if_neg this]
    have sO:=ah.mk (IQ PG.out (HR.out.trans hRR));obtain ⟨vs,hvs⟩:∃ vs,strOfNums acc=vs:=⟨_,rfl⟩;have HVB:ah (bytesOf vs=acc):=⟨by rw [<- hvs];exact bW acc HAR.out⟩;obtain ⟨kv,hkv⟩:∃ kv,vs.size=kv:=⟨_,rfl⟩;have ali:acc.length=kv:=by rw [<- HVB.out,bytesOf_length];exact hkv
    have hst:=vI H H acc wc HB.out HAR.out (by have:=HW.out.size;have:=HH.out;omega);rw [hvs] at hst;have HST:=Lib.hid hst;have kb:=fun W=>nE (P:=Tryz.prog) 9 100 5 Tryz.underlying9 Tryz.underlying100 Tryz.underlying5 vs W
    have hnp:=fun W=>IU vs W (by omega) 108 EU adK.pays
    rw [hkv] at kb hnp;rw [HVB.out] at hnp;obtain ⟨ap,hap⟩:∃ ap,acc.all S.iT=ap:=⟨_,rfl⟩;rw [hap] at hnp;have RV:=Lib.hid hnp;have HAP:=ah.mk hap;have adR:=Lib.hid (fun W=>kg.calls (.pointer (some ⟨s,0,none⟩)) 13 line W);have HVS:=ah.mk hvs;clear hst hnp hap hRR hvs HF HWB;have HW1:ah (∀ W:World,Below H wc W->But (·=s) w W):=⟨fun W hb=>But.of_below (by rw [HH.out];exact HW.out.trans hb)⟩;cases ap with
    | false =>
     go_wp2_with (first | (go_at_call 107;refine HST.out.mono ?_;rintro e w1 ⟨rfl,hs1,hs2⟩) | (go_at_call 63;refine (RV.out _).mono ?_;rintro e w2 ⟨rfl,hs3⟩;have hsc:Sc s src i line m w2:=(hs3.block s (by have:=hs2.size;have:=HC.out.lt;omega)).trans ((hs2.block s HSL.out).trans HC.out);have uR:=ah.mk hsc;have e2:=hsc.c2;have f1:=hsc.fr 1;have e1:=hsc.c1;have HBU:ah (But (·=s) w w2):=⟨(HW1.out _ hs2).then hs3⟩;clear hsc) | (go_at_call 97;refine (adR.out _).mono ?_;rintro e w3 ⟨rfl,rfl⟩;unfold Fails))
     refine ⟨rfl,HBU.out,?_⟩;rw [sO.out,if_neg (by rw [HAP.out];simp)];exact ⟨rfl,_,uR.out⟩
    | true =>
     rw [if_pos HAP.out] at sO;go_upto_region 15 with (first | (go_at_call 107;refine HST.out.mono ?_;rintro e w1 ⟨rfl,hs1,hs2⟩) | (go_at_call 63;refine (RV.out _).mono ?_;rintro e w2 ⟨rfl,hs3⟩;have hsc:Sc s src i line m w2:=(hs3.block s (by have:=hs2.size;have:=HC.out.lt;omega)).trans ((hs2.block s HSL.out).trans HC.out);have uR:=ah.mk hsc;have e2:=hsc.c2;have f1:=hsc.fr 1;have e1:=hsc.c1;have HBU:ah (But (·=s) w w2):=⟨(HW1.out _ hs2).then hs3⟩;clear hsc))
     obtain ⟨x,hx⟩:∃ x,kk+1=x:=⟨_,rfl⟩;have Lg:ah (Sc s src x line m (w2.setCell ⟨s,1,none⟩ (.int .i64 ((kk:Int)+1)))):=⟨by
      have:=uR.out.set1 ((kk:Int)+1);rw [show ((kk:Int)+1)=(x:Int) by omega] at this |-
      exact this⟩
     have HB3:ah (But (·=s) w (w2.setCell ⟨s,1,none⟩ (.int .i64 ((kk:Int)+1)))):=⟨HBU.out.set _ _ rfl⟩;generalize w2.setCell ⟨s,1,none⟩ (.int .i64 ((kk:Int)+1))=w3 at *;obtain ⟨K,hK⟩:∃ K,S.sfx (L.drop x)=K:=⟨_,rfl⟩;rw [hx,hK] at sO;have HKK:=ah.mk hK;have hxn:x<=n:=by omega
     have hx0:(0:Int)<=(x:Int):=by omega
     clear hK HST RV adR kb HA HAR HDK HB hs2 hs3 uR HBU HC HW HW1;go_cut [148] from 10 (fun aiD w4=>aiD=.bool (decide (K≠0))/\ah (Sc s src x line m w4)/\ah (But (·=s) w w4))
     case first =>
      have cc0:∀ y:mU s src x line m w,y.world.cell? ⟨s,0,none⟩=some (.string src):=mU.c0;have QF:∀ y:mU s src x line m w,y.world.cell? ⟨s,1,none⟩=some (.int .i64 x):=mU.c1;have hne:Nonempty (mU s src x line m w):=⟨⟨w3.drew,Lg.out,HB3.out.drew⟩⟩;by_cases hxl:x < n
      rotate_left
      ·have e1:decide ((x:Int) < (n:Int))=false:=decide_eq_false (by omega)
       have e2:decide (x < n)=false:=decide_eq_false hxl;obtain rfl:K=0:=by
        rw [<- HKK.out,List.drop_eq_nil_of_le (by rw [HN.out];omega)];rfl
       refine dA (fun W=>∃ y:mU s src x line m w,W=y.world) (by kernel_rfl) (by kernel_rfl) ⟨⟨w3.drew,Lg.out,HB3.out.drew⟩,rfl⟩ ?_;repeat (go_big_quiet_step (fail))
       refine wpQuiet_nil ?_;rintro W ⟨y,rfl⟩
       go_wp2_with fail
       go_meet
       exact ⟨rfl,⟨y.sc⟩,⟨y.but⟩⟩
      have e1:decide ((x:Int) < (n:Int))=true:=decide_eq_true (by omega);have e2:decide (x < n)=true:=decide_eq_true hxl;have hbx:=jT src x (by omega);rw [HL.out] at hbx;have RX:=drop_at L x (by rw [HN.out];omega);obtain ⟨c,hcc⟩:∃ c,L.getD x 0=c:=⟨_,rfl⟩;rw [hcc] at hbx RX;have hcr:0<=c/\c < 256:=by rw [<- hcc];exact eG src _ (by rw [HL.out];exact kQ _ _ (by rw [HN.out];omega))
      obtain ⟨p1,p2⟩:=IV c hcr.1 hcr.2;have CG:ah (K=match L.drop (x+1) with | []=>S.kF c | d::_=>if S.sym d=true then 0 else S.kF c):=⟨by rw [<- HKK.out,RX,IW]⟩;have HIS:=Lib.hid (fun W=>strings_IndexByte.calls ⟨#[88,120,66,98]⟩ c (ixS c) W (adO c));have hxz:(x:Int) < (n:Int):=by omega
      clear hcc RX p2;generalize ixS c=iv at *;by_cases hs0:S.kF c=0
      ·have e3:decide (0<=iv)=false:=by rw [p1,hs0];rfl
       obtain rfl:K=0:=by
        rw [CG.out];rcases L.drop (x+1) with _ | ⟨d,t⟩
        ·exact hs0
        ·simp [hs0]
       clear p1 hs0;refine dA (fun W=>∃ y:mU s src x line m w,W=y.world) (by kernel_rfl) (by kernel_rfl) ⟨⟨w3.drew,Lg.out,HB3.out.drew⟩,rfl⟩ ?_;repeat (go_big_quiet_step ((rename_i y;(go_at_call 93;refine (HIS.out _).mono ?_;rintro e w' ⟨rfl,hb⟩;exact ⟨rfl,y.ret hb.below⟩))))
       refine wpQuiet_nil ?_;rintro W ⟨y,rfl⟩
       go_wp2_with fail
       go_meet
       exact ⟨rfl,⟨y.sc⟩,⟨y.but⟩⟩
      have e3:decide (0<=iv)=true:=by rw [p1];exact decide_eq_true hs0
      by_cases hx1:x+1 < n
      rotate_left
      ·have e4:decide ((n:Int)<=(x:Int)+1)=true:=decide_eq_true (by omega)
       have e5:decide (n<=x+1)=true:=decide_eq_true (by omega);have HKV:ah (decide (K≠0)=true):=⟨by
        rw [CG.out,List.drop_eq_nil_of_le (by rw [HN.out];omega)];exact decide_eq_true hs0⟩
       clear p1 hs0;refine dA (fun W=>∃ y:mU s src x line m w,W=y.world) (by kernel_rfl) (by kernel_rfl) ⟨⟨w3.drew,Lg.out,HB3.out.drew⟩,rfl⟩ ?_;repeat (go_big_quiet_step ((rename_i y;(go_at_call 93;refine (HIS.out _).mono ?_;rintro e w' ⟨rfl,hb⟩;exact ⟨rfl,y.ret hb.below⟩))))
       refine wpQuiet_nil ?_;rintro W ⟨y,rfl⟩
       go_wp2_with fail
       go_meet
       exact ⟨by rw [HKV.out],⟨y.sc⟩,⟨y.but⟩⟩
      have e4:decide ((n:Int)<=(x:Int)+1)=false:=decide_eq_false (by omega);have e5:decide (n<=x+1)=false:=decide_eq_false (by omega);have adT:=jT src (x+1) (by omega);rw [HL.out] at adT;have alj:(x:Int)+1 < (n:Int):=by omega
      have aiE:(0:Int)<=(x:Int)+1:=by omega
      have RX:=drop_at L (x+1) (by rw [HN.out];omega);obtain ⟨d,hdd⟩:∃ d,L.getD (x+1) 0=d:=⟨_,rfl⟩;rw [hdd] at adT RX;have hdr:0<=d/\d < 256:=by rw [<- hdd];exact eG src _ (by rw [HL.out];exact kQ _ _ (by rw [HN.out];omega))
      have hsy:=fun W=>iw.calls d (S.sym d) W (NA d hdr.1 hdr.2)
      obtain ⟨sd,hsd⟩:∃ sd,S.sym d=sd:=⟨_,rfl⟩;rw [hsd] at hsy;have IX:=Lib.hid hsy;have HKV:ah (decide (K≠0)=!sd):=⟨by
       rw [CG.out,RX];simp only [hsd];cases sd
       ·simp [hs0]
       ·rfl⟩
      clear p1 hs0 hsy RX hdd hsd hdr;refine dA (fun W=>∃ y:mU s src x line m w,W=y.world) (by kernel_rfl) (by kernel_rfl) ⟨⟨w3.drew,Lg.out,HB3.out.drew⟩,rfl⟩ ?_;repeat (go_big_quiet_step ((rename_i y;first | (go_at_call 93;refine (HIS.out _).mono ?_;rintro e w' ⟨rfl,hb⟩;exact ⟨rfl,y.ret hb.below⟩) | (go_at_call 55;refine (IX.out _).mono ?_;rintro e w' ⟨rfl,hb⟩;exact ⟨rfl,y.ret hb.below⟩))))
      refine wpQuiet_nil ?_;rintro W ⟨y,rfl⟩
      go_wp2_with fail
      go_meet
      exact ⟨by rw [HKV.out],⟨y.sc⟩,⟨y.but⟩⟩
     case rest =>
      obtain ⟨rfl,NG,CJ⟩:=hcut;go_upto_if 148 with (fail)
      go_cut [6] from 10 (fun s6 w5=>∃ (vv:List Int) (pp:Nat),s6=.string (strOfNums vv)/\ah (Sc s src pp line m w5)/\ah (But (·=s) w w5)/\ah (S.dZ (L.drop i)=S.jR vv (pp - i))/\ah (i<=pp))
      case first =>
       by_cases hK0:K=0
       ·subst hK0
        rw [if_pos rfl] at sO;go_wp2_with fail
        go_meet
        exact ⟨acc,x,by rw [HVS.out],NG,CJ,sO,⟨by omega⟩⟩
       have hxl:x < n:=by
        rcases Nat.lt_or_ge x n with h | h
        ·exact h
        ·exfalso
         apply hK0
         rw [<- HKK.out,List.drop_eq_nil_of_le (by rw [HN.out];omega)];rfl
       have hbx:=jT src x (by omega);rw [HL.out] at hbx;have RX:=drop_at L x (by rw [HN.out];omega);obtain ⟨c,hcc⟩:∃ c,L.getD x 0=c:=⟨_,rfl⟩;rw [hcc] at hbx RX;have hcr:0<=c/\c < 256:=by rw [<- hcc];exact eG src _ (by rw [HL.out];exact kQ _ _ (by rw [HN.out];omega))
       obtain ⟨p1,p2⟩:=IV c hcr.1 hcr.2;have hKc:K=S.kF c:=by
        have h1:=HKK.out;rw [RX,IW] at h1;rcases hd2:L.drop (x+1) with _ | ⟨d,t⟩
        ·rw [hd2] at h1;exact h1.symm
        ·rw [hd2] at h1
         simp only at h1;by_cases hsd:S.sym d=true
         ·rw [if_pos hsd] at h1;exact absurd h1.symm hK0
         ·rw [if_neg hsd] at h1;exact h1.symm
       have HIB:=Lib.hid (fun W=>strings_IndexByte.calls ⟨#[66,98]⟩ c (ixB c) W (adP c));have hxz:(x:Int) < (n:Int):=by omega
       rw [<- hKc] at p2;have d0:=NG.out.c0;have d1:=NG.out.c1;have d2:=NG.out.c2;have cc0:∀ y:mU s src x line m w,y.world.cell? ⟨s,0,none⟩=some (.string src):=mU.c0;have QF:∀ y:mU s src x line m w,y.world.cell? ⟨s,1,none⟩=some (.int .i64 x):=mU.c1;have hne:Nonempty (mU s src x line m w):=⟨⟨wc.drew,NG.out,CJ.out.drew⟩⟩;clear p1 hKc RX hcc hcr;generalize ixB c=ib at *;rcases p2 with p2 | ⟨rfl,e3⟩ | ⟨rfl,e3⟩
       ·exact absurd p2 hK0
       ·clear hK0
        have hdc:∀ W,Calls Tryz.prog 109 #[.string vs,.int .i64 4] W fun e w'=>e=.returned (.tuple #[.string (strOfNums ((S.eU (bytesOf vs) 4).getD [])),.bool (S.eU (bytesOf vs) 4).isSome])/\Below W.heap.size W w':=fun W=>zw.calls vs 4 2 (.inl ⟨rfl,rfl⟩) (by omega) W
        have abp:=Lib.hid (fun W=>kg.calls (.pointer (some ⟨s,0,none⟩)) 15 line W);rw [HVB.out] at hdc;rw [if_neg (by decide)] at sO;cases hld:S.eU acc 4 with
        | none =>
         rw [hld] at hdc;have zR:ah (S.dZ (L.drop i)=.err 15):=⟨by rw [sO.out,hld]⟩;have HDC:=Lib.hid hdc;clear hdc hld;go_upto_region 17 with (fail)
         refine dA (fun W=>∃ y:mU s src x line m w,W=y.world) (by kernel_rfl) (by kernel_rfl) ⟨⟨wc.drew,NG.out,CJ.out.drew⟩,rfl⟩ ?_;repeat (go_big_quiet_step ((rename_i y;(go_at_call 93;refine (HIB.out _).mono ?_;rintro e w' ⟨rfl,hb⟩;exact ⟨rfl,y.ret hb.below⟩))))
         refine wpQuiet_nil ?_;rintro W ⟨⟨w5,hs5,hb5⟩,rfl⟩
         go_wp2_with (first | (go_at_call 109;refine (HDC.out _).mono ?_;rintro e w6 ⟨rfl,hb6⟩;have hs6:=hs5.below hb6;have Kv:=hb5.then hb6;have e2:=hs6.c2) | (go_at_call 97;refine (abp.out _).mono ?_;rintro e w7 ⟨rfl,rfl⟩;unfold Fails))
         refine ⟨rfl,Kv,?_⟩;rw [zR.out];exact ⟨rfl,_,hs6⟩
        | some u =>
         rw [hld] at hdc;have zR:ah (S.dZ (L.drop i)=S.jR u (x+1 - i)):=⟨by rw [sO.out,hld];simp only [];rw [show kk+2 - i=x+1 - i by omega]⟩;have HDC:=Lib.hid hdc;clear hdc hld;go_upto_region 17 with (fail)
         refine dA (fun W=>∃ y:mU s src x line m w,W=y.world) (by kernel_rfl) (by kernel_rfl) ⟨⟨wc.drew,NG.out,CJ.out.drew⟩,rfl⟩ ?_;repeat (go_big_quiet_step ((rename_i y;(go_at_call 93;refine (HIB.out _).mono ?_;rintro e w' ⟨rfl,hb⟩;exact ⟨rfl,y.ret hb.below⟩))))
         refine wpQuiet_nil ?_;rintro W ⟨⟨w5,hs5,hb5⟩,rfl⟩
         go_wp2_with (go_at_call 109;refine (HDC.out _).mono ?_;rintro e w6 ⟨rfl,hb6⟩;have hs6:=hs5.below hb6;have Kv:=hb5.then hb6;have e1:=hs6.c1;have f1:=hs6.fr 1)
         go_meet
         exact ⟨u,x+1,rfl,⟨hs6.set1 _⟩,⟨Kv.set _ _ rfl⟩,zR,⟨by omega⟩⟩
       ·clear hK0
        have hdc:∀ W,Calls Tryz.prog 109 #[.string vs,.int .i64 1] W fun e w'=>e=.returned (.tuple #[.string (strOfNums ((S.eU (bytesOf vs) 1).getD [])),.bool (S.eU (bytesOf vs) 1).isSome])/\Below W.heap.size W w':=fun W=>zw.calls vs 1 8 (.inr ⟨rfl,rfl⟩) (by omega) W
        have abp:=Lib.hid (fun W=>kg.calls (.pointer (some ⟨s,0,none⟩)) 15 line W);rw [HVB.out] at hdc;rw [if_neg (by decide)] at sO;cases hld:S.eU acc 1 with
        | none =>
         rw [hld] at hdc;have zR:ah (S.dZ (L.drop i)=.err 15):=⟨by rw [sO.out,hld]⟩;have HDC:=Lib.hid hdc;clear hdc hld;go_upto_region 17 with (fail)
         refine dA (fun W=>∃ y:mU s src x line m w,W=y.world) (by kernel_rfl) (by kernel_rfl) ⟨⟨wc.drew,NG.out,CJ.out.drew⟩,rfl⟩ ?_;repeat (go_big_quiet_step ((rename_i y;(go_at_call 93;refine (HIB.out _).mono ?_;rintro e w' ⟨rfl,hb⟩;exact ⟨rfl,y.ret hb.below⟩))))
         refine wpQuiet_nil ?_;rintro W ⟨⟨w5,hs5,hb5⟩,rfl⟩
         go_wp2_with (first | (go_at_call 109;refine (HDC.out _).mono ?_;rintro e w6 ⟨rfl,hb6⟩;have hs6:=hs5.below hb6;have Kv:=hb5.then hb6;have e2:=hs6.c2) | (go_at_call 97;refine (abp.out _).mono ?_;rintro e w7 ⟨rfl,rfl⟩;unfold Fails))
         refine ⟨rfl,Kv,?_⟩;rw [zR.out];exact ⟨rfl,_,hs6⟩
        | some u =>
         rw [hld] at hdc;have zR:ah (S.dZ (L.drop i)=S.jR u (x+1 - i)):=⟨by rw [sO.out,hld];simp only [];rw [show kk+2 - i=x+1 - i by omega]⟩;have HDC:=Lib.hid hdc;clear hdc hld;go_upto_region 17 with (fail)
         refine dA (fun W=>∃ y:mU s src x line m w,W=y.world) (by kernel_rfl) (by kernel_rfl) ⟨⟨wc.drew,NG.out,CJ.out.drew⟩,rfl⟩ ?_;repeat (go_big_quiet_step ((rename_i y;(go_at_call 93;refine (HIB.out _).mono ?_;rintro e w' ⟨rfl,hb⟩;exact ⟨rfl,y.ret hb.below⟩))))
         refine wpQuiet_nil ?_;rintro W ⟨⟨w5,hs5,hb5⟩,rfl⟩
         go_wp2_with (go_at_call 109;refine (HDC.out _).mono ?_;rintro e w6 ⟨rfl,hb6⟩;have hs6:=hs5.below hb6;have Kv:=hb5.then hb6;have e1:=hs6.c1;have f1:=hs6.fr 1)
         go_meet
         exact ⟨u,x+1,rfl,⟨hs6.set1 _⟩,⟨Kv.set _ _ rfl⟩,zR,⟨by omega⟩⟩
      case rest =>
       obtain ⟨vv,pp,rfl,HS5,IY,zR,hip⟩:=hcut;have d2:=HS5.out.c2;obtain ⟨vz,hvz⟩:∃ vz,strOfNums vv=vz:=⟨_,rfl⟩;obtain ⟨lv,hlv⟩:∃ lv,vz.size=lv:=⟨_,rfl⟩;have hlv2:vv.length=lv:=by rw [<- hlv,<- hvz];simp [strOfNums,ByteArray.size]
       have HVZ:=ah.mk hvz;have PI:=zR;unfold S.jR at PI;rw [hlv2] at PI;rw [hvz];have aiF:=Lib.hid (kg.calls (.pointer (some ⟨s,0,none⟩)) 30 line wc);by_cases hlong:1000 < lv
       ·have e1:decide (1000 < lv)=true:=decide_eq_true hlong
        have e2:decide ((1000:Int) < (lv:Int))=true:=decide_eq_true (by omega);rw [if_pos hlong] at PI;clear hvz hlv2 hlong;go_wp2_with (go_at_call 97;refine aiF.out.mono ?_;rintro e w7 ⟨rfl,rfl⟩;unfold Fails)
        refine ⟨rfl,IY.out,?_⟩;rw [PI.out];exact ⟨rfl,_,HS5.out⟩
       have e1:decide (1000 < lv)=false:=decide_eq_false hlong;have e2:decide ((1000:Int) < (lv:Int))=false:=decide_eq_false (by omega);rw [if_neg hlong] at PI;clear hvz hlv2 hlong;go_wp2_with fail
       go_ret;refine ⟨IY.out,?_⟩;rw [PI.out];exact ⟨by rw [HVZ.out];rfl,by rw [show ((i+(pp - i):Nat):Int)=(pp:Int) by have:=hip.out;omega];exact HS5.out⟩
end Go.Proofs.YtkkpjonfaflkmaaGreatDoor.T
namespace Go.Proofs.YtkkpjonfaflkmaaGreatDoor.S
theorem eH:∀ (xs:List Int) (i d l b i' l' b':Nat),jD xs i d l b=.done i' l' b'->i < i'/\i'<=i+xs.length/\l<=l'/\l'+i<=l+i'
 | [],_,_,_,_,_,_,_=>fun h=>by cases h
 | [_],_,_,_,_,_,_,_=>fun h=>by cases h
 | c::e::t,i,d,l,b,i',l',b'=>fun h=>by
  rw [jD] at h;by_cases h1:c=47/\e=42
  ·rw [if_pos h1] at h
   have:=eH t _ _ _ _ _ _ _ h;simp only [List.length_cons];omega
  rw [if_neg h1] at h;by_cases h2:c=42/\e=47
  ·rw [if_pos h2] at h
   by_cases h3:d=1
   ·rw [if_pos h3] at h;cases h;simp only [List.length_cons];omega
   rw [if_neg h3] at h;have:=eH t _ _ _ _ _ _ _ h;simp only [List.length_cons];omega
  rw [if_neg h2] at h;have:=eH (e::t) _ _ _ _ _ _ _ h;simp only [List.length_cons] at this |-
  by_cases hc:c=10
  ·simp only [hc,if_true] at this;omega
  ·simp only [hc,if_false] at this;omega
 termination_by xs=>xs.length
theorem oO (q:Int) (P:Int->Prop) (hq:P q):∀ (xs:List Int) (i:Nat) (acc v:List Int) (j:Nat),lit q xs i acc=some (v,j)->(∀ x∈acc,P x)->(∀ x∈xs,P x)->i<=j/\j < i+xs.length/\∀ x∈v,P x
 | [],i,acc,v,j=>fun h _ _=>by cases h
 | [c],i,acc,v,j=>fun h ha _=>by
  rw [lit] at h;by_cases h1:c=10
  ·rw [if_pos h1] at h;cases h
  rw [if_neg h1] at h;by_cases h2:c=q
  ·rw [if_pos h2] at h;cases h;exact ⟨Nat.le_refl _,by simp,ha⟩
  ·rw [if_neg h2] at h;cases h
 | c::d::t,i,acc,v,j=>fun h ha hx=>by
  rw [lit] at h;by_cases h1:c=10
  ·rw [if_pos h1] at h;cases h
  rw [if_neg h1] at h;by_cases h2:c=q
  ·rw [if_pos h2] at h
   by_cases h3:d=q
   ·rw [if_pos h3] at h
    have:=oO q P hq t (i+2) (acc++[q]) v j h (fun x hx'=>by
     rcases List.mem_append.1 hx' with e | e
     ·exact ha x e
     ·rw [List.mem_singleton.1 e];exact hq) (fun x e=>hx x (by simp [e]))
    simp only [List.length_cons];exact ⟨by omega,by omega,this.2.2⟩
   ·rw [if_neg h3] at h;cases h;exact ⟨Nat.le_refl _,by simp only [List.length_cons];omega,ha⟩
  rw [if_neg h2] at h;have:=oO q P hq (d::t) (i+1) (acc++[c]) v j h (fun x hx'=>by
   rcases List.mem_append.1 hx' with e | e
   ·exact ha x e
   ·rw [List.mem_singleton.1 e];exact hx c (by simp)) (fun x e=>hx x (by simp only [List.mem_cons] at e |-;exact .inr e))
  simp only [List.length_cons] at this |-
  exact ⟨by omega,by omega,this.2.2⟩
 termination_by xs=>xs.length
theorem Br (base:Int) (w:Nat):∀ (k:Nat) (xs v:List Int),lK base w k xs=some v->∀ x∈v,iT x=true
 | 0,xs,v,h=>by cases h;simp
 | k+1,xs,v,h=>by
  rw [lK] at h;cases hg:su base (xs.take w) 0 with
  | none=>rw [hg] at h;cases h
  | some n =>
   rw [hg] at h;simp only at h;by_cases hp:iT n=true
   rotate_left
   ·rw [if_neg hp] at h;cases h
   rw [if_pos hp] at h;cases hr:lK base w k (xs.drop w) with
   | none=>rw [hr] at h;cases h
   | some u =>
    rw [hr] at h;simp only [Option.map_some,Option.some.injEq] at h;subst h;intro x hx
    rcases List.mem_cons.1 hx with rfl | hx
    ·exact hp
    ·exact Br base w k _ u hr x hx
theorem RY {x:Int} (h:iT x=true):0<=x/\x < 256:=by
 simp only [iT,Bool.and_eq_true,decide_eq_true_eq] at h;omega
theorem Fe {v u:List Int} {sx:Nat} (h:eU v sx=some u):∀ x∈u,0<=x/\x < 256:=by
 have key:∀ (b:Int) (w:Nat),decode b w v=some u->∀ x∈u,0<=x/\x < 256:=by
  intro b w h x hx
  unfold decode at h;by_cases hm:v.length % w≠0
  ·rw [if_pos hm] at h;cases h
  ·rw [if_neg hm] at h;exact RY (Br _ _ _ _ _ h x hx)
 unfold eU at h;by_cases hs:sx=4
 ·rw [if_pos hs] at h;exact key _ _ h
 ·rw [if_neg hs] at h;exact key _ _ h
theorem oF {v t:List Int} {n m:Nat} (h:jR v n=.ok t m):t=v/\m=n:=by
 unfold jR at h;by_cases hv:1000 < v.length
 ·rw [if_pos hv] at h;cases h
 ·rw [if_neg hv] at h;cases h;exact ⟨rfl,rfl⟩
theorem PK {xs t:List Int} {n:Nat} (hb:∀ x∈xs,0<=x/\x < 256) (h:dZ xs=.ok t n):1<=n/\n<=xs.length/\∀ x∈t,0<=x/\x < 256:=by
 rcases xs with _ | ⟨q,r⟩
 ·cases h
 simp only [dZ] at h;cases hl:lit q r 1 [] with
 | none=>rw [hl] at h;cases h
 | some p =>
  obtain ⟨v,i⟩:=p;rw [hl] at h;simp only at h;obtain ⟨b1,b2,b3⟩:=oO q (fun x=>0<=x/\x < 256) (hb q (by simp)) r 1 [] v i hl (by simp) (fun x e=>hb x (by simp [e]));by_cases hp:v.all iT=true
  rotate_left
  ·rw [if_neg hp] at h;cases h
  rw [if_pos hp] at h;by_cases hs:sfx ((q::r).drop (i+1))=0
  ·rw [if_pos hs] at h
   obtain ⟨rfl,rfl⟩:=oF h;exact ⟨by omega,by simp only [List.length_cons];omega,b3⟩
  rw [if_neg hs] at h;have hlen:i+2<=(q::r).length:=by
   have:0 < ((q::r).drop (i+1)).length:=by
    rcases hd:(q::r).drop (i+1) with _ | ⟨a,b⟩
    ·rw [hd] at hs;exact absurd rfl hs
    ·simp
   rw [List.length_drop] at this;omega
  cases hd:eU v (sfx ((q::r).drop (i+1))) with
  | none=>rw [hd] at h;cases h
  | some u =>
   rw [hd] at h;obtain ⟨rfl,rfl⟩:=oF h;exact ⟨by omega,hlen,Fe hd⟩
theorem wO (p:Int->Bool):∀ l:List Int,run p l<=l.length
 | []=>Nat.le_refl _
 | c::t=>by
  unfold run;by_cases h:p c=true
  ·rw [if_pos h];simpa using wO p t
  ·rw [if_neg h];exact Nat.zero_le _
theorem WV {x:Int} (h:0<=x/\x < 256):0<=up x/\up x < 256:=by
 unfold up;by_cases hc:97<=x/\x<=122
 ·rw [if_pos hc];omega
 ·rw [if_neg hc];exact h
theorem PL {c:Int} {r t:List Int} {n:Nat} (hb:∀ x∈c::r,0<=x/\x < 256) (hc:sym c=true) (h:iH (c::r)=.ok t n):1<=n/\n<=(c::r).length/\∀ x∈t,0<=x/\x < 256:=by
 unfold iH at h;by_cases h4:40 < dH (c::r)
 ·rw [if_pos h4] at h;cases h
 rw [if_neg h4] at h;cases h
 have hr:=wO sym (c::r);have h1:1<=run sym (c::r):=by unfold run;rw [if_pos hc];omega
 refine ⟨?_,?_,fun x hx=>?_⟩
 ·unfold dH
  split<;>omega
 ·unfold dH
  split
  ·rename_i hm
   have hd:=wO kH ((c::r).drop (run sym (c::r)+1));rw [List.length_drop] at hd;have hx:run sym (c::r)+1<=(c::r).length:=by
    rcases hq:(c::r).drop (run sym (c::r)) with _ | ⟨a,b⟩
    ·rw [hq] at hm;exact absurd hm.2 (by simp [nI])
    ·have:((c::r).drop (run sym (c::r))).length=(a::b).length:=by rw [hq]
     rw [List.length_drop] at this;have h2:0 < (a::b).length:=by simp
     omega
   omega
  ·exact hr
 ·obtain ⟨y,hy,rfl⟩:=List.mem_map.1 hx
  exact WV (hb y (List.mem_of_mem_take hy))
theorem RZ:∀ l∈signs,1<=l.length/\∀ x∈l,0<=x/\x < 256:=by decide
theorem vK:∀ (a b:List Int),a.isPrefixOf b=true->a.length<=b.length
 | [],b,_=>Nat.zero_le _
 | _::_,[],h=>by cases h
 | x::a,y::b,h=>by
  simp only [List.isPrefixOf,Bool.and_eq_true] at h;have:=vK a b h.2;simp only [List.length_cons];omega
theorem Lm {xs t:List Int} {n:Nat} (h:gJ xs=.ok t n):1<=n/\n<=xs.length/\∀ x∈t,0<=x/\x < 256:=by
 unfold gJ at h;cases hf:signs.find? (fun x=>x.isPrefixOf xs) with
 | none=>rw [hf] at h;cases h
 | some l =>
  rw [hf] at h;simp only [TR.ok.injEq] at h;obtain ⟨rfl,rfl⟩:=h;obtain ⟨h1,h2⟩:=RZ l (List.mem_of_find?_eq_some hf);exact ⟨h1,vK _ _ (by simpa using List.find?_some hf),h2⟩
theorem iM {k k' n:Nat} {t:List Int} {r:TR} (h:gK k r=.tok k' t n):k'=k/\r=.ok t n:=by
 cases r with
 | err c=>cases h
 | ok t' n'=>cases h;exact ⟨rfl,rfl⟩
theorem vL {r:CR} {k n:Nat} {t:List Int} (h:gX r=.tok k t n):False:=by
 cases r with
 | eof=>cases h
 | done i l b=>unfold gX at h;by_cases hb:b=0<;>simp [hb] at h
theorem kR {xs t:List Int} {k n:Nat} (hb:∀ x∈xs,0<=x/\x < 256) (h:step xs=.tok k t n):1<=n/\n<=xs.length/\(∀ x∈t,0<=x/\x < 256)/\1<=k/\k<=3:=by
 rcases xs with _ | ⟨c,r⟩
 ·cases h
 simp only [step] at h;by_cases h1:c=10
 ·rw [if_pos h1] at h;cases h
 rw [if_neg h1] at h;by_cases h2:c=32
 ·rw [if_pos h2] at h;cases h
 rw [if_neg h2] at h;by_cases h3:dQ (c::r)=true
 ·rw [if_pos h3] at h;exact (vL h).elim
 rw [if_neg h3] at h;by_cases h4:c=39\/c=34
 ·rw [if_pos h4] at h
  obtain ⟨rfl,hr⟩:=iM h;obtain ⟨a,b,d⟩:=PK hb hr;exact ⟨a,b,d,by omega,by omega⟩
 rw [if_neg h4] at h;by_cases h5:sym c=true
 ·rw [if_pos h5] at h
  obtain ⟨rfl,hr⟩:=iM h;obtain ⟨a,b,d⟩:=PL hb h5 hr;exact ⟨a,b,d,by omega,by omega⟩
 rw [if_neg h5] at h;obtain ⟨rfl,hr⟩:=iM h;obtain ⟨a,b,d⟩:=Lm hr;exact ⟨a,b,d,by omega,by omega⟩
theorem sP {xs:List Int} {n dl:Nat} (h:step xs=.jD n dl):1<=n/\n<=xs.length/\dl<=n:=by
 rcases xs with _ | ⟨c,r⟩
 ·cases h
 simp only [step] at h;have key:∀ k R,gK k R≠.jD n dl:=fun k R e=>by cases R<;>cases e
 by_cases h1:c=10
 ·rw [if_pos h1] at h;cases h
 rw [if_neg h1] at h;by_cases h2:c=32
 ·rw [if_pos h2] at h;cases h
 rw [if_neg h2] at h;by_cases h3:dQ (c::r)=true
 ·rw [if_pos h3] at h
  cases hR:jD (c::r) 0 0 1 0 with
  | eof=>rw [hR] at h;cases h
  | done i l b =>
   rw [hR] at h;simp only [gX] at h;by_cases hb:b=0
   ·rw [if_pos hb] at h
    cases h
    have:=eH _ _ _ _ _ _ _ _ hR;omega
   ·rw [if_neg hb] at h;cases h
 rw [if_neg h3] at h;by_cases h4:c=39\/c=34
 ·rw [if_pos h4] at h;exact (key _ _ h).elim
 rw [if_neg h4] at h;by_cases h5:sym c=true
 ·rw [if_pos h5] at h;exact (key _ _ h).elim
 rw [if_neg h5] at h;exact (key _ _ h).elim
theorem qm {xs:List Int} (h:step xs≠.fin):1<=xs.length:=by
 rcases xs with _ | ⟨c,r⟩
 ·exact absurd rfl h
 ·simp
def Da (q:Int) (l:List Int):List Int:=l.flatMap fun c=>if c=q then [q,q] else [c]
def wh (l:List Int):Int:=if l.count 34 < l.count 39 then 34 else 39
def quote (l:List Int):List Int:=wh l::(Da (wh l) l++[wh l])
theorem Fg (l:List Int):wh l=34\/wh l=39:=by unfold wh;split;exact .inl rfl;exact .inr rfl
theorem wP (q c:Int) (l:List Int):Da q (c::l)=(if c=q then [q,q] else [c])++Da q l:=rfl
theorem WW {q:Int} {P:Int->Prop} (hq:P q) {l:List Int} (h:∀ x∈l,P x):∀ x∈Da q l,P x:=by
 intro x hx
 obtain ⟨c,hc,hx⟩:=List.mem_flatMap.1 hx;by_cases e:c=q
 ·rw [if_pos e] at hx
  simp only [List.mem_cons,List.not_mem_nil,or_false,or_self] at hx;rw [hx];exact hq
 rw [if_neg e] at hx;rw [List.mem_singleton.1 hx];exact h c hc
theorem vM (q:Int):∀ l:List Int,(Da q l).length=l.length+l.count q
 | []=>rfl
 | c::l=>by
  rw [wP,List.length_append,vM q l,List.length_cons,List.count_cons];by_cases e:c=q
  ·rw [if_pos e,if_pos (by simpa using e)];simp;omega
  ·rw [if_neg e,if_neg (by simpa using e)];simp;omega
theorem qH (l:List Int):(quote l).length=l.length+l.count (wh l)+2:=by
 unfold quote;rw [List.length_cons,List.length_append,vM];simp
theorem pQ {l:List Int} (h:∀ x∈l,0<=x/\x < 256):∀ x∈quote l,0<=x/\x < 256:=by
 have hq:0<=wh l/\wh l < 256:=by rcases Fg l with e | e<;>rw [e]<;>omega
 intro x hx
 unfold quote at hx;rcases List.mem_cons.1 hx with e | e
 ·rw [e];exact hq
 ·rcases List.mem_append.1 e with e | e
  ·exact WW hq h x e
  ·rw [List.mem_singleton.1 e];exact hq
end Go.Proofs.YtkkpjonfaflkmaaGreatDoor.S
namespace Go.Proofs.YtkkpjonfaflkmaaGreatDoor.T
open Go.RowKit Go.Proofs.aj.aI Go.Proofs.aj.aY Go.Proofs.aj.bq
theorem Sb (q:UInt8) (t:List UInt8):Lib.index (q::t) [q]=0:=by simp [Lib.index]
theorem PO (q b:UInt8) (t:List UInt8) (h:b≠q):Lib.index (b::t) [q]=if Lib.index t [q]==-1 then -1 else Lib.index t [q]+1:=by
 rw [Lib.index,if_neg];simp
 exact fun e=>h e.symm
theorem PS (q:UInt8) (v:List UInt8) (b:UInt8) (t:List UInt8) (h:b≠q):∀ k,Lib.replaceK [q] v k (b::t)=b::Lib.replaceK [q] v k t
 | 0=>rfl
 | k+1=>by
  have hg:=Lib.index_ge t [q];rw [Lib.replaceK,Lib.replaceK,PO q b t h];by_cases e:Lib.index t [q]=-1
  ·rw [e];rfl
  obtain ⟨i,hi⟩:∃ i:Nat,Lib.index t [q]=i:=⟨(Lib.index t [q]).toNat,by omega⟩;have c1:((i:Int)==-1)=false:=beq_eq_false_iff_ne.mpr (by omega);have c2:((i:Int)+1==-1)=false:=beq_eq_false_iff_ne.mpr (by omega);rw [hi];simp only [c1,Bool.false_eq_true,if_false,c2];rw [show ((i:Int)+1).toNat=i+1 by omega,Int.toNat_natCast,show i+1+[q].length=(i+[q].length)+1 by simp];rfl
theorem Fh (q:UInt8):∀ l:List UInt8,Lib.replaceK [q] [q,q] (l.count q) l=l.flatMap fun c=>if c=q then [q,q] else [c]
 | []=>rfl
 | b::t=>by
  by_cases h:b=q
  ·subst h
   rw [List.count_cons_self,Lib.replaceK_hit [b] [b,b] (t.count b) (b::t) 0 (Sb b t)];simp only [List.take_zero,List.nil_append,List.length_cons,List.length_nil,List.drop_succ_cons,List.drop_zero,List.flatMap_cons,if_true];rw [Fh b t]
  ·rw [List.count_cons_of_ne (fun e=>h e),PS q _ b t h,Fh q t,List.flatMap_cons,if_neg h];rfl
theorem wQ (q:UInt8) (l:List UInt8):Lib.replaceAll l [q] [q,q]=l.flatMap fun c=>if c=q then [q,q] else [c]:=by
 rw [Lib.replaceAll,Lib.replace,if_neg (by simp),Lib.replaceNum,if_pos (.inl (by decide)),Lib.count_one];exact Fh q l
theorem IZ (q:UInt8) (l:List UInt8):nums (l.flatMap fun c=>if c=q then [q,q] else [c])=S.Da (q.toNat:Int) (nums l):=by
 induction l with
 | nil=>rfl
 | cons b t ih =>
  rw [List.flatMap_cons];have:nums (b::t)=(b.toNat:Int)::nums t:=rfl;rw [this,S.wP,<- ih];by_cases h:b=q
  ·subst h;rw [if_pos rfl,if_pos rfl];rfl
  ·rw [if_neg h,if_neg (fun e=>h (EX e))];rfl
def gZ.f (a0:ByteArray):Option ByteArray:=if a0.size<=20000 then some (strOfNums (S.quote (bytesOf a0))) else none
theorem Lp (a0:ByteArray) (c:UInt8):Lib.countB a0 ⟨#[c]⟩=a0.data.toList.count c:=by
 unfold Lib.countB;exact Lib.count_one c _
theorem WX {a0:ByteArray} {q:UInt8} (hq:(q.toNat:Int)=S.wh (bytesOf a0)) :
  ((⟨#[q]⟩:ByteArray)++(⟨(Lib.replaceAll a0.data.toList [q] [q,q]).toArray⟩:ByteArray))++(⟨#[q]⟩:ByteArray)=strOfNums (S.quote (bytesOf a0)):=by
 apply pO
 rw [bW _ (S.pQ (eG a0)),oL,oL,wQ];unfold S.quote;rw [<- hq];have e1:bytesOf (⟨#[q]⟩:ByteArray)=[(q.toNat:Int)]:=rfl;have e2:bytesOf (⟨(a0.data.toList.flatMap fun c=>if c=q then [q,q] else [c]).toArray⟩:ByteArray)=S.Da (q.toNat:Int) (bytesOf a0):=by
  rw [gY,gY,<- IZ]
 rw [e1,e2];rfl
set_option maxRecDepth 100000 in
set_option maxHeartbeats 4000000 in
theorem gZ.calls (a0:ByteArray) (r:ByteArray) (w:World) (hT:dR w) (h:gZ.f a0=some r) :
  Calls Tryz.prog 66 #[.string a0] w fun e w'=>e=.returned (.string r)/\Below w.heap.size w w':=by
 unfold gZ.f at h;by_cases hs:a0.size<=20000
 rotate_left
 ·rw [if_neg hs] at h;cases h
 rw [if_pos hs] at h;obtain rfl:=Option.some.inj h;have hcl:∀ c:UInt8,a0.data.toList.count c<=a0.size:=fun c=>by rw [<- jQ];exact List.count_le_length
 have EG:=strings_Count.calls a0 ⟨#[34]⟩ _ w rfl;have qo:=fun q=>strings_Count.calls a0 ⟨#[39]⟩ _ (World.drewN w q) rfl
 have hq1:(bytesOf a0).count 34=a0.data.toList.count 34:=by rw [gY];exact vH _ 34
 have hq2:(bytesOf a0).count 39=a0.data.toList.count 39:=by rw [gY];exact vH _ 39
 have cb1:Lib.countByte a0.data.toList 34=((bytesOf a0).count 34:Int):=by rw [hq1];rfl
 have cb2:Lib.countByte a0.data.toList 39=((bytesOf a0).count 39:Int):=by rw [hq2];rfl
 rw [cb1] at EG;rw [cb2] at qo;obtain ⟨x,hx⟩:∃ x,(bytesOf a0).count 34=x:=⟨_,rfl⟩;obtain ⟨y,hy⟩:∃ y,(bytesOf a0).count 39=y:=⟨_,rfl⟩;rw [hx] at EG;rw [hy] at qo;have HD1:=Lib.hid EG;have HD2:=Lib.hid qo;have HT:=ah.mk hT;have hcb:∀ c:UInt8,Lib.countB a0 ⟨#[c]⟩<=20000:=fun c=>by rw [Lp];have:=hcl c;omega
 have key:∀ q:UInt8,(q.toNat:Int)=S.wh (bytesOf a0)->∃ R:ByteArray,R.size<=100000/\((⟨#[q]⟩:ByteArray)++R)++(⟨#[q]⟩:ByteArray)=strOfNums (S.quote (bytesOf a0))/\∀ W,dR W->Calls Tryz.prog 105 #[.string a0,.string ⟨#[q]⟩,.string ((⟨#[q]⟩:ByteArray)++(⟨#[q]⟩:ByteArray))] W fun e w'=>e=.returned (.string R)/\Below W.heap.size W w':=fun q hq=>by
  refine ⟨⟨(Lib.replaceAll a0.data.toList [q] [q,q]).toArray⟩,?_,WX hq,fun W hW=>strings_ReplaceAll.calls _ _ _ _ W hW ?_⟩
  ·rw [wQ]
   have e:(a0.data.toList.flatMap fun c=>if c=q then [q,q] else [c]).length=(nums (a0.data.toList.flatMap fun c=>if c=q then [q,q] else [c])).length:=by simp [nums]
   show (List.toArray _).size<=_
   rw [List.size_toArray,e,IZ,S.vM];have h1:(nums a0.data.toList).count (q.toNat:Int)<=(nums a0.data.toList).length:=List.count_le_length;have h2:(nums a0.data.toList).length=a0.size:=by simp only [nums,List.length_map];exact jQ a0
   omega
  ·have e:((⟨#[q]⟩:ByteArray)++(⟨#[q]⟩:ByteArray))=⟨#[q,q]⟩:=by apply pO;rw [oL];rfl
   rw [e];unfold strings_ReplaceAll.f;have h1:(⟨#[q,q]⟩:ByteArray).size=2:=rfl;have h2:(⟨#[q]⟩:ByteArray).size=1:=rfl;have:=hcb q;rw [if_pos ⟨by omega,by rw [h2];exact Nat.le_refl _,by rw [h1];omega⟩]
 clear hT EG qo hcl hq1 hq2 cb1 cb2 hcb hs;have HX:ah (S.wh (bytesOf a0)=if x < y then 34 else 39):=⟨by unfold S.wh;rw [hx,hy]⟩;clear hx hy;generalize strOfNums (S.quote (bytesOf a0))=res at *;by_cases hlt:x < y
 ·have g1:decide ((x:Int) < (y:Int))=true:=decide_eq_true (by omega)
  have g2:decide (x < y)=true:=decide_eq_true hlt;obtain ⟨R,hR,hRe,hRc⟩:=key 34 (by rw [HX.out,if_pos hlt];rfl);have HR:=Lib.hid hRc;have HRE:=ah.mk hRe;clear key hRc hRe hlt HX;have z1:(9223372036854775807 < 1+R.size)=False:=eq_false (by omega);have z2:(1+R.size<=9223372036854775807)=True:=eq_true (by omega);have hsz:((⟨#[34]⟩:ByteArray)++R).size=1+R.size:=by rw [ByteArray.size_append];rfl
  have z3:(9223372036854775807 < ((⟨#[34]⟩:ByteArray)++R).size+1)=False:=eq_false (by omega);have z4:(((⟨#[34]⟩:ByteArray)++R).size+1<=9223372036854775807)=True:=eq_true (by omega);clear hsz;go_enter Tryz.func66,Tryz.ntmps66
  go_wp2_with (first | (go_at_call 77;with_reducible refine HD1.out.mono ?_;rintro e w' ⟨rfl,⟨⟨q,rfl⟩⟩⟩) | (go_at_call 77;with_reducible refine (HD2.out _).mono ?_;rintro e w' ⟨rfl,⟨⟨q2,rfl⟩⟩⟩) | (go_at_call 105;refine (HR.out _ (HT.out.of_below (ak (Below.refl _ _) _))).mono ?_;rintro e w3 ⟨rfl,hb3⟩))
  rw [HRE.out];go_ret;have hb4:Below w.heap.size w (w.drewN (q+q2)):=ak (Below.refl _ _) _;exact ⟨rfl,hb4.trans hb3⟩
 have g1:decide ((x:Int) < (y:Int))=false:=decide_eq_false (by omega);have g2:decide (x < y)=false:=decide_eq_false hlt;obtain ⟨R,hR,hRe,hRc⟩:=key 39 (by rw [HX.out,if_neg hlt];rfl);have HR:=Lib.hid hRc;have HRE:=ah.mk hRe;clear key hRc hRe hlt HX;have z1:(9223372036854775807 < 1+R.size)=False:=eq_false (by omega);have z2:(1+R.size<=9223372036854775807)=True:=eq_true (by omega);have hsz:((⟨#[39]⟩:ByteArray)++R).size=1+R.size:=by rw [ByteArray.size_append];rfl
 have z3:(9223372036854775807 < ((⟨#[39]⟩:ByteArray)++R).size+1)=False:=eq_false (by omega);have z4:(((⟨#[39]⟩:ByteArray)++R).size+1<=9223372036854775807)=True:=eq_true (by omega);clear hsz;go_enter Tryz.func66,Tryz.ntmps66
 go_wp2_with (first | (go_at_call 77;with_reducible refine HD1.out.mono ?_;rintro e w' ⟨rfl,⟨⟨q,rfl⟩⟩⟩) | (go_at_call 77;with_reducible refine (HD2.out _).mono ?_;rintro e w' ⟨rfl,⟨⟨q2,rfl⟩⟩⟩) | (go_at_call 105;refine (HR.out _ (HT.out.of_below (ak (Below.refl _ _) _))).mono ?_;rintro e w3 ⟨rfl,hb3⟩))
 rw [HRE.out];go_ret;have hb4:Below w.heap.size w (w.drewN (q+q2)):=ak (Below.refl _ _) _;exact ⟨rfl,hb4.trans hb3⟩
end Go.Proofs.YtkkpjonfaflkmaaGreatDoor.T
namespace Go.Proofs.YtkkpjonfaflkmaaGreatDoor.T
open Go.RowKit Go.Proofs.aj.aI Go.Proofs.aj.aY Go.Proofs.aj.bq
attribute [local go_sem] eY eZ gH gI dV dW fq fu
def fH.j0:Nat->ByteArray->Int->Bool->Option (Int)
 | 0,_,_,_=>none
 | k+1,x0,x3,x6=>if x6=true then (some 1) else (if x3=0 then (some 2) else (if x3=1 then (if 0<=(wrap64 ((x0.size:Int) - 1)) then (if (wrap64 ((x0.size:Int) - 1)) < (x0.size:Int) then (if (bt x0 (wrap64 ((x0.size:Int) - 1)))=46 then (some 3) else (some 4)) else (none)) else (none)) else (some 4)))
def fH.f (k:Nat) (a0:ByteArray):Option (Int):=(strings_Count.f a0 (⟨#[46]⟩:ByteArray)).bind fun pz=>(if 0 < (a0.size:Int) then ((gQ.f (bt a0 0)).bind fun Ja=>(if Ja=true then (fH.j0 k a0 pz true) else (fH.j0 k a0 pz ((bt a0 0)==46)))) else (none))
set_option maxHeartbeats 8000000 in
set_option maxRecDepth 100000 in
theorem fH.calls (k:Nat) (a0:ByteArray) (r:Int) (w:World) (h:fH.f k a0=some r) :
  Calls Tryz.prog 57 #[.string a0] w fun e w'=>e=.returned (.int .i64 r)/\aG w w':=by
 have H:((strings_Count.f a0 (⟨#[46]⟩:ByteArray)).bind fun pz=>(if 0 < (a0.size:Int) then ((gQ.f (bt a0 0)).bind fun Ja=>(if Ja=true then (fH.j0 k a0 pz true) else (fH.j0 k a0 pz ((bt a0 0)==46)))) else (none)))=some r:=h;clear h;replace H:=Option.bind_eq_some_iff.mp H;obtain ⟨pz,EY,H⟩:=H;replace H:(if 0 < (a0.size:Int) then ((gQ.f (bt a0 0)).bind fun Ja=>(if Ja=true then (fH.j0 k a0 pz true) else (fH.j0 k a0 pz ((bt a0 0)==46)))) else (none))=some r:=H;have A2:=ah.mk EY;clear EY;have Sd:=ah.mk H;clear H;go_enter Tryz.func57,Tryz.ntmps57
 go_upto_region 2 with (first | ((with_reducible refine aQ (f:=77) rfl ?_);refine bL (some 5) rfl rfl Tryz.func77 (by kernel_rfl) rfl #[.string a0,.string (⟨#[46]⟩:ByteArray)] rfl (by (try simp only [List.map_toArray,List.map_cons,List.map_nil]);first | done | rfl) ?_;(with_reducible refine (strings_Count.calls a0 (⟨#[46]⟩:ByteArray) pz _ A2.out).mono ?_);rintro e w' ⟨rfl,⟨nd,rfl⟩⟩;refine ⟨_,rfl,?_⟩))
 (try simp only [Act.put,sArr,sZer,sSuc])
 go_cut [6] (fun v6 wc=>∃ (kq:Nat) (WY:Bool),v6=.bool WY/\ah (fH.j0 kq a0 pz WY=some r)/\ah (kq<=k)/\aG w wc)
 case first =>
  have H:=Sd.out;clear Sd;by_cases c4:0 < (a0.size:Int)
  rotate_left
  ·rw [if_neg c4] at H
   exact absurd H (by simp)
  rw [if_pos c4] at H;have kP:decide (0 < (a0.size:Int))=true:=decide_eq_true c4;have CW:decide (0 < a0.size)=true:=decide_eq_true (by omega);clear c4
  (first | rw [kP] | (simp only [dK,fM];rw [kP]) | skip)
  replace H:=Option.bind_eq_some_iff.mp H;obtain ⟨Ja,A60,H⟩:=H;replace H:(if Ja=true then (fH.j0 k a0 pz true) else (fH.j0 k a0 pz ((bt a0 0)==46)))=some r:=H;have A6:=ah.mk A60;clear A60;by_cases c7:Ja=true
  ·subst c7
   rw [if_pos rfl] at H;have H':=ah.mk H;clear H;have p5:0<=(0:Int):=(by omega);have q5:0 < a0.size:=(by have:(0:Int) < (a0.size:Int):=of_decide_eq_true (by with_reducible assumption);omega);have hx5:∀ h:0 < a0.size,((a0[0]'h).toNat:Int)=bt a0 0:=dJ a0 0;clear p5;have qi5:(0 < (a0.size:Int))=True:=eq_true (of_decide_eq_true (by with_reducible assumption));replace q5:=eq_true q5;go_wp2_with (first | ((with_reducible refine aQ (f:=96) rfl ?_);refine bL (some 9) rfl rfl Tryz.func96 (by kernel_rfl) rfl #[.int .u8 (bt a0 0)] rfl (by (try simp only [List.map_toArray,List.map_cons,List.map_nil]);first | done | rfl) ?_;(with_reducible refine (gQ.calls (bt a0 0) true _ A6.out).mono ?_);rintro e w' ⟨rfl,⟨nd,rfl⟩⟩;refine ⟨_,rfl,?_⟩))
   go_meet
   case rel=>exact ⟨_,(true),(by first | rfl | (simp;done) | (simp [*];done)),H',⟨by first | omega | exact Nat.le_refl _⟩,by repeat (first | exact aG.refl _ | apply aG.step)⟩
  replace c7:=Bool.eq_false_iff.mpr c7;subst c7;rw [if_neg (show ¬ (false=true) by decide)] at H;have H':=ah.mk H;clear H;have p5:0<=(0:Int):=(by omega);have q5:0 < a0.size:=(by have:(0:Int) < (a0.size:Int):=of_decide_eq_true (by with_reducible assumption);omega);have hx5:∀ h:0 < a0.size,((a0[0]'h).toNat:Int)=bt a0 0:=dJ a0 0;clear p5;have qi5:(0 < (a0.size:Int))=True:=eq_true (of_decide_eq_true (by with_reducible assumption));replace q5:=eq_true q5;go_wp2_with (first | ((with_reducible refine aQ (f:=96) rfl ?_);refine bL (some 9) rfl rfl Tryz.func96 (by kernel_rfl) rfl #[.int .u8 (bt a0 0)] rfl (by (try simp only [List.map_toArray,List.map_cons,List.map_nil]);first | done | rfl) ?_;(with_reducible refine (gQ.calls (bt a0 0) false _ A6.out).mono ?_);rintro e w' ⟨rfl,⟨nd,rfl⟩⟩;refine ⟨_,rfl,?_⟩;have p8:0<=(0:Int):=(by omega);have q8:0 < a0.size:=(by have:(0:Int) < (a0.size:Int):=of_decide_eq_true (by with_reducible assumption);omega);have hx8:∀ h:0 < a0.size,((a0[0]'h).toNat:Int)=bt a0 0:=dJ a0 0;clear p8;have qi8:(0 < (a0.size:Int))=True:=eq_true (of_decide_eq_true (by with_reducible assumption));replace q8:=eq_true q8))
  go_meet
  case rel=>exact ⟨_,(((bt a0 0)==46)),(by first | rfl | (simp;done) | (simp [*];done)),H',⟨by first | omega | exact Nat.le_refl _⟩,by repeat (first | exact aG.refl _ | apply aG.step)⟩
 case rest =>
  clear Sd;obtain ⟨kq,WY,rfl,HA,HJ2,⟨mc2,rfl⟩⟩:=hcut;cases kq with
  | zero=>exact absurd HA.out (by simp [fH.j0])
  | succ yA =>
   have H:=HA.out;clear HA;simp only [fH.j0] at H;by_cases c9:WY=true
   ·subst c9
    rw [if_pos rfl] at H;obtain rfl:=Option.some.inj H;go_wp2;go_ret;exact ⟨by first | rfl | (simp;done) | (simp [*];done),by repeat (first | exact aG.refl _ | apply aG.step)⟩
   replace c9:=Bool.eq_false_iff.mpr c9;subst c9;rw [if_neg (show ¬ (false=true) by decide)] at H;by_cases c10:pz=0
   ·rw [if_pos c10] at H
    have sN:(pz==0)=true:=beq_iff_eq.mpr c10;have Jb:(pz != 0)=false:=bne_eq_false_iff_eq.mpr c10;clear c10;obtain rfl:=Option.some.inj H;go_wp2;go_ret;exact ⟨by first | rfl | (simp;done) | (simp [*];done),by repeat (first | exact aG.refl _ | apply aG.step)⟩
   rw [if_neg c10] at H;have sN:(pz==0)=false:=beq_eq_false_iff_ne.mpr c10;have Jb:(pz != 0)=true:=bne_iff_ne.mpr c10;by_cases c11:pz=1
   rotate_left
   ·rw [if_neg c11] at H
    have Bg:(pz==1)=false:=beq_eq_false_iff_ne.mpr c11;have Sg:(pz != 1)=true:=bne_iff_ne.mpr c11;obtain rfl:=Option.some.inj H;go_wp2;go_ret;exact ⟨by first | rfl | (simp;done) | (simp [*];done),by repeat (first | exact aG.refl _ | apply aG.step)⟩
   rw [if_pos c11] at H;have Bg:(pz==1)=true:=beq_iff_eq.mpr c11;have Sg:(pz != 1)=false:=bne_eq_false_iff_eq.mpr c11;clear c11;obtain ⟨qI,Jc⟩:∃ j_:Int,(wrap64 ((a0.size:Int) - 1))=j_:=⟨_,rfl⟩;replace H:(if 0<=(qI) then (if (qI) < (a0.size:Int) then (if (bt a0 (qI))=46 then (some 3) else (some 4)) else (none)) else (none))=some r:=by first | (rw [Jc] at H;exact H) | (simp only [Jc] at H |-;exact H)
   have aiG:(IntKind.i64.wrap ((a0.size:Int) - 1))=qI:=(dK _).trans Jc;by_cases c13:0<=(qI)
   rotate_left
   ·rw [if_neg c13] at H
    exact absurd H (by simp)
   rw [if_pos c13] at H;have wR:decide (0<=(qI))=true:=decide_eq_true c13;clear c13;by_cases c14:(qI) < (a0.size:Int)
   rotate_left
   ·rw [if_neg c14] at H
    exact absurd H (by simp)
   rw [if_pos c14] at H;have wJ:decide ((qI) < (a0.size:Int))=true:=decide_eq_true c14;clear c14;by_cases c16:(bt a0 (qI))=46
   ·rw [if_pos c16] at H
    have sM:((bt a0 (qI))==46)=true:=beq_iff_eq.mpr c16;have NH:((bt a0 (qI)) != 46)=false:=bne_eq_false_iff_eq.mpr c16;clear c16;obtain rfl:=Option.some.inj H;have p15:0<=((qI):Int):=of_decide_eq_true (by with_reducible assumption);have q15:(qI) < (a0.size:Int):=of_decide_eq_true (by with_reducible assumption);have aiH:=dJ a0 (qI);replace p15:=eq_true p15;replace q15:=eq_true q15;go_wp2;go_ret;exact ⟨by first | rfl | (simp;done) | (simp only [<- Jc]<;>(first | rfl | simp)) | (simp [*];done),by repeat (first | exact aG.refl _ | apply aG.step)⟩
   rw [if_neg c16] at H;have sM:((bt a0 (qI))==46)=false:=beq_eq_false_iff_ne.mpr c16;have NH:((bt a0 (qI)) != 46)=true:=bne_iff_ne.mpr c16;obtain rfl:=Option.some.inj H;have p15:0<=((qI):Int):=of_decide_eq_true (by with_reducible assumption);have q15:(qI) < (a0.size:Int):=of_decide_eq_true (by with_reducible assumption);have aiH:=dJ a0 (qI);replace p15:=eq_true p15;replace q15:=eq_true q15;go_wp2;go_ret;exact ⟨by first | rfl | (simp;done) | (simp only [<- Jc]<;>(first | rfl | simp)) | (simp [*];done),by repeat (first | exact aG.refl _ | apply aG.step)⟩
end Go.Proofs.YtkkpjonfaflkmaaGreatDoor.T
namespace Go.Proofs.YtkkpjonfaflkmaaGreatDoor.T
open Go.RowKit Go.Proofs.aj.aI Go.Proofs.aj.aY Go.Proofs.aj.bq
def Lr (a0:ByteArray):S.TR->Option (ByteArray × Int × Int)
 | .err _=>none
 | .ok t n=>if n < a0.size then some (⟨#[]⟩,0,4) else (fH.f 2 (strOfNums t)).map fun k=>(strOfNums t,k,0)
def iN.f (a0:ByteArray):Option (ByteArray × Int × Int) :=
 if a0.size=0\/40 < a0.size\/S.sym (bt a0 0)=false then some (⟨#[]⟩,0,4) else Lr a0 (S.iH (bytesOf a0))
set_option maxRecDepth 100000 in
set_option maxHeartbeats 4000000 in
theorem iN.calls (a0:ByteArray) (r1:ByteArray) (r2 r3:Int) (w:World) (h:iN.f a0=some (r1,r2,r3)) :
  Calls Tryz.prog 25 #[.string a0] w fun e w'=>e=.returned (.tuple #[.string r1,.int .i64 r2,.int .i64 r3])/\Below w.heap.size w w':=by
 unfold iN.f at h;have QG:=ah.mk (uo a0);obtain ⟨n,hn⟩:∃ n,a0.size=n:=⟨_,rfl⟩;have hlb:(bytesOf a0).length=n:=by rw [bytesOf_length];exact hn
 by_cases h0:n=0
 ·rw [if_pos (.inl (hn.trans h0))] at h
  simp only [Option.some.injEq,Prod.mk.injEq] at h;obtain ⟨rfl,rfl,rfl⟩:=h;have he:(a0.toList==([]:List UInt8))=true:=by rw [QG.out];exact decide_eq_true (List.length_eq_zero_iff.1 (hlb.trans h0))
  clear QG hlb hn;go_enter Tryz.func25,Tryz.ntmps25
  go_wp2_with fail
  refine bodyPost_ret (results_tmp3 rfl _ _ _) rfl ?_;exact ⟨rfl,Below.refl _ _⟩
 have he:(a0.toList==([]:List UInt8))=false:=by rw [QG.out];exact decide_eq_false (fun e=>h0 (by rw [<- hlb,e];rfl))
 by_cases h1:40 < n
 ·rw [if_pos (.inr (.inl (by omega)))] at h
  simp only [Option.some.injEq,Prod.mk.injEq] at h;obtain ⟨rfl,rfl,rfl⟩:=h;have g1:decide ((40:Int) < (n:Int))=true:=decide_eq_true (by omega);have g2:decide (40 < n)=true:=decide_eq_true h1;clear QG hlb h0 h1;go_enter Tryz.func25,Tryz.ntmps25
  go_wp2_with fail
  refine bodyPost_ret (results_tmp3 rfl _ _ _) rfl ?_;exact ⟨rfl,Below.refl _ _⟩
 have g1:decide ((40:Int) < (n:Int))=false:=decide_eq_false (by omega);have g2:decide (40 < n)=false:=decide_eq_false h1;have hl:0 < a0.size:=by omega
 have hx:((a0[0]'hl).toNat:Int)=bt a0 0:=by simp [bt,hl]
 have hr:=Az a0 0;have IX:=Lib.hid (fun W=>iw.calls (bt a0 0) (S.sym (bt a0 0)) W (NA _ hr.1 (by omega)));cases hs:S.sym (bt a0 0) with
 | false =>
  rw [if_pos (.inr (.inr hs))] at h;rw [hs] at IX;simp only [Option.some.injEq,Prod.mk.injEq] at h;obtain ⟨rfl,rfl,rfl⟩:=h;generalize bt a0 0=y at hx IX;clear QG hlb h1 hs hr;go_enter Tryz.func25,Tryz.ntmps25
  go_wp2_with (go_at_call 55;refine (IX.out _).mono ?_;rintro e w' ⟨rfl,⟨⟨q,rfl⟩⟩⟩)
  refine bodyPost_ret (results_tmp3 rfl _ _ _) rfl ?_;exact ⟨rfl,ak (Below.refl _ _) _⟩
 | true =>
  rw [if_neg (by rw [hs];rintro (e | e | e);omega;omega;cases e)] at h;rw [hs] at IX;have HSM:=Lib.hid (fun W m hW=>zq.calls w.heap.size a0 m 0 1 W (by omega) (by omega) (by omega) hW);rw [List.drop_zero] at HSM;generalize bt a0 0=y at hx IX;cases hst:S.iH (bytesOf a0) with
  | err c=>rw [hst] at h;cases h
  | ok t m =>
   rw [hst] at h HSM;have H:=ah.mk h;clear QG hlb h1 hs hr hst h;go_enter Tryz.func25,Tryz.ntmps25
   have WZ:ah (∀ q,Sc w.heap.size a0 ((0:Nat):Int) ((1:Nat):Int) (.map none) ((w.drewN q).alloc (.cells #[.string a0,.int .i64 0,.int .i64 1,.map none] 93))):=⟨fun q=>heap_alloc_new (w.drewN q) _⟩;have NI:ah (∀ q,Below w.heap.size w ((w.drewN q).alloc (.cells #[.string a0,.int .i64 0,.int .i64 1,.map none] 93))):=⟨fun q=>av (ak (Below.refl _ _) q) _⟩;by_cases hm:m < n
   ·have g3:decide ((m:Int) < (n:Int))=true:=decide_eq_true (by omega)
    have g4:decide (m < n)=true:=decide_eq_true hm;have H:=H.out;simp only [Lr] at H;rw [if_pos (by omega)] at H;simp only [Option.some.injEq,Prod.mk.injEq] at H;obtain ⟨rfl,rfl,rfl⟩:=H;go_upto_region 5 with (first | (go_at_call 55;refine (IX.out _).mono ?_;rintro e w' ⟨rfl,⟨⟨q,rfl⟩⟩⟩) | (go_at_call 56;refine (HSM.out _ _ (WZ.out q)).mono ?_;rintro e w3 ⟨hb3,hp3⟩;obtain ⟨rfl,hs3⟩:=(show _/\_ from hp3)))
    rw [Nat.zero_add] at hs3;have hs1:=hs3.c1;clear hp3;have HBC:Below w.heap.size w w3:=(NI.out q).trans (hb3.jS (by have:=(NI.out q).size;exact this) (fun k hk e=>by have:=show k=w.heap.size from e;omega));replace HBC:=ah.mk HBC;clear hb3 WZ NI hs3 HSM IX h0 he g1 g2 hl hx;go_wp2;refine bodyPost_ret (results_tmp3 rfl _ _ _) rfl ?_;exact ⟨rfl,HBC.out⟩
   have g3:decide ((m:Int) < (n:Int))=false:=decide_eq_false (by omega);have g4:decide (m < n)=false:=decide_eq_false hm;have H:=H.out;simp only [Lr] at H;rw [if_neg (by omega)] at H;obtain ⟨kd,hk,H⟩:=Option.map_eq_some_iff.1 H;simp only [Prod.mk.injEq] at H;obtain ⟨rfl,rfl,rfl⟩:=H;have HK:=Lib.hid (fun W=>fH.calls 2 (strOfNums t) kd W hk);clear hk;go_upto_region 5 with (first | (go_at_call 55;refine (IX.out _).mono ?_;rintro e w' ⟨rfl,⟨⟨q,rfl⟩⟩⟩) | (go_at_call 56;refine (HSM.out _ _ (WZ.out q)).mono ?_;rintro e w3 ⟨hb3,hp3⟩;obtain ⟨rfl,hs3⟩:=(show _/\_ from hp3)))
   rw [Nat.zero_add] at hs3;have hs1:=hs3.c1;clear hp3;have HBC:Below w.heap.size w w3:=(NI.out q).trans (hb3.jS (by have:=(NI.out q).size;exact this) (fun k hk e=>by have:=show k=w.heap.size from e;omega));replace HBC:=ah.mk HBC;clear hb3 WZ NI hs3 HSM IX h0 he g1 g2 hl hx;generalize adU:strOfNums t=st at *;have ji:=ah.mk adU;clear adU;go_wp2_with (go_at_call 57;refine (HK.out _).mono ?_;rintro e w' ⟨rfl,⟨⟨q2,rfl⟩⟩⟩)
   refine bodyPost_ret (results_tmp3 rfl _ _ _) rfl ?_;rw [ji.out];exact ⟨rfl,HBC.out.trans (ak (Below.refl _ _) _)⟩
def iO.f (a0:ByteArray):Option (ByteArray × Int) :=
 if 1000 < a0.size\/(bytesOf a0).all S.iT=false then some (⟨#[]⟩,1) else some (strOfNums (S.quote (bytesOf a0)),0)
set_option maxRecDepth 100000 in
set_option maxHeartbeats 4000000 in
theorem iO.calls (a0:ByteArray) (r1:ByteArray) (r2:Int) (w:World) (hT:dR w) (h:iO.f a0=some (r1,r2)) :
  Calls Tryz.prog 30 #[.string a0] w fun e w'=>e=.returned (.tuple #[.string r1,.int .i64 r2])/\Below w.heap.size w w':=by
 unfold iO.f at h;obtain ⟨n,hn⟩:∃ n,a0.size=n:=⟨_,rfl⟩;by_cases h1:1000 < n
 ·rw [if_pos (.inl (by omega))] at h
  simp only [Option.some.injEq,Prod.mk.injEq] at h;obtain ⟨rfl,rfl⟩:=h;have g1:decide ((1000:Int) < (n:Int))=true:=decide_eq_true (by omega);have g2:decide (1000 < n)=true:=decide_eq_true h1;clear hT;go_enter Tryz.func30,Tryz.ntmps30
  go_wp2_with fail
  refine bodyPost_ret (results_tmp2 rfl _ _ _) rfl ?_;exact ⟨rfl,Below.refl _ _⟩
 have g1:decide ((1000:Int) < (n:Int))=false:=decide_eq_false (by omega);have g2:decide (1000 < n)=false:=decide_eq_false h1;have RV:=fun W=>IU a0 W (by omega) 64 EW adL.pays
 have kb:=fun W=>nE (P:=Tryz.prog) 9 100 5 Tryz.underlying9 Tryz.underlying100 Tryz.underlying5 a0 W
 rw [hn] at RV kb;cases hp:(bytesOf a0).all S.iT with
 | false =>
  rw [if_pos (.inr hp)] at h;simp only [Option.some.injEq,Prod.mk.injEq] at h;obtain ⟨rfl,rfl⟩:=h;rw [hp] at RV;have HC:=Lib.hid RV;clear RV hp hT;go_enter Tryz.func30,Tryz.ntmps30
  go_wp2_with (go_at_call 63;refine (HC.out _).mono ?_;rintro e w' ⟨rfl,hb⟩)
  refine bodyPost_ret (results_tmp2 rfl _ _ _) rfl ?_;exact ⟨rfl,hb⟩
 | true =>
  rw [if_neg (by rw [hp];rintro (e | e);omega;cases e)] at h;simp only [Option.some.injEq,Prod.mk.injEq] at h;obtain ⟨rfl,rfl⟩:=h;rw [hp] at RV;have HC:=Lib.hid RV;have VD:=Lib.hid (fun W hW=>gZ.calls a0 (strOfNums (S.quote (bytesOf a0))) W hW (by unfold gZ.f;rw [if_pos (by omega)]));have HT:=ah.mk hT;clear RV hp hT;generalize strOfNums (S.quote (bytesOf a0))=res at *;go_enter Tryz.func30,Tryz.ntmps30
  go_wp2_with (first | (go_at_call 63;refine (HC.out _).mono ?_;rintro e w3 ⟨rfl,hb3⟩) | (go_at_call 66;refine (VD.out _ (HT.out.of_below hb3)).mono ?_;rintro e w4 ⟨rfl,hb4⟩))
  refine bodyPost_ret (results_tmp2 rfl _ _ _) rfl ?_;exact ⟨rfl,hb3.trans (hb4.mono hb3.size)⟩
end Go.Proofs.YtkkpjonfaflkmaaGreatDoor.T
