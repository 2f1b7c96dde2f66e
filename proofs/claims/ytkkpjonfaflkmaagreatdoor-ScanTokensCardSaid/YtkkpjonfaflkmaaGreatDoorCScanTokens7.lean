/- For ScanTokens: its callees return what is said of them. -/
import Derived.Test.YtkkpjonfaflkmaaGreatDoorCScanTokens6
import Derived.StillTail
namespace Go.Proofs.YtkkpjonfaflkmaaGreatDoor.T
open Go.RowKit Go.Proofs.ah.aT Go.Proofs.ah.bn Go.Proofs.ah.bA
set_option linter.unusedSimpArgs false
set_option linter.unusedVariables false
def oN (s:Nat) (src:ByteArray) (m:Value) (line:Nat) (e:Ending) (w':World):S.CR->Prop
 | .eof=>e=Fails 6 line/\∃ i' l':Nat,Sc s src i' l' m w'
 | .done i' l' bad=>if bad=0 then e=.returned (.tuple #[])/\Sc s src i' l' m w' else e=Fails 13 bad/\∃ i' l':Nat,Sc s src i' l' m w'
theorem oN.ret {s:Nat} {src:ByteArray} {m:Value} {line i' l' bad:Nat} {w':World} (hb:bad=0) (h:Sc s src i' l' m w'):oN s src m line (.returned (.tuple #[])) w' (.done i' l' bad):=by
 show if bad=0 then _ else _
 rw [if_pos hb];exact ⟨rfl,h⟩
theorem oN.fail {s:Nat} {src:ByteArray} {m:Value} {line i' l' bad j k:Nat} {w':World} (hb:¬ bad=0) (h:Sc s src j k m w'):oN s src m line (Fails 13 bad) w' (.done i' l' bad):=by
 show if bad=0 then _ else _
 rw [if_neg hb];exact ⟨rfl,_,_,h⟩
set_option maxRecDepth 100000 in
set_option maxHeartbeats 4000000 in
theorem EH.calls (s:Nat) (src:ByteArray) (m:Value) (i line:Nat) (w:World) (hsz:src.size<=1000000) (hl:line<=1000000000) (hi:i<=src.size) (hst:S.gV ((bytesOf src).drop i)=true) (h:Sc s src i line m w) :
  Calls Tryz.prog 124 #[.pointer (some ⟨s,0,none⟩)] w fun e w'=>But (·=s) w w'/\oN s src m line e w' (S.lV ((bytesOf src).drop i) i 0 line 0):=by
 have HS:=aj.mk h;obtain ⟨n,hn⟩:∃ n,src.size=n:=⟨_,rfl⟩;obtain ⟨L,hL⟩:∃ L,bytesOf src=L:=⟨_,rfl⟩;have HN:aj (L.length=n):=⟨by rw [<- hL,bytesOf_length];exact hn⟩;rw [hL] at hst |-
 obtain ⟨R,hR⟩:∃ R,S.lV (L.drop i) i 0 line 0=R:=⟨_,rfl⟩;rw [hR];have HR:=aj.mk hR;have HL:=aj.mk hL;have HST:=aj.mk hst;have h2:=h.c2;clear hR hL hst h;rw [hn] at hsz hi;go_enter Tryz.func124,Tryz.ntmps124
 go_step3
 go_wp2;go_step3
 go_wp2;go_loopg [3,4,5] (n+1) (fun gg s3 s4 _ wr=>∃ kk dp ln bd:Nat,kk<=n/\n+1 - kk<=gg/\s3=.int .i64 dp/\s4=.int .i64 bd/\aj (Sc s src kk ln m wr)/\aj (But (·=s) w wr)/\dp<=kk/\ln<=line+kk/\bd<=line+kk/\aj (1<=dp\/S.gV (L.drop kk)=true)/\aj (S.lV (L.drop kk) kk dp ln bd=R))
 case atStart=>exact ⟨i,0,line,0,hi,by omega,rfl,rfl,HS,⟨.refl _ _⟩,by omega,by omega,by omega,⟨.inr HST.out⟩,HR⟩
 case round =>
  obtain ⟨kk,dp,ln,bd,hkk,hg,rfl,rfl,HC,HB,hdp,hln,hbd,HD,HA⟩:=hrel;have c0:=HC.out.c0;have c1:=HC.out.c1;have hkz:(kk:Int)<=(n:Int):=by omega
  have hk0:(0:Int)<=(kk:Int):=by omega
  go_wp2;go_region
  have Ju:aj (Sc s src kk ln m wr.drew):=HC;have HB1:aj (But (·=s) w wr.drew):=⟨HB.out.drew⟩;have c0':wr.drew.cell? ⟨s,0,none⟩=some (.string src):=c0;have c1':wr.drew.cell? ⟨s,1,none⟩=some (.int .i64 kk):=c1;have c2':wr.drew.cell? ⟨s,2,none⟩=some (.int .i64 ln):=Ju.out.c2;have f1:=Ju.out.fr 1;have f2:=Ju.out.fr 2;clear HC HB c0 c1;generalize wr.drew=w1 at *;have HM:aj (bytesOf (src.extract kk n)=L.drop kk):=⟨by rw [<- hn,sH,HL.out]⟩;generalize src.extract kk n=rs at *;have HE:aj ((bytesOf rs).length=n - kk):=⟨by rw [HM.out,List.length_drop,HN.out]⟩;have HDR:aj (∀ j,L.drop (kk+j)=(L.drop kk).drop j):=⟨fun j=>by rw [List.drop_drop]⟩;rcases hM:L.drop kk with _ | ⟨y,M⟩
  ·rw [hM] at HM HA HD
   have hkn:kk=n:=by
    have:=HE.out;rw [HM.out] at this;simp at this
    omega
   have e0:(rs.toList==([]:List UInt8))=true:=by rw [uR,HM.out];rfl
   have HF:=Lib.hid (kU.calls (.pointer (some ⟨s,0,none⟩)) 6 line w1);clear hM;go_wp2_with (go_at_call 97;refine HF.out.mono ?_;rintro e w' ⟨rfl,rfl⟩;unfold Fails)
   have hR:R=.eof:=HA.out.symm;rw [hR];exact ⟨rfl,HB1.out,rfl,_,_,Ju.out⟩
  ·have HMM:=aj.mk hM
   rw [hM] at HM HA HD HDR;have hlt:kk < n:=by
    have:=HE.out;rw [HM.out] at this;simp at this
    omega
   have e0:(rs.toList==([]:List UInt8))=false:=by rw [uR,HM.out];rfl
   obtain ⟨hz,hy⟩:=Bp rs y M HM.out;have hzi:(0:Int) < (rs.size:Int):=by omega
   have hw1:IntKind.i64.wrap ((kk:Int)+1)=((kk+1:Nat):Int):=by rw [vC _ (by omega) (by omega)];omega
   have hw2:IntKind.i64.wrap ((kk:Int)+2)=((kk+2:Nat):Int):=by rw [vC _ (by omega) (by omega)];omega
   have hw3:IntKind.i64.wrap ((dp:Int)+1)=((dp+1:Nat):Int):=by rw [vC _ (by omega) (by omega)];omega
   have hw4:IntKind.i64.wrap ((ln:Int)+1)=((ln+1:Nat):Int):=by rw [vC _ (by omega) (by omega)];omega
   have Yx:=aj.mk (fun (x:Nat)=>Ju.out.set1 (x:Int));have Yy:=aj.mk (fun (v:Value)=>HB1.out.set ⟨s,1,none⟩ v rfl);clear hM;by_cases hp1:S.st2 47 42 (y::M)=true
   ·
    obtain ⟨z,t,rfl,rfl,rfl⟩:∃ z t,M=z::t/\y=47/\z=42:=by
     rcases M with _ | ⟨z,t⟩
     ·cases hp1
     ·simp [S.st2] at hp1
      exact ⟨z,t,rfl,hp1⟩
    have hk2:kk+2<=n:=by
     have:=HE.out;rw [HM.out] at this;simp at this
     omega
    have H1:=Lib.hid (xA.calls rs 47 42 true (by rw [HM.out];exact hp1) w1);have HA2:aj (S.lV (L.drop (kk+2)) (kk+2) (dp+1) ln bd=R):=⟨by
     rw [HDR.out 2,<- HA.out];simp [S.lV]⟩
    clear hp1;go_wp2_with (go_at_call 123;refine H1.out.mono ?_;rintro e w' ⟨rfl,rfl⟩)
    go_roundg (n+1 - (kk+2))
    case measure=>omega
    case rel =>
     refine ⟨kk+2,dp+1,ln,bd,by omega,by omega,by go_num,rfl,⟨?_⟩,⟨?_⟩,by omega,by omega,by omega,⟨.inl (by omega)⟩,HA2⟩
     ·exact Yx.out (kk+2)
     ·exact Yy.out _
   have hp1':S.st2 47 42 (y::M)=false:=by simpa using hp1
   have hd1:1<=dp:=by
    rcases HD.out with h | h
    ·exact h
    ·rw [S.Bl,hp1'] at h;cases h
   have hw5:IntKind.i64.wrap ((dp:Int) - 1)=((dp - 1:Nat):Int):=by rw [vC _ (by omega) (by omega)];omega
   have H1:=Lib.hid (xA.calls rs 47 42 false (by rw [HM.out];exact hp1') w1);by_cases hp2:S.st2 42 47 (y::M)=true
   ·
    obtain ⟨z,t,rfl,rfl,rfl⟩:∃ z t,M=z::t/\y=42/\z=47:=by
     rcases M with _ | ⟨z,t⟩
     ·cases hp2
     ·simp [S.st2] at hp2
      exact ⟨z,t,rfl,hp2⟩
    have hk2:kk+2<=n:=by
     have:=HE.out;rw [HM.out] at this;simp at this
     omega
    have H2:=Lib.hid (xA.calls rs 42 47 true (by rw [HM.out];exact hp2) w1);clear hp1 hp1' hp2;by_cases hd:dp=1
    rotate_left
    ·have e5:(((dp - 1:Nat):Int)==0)=false:=beq_eq_false_iff_ne.2 (by omega)
     have HA2:aj (S.lV (L.drop (kk+2)) (kk+2) (dp - 1) ln bd=R):=⟨by
      rw [HDR.out 2,<- HA.out];simp [S.lV,hd]⟩
     go_wp2_with (go_at_call 123;(first | (with_reducible refine H1.out.mono ?_) | (with_reducible refine H2.out.mono ?_));rintro e w' ⟨rfl,rfl⟩)
     go_roundg (n+1 - (kk+2))
     case measure=>omega
     case rel =>
      refine ⟨kk+2,dp - 1,ln,bd,by omega,by omega,by go_num,rfl,⟨?_⟩,⟨?_⟩,by omega,by omega,by omega,⟨.inl (by omega)⟩,HA2⟩
      ·exact Yx.out (kk+2)
      ·exact Yy.out _
    have hR:R=.done (kk+2) ln bd:=by
     rw [<- HA.out];simp [S.lV,hd]
    have e5:(((dp - 1:Nat):Int)==0)=true:=by rw [hd];rfl
    by_cases hb:bd=0
    ·have b1:decide (0 < bd)=false:=decide_eq_false (by omega)
     have b2:decide ((0:Int) < (bd:Int))=false:=decide_eq_false (by omega);have HCF:=Yx.out (kk+2);have HF:=aj.mk HCF;clear HCF;go_wp2_with (go_at_call 123;(first | (with_reducible refine H1.out.mono ?_) | (with_reducible refine H2.out.mono ?_));rintro e w' ⟨rfl,rfl⟩)
     try rw [Exit.noGoto_normal]
     go_end0
     rw [hR];exact ⟨Yy.out _,oN.ret hb HF.out⟩
    have b1:decide (0 < bd)=true:=decide_eq_true (by omega);have b2:decide ((0:Int) < (bd:Int))=true:=decide_eq_true (by omega);have HF:=Lib.hid (fun W=>kU.calls (.pointer (some ⟨s,0,none⟩)) 13 bd W);go_wp2_with (first | (go_at_call 123;(first | (with_reducible refine H1.out.mono ?_) | (with_reducible refine H2.out.mono ?_));rintro e w' ⟨rfl,rfl⟩) | (go_at_call 97;refine (HF.out _).mono ?_;rintro e w' ⟨rfl,rfl⟩;unfold Fails))
    rw [hR];exact ⟨rfl,Yy.out _,oN.fail hb (Yx.out (kk+2))⟩
   have Yz:S.st2 42 47 (y::M)=false:=by simpa using hp2
   have H2:=Lib.hid (xA.calls rs 42 47 false (by rw [HM.out];exact Yz) w1);have hstep:S.lV (y::M) kk dp ln bd=S.lV M (kk+1) dp (if y=10 then ln+1 else ln) (if y≠10/\S.jP y=false/\bd=0 then ln else bd):=by
    rcases M with _ | ⟨z,t⟩
    ·rfl
    ·simp only [S.st2,Bool.and_eq_false_iff,decide_eq_false_iff_not] at hp1' Yz
     conv=>{ lhs;unfold S.lV }
     rw [if_neg (by omega),if_neg (by omega)]
   rw [hstep] at HA;have hD1:L.drop (kk+1)=M:=HDR.out 1;clear hp1 hp1' hp2 Yz hstep;by_cases vE:y=10
   ·have e6:(y==10)=true:=beq_iff_eq.2 vE
    rw [if_pos vE,if_neg (fun q=>q.1 vE)] at HA;have aiR:=aj.mk (fun (l x:Nat)=>(Ju.out.set2 (l:Int)).set1 (x:Int));have aiS:=aj.mk (fun (u v:Value)=>(HB1.out.set ⟨s,2,none⟩ u rfl).set ⟨s,1,none⟩ v rfl);go_wp2_with (go_at_call 123;(first | (with_reducible refine H1.out.mono ?_) | (with_reducible refine H2.out.mono ?_));rintro e w' ⟨rfl,rfl⟩)
    go_roundg (n+1 - (kk+1))
    case measure=>omega
    case rel =>
     refine ⟨kk+1,dp,ln+1,bd,by omega,by omega,rfl,rfl,⟨?_⟩,⟨?_⟩,by omega,by omega,by omega,⟨.inl (by omega)⟩,⟨by rw [hD1];exact HA.out⟩⟩
     ·exact aiR.out (ln+1) (kk+1)
     ·exact aiS.out _ _
   have e6:(y==10)=false:=beq_eq_false_iff_ne.2 vE;rw [if_neg vE] at HA;have HP:=Lib.hid (fun W=>iB.calls y (S.jP y) W (LP y));by_cases hpr:S.jP y=true
   ·rw [if_neg (by rw [hpr];simp)] at HA
    rw [hpr] at HP;go_wp2_with (first | (go_at_call 123;(first | (with_reducible refine H1.out.mono ?_) | (with_reducible refine H2.out.mono ?_));rintro e w' ⟨rfl,rfl⟩) | (go_at_call 65;refine (HP.out _).mono ?_;rintro e w' ⟨rfl,⟨⟨q,rfl⟩⟩⟩))
    go_roundg (n+1 - (kk+1))
    case measure=>omega
    case rel =>
     refine ⟨kk+1,dp,ln,bd,by omega,by omega,rfl,rfl,⟨?_⟩,⟨?_⟩,by omega,by omega,by omega,⟨.inl (by omega)⟩,⟨by rw [hD1];exact HA.out⟩⟩
     ·exact Yx.out (kk+1)
     ·exact (Yy.out _).drewN q
   have Tz:S.jP y=false:=by simpa using hpr
   rw [Tz] at HP;by_cases hb:bd=0
   ·have b1:((bd:Int)==0)=true:=beq_iff_eq.2 (by omega)
    rw [if_pos ⟨vE,Tz,hb⟩] at HA;go_wp2_with (first | (go_at_call 123;(first | (with_reducible refine H1.out.mono ?_) | (with_reducible refine H2.out.mono ?_));rintro e w' ⟨rfl,rfl⟩) | (go_at_call 65;refine (HP.out _).mono ?_;rintro e w' ⟨rfl,⟨⟨q,rfl⟩⟩⟩))
    go_roundg (n+1 - (kk+1))
    case measure=>omega
    case rel =>
     refine ⟨kk+1,dp,ln,ln,by omega,by omega,rfl,rfl,⟨?_⟩,⟨?_⟩,by omega,by omega,by omega,⟨.inl (by omega)⟩,⟨by rw [hD1];exact HA.out⟩⟩
     ·exact Yx.out (kk+1)
     ·exact (Yy.out _).drewN q
   have b1:((bd:Int)==0)=false:=beq_eq_false_iff_ne.2 (by omega);rw [if_neg (fun q=>hb q.2.2)] at HA;go_wp2_with (first | (go_at_call 123;(first | (with_reducible refine H1.out.mono ?_) | (with_reducible refine H2.out.mono ?_));rintro e w' ⟨rfl,rfl⟩) | (go_at_call 65;refine (HP.out _).mono ?_;rintro e w' ⟨rfl,⟨⟨q,rfl⟩⟩⟩))
   go_roundg (n+1 - (kk+1))
   case measure=>omega
   case rel =>
    refine ⟨kk+1,dp,ln,bd,by omega,by omega,rfl,rfl,⟨?_⟩,⟨?_⟩,by omega,by omega,by omega,⟨.inl (by omega)⟩,⟨by rw [hD1];exact HA.out⟩⟩
    ·exact Yx.out (kk+1)
    ·exact (Yy.out _).drewN q
end Go.Proofs.YtkkpjonfaflkmaaGreatDoor.T
namespace Go.Proofs.YtkkpjonfaflkmaaGreatDoor.T
open Go.RowKit Go.Maps Go.Proofs.ah.aT Go.Proofs.ah.bn Go.Proofs.ah.bA
set_option linter.unusedSimpArgs false
set_option linter.unusedVariables false
def shC (p q:Nat):S.CR->S.CR
 | .eof=>.eof
 | .done i l b=>.done (p+i) (q+l) (if b=0 then 0 else q+b)
theorem rJ (p q:Nat):∀ (xs:List Int) (i d l b:Nat),0 < l->S.lV xs (p+i) d (q+l) (if b=0 then 0 else q+b)=shC p q (S.lV xs i d l b)
 | [],_,_,_,_,_=>rfl
 | [_],_,_,_,_,_=>rfl
 | c::e::t,i,d,l,b,hl=>by
  rw [S.lV,S.lV];by_cases h1:c=47/\e=42
  ·rw [if_pos h1,if_pos h1]
   exact rJ p q t (i+2) (d+1) l b hl
  rw [if_neg h1,if_neg h1];by_cases h2:c=42/\e=47
  ·rw [if_pos h2,if_pos h2]
   by_cases h3:d=1
   ·rw [if_pos h3,if_pos h3];rfl
   rw [if_neg h3,if_neg h3];exact rJ p q t (i+2) (d - 1) l b hl
  rw [if_neg h2,if_neg h2];have e1:(if c=10 then q+l+1 else q+l)=q+(if c=10 then l+1 else l):=by split<;>omega
  have e2:(if c≠10/\S.jP c=false/\(if b=0 then 0 else q+b)=0 then q+l else if b=0 then 0 else q+b)=if (if c≠10/\S.jP c=false/\b=0 then l else b)=0 then 0 else q+(if c≠10/\S.jP c=false/\b=0 then l else b):=by
   by_cases hb:b=0
   ·by_cases hc:c≠10/\S.jP c=false
    ·simp only [hb,hc,if_true,true_and,and_self,ne_eq,not_false_eq_true]
     rw [if_neg (by omega)]
    have hc':¬ (c≠10/\S.jP c=false/\True):=fun h=>hc ⟨h.1,h.2.1⟩
    simp only [hb,if_true];rw [if_neg hc',if_neg hc'];simp
   have hq:¬ q+b=0:=by omega
   simp only [hb,if_false,hq,and_false]
  rw [e1,e2];exact rJ p q (e::t) (i+1) d _ _ (by split<;>omega)
 termination_by xs=>xs.length
theorem uU:∀ (xs:List Int) (i d l b:Nat),0 < l->(b=0\/0 < b)->∀ i' l' b',S.lV xs i d l b=.done i' l' b'->0 < l'
 | [],_,_,_,_,_,_=>fun _ _ _ h=>by cases h
 | [_],_,_,_,_,_,_=>fun _ _ _ h=>by cases h
 | c::e::t,i,d,l,b,hl,hb=>fun i' l' b' h=>by
  rw [S.lV] at h;by_cases h1:c=47/\e=42
  ·rw [if_pos h1] at h;exact uU t _ _ l b hl hb _ _ _ h
  rw [if_neg h1] at h;by_cases h2:c=42/\e=47
  ·rw [if_pos h2] at h
   by_cases h3:d=1
   ·rw [if_pos h3] at h;cases h;exact hl
   ·rw [if_neg h3] at h;exact uU t _ _ l b hl hb _ _ _ h
  rw [if_neg h2] at h;exact uU (e::t) _ _ _ _ (by split<;>omega) (by omega) _ _ _ h
 termination_by xs=>xs.length
def DK:Array Value:=#[.int .i64 0,.string ⟨#[]⟩,.bool false,.int .i64 0,.int .i64 0,.int .i64 0]
def vQ (k:Int) (t:ByteArray) (g:Bool) (l a e:Int):Array Value:=#[.int .i64 k,.string t,.bool g,.int .i64 l,.int .i64 a,.int .i64 e]
structure St (s H:Nat) (src:ByteArray) (i line:Int) (m:Value) (row:Array Value) (w0 W:World):Prop where
 sc:Sc s src i line m W
 but:But (·=s) w0 W
 res:W.heap[H]?=some (.cells DK 53 (0,0))
 tok:W.heap[H+1]?=some (.cells row 53 (0,0))
 lt:s < H
 new:w0.heap.size=H
theorem St.zs {s H:Nat} {src:ByteArray} {i line:Int} {m:Value} {row:Array Value} {w0 W:World} (h:St s H src i line m row w0 W) :
  W.cell? ⟨H,0,none⟩=some (.int .i64 0)/\W.cell? ⟨H,1,none⟩=some (.string ⟨#[]⟩)/\W.cell? ⟨H,2,none⟩=some (.bool false)/\W.cell? ⟨H,3,none⟩=some (.int .i64 0)/\W.cell? ⟨H,4,none⟩=some (.int .i64 0)/\W.cell? ⟨H,5,none⟩=some (.int .i64 0) /\
  W.frozen? ⟨H,0,none⟩=false/\W.frozen? ⟨H,1,none⟩=false/\W.frozen? ⟨H,2,none⟩=false/\W.frozen? ⟨H,3,none⟩=false/\W.frozen? ⟨H,4,none⟩=false/\W.frozen? ⟨H,5,none⟩=false :=
 ⟨au h.res 0,au h.res 1,au h.res 2,au h.res 3,au h.res 4,au h.res 5,aA h.res 0,aA h.res 1,aA h.res 2,aA h.res 3,aA h.res 4,aA h.res 5⟩
theorem St.ts {s H:Nat} {src:ByteArray} {i line:Int} {m:Value} {k l a e:Int} {t:ByteArray} {g:Bool} {w0 W:World} (h:St s H src i line m (vQ k t g l a e) w0 W) :
  W.cell? ⟨H+1,0,none⟩=some (.int .i64 k)/\W.cell? ⟨H+1,1,none⟩=some (.string t)/\W.cell? ⟨H+1,2,none⟩=some (.bool g)/\W.cell? ⟨H+1,3,none⟩=some (.int .i64 l)/\W.cell? ⟨H+1,4,none⟩=some (.int .i64 a)/\W.cell? ⟨H+1,5,none⟩=some (.int .i64 e) /\
  W.frozen? ⟨H+1,0,none⟩=false/\W.frozen? ⟨H+1,1,none⟩=false/\W.frozen? ⟨H+1,5,none⟩=false :=
 ⟨au h.tok 0,au h.tok 1,au h.tok 2,au h.tok 3,au h.tok 4,au h.tok 5,aA h.tok 0,aA h.tok 1,aA h.tok 5⟩
theorem St.at1 {s H:Nat} {src:ByteArray} {i line:Int} {m:Value} {row:Array Value} {w0 W:World} (h:St s H src i line m row w0 W) (x:Int):St s H src x line m row w0 (W.setCell ⟨s,1,none⟩ (.int .i64 x)) :=
 ⟨h.sc.set1 x,h.but.set _ _ rfl,(Below.heap_setCell W ⟨s,1,none⟩ _ H (by have:=h.lt;show H≠s;omega)).trans h.res,(Below.heap_setCell W ⟨s,1,none⟩ _ (H+1) (by have:=h.lt;show H+1≠s;omega)).trans h.tok,h.lt,h.new⟩
theorem St.at2 {s H:Nat} {src:ByteArray} {i line:Int} {m:Value} {row:Array Value} {w0 W:World} (h:St s H src i line m row w0 W) (x:Int):St s H src i x m row w0 (W.setCell ⟨s,2,none⟩ (.int .i64 x)) :=
 ⟨h.sc.set2 x,h.but.set _ _ rfl,(Below.heap_setCell W ⟨s,2,none⟩ _ H (by have:=h.lt;show H≠s;omega)).trans h.res,(Below.heap_setCell W ⟨s,2,none⟩ _ (H+1) (by have:=h.lt;show H+1≠s;omega)).trans h.tok,h.lt,h.new⟩
theorem But.sK {A:Nat->Prop} {w w':World} (h:But A w w') (a:Addr) (v:Value) (ha:w.heap.size<=a.block):But A w (w'.setCell a v):=by
 have hg:w'.grownBy (w'.setCell a v) (some a.block):=⟨rfl,rfl,rfl,by simp [World.setCell],fun k _ hk=>Below.heap_setCell w' a v k (fun e=>hk (by rw [e]))⟩;exact ⟨hg.os.trans h.os,hg.tape.trans h.tape,hg.output.trans h.output,Nat.le_trans h.size hg.size,fun k hk hn=>(hg.block k (Nat.lt_of_lt_of_le hk h.size) (fun e=>by cases e;omega)).trans (h.block k hk hn)⟩
theorem St.tk {s H:Nat} {src:ByteArray} {i line:Int} {m:Value} {row row':Array Value} {w0 W:World} (h:St s H src i line m row w0 W) (j:Nat) (v:Value) (e:row.setIfInBounds j v=row'):St s H src i line m row' w0 (W.setCell ⟨H+1,j,none⟩ v) :=
 ⟨(Below.heap_setCell W ⟨H+1,j,none⟩ v s (by have:=h.lt;show s≠H+1;omega)).trans h.sc,h.but.sK _ _ (by have:=h.new;show _<=H+1;omega),(Below.heap_setCell W ⟨H+1,j,none⟩ v H (by show H≠H+1;omega)).trans h.res,aR h.tok j v e,h.lt,h.new⟩
theorem St.drewN {s H:Nat} {src:ByteArray} {i line:Int} {m:Value} {row:Array Value} {w0 W:World} (h:St s H src i line m row w0 W) (q:Nat):St s H src i line m row w0 (W.drewN q):=⟨h.sc,h.but.drewN q,h.res,h.tok,h.lt,h.new⟩
theorem St.call {s H:Nat} {src:ByteArray} {i line i' line':Int} {m:Value} {row:Array Value} {w0 W W':World} (h:St s H src i line m row w0 W) (hb:But (·=s) W W') (hs:Sc s src i' line' m W'):St s H src i' line' m row w0 W' :=
 ⟨hs,h.but.trans' hb,(hb.block H (pq h.res) (by have:=h.lt;show ¬ H=s;omega)).trans h.res,(hb.block (H+1) (pq h.tok) (by have:=h.lt;show ¬ H+1=s;omega)).trans h.tok,h.lt,h.new⟩
theorem jv {P:Program} {fn:Func} {p q:Tmp} {ty:TypeId} (h:fn.results=#[.tmp p,.cell q ty]) (tmps:Array Value) (w:World) (g:Nat) (t:TypeId) (cs:Array Value) (fr:Nat × Nat) (d:TypeDesc) (u:Value)
  (hp:tmps.getD p undef=u) (hq:tmps.getD q undef=.pointer (some ⟨g,0,none⟩)) (hg:w.heap[g]?=some (.cells cs t fr))
  (hu:P.underlying ty=some d) (hd:(match d with | .struct _ | .array _ _=>true | _=>false)=true) (hi:(P.info? ty).map (·.size)=some cs.size) :
  (results fn tmps).run P w=.ok (.tuple #[u,.agg cs]) w:=by
 have hp':tmps[p]?.getD undef=u:=by simpa using hp
 have hq':tmps[q]?.getD undef=.pointer (some ⟨g,0,none⟩):=by simpa using hq
 simp [results,h,hp',hq',asAddr,Sem.run_bind,run_loadVar_row w g t ty cs fr d hg hu hd hi,Result.andThen]
def jI (s:Nat) (src:ByteArray) (m:Value) (i line:Nat) (e:Ending) (w':World):S.Step->Prop
 | .fin=>e=.returned (.tuple #[.int .i64 0,.agg DK])/\Sc s src i line m w'
 | .line=>e=.returned (.tuple #[.int .i64 1,.agg (vQ 0 ⟨#[]⟩ false line i 0)])/\Sc s src ((i+1:Nat):Int) ((line+1:Nat):Int) m w'
 | .blank=>e=.returned (.tuple #[.int .i64 2,.agg (vQ 0 ⟨#[]⟩ false line i 0)])/\Sc s src ((i+1:Nat):Int) line m w'
 | .lV n dl=>e=.returned (.tuple #[.int .i64 3,.agg (vQ 0 ⟨#[]⟩ false line i 0)])/\Sc s src ((i+n:Nat):Int) ((line+dl:Nat):Int) m w'
 | .tok k t n=>e=.returned (.tuple #[.int .i64 4,.agg (vQ k (strOfNums t) false line i ((i+n:Nat):Int))])/\Sc s src ((i+n:Nat):Int) line m w'
 | .err c dl=>e=Fails c ((line+dl:Nat):Int)/\∃ i' l':Nat,Sc s src i' l' m w'
theorem Qq {s H:Nat} {src:ByteArray} {i line:Int} {m:Value} {w0 W:World} (hsc:Sc s src i line m W) (aiT:But (·=s) w0 W) (hres:W.heap[H]?=some (.cells DK 53 (0,0))) (hlt:s < H) (hnew:w0.heap.size=H) (k l a e:Int) (t:ByteArray) (g:Bool) :
  (((((((World.setCell W ⟨H,0,none⟩ (.int .i64 k)).setCell ⟨H,1,none⟩ (.string t)).setCell ⟨H,2,none⟩ (.bool g)).setCell ⟨H,3,none⟩ (.int .i64 l)).setCell ⟨H,4,none⟩ (.int .i64 a)).setCell ⟨H,5,none⟩ (.int .i64 e))).heap[H]?=some (.cells (vQ k t g l a e) 53 (0,0))/\Sc s src i line m (((((((World.setCell W ⟨H,0,none⟩ (.int .i64 k)).setCell ⟨H,1,none⟩ (.string t)).setCell ⟨H,2,none⟩ (.bool g)).setCell ⟨H,3,none⟩ (.int .i64 l)).setCell ⟨H,4,none⟩ (.int .i64 a)).setCell ⟨H,5,none⟩ (.int .i64 e)))/\But (·=s) w0 (((((((World.setCell W ⟨H,0,none⟩ (.int .i64 k)).setCell ⟨H,1,none⟩ (.string t)).setCell ⟨H,2,none⟩ (.bool g)).setCell ⟨H,3,none⟩ (.int .i64 l)).setCell ⟨H,4,none⟩ (.int .i64 a)).setCell ⟨H,5,none⟩ (.int .i64 e))):=by
 have hn:∀ j,w0.heap.size<=(⟨H,j,none⟩:Addr).block:=fun j=>by have:=hnew;show _<=H;omega
 have ho:∀ (A:World) (j:Nat) (u:Value),(A.setCell ⟨H,j,none⟩ u).heap[s]?=A.heap[s]?:=fun A j u=>Below.heap_setCell A ⟨H,j,none⟩ u s (by have:=hlt;show s≠H;omega)
 refine ⟨?_,?_,(((((aiT.sK _ _ (hn 0)).sK _ _ (hn 1)).sK _ _ (hn 2)).sK _ _ (hn 3)).sK _ _ (hn 4)).sK _ _ (hn 5)⟩
 ·exact aR (aR (aR (aR (aR (aR hres 0 _ rfl) 1 _ rfl) 2 _ rfl) 3 _ rfl) 4 _ rfl) 5 _ rfl
 ·unfold Sc
  rw [ho,ho,ho,ho,ho,ho];exact hsc
theorem St.end_ {s H:Nat} {src:ByteArray} {i line:Int} {m:Value} {row:Array Value} {w0 W:World} (h:St s H src i line m row w0 W) (k l a e:Int) (t:ByteArray) (g:Bool) :
  (((((((World.setCell W ⟨H,0,none⟩ (.int .i64 k)).setCell ⟨H,1,none⟩ (.string t)).setCell ⟨H,2,none⟩ (.bool g)).setCell ⟨H,3,none⟩ (.int .i64 l)).setCell ⟨H,4,none⟩ (.int .i64 a)).setCell ⟨H,5,none⟩ (.int .i64 e))).heap[H]?=some (.cells (vQ k t g l a e) 53 (0,0))/\Sc s src i line m (((((((World.setCell W ⟨H,0,none⟩ (.int .i64 k)).setCell ⟨H,1,none⟩ (.string t)).setCell ⟨H,2,none⟩ (.bool g)).setCell ⟨H,3,none⟩ (.int .i64 l)).setCell ⟨H,4,none⟩ (.int .i64 a)).setCell ⟨H,5,none⟩ (.int .i64 e)))/\But (·=s) w0 (((((((World.setCell W ⟨H,0,none⟩ (.int .i64 k)).setCell ⟨H,1,none⟩ (.string t)).setCell ⟨H,2,none⟩ (.bool g)).setCell ⟨H,3,none⟩ (.int .i64 l)).setCell ⟨H,4,none⟩ (.int .i64 a)).setCell ⟨H,5,none⟩ (.int .i64 e))):=Qq h.sc h.but h.res h.lt h.new k l a e t g
set_option maxRecDepth 100000 in
set_option maxHeartbeats 4000000 in
theorem NQ.calls (s:Nat) (src:ByteArray) (i line mb base:Nat) (hd:Int->Value) (D:DataW Unit) (w:World) (hsz:src.size<=100000) (hl:line<=1000000) (hl1:0 < line) (hi:i<=src.size) (h:ScM s src i line mb base hd D w) :
  Calls Tryz.prog 91 #[.pointer (some ⟨s,0,none⟩)] w fun e w'=>But (·=s) w w'/\jI s src (.map (some mb)) i line e w' (S.step ((bytesOf src).drop i)):=by
 have HM:=aj.mk h;obtain ⟨n,hn⟩:∃ n,src.size=n:=⟨_,rfl⟩;obtain ⟨L,hL⟩:∃ L,bytesOf src=L:=⟨_,rfl⟩;have HN:aj (L.length=n):=⟨by rw [<- hL,bytesOf_length];exact hn⟩;obtain ⟨H,hH⟩:∃ H,w.heap.size=H:=⟨_,rfl⟩;have HH:=aj.mk hH;have hs:s < H:=by rw [<- hH];exact h.sc.lt
 have Ka:=Tryz.underlying53;rw [hn] at hsz hi;rw [hL];have hs1:=HM.out.sc.below (ay (Below.refl _ _) (.cells #[.int .i64 0,.string ⟨#[]⟩,.bool false,.int .i64 0,.int .i64 0,.int .i64 0] 53));have hb1:=(But.refl (·=s) w).alloc (.cells #[.int .i64 0,.string ⟨#[]⟩,.bool false,.int .i64 0,.int .i64 0,.int .i64 0] 53);have hr1:=heap_alloc_new w (.cells #[.int .i64 0,.string ⟨#[]⟩,.bool false,.int .i64 0,.int .i64 0,.int .i64 0] 53);have hz1:=World.size_alloc w (.cells #[.int .i64 0,.string ⟨#[]⟩,.bool false,.int .i64 0,.int .i64 0,.int .i64 0] 53);rw [hH] at hr1 hz1;have GV:=aj.mk hs1;have HB1:=aj.mk hb1;have HR1:=aj.mk hr1;have c0:=hs1.c0;have c1:=hs1.c1;have c2:=hs1.c2;clear hs1 hb1 hr1;go_enter Tryz.func91,Tryz.ntmps91
 go_upto_region 1 with (fail)
 try rw [hH]
 generalize (w.alloc (.cells #[.int .i64 0,.string ⟨#[]⟩,.bool false,.int .i64 0,.int .i64 0,.int .i64 0] 53))=W1 at *;by_cases hlt:i < n
 rotate_left
 ·have h1:(n:Int)<=(i:Int):=by omega
  obtain ⟨z0,z1,z2,z3,z4,z5⟩:W1.cell? ⟨H,0,none⟩=some (.int .i64 0)/\W1.cell? ⟨H,1,none⟩=some (.string ⟨#[]⟩)/\W1.cell? ⟨H,2,none⟩=some (.bool false)/\W1.cell? ⟨H,3,none⟩=some (.int .i64 0)/\W1.cell? ⟨H,4,none⟩=some (.int .i64 0)/\W1.cell? ⟨H,5,none⟩=some (.int .i64 0) :=
   ⟨au HR1.out 0,au HR1.out 1,au HR1.out 2,au HR1.out 3,au HR1.out 4,au HR1.out 5⟩
  obtain ⟨y0,y1,y2,y3,y4,y5⟩:W1.frozen? ⟨H,0,none⟩=false/\W1.frozen? ⟨H,1,none⟩=false/\W1.frozen? ⟨H,2,none⟩=false/\W1.frozen? ⟨H,3,none⟩=false/\W1.frozen? ⟨H,4,none⟩=false/\W1.frozen? ⟨H,5,none⟩=false :=
   ⟨aA HR1.out 0,aA HR1.out 1,aA HR1.out 2,aA HR1.out 3,aA HR1.out 4,aA HR1.out 5⟩
  have HX:aj (S.step (L.drop i)=.fin):=⟨by rw [List.drop_eq_nil_of_le (by rw [HN.out];omega)];rfl⟩;go_quiet (fail)
  have HE:=aj.mk (Qq (W:=W1.drewN nq) (m:=.map (some mb)) (src:=src) (i:=i) (line:=line) GV.out (HB1.out.drewN nq) HR1.out hs HH.out 0 0 0 0 ⟨#[]⟩ false);go_wp2;generalize ((((((World.setCell (W1.drewN nq) ⟨H,0,none⟩ (.int .i64 (0:Int))).setCell ⟨H,1,none⟩ (.string (⟨#[]⟩:ByteArray))).setCell ⟨H,2,none⟩ (.bool false)).setCell ⟨H,3,none⟩ (.int .i64 (0:Int))).setCell ⟨H,4,none⟩ (.int .i64 (0:Int))).setCell ⟨H,5,none⟩ (.int .i64 (0:Int)))=Z at *;refine bodyPost_ret (jv (fn:=Tryz.f91) rfl _ _ H 53 DK (0,0) _ _ rfl rfl HE.out.1 Tryz.underlying53 rfl (by kernel_rfl)) rfl ?_;rw [HX.out];exact ⟨HE.out.2.2,rfl,HE.out.2.1⟩
 have h1:¬ (n:Int)<=(i:Int):=by omega
 have h2:(i:Int) < (n:Int):=by omega
 have h3:(0:Int)<=(i:Int):=by omega
 have hbi:=kQ src i (by omega);rw [hL] at hbi;have hdi:=drop_at L i (by rw [HN.out];omega);have hcr:0<=L.getD i 0/\L.getD i 0 < 256:=gK src _ (by rw [hL];exact lK _ _ (by rw [HN.out];omega));obtain ⟨c,hc⟩:∃ c,L.getD i 0=c:=⟨_,rfl⟩;rw [hc] at hbi hdi hcr;have NJ:=aj.mk hdi;have HL:=aj.mk hL;clear hdi hc hL;go_quiet (fail)
 go_upto_region 3 with (fail)
 go_region
 have hst:∀ q,St s H src i line (.map (some mb)) (vQ 0 ⟨#[]⟩ false line i 0) w ((W1.drewN q).alloc (.cells #[.int .i64 0,.string ⟨#[]⟩,.bool false,.int .i64 line,.int .i64 i,.int .i64 0] 53)):=fun q=>by
  refine ⟨GV.out.below (ay (ak (Below.refl _ _) q) _),(HB1.out.drewN q).alloc _,(Below.heap_alloc _ _ _ (by show H < W1.heap.size;omega)).trans HR1.out,?_,hs,HH.out⟩;have:=heap_alloc_new (W1.drewN q) (.cells #[.int .i64 0,.string ⟨#[]⟩,.bool false,.int .i64 line,.int .i64 i,.int .i64 0] 53);rw [show (W1.drewN q).heap.size=H+1 from hz1] at this;exact this
 have HST:=aj.mk (hst (nq+1));clear hst;generalize (W1.drewN (nq+1)).alloc (.cells #[.int .i64 0,.string ⟨#[]⟩,.bool false,.int .i64 line,.int .i64 i,.int .i64 0] 53)=W2 at *;clear c0 c1 c2;have c0:=HST.out.sc.c0;have c1:=HST.out.sc.c1;have c2:=HST.out.sc.c2;have f1:=HST.out.sc.fr 1;have f2:=HST.out.sc.fr 2;go_upto_region 4 with (fail)
 go_quiet (fail)
 obtain ⟨z0,z1,z2,z3,z4,z5,y0,y1,y2,y3,y4,y5⟩:=HST.out.zs;obtain ⟨t0,t1,t2,t3,t4,t5,x0,x1,x5⟩:=HST.out.ts;by_cases c10:c=10
 ·subst c10
  have HX:aj (S.step (L.drop i)=.line):=⟨by rw [NJ.out];rfl⟩;go_upto_region 9 with (fail)
  have nJ:=aj.mk (((HST.out.drewN nq).at1 ((i:Int)+1)).at2 ((line:Int)+1));clear z0 z1 z2 z3 z4 z5 y0 y1 y2 y3 y4 y5 t0 t1 t2 t3 t4 t5 x0 x1 x5;obtain ⟨z0,z1,z2,z3,z4,z5,y0,y1,y2,y3,y4,y5⟩:=nJ.out.zs;obtain ⟨t0,t1,t2,t3,t4,t5,x0,x1,x5⟩:=nJ.out.ts;generalize ((W2.drewN nq).setCell ⟨s,1,none⟩ (.int .i64 ((i:Int)+1))).setCell ⟨s,2,none⟩ (.int .i64 ((line:Int)+1))=W3 at *;have HE:=aj.mk (nJ.out.end_ 0 line i 0 ⟨#[]⟩ false);go_region
  go_wp2;generalize ((((((World.setCell W3 ⟨H,0,none⟩ (.int .i64 (0:Int))).setCell ⟨H,1,none⟩ (.string (⟨#[]⟩:ByteArray))).setCell ⟨H,2,none⟩ (.bool false)).setCell ⟨H,3,none⟩ (.int .i64 (line:Int))).setCell ⟨H,4,none⟩ (.int .i64 (i:Int))).setCell ⟨H,5,none⟩ (.int .i64 (0:Int)))=Z at *;refine bodyPost_ret (jv (fn:=Tryz.f91) rfl _ _ H 53 (vQ 0 ⟨#[]⟩ false line i 0) (0,0) _ _ rfl rfl HE.out.1 Tryz.underlying53 rfl (by kernel_rfl)) rfl ?_;rw [HX.out];exact ⟨HE.out.2.2.drew,rfl,HE.out.2.1⟩
 have n10:¬ (c==10)=true:=by simpa using c10
 have e10:(c==10)=false:=by simpa using c10
 by_cases c32:c=32
 ·subst c32
  have HX:aj (S.step (L.drop i)=.blank):=⟨by rw [NJ.out];rfl⟩;go_upto_region 12 with (fail)
  have nJ:=aj.mk ((HST.out.drewN nq).at1 ((i:Int)+1));clear z0 z1 z2 z3 z4 z5 y0 y1 y2 y3 y4 y5 t0 t1 t2 t3 t4 t5 x0 x1 x5;obtain ⟨z0,z1,z2,z3,z4,z5,y0,y1,y2,y3,y4,y5⟩:=nJ.out.zs;obtain ⟨t0,t1,t2,t3,t4,t5,x0,x1,x5⟩:=nJ.out.ts;generalize (W2.drewN nq).setCell ⟨s,1,none⟩ (.int .i64 ((i:Int)+1))=W3 at *;have HE:=aj.mk (nJ.out.end_ 0 line i 0 ⟨#[]⟩ false);go_region
  go_wp2;generalize ((((((World.setCell W3 ⟨H,0,none⟩ (.int .i64 (0:Int))).setCell ⟨H,1,none⟩ (.string (⟨#[]⟩:ByteArray))).setCell ⟨H,2,none⟩ (.bool false)).setCell ⟨H,3,none⟩ (.int .i64 (line:Int))).setCell ⟨H,4,none⟩ (.int .i64 (i:Int))).setCell ⟨H,5,none⟩ (.int .i64 (0:Int)))=Z at *;refine bodyPost_ret (jv (fn:=Tryz.f91) rfl _ _ H 53 (vQ 0 ⟨#[]⟩ false line i 0) (0,0) _ _ rfl rfl HE.out.1 Tryz.underlying53 rfl (by kernel_rfl)) rfl ?_;rw [HX.out];exact ⟨HE.out.2.2.drew,rfl,HE.out.2.1⟩
 have e32:(c==32)=false:=by simpa using c32
 have HXR:aj (bytesOf (src.extract i n)=L.drop i):=⟨by rw [<- hn,sH,HL.out]⟩;obtain ⟨b,hb⟩:∃ b,S.gV (L.drop i)=b:=⟨_,rfl⟩;have hz2:(i:Int)<=(n:Int):=by omega
 have HP:=Lib.hid (fun W=>xA.calls (src.extract i n) 47 42 b (by rw [HXR.out,<- hb,S.Bl];rfl) W);have LY:=aj.mk hb;clear hb;go_upto_region 13 with (fail)
 refine dM (fun W=>∃ q,W=W2.drewN q) (by kernel_rfl) (by kernel_rfl) ⟨nq+1,rfl⟩ ?_;repeat (go_big_quiet_step ((rename_i q;(go_at_call 123;refine (HP.out _).mono ?_;rintro e w' ⟨rfl,rfl⟩;exact ⟨rfl,q,rfl⟩))))
 refine wpQuiet_nil ?_;rintro W ⟨q,rfl⟩
 have jO:=aj.mk (HST.out.drewN q);clear c0 c1 c2 f1 f2;clear z0 z1 z2 z3 z4 z5 y0 y1 y2 y3 y4 y5 t0 t1 t2 t3 t4 t5 x0 x1 x5;generalize W2.drewN q=W4 at *;have c0:=jO.out.sc.c0;have c1:=jO.out.sc.c1;have c2:=jO.out.sc.c2;obtain ⟨z0,z1,z2,z3,z4,z5,y0,y1,y2,y3,y4,y5⟩:=jO.out.zs;obtain ⟨t0,t1,t2,t3,t4,t5,x0,x1,x5⟩:=jO.out.ts;cases b with
 | true =>
  have hcm:=EH.calls s src (.map (some mb)) i line W4 (by omega) (by omega) (by omega) (by rw [HL.out];exact LY.out) jO.out.sc;have hsh:=rJ i (line - 1) (L.drop i) 0 0 1 0 (by omega);rw [show line - 1+1=line by omega] at hsh;simp only [Nat.add_zero,if_true] at hsh;rw [HL.out,hsh] at hcm;have hX:S.step (L.drop i)=S.kT (S.lV (L.drop i) 0 0 1 0):=by
   have hb0:=LY.out;rw [NJ.out] at hb0 |-
   simp only [S.step];rw [if_neg c10,if_neg c32,if_pos hb0]
  cases hR:S.lV (L.drop i) 0 0 1 0 with
  | eof =>
   rw [hR] at hcm hX;have HX:aj (S.step (L.drop i)=.err 6 0):=⟨hX⟩;have zX:=Lib.hid hcm;clear hX hcm hR hsh;go_wp2_with (go_at_call 124;refine zX.out.mono ?_;rintro e w3 ⟨hb3,rfl,hs3⟩;unfold Fails)
   refine ⟨rfl,jO.out.but.trans' hb3,?_⟩;rw [HX.out];exact ⟨rfl,hs3⟩
  | done i' l' b' =>
   rw [hR] at hcm hX;have hl':=uU (L.drop i) 0 0 1 0 (by omega) (by omega) i' l' b' hR;by_cases hb0:b'=0
   rotate_left
   ·have HX:aj (S.step (L.drop i)=.err 13 (b' - 1)):=⟨by rw [hX];simp only [S.kT];rw [if_neg hb0]⟩
    simp only [shC,hb0,if_false,oN] at hcm;simp only [show ¬ (line - 1+b'=0) by omega,if_false] at hcm;have hbl:line+(b' - 1)=line - 1+b':=by omega
    have HBL:=aj.mk hbl;have zX:=Lib.hid hcm;clear hX hcm hR hsh hbl;go_wp2_with (go_at_call 124;refine zX.out.mono ?_;rintro e w3 ⟨hb3,rfl,hs3⟩;unfold Fails)
    refine ⟨rfl,jO.out.but.trans' hb3,?_⟩;rw [HX.out];simp only [jI,HBL.out];exact ⟨rfl,hs3⟩
   have HX:aj (S.step (L.drop i)=.lV i' (l' - 1)):=⟨by rw [hX];simp only [S.kT];rw [if_pos hb0]⟩;simp only [shC,hb0,if_true,oN] at hcm;obtain ⟨N,hN⟩:∃ N,i+i'=N:=⟨_,rfl⟩;obtain ⟨M,hM⟩:∃ M,line - 1+l'=M:=⟨_,rfl⟩;rw [hN,hM] at hcm;have LZ:aj (i+i'=N/\line+(l' - 1)=M):=⟨hN,by omega⟩;have zX:=Lib.hid hcm;clear hX hcm hR hsh hN hM;go_upto_region 15 with (go_at_call 124;refine zX.out.mono ?_;rintro e w3 ⟨hb3,rfl,hs3⟩)
   have nJ:=aj.mk (jO.out.call hb3 hs3);clear z0 z1 z2 z3 z4 z5 y0 y1 y2 y3 y4 y5 t0 t1 t2 t3 t4 t5 x0 x1 x5;obtain ⟨z0,z1,z2,z3,z4,z5,y0,y1,y2,y3,y4,y5⟩:=nJ.out.zs;obtain ⟨t0,t1,t2,t3,t4,t5,x0,x1,x5⟩:=nJ.out.ts;generalize w3=W3 at *;have HE:=aj.mk (nJ.out.end_ 0 line i 0 ⟨#[]⟩ false);go_region
   go_wp2;generalize ((((((World.setCell W3 ⟨H,0,none⟩ (.int .i64 (0:Int))).setCell ⟨H,1,none⟩ (.string (⟨#[]⟩:ByteArray))).setCell ⟨H,2,none⟩ (.bool false)).setCell ⟨H,3,none⟩ (.int .i64 (line:Int))).setCell ⟨H,4,none⟩ (.int .i64 (i:Int))).setCell ⟨H,5,none⟩ (.int .i64 (0:Int)))=Z at *;refine bodyPost_ret (jv (fn:=Tryz.f91) rfl _ _ H 53 (vQ 0 ⟨#[]⟩ false line i 0) (0,0) _ _ rfl rfl HE.out.1 Tryz.underlying53 rfl (by kernel_rfl)) rfl ?_;rw [HX.out];refine ⟨HE.out.2.2.drew,?_⟩;simp only [jI,LZ.out.1,LZ.out.2];exact ⟨rfl,HE.out.2.1⟩
 | false =>
  have hb0:=LY.out;by_cases hq:c=39\/c=34
  ·have hql:(c==39)=true\/((c==39)=false/\(c==34)=true):=by
    by_cases h39:c=39
    ·exact .inl (by simpa using h39)
    ·exact .inr ⟨by simpa using h39,by simpa using hq.resolve_left h39⟩
   rcases hql with e39 | ⟨e39,e34⟩
   ·have hX:S.step (L.drop i)=S.jF 2 (S.fZ (L.drop i)):=by
     rw [NJ.out] at hb0 |-
     simp only [S.step];rw [if_neg c10,if_neg c32,if_neg (by rw [hb0];exact Bool.false_ne_true),if_pos hq]
    have hcl:=pJ.calls s src (.map (some mb)) i line W4 (by omega) (by omega) (by omega) jO.out.sc;rw [HL.out] at hcl;cases hT:S.fZ (L.drop i) with
    | err c' =>
     rw [hT] at hX hcl;have HX:aj (S.step (L.drop i)=.err c' 0):=⟨hX⟩;have zX:=Lib.hid hcl;clear hX hcl hT;go_wp2_with ((go_at_call 70;refine zX.out.mono ?_;rintro e w3 ⟨hb3,rfl,hs3⟩;unfold Fails))
     refine ⟨rfl,jO.out.but.trans' hb3,?_⟩;rw [HX.out];exact ⟨rfl,by obtain ⟨i',h'⟩:=hs3;exact ⟨i',line,h'⟩⟩
    | ok t n' =>
     rw [hT] at hX hcl;have HX:aj (S.step (L.drop i)=.tok 2 t n'):=⟨hX⟩;obtain ⟨N,hN⟩:∃ N,i+n'=N:=⟨_,rfl⟩;have LZ:=aj.mk hN;simp only [sJ,hN] at hcl;have zX:=Lib.hid hcl;clear hX hcl hT hN;clear z0 z1 z2 z3 z4 z5 y0 y1 y2 y3 y4 y5 t0 t1 t2 t3 t4 t5 x0 x1 x5;go_upto_region 21 with ((go_at_call 70;refine zX.out.mono ?_;rintro e w3 ⟨hb3,rfl,hs3⟩;have wP:=aj.mk (jO.out.call hb3 hs3);have OQ:=wP.out.sc.c1;obtain ⟨t0,t1,t2,t3,t4,t5,x0,x1,x5⟩:=wP.out.ts))
     have nJ:aj (St s H src N line (.map (some mb)) (vQ 2 (strOfNums t) false line i N) w (((w3.setCell ⟨H+1,0,none⟩ (.int .i64 2)).setCell ⟨H+1,1,none⟩ (.string (strOfNums t))).setCell ⟨H+1,5,none⟩ (.int .i64 N))) :=
      ⟨((wP.out.tk 0 (.int .i64 2) (row':=vQ 2 ⟨#[]⟩ false line i 0) rfl).tk 1 (.string (strOfNums t)) (row':=vQ 2 (strOfNums t) false line i 0) rfl).tk 5 (.int .i64 N) rfl⟩
     clear t0 t1 t2 t3 t4 t5 x0 x1 x5 OQ;obtain ⟨z0,z1,z2,z3,z4,z5,y0,y1,y2,y3,y4,y5⟩:=nJ.out.zs;obtain ⟨t0,t1,t2,t3,t4,t5,x0,x1,x5⟩:=nJ.out.ts;generalize (((w3.setCell ⟨H+1,0,none⟩ (.int .i64 2)).setCell ⟨H+1,1,none⟩ (.string (strOfNums t))).setCell ⟨H+1,5,none⟩ (.int .i64 (N:Int)))=W3 at *;have HE:=aj.mk (nJ.out.end_ 2 line i N (strOfNums t) false);go_region
     go_wp2;generalize ((((((World.setCell W3 ⟨H,0,none⟩ (.int .i64 (2:Int))).setCell ⟨H,1,none⟩ (.string (strOfNums t))).setCell ⟨H,2,none⟩ (.bool false)).setCell ⟨H,3,none⟩ (.int .i64 (line:Int))).setCell ⟨H,4,none⟩ (.int .i64 (i:Int))).setCell ⟨H,5,none⟩ (.int .i64 (N:Int)))=Z at *;refine bodyPost_ret (jv (fn:=Tryz.f91) rfl _ _ H 53 (vQ 2 (strOfNums t) false line i N) (0,0) _ _ rfl rfl HE.out.1 Tryz.underlying53 rfl (by kernel_rfl)) rfl ?_;rw [HX.out];refine ⟨HE.out.2.2.drew,?_⟩;simp only [jI,LZ.out];exact ⟨rfl,HE.out.2.1⟩
   ·have hX:S.step (L.drop i)=S.jF 2 (S.fZ (L.drop i)):=by
     rw [NJ.out] at hb0 |-
     simp only [S.step];rw [if_neg c10,if_neg c32,if_neg (by rw [hb0];exact Bool.false_ne_true),if_pos hq]
    have hcl:=pJ.calls s src (.map (some mb)) i line W4 (by omega) (by omega) (by omega) jO.out.sc;rw [HL.out] at hcl;cases hT:S.fZ (L.drop i) with
    | err c' =>
     rw [hT] at hX hcl;have HX:aj (S.step (L.drop i)=.err c' 0):=⟨hX⟩;have zX:=Lib.hid hcl;clear hX hcl hT;go_wp2_with ((go_at_call 70;refine zX.out.mono ?_;rintro e w3 ⟨hb3,rfl,hs3⟩;unfold Fails))
     refine ⟨rfl,jO.out.but.trans' hb3,?_⟩;rw [HX.out];exact ⟨rfl,by obtain ⟨i',h'⟩:=hs3;exact ⟨i',line,h'⟩⟩
    | ok t n' =>
     rw [hT] at hX hcl;have HX:aj (S.step (L.drop i)=.tok 2 t n'):=⟨hX⟩;obtain ⟨N,hN⟩:∃ N,i+n'=N:=⟨_,rfl⟩;have LZ:=aj.mk hN;simp only [sJ,hN] at hcl;have zX:=Lib.hid hcl;clear hX hcl hT hN;clear z0 z1 z2 z3 z4 z5 y0 y1 y2 y3 y4 y5 t0 t1 t2 t3 t4 t5 x0 x1 x5;go_upto_region 21 with ((go_at_call 70;refine zX.out.mono ?_;rintro e w3 ⟨hb3,rfl,hs3⟩;have wP:=aj.mk (jO.out.call hb3 hs3);have OQ:=wP.out.sc.c1;obtain ⟨t0,t1,t2,t3,t4,t5,x0,x1,x5⟩:=wP.out.ts))
     have nJ:aj (St s H src N line (.map (some mb)) (vQ 2 (strOfNums t) false line i N) w (((w3.setCell ⟨H+1,0,none⟩ (.int .i64 2)).setCell ⟨H+1,1,none⟩ (.string (strOfNums t))).setCell ⟨H+1,5,none⟩ (.int .i64 N))) :=
      ⟨((wP.out.tk 0 (.int .i64 2) (row':=vQ 2 ⟨#[]⟩ false line i 0) rfl).tk 1 (.string (strOfNums t)) (row':=vQ 2 (strOfNums t) false line i 0) rfl).tk 5 (.int .i64 N) rfl⟩
     clear t0 t1 t2 t3 t4 t5 x0 x1 x5 OQ;obtain ⟨z0,z1,z2,z3,z4,z5,y0,y1,y2,y3,y4,y5⟩:=nJ.out.zs;obtain ⟨t0,t1,t2,t3,t4,t5,x0,x1,x5⟩:=nJ.out.ts;generalize (((w3.setCell ⟨H+1,0,none⟩ (.int .i64 2)).setCell ⟨H+1,1,none⟩ (.string (strOfNums t))).setCell ⟨H+1,5,none⟩ (.int .i64 (N:Int)))=W3 at *;have HE:=aj.mk (nJ.out.end_ 2 line i N (strOfNums t) false);go_region
     go_wp2;generalize ((((((World.setCell W3 ⟨H,0,none⟩ (.int .i64 (2:Int))).setCell ⟨H,1,none⟩ (.string (strOfNums t))).setCell ⟨H,2,none⟩ (.bool false)).setCell ⟨H,3,none⟩ (.int .i64 (line:Int))).setCell ⟨H,4,none⟩ (.int .i64 (i:Int))).setCell ⟨H,5,none⟩ (.int .i64 (N:Int)))=Z at *;refine bodyPost_ret (jv (fn:=Tryz.f91) rfl _ _ H 53 (vQ 2 (strOfNums t) false line i N) (0,0) _ _ rfl rfl HE.out.1 Tryz.underlying53 rfl (by kernel_rfl)) rfl ?_;rw [HX.out];refine ⟨HE.out.2.2.drew,?_⟩;simp only [jI,LZ.out];exact ⟨rfl,HE.out.2.1⟩
  have e39:(c==39)=false:=by simpa using fun h=>hq (.inl h)
  have e34:(c==34)=false:=by simpa using fun h=>hq (.inr h)
  have hsy:=fun W=>jf.calls c (S.sym c) W (LQ c hcr.1 hcr.2)
  by_cases hsc:S.sym c=true
  ·have Hl:=Lib.hid hsy
   rw [hsc] at Hl;clear hsy;have Qr:=jO;clear jO;go_upto_region 19 with (go_at_call 55;refine (Hl.out _).mono ?_;rintro e w' ⟨rfl,⟨⟨q2,rfl⟩⟩⟩)
   have jO:=aj.mk (Qr.out.drewN q2);clear Qr c0 c1 c2 z0 z1 z2 z3 z4 z5 y0 y1 y2 y3 y4 y5 t0 t1 t2 t3 t4 t5 x0 x1 x5;generalize W4.drewN q2=W5 at *;have c0:=jO.out.sc.c0;have c1:=jO.out.sc.c1;have c2:=jO.out.sc.c2;obtain ⟨z0,z1,z2,z3,z4,z5,y0,y1,y2,y3,y4,y5⟩:=jO.out.zs;obtain ⟨t0,t1,t2,t3,t4,t5,x0,x1,x5⟩:=jO.out.ts;have hX:S.step (L.drop i)=S.jF 1 (S.jw (L.drop i)):=by
    rw [NJ.out] at hb0 |-
    simp only [S.step];rw [if_neg c10,if_neg c32,if_neg (by rw [hb0];exact Bool.false_ne_true),if_neg hq,if_pos hsc]
   have hcl:=zH.calls s src (.map (some mb)) i line W5 (by omega) (by omega) (by omega) jO.out.sc;rw [HL.out] at hcl;cases hT:S.jw (L.drop i) with
   | err c' =>
    rw [hT] at hX hcl;have HX:aj (S.step (L.drop i)=.err c' 0):=⟨hX⟩;have zX:=Lib.hid hcl;clear hX hcl hT;go_wp2_with (go_at_call 56;refine zX.out.mono ?_;rintro e w3 ⟨hb3,rfl,hs3⟩;unfold Fails)
    refine ⟨rfl,jO.out.but.trans' hb3,?_⟩;rw [HX.out];exact ⟨rfl,by obtain ⟨i',h'⟩:=hs3;exact ⟨i',line,h'⟩⟩
   | ok t n' =>
    rw [hT] at hX hcl;have HX:aj (S.step (L.drop i)=.tok 1 t n'):=⟨hX⟩;obtain ⟨N,hN⟩:∃ N,i+n'=N:=⟨_,rfl⟩;have LZ:=aj.mk hN;simp only [sJ,hN] at hcl;have zX:=Lib.hid hcl;clear hX hcl hT hN;clear z0 z1 z2 z3 z4 z5 y0 y1 y2 y3 y4 y5 t0 t1 t2 t3 t4 t5 x0 x1 x5;go_upto_region 21 with (go_at_call 56;refine zX.out.mono ?_;rintro e w3 ⟨hb3,rfl,hs3⟩;have wP:=aj.mk (jO.out.call hb3 hs3);have OQ:=wP.out.sc.c1;obtain ⟨t0,t1,t2,t3,t4,t5,x0,x1,x5⟩:=wP.out.ts)
    have nJ:aj (St s H src N line (.map (some mb)) (vQ 1 (strOfNums t) false line i N) w (((w3.setCell ⟨H+1,0,none⟩ (.int .i64 1)).setCell ⟨H+1,1,none⟩ (.string (strOfNums t))).setCell ⟨H+1,5,none⟩ (.int .i64 N))) :=
     ⟨((wP.out.tk 0 (.int .i64 1) (row':=vQ 1 ⟨#[]⟩ false line i 0) rfl).tk 1 (.string (strOfNums t)) (row':=vQ 1 (strOfNums t) false line i 0) rfl).tk 5 (.int .i64 N) rfl⟩
    clear t0 t1 t2 t3 t4 t5 x0 x1 x5 OQ;obtain ⟨z0,z1,z2,z3,z4,z5,y0,y1,y2,y3,y4,y5⟩:=nJ.out.zs;obtain ⟨t0,t1,t2,t3,t4,t5,x0,x1,x5⟩:=nJ.out.ts;generalize (((w3.setCell ⟨H+1,0,none⟩ (.int .i64 1)).setCell ⟨H+1,1,none⟩ (.string (strOfNums t))).setCell ⟨H+1,5,none⟩ (.int .i64 (N:Int)))=W3 at *;have HE:=aj.mk (nJ.out.end_ 1 line i N (strOfNums t) false);go_region
    go_wp2;generalize ((((((World.setCell W3 ⟨H,0,none⟩ (.int .i64 (1:Int))).setCell ⟨H,1,none⟩ (.string (strOfNums t))).setCell ⟨H,2,none⟩ (.bool false)).setCell ⟨H,3,none⟩ (.int .i64 (line:Int))).setCell ⟨H,4,none⟩ (.int .i64 (i:Int))).setCell ⟨H,5,none⟩ (.int .i64 (N:Int)))=Z at *;refine bodyPost_ret (jv (fn:=Tryz.f91) rfl _ _ H 53 (vQ 1 (strOfNums t) false line i N) (0,0) _ _ rfl rfl HE.out.1 Tryz.underlying53 rfl (by kernel_rfl)) rfl ?_;rw [HX.out];refine ⟨HE.out.2.2.drew,?_⟩;simp only [jI,LZ.out];exact ⟨rfl,HE.out.2.1⟩
  have hsf:S.sym c=false:=by simpa using hsc
  have Hl:=Lib.hid hsy;rw [hsf] at Hl;clear hsy;have Qr:=jO;clear jO;go_upto_region 5 with (go_at_call 55;refine (Hl.out _).mono ?_;rintro e w' ⟨rfl,⟨⟨q2,rfl⟩⟩⟩)
  have jO:=aj.mk (Qr.out.drewN q2);clear Qr c0 c1 c2 z0 z1 z2 z3 z4 z5 y0 y1 y2 y3 y4 y5 t0 t1 t2 t3 t4 t5 x0 x1 x5;generalize W4.drewN q2=W5 at *;have c0:=jO.out.sc.c0;have c1:=jO.out.sc.c1;have c2:=jO.out.sc.c2;obtain ⟨z0,z1,z2,z3,z4,z5,y0,y1,y2,y3,y4,y5⟩:=jO.out.zs;obtain ⟨t0,t1,t2,t3,t4,t5,x0,x1,x5⟩:=jO.out.ts;have hX:S.step (L.drop i)=S.jF 3 (S.iY (L.drop i)):=by
   rw [NJ.out] at hb0 |-
   simp only [S.step];rw [if_neg c10,if_neg c32,if_neg (by rw [hb0];exact Bool.false_ne_true),if_neg hq,if_neg hsc]
  have hcl:=NI.calls s src i line mb base hd D W5 (by omega) (by omega) (by omega) ⟨jO.out.sc,HM.out.sg.but HM.out.nm HM.out.nr jO.out.but,HM.out.nm,HM.out.nr⟩;rw [HL.out] at hcl;cases hT:S.iY (L.drop i) with
  | err c' =>
   rw [hT] at hX hcl;have HX:aj (S.step (L.drop i)=.err c' 0):=⟨hX⟩;have zX:=Lib.hid hcl;clear hX hcl hT;go_wp2_with (go_at_call 125;refine zX.out.mono ?_;rintro e w3 ⟨hb3,rfl,hs3⟩;unfold Fails)
   refine ⟨rfl,jO.out.but.trans' hb3,?_⟩;rw [HX.out];exact ⟨rfl,by obtain ⟨i',h'⟩:=hs3;exact ⟨i',line,h'⟩⟩
  | ok t n' =>
   rw [hT] at hX hcl;have HX:aj (S.step (L.drop i)=.tok 3 t n'):=⟨hX⟩;obtain ⟨N,hN⟩:∃ N,i+n'=N:=⟨_,rfl⟩;have LZ:=aj.mk hN;simp only [sJ,hN] at hcl;have zX:=Lib.hid hcl;clear hX hcl hT hN;clear z0 z1 z2 z3 z4 z5 y0 y1 y2 y3 y4 y5 t0 t1 t2 t3 t4 t5 x0 x1 x5;go_upto_region 21 with (go_at_call 125;refine zX.out.mono ?_;rintro e w3 ⟨hb3,rfl,hs3⟩;have wP:=aj.mk (jO.out.call hb3 hs3);have OQ:=wP.out.sc.c1;obtain ⟨t0,t1,t2,t3,t4,t5,x0,x1,x5⟩:=wP.out.ts)
   have nJ:aj (St s H src N line (.map (some mb)) (vQ 3 (strOfNums t) false line i N) w (((w3.setCell ⟨H+1,0,none⟩ (.int .i64 3)).setCell ⟨H+1,1,none⟩ (.string (strOfNums t))).setCell ⟨H+1,5,none⟩ (.int .i64 N))) :=
    ⟨((wP.out.tk 0 (.int .i64 3) (row':=vQ 3 ⟨#[]⟩ false line i 0) rfl).tk 1 (.string (strOfNums t)) (row':=vQ 3 (strOfNums t) false line i 0) rfl).tk 5 (.int .i64 N) rfl⟩
   clear t0 t1 t2 t3 t4 t5 x0 x1 x5 OQ;obtain ⟨z0,z1,z2,z3,z4,z5,y0,y1,y2,y3,y4,y5⟩:=nJ.out.zs;obtain ⟨t0,t1,t2,t3,t4,t5,x0,x1,x5⟩:=nJ.out.ts;generalize (((w3.setCell ⟨H+1,0,none⟩ (.int .i64 3)).setCell ⟨H+1,1,none⟩ (.string (strOfNums t))).setCell ⟨H+1,5,none⟩ (.int .i64 (N:Int)))=W3 at *;have HE:=aj.mk (nJ.out.end_ 3 line i N (strOfNums t) false);go_region
   go_wp2;generalize ((((((World.setCell W3 ⟨H,0,none⟩ (.int .i64 (3:Int))).setCell ⟨H,1,none⟩ (.string (strOfNums t))).setCell ⟨H,2,none⟩ (.bool false)).setCell ⟨H,3,none⟩ (.int .i64 (line:Int))).setCell ⟨H,4,none⟩ (.int .i64 (i:Int))).setCell ⟨H,5,none⟩ (.int .i64 (N:Int)))=Z at *;refine bodyPost_ret (jv (fn:=Tryz.f91) rfl _ _ H 53 (vQ 3 (strOfNums t) false line i N) (0,0) _ _ rfl rfl HE.out.1 Tryz.underlying53 rfl (by kernel_rfl)) rfl ?_;rw [HX.out];refine ⟨HE.out.2.2.drew,?_⟩;simp only [jI,LZ.out];exact ⟨rfl,HE.out.2.1⟩
end Go.Proofs.YtkkpjonfaflkmaaGreatDoor.T
namespace Go.Proofs.YtkkpjonfaflkmaaGreatDoor.T
open Go.RowKit
set_option linter.unusedSimpArgs false
set_option linter.unusedVariables false
variable {P:Program} {ops:Array Oper} {md:Region.Mode} {w:World} {k:Nat}
theorem wo {o:Oper} {a:Act} {K:Act->Prop} {K':Act->World->Prop} {Q':Exit->Act->World->Prop} (h:∀ a,K a->K' a w) (hh:o.still P a w K):o.wpIn Fence.wide k P a w K' Q':=by
 unfold Oper.still at hh;unfold Oper.wpIn;refine ⟨fun f _=>trivial,?_⟩;rw [show Fence.wide.round=none from rfl,Oper.semAt_none];generalize (execOp a.eval o).run P w=r at *;cases r with
 | ok n w' =>
  cases n<;>simp only [Oper.stillUpon] at hh<;>simp only [Oper.uponIn]
  case enter f args =>
   obtain ⟨rfl,v,hc,hn⟩:=hh;exact ⟨fun e=>(by cases e),(callsIn_wide.2 hc).mono (fun e w'' ⟨he,hw⟩=>by subst he;subst hw;exact h _ hn)⟩
  all_goals (obtain ⟨rfl,h2⟩:=hh;exact h _ h2)
 | halt x w'=>simp only [Oper.stillUpon] at hh
theorem vF {i:Nat} {a:Act} {K:Act->Prop} {K':Act->World->Prop} {Q':Exit->Act->World->Prop} (h:∀ a,K a->K' a w) (hh:stOp P ops w i K a):wpOpIn Fence.wide k P ops Q' i K' a w:=by
 unfold stOp at hh;unfold wpOpIn;split
 ·rename_i ho;simp only [ho] at hh;exact h _ hh
 ·rename_i o ho
  simp only [ho] at hh;split
  ·rename_i hw;simp only [hw,if_true] at hh;exact wo h hh
  ·rename_i hw;simp only [hw] at hh;exact ⟨fun f _=>trivial,h _ hh⟩
theorem nY {n g:Nat} {L:Array Bool->Act->Prop} {Q':Exit->Act->World->Prop} (hL:∀ listed a,L listed a->wpAnyIn Fence.wide k P md ops Q' g listed a w) :
  ∀ (f:Nat) (listed:Array Bool) (a:Act),wpAnyL P md ops w n L f listed a->wpAnyIn Fence.wide k P md ops Q' (f+g) listed a w
 | 0,listed,a,h=>by rw [Nat.zero_add];exact hL _ _ h
 | f+1,listed,a,h=>by
  rw [show f+1+g=(f+g)+1 by omega];exact ⟨fun h0=>absurd h0 h.1,fun i hi=>vF (fun a' h'=>nY hL f _ a' h') (h.2 i hi).2⟩
theorem oJ {Q':Exit->Act->World->Prop}:∀ (l:List Oper) (m:Nat) (listed:Array Bool) (a:Act) (w:World),(∀ j,l[j]?=ops[m+j]?) ->
  Region.seqB md ops l.length m listed=true->wpListIn Fence.wide k P ops Q' l a w->wpAnyIn Fence.wide k P md ops Q' l.length listed a w
 | [],_,_,_,_,_,hB,h=>⟨by simpa [Region.seqB] using hB,h⟩
 | o::l,m,listed,a,w,hl,hB,h=>by
  have h0:ops[m]?=some o:=by simpa using (hl 0).symm
  simp only [List.length_cons,Region.seqB,Bool.and_eq_true,decide_eq_true_eq] at hB;refine ⟨fun h1=>(by rw [hB.1] at h1;cases h1),fun i hi=>?_⟩;rw [hB.1] at hi;have hik:i=m:=by simpa using hi
  subst hik;have hw:wpOpIn Fence.wide k P ops Q' i (wpListIn Fence.wide k P ops Q' l) a w:=by unfold wpOpIn;simp only [h0];exact h
  exact wpOpIn_mono (fun a' w' h'=>oJ l (i+1) _ a' w' (fun j=>by have:=hl (j+1);simpa [Nat.add_assoc,Nat.add_comm 1 j] using this) hB.2 h') hw
theorem gL {id:Nat} {Q:Exit->Act->World->Prop} {a:Act} {w:World} {l:List Oper} (n:Nat) (hm:P.follows .mixedOrders=true) (hB:Region.lexTailB .any l.toArray n=true)
  (h:wpStill P l.toArray w.drew (fun a'=>wpListIn Fence.wide k P l.toArray Q (l.drop n) a' w.drew) (l.take n) a):(Code.region id l.toArray true).wpIn Fence.wide k P Q a w:=by
 simp only [Region.lexTailB,Bool.and_eq_true,decide_eq_true_eq] at hB;obtain ⟨⟨⟨⟨hsel,hn⟩,hs⟩,hc⟩,hlex⟩:=hB;have hn':n < l.length:=by simpa using hn
 have htl:(l.take n).length=n:=by simp;omega
 have hdl:(l.drop n).length=l.toArray.size - n:=by simp
 have inv0:HeadInv .any l.toArray n (Array.replicate l.toArray.size false) :=
  ⟨by simp,fun j oj _ hl=>(by rw [getD_replicate_false] at hl;cases hl),fun t _ ht=>getD_in (by simpa using ht) (getD_replicate_false _ _)⟩
 have H:=wpAnyL_lex (md:=.any) (g:=l.toArray.size - n) hsel hs hc hn (l.take n) 0 _ a (fun j hj=>by
  have hj':j < n:=by rw [htl] at hj;exact hj
  simp [hj']) (by simpa using htl) inv0 (by rw [htl];exact hlex) h
 refine wpIn_region_any hm ?_;have:=nY (Q':=Q) (k:=k) (g:=l.toArray.size - n) (fun listed a' hL=>by
  have:=oJ (md:=.any) (Q':=Q) (k:=k) (l.drop n) n listed a' w.drew (fun j=>by simp [List.getElem?_drop]) (by rw [hdl];exact hL.1) hL.2;rwa [hdl] at this) _ _ _ H
 rw [htl,show n+(l.toArray.size - n)=l.toArray.size by omega] at this;exact this
end Go.Proofs.YtkkpjonfaflkmaaGreatDoor.T
