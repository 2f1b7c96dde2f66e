/- For ScanTokens: its callees return what is said of them. -/
import Derived.Test.YtkkpjonfaflkmaaGreatDoorCScanTokens24
namespace Go.Proofs.YtkkpjonfaflkmaaGreatDoor.T
open Go.RowKit Go.Maps Go.Proofs.ah.aT Go.Proofs.ah.bn Go.Proofs.ah.bA
set_option linter.unusedSimpArgs false
set_option linter.unusedVariables false
attribute [local go_sem] Oper.semAt_some
def XG (x:gD):List Value:=[.int .i64 x.f0,.string x.f1,.bool x.f2,.int .i64 x.f3,.int .i64 x.f4,.int .i64 x.f5]
def FZ (l:List gD):List Value:=(l.map XG).flatten
theorem MZ:∀ (l:List gD) (j:Nat) (t:gD),l[j]?=some t->((FZ l).drop (j*6)).take 6=XG t
 | [],j,t,h=>by simp at h
 | x::l,0,t,h=>by
  simp only [List.getElem?_cons_zero,Option.some.injEq] at h;subst h;simp [FZ,XG]
 | x::l,j+1,t,h=>by
  simp only [List.getElem?_cons_succ] at h;have:=MZ l j t h;have e:(FZ (x::l)).drop ((j+1)*6)=(FZ l).drop (j*6):=by
   simp only [FZ,List.map_cons,List.flatten_cons];rw [List.drop_append,List.drop_eq_nil_of_le (by simp [XG];omega),List.nil_append];congr 1
   simp [XG];omega
  rw [e];exact this
theorem RY {W:World} {g:Nat} {cs:Array Value} {l:List gD} (hg:W.heap[g]?=some (.cells cs 53 (0,0))) (ht:cs.toList=FZ l) (hl:l.length<=300000):Kd.C lD W (some ⟨g,0,none⟩) l.length l:=by
 refine ⟨rfl,by omega,fun _=>⟨_,rfl,fun j p hj=>?_⟩⟩;refine ⟨XG p,rfl,PL W p,fun i u hu=>?_⟩;have hi:i < 6:=(List.getElem?_eq_some_iff.1 hu).1;have e1:(FZ l)[j*6+i]?=some u:=by
  rw [<- MZ l j p hj,List.getElem?_take_of_lt hi,List.getElem?_drop] at hu;exact hu
 rw [<- ht] at e1;show W.cell? ((⟨g,0,none⟩:Addr).add (j*6+i))=some u
 rw [add_plain,au hg];simpa using e1
theorem adU {w:World} {ad:Addr} {l:List gD} (k m:Nat) (hk:k+m<=l.length) (h:Kd.C lD w (some ad) l.length l):Kd.C lD w (some (ad.add (k*6))) m ((l.drop k).take m):=by
 obtain ⟨h1,h2,h3⟩:=h;refine ⟨by rw [List.length_take,List.length_drop];omega,by omega,fun hne=>?_⟩;obtain ⟨ad',e,hj⟩:=h3 (by omega);cases e
 refine ⟨_,rfl,fun j p hp=>?_⟩;have hp2:l[k+j]?=some p:=by
  rw [List.getElem?_take] at hp;split at hp
  ·rw [List.getElem?_drop] at hp;exact hp
  ·cases hp
 obtain ⟨c,c1,c2,c3⟩:=hj (k+j) p hp2;refine ⟨c,c1,c2,fun i u hu=>?_⟩;have:=c3 i u hu;have e6:lD.sz=6:=rfl;rw [e6] at this |-
 rw [Go.Addr.add_add,show k*6+(j*6+i)=(k+j)*6+i by omega];exact this
def nA (l:List gD) (i:Nat):gD:=aU l (i:Int)
def Ae (l:List gD) (i first:Nat):Bool :=
 lC [nA l (i - 1),nA l i]||(decide (first+2<=i)&&!(nA l (i - 1)).f2&&decide ((nA l (i - 2)).f0=1)&&lC [nA l (i - 2),nA l (i - 1),nA l i])
def qh (l:List gD) (i first:Nat):List Int :=
 if i=first then [] else if (nA l i).f2=true then [32] else if Ae l i first=true then [47,42,42,47] else []
def OG (l:List gD) (i first:Nat):List Int:=(if wL ((l.drop first).take (i - first))=true then [59] else [])++[10]
def zx (l:List gD) (i:Nat) (p:Nat × List Int):Nat × List Int :=
 if (nA l i).f0=4 then (i+1,p.2++OG l i p.1) else (p.1,p.2++qh l i p.1++Aw (nA l i))
def Gt (l:List gD):Nat->Nat × List Int
 | 0=>(0,[])
 | k+1=>zx l k (Gt l k)
def ou (l:List gD):List Int:=(Gt l l.length).2
theorem RZ (l:List gD) (i first:Nat):(qh l i first).length<=4:=by
 unfold qh;split
 ·simp
 ·split
  ·simp
  ·split<;>simp
theorem Ls (l:List gD) (i first:Nat):∀ x∈qh l i first,0<=x/\x < 256:=by
 unfold qh;split
 ·simp
 ·split
  ·simp
  ·split
   ·intro x hx
    simp only [List.mem_cons,List.not_mem_nil,or_false] at hx;omega
   ·simp
theorem Lu (l:List gD) (i first:Nat):(OG l i first).length<=4/\∀ x∈OG l i first,0<=x/\x < 256:=by
 unfold OG;split<;>simp
theorem zy (l:List gD):∀ k,k<=l.length->(Gt l k).1<=k/\(Gt l k).2.length<=CJ (l.take k)+4*k/\∀ x∈(Gt l k).2,0<=x/\x < 256
 | 0,_=>⟨Nat.le_refl _,by simp [Gt],by simp [Gt]⟩
 | k+1,hk=>by
  obtain ⟨h1,h2,h3⟩:=zy l k (by omega);have hs:CJ (l.take (k+1))=CJ (l.take k)+(2*(nA l k).f1.size+2):=by
   have hd:l.take (k+1)=l.take k++[nA l k]:=by
    rw [List.take_add_one,List.getElem?_eq_getElem (by omega)];unfold nA aU;rw [Int.toNat_natCast,List.getD_eq_getElem?_getD,List.getElem?_eq_getElem (by omega)];rfl
   rw [hd];simp [CJ]
  have hsp:=FX (nA l k);simp only [Gt,zx];split
  ·obtain ⟨e1,e2⟩:=Lu l k (Gt l k).1
   refine ⟨Nat.le_refl _,by rw [List.length_append];omega,fun x hx=>?_⟩;rcases List.mem_append.1 hx with e | e
   ·exact h3 x e
   ·exact e2 x e
  ·have e1:=RZ l k (Gt l k).1
   refine ⟨by omega,by rw [List.length_append,List.length_append];omega,fun x hx=>?_⟩;rcases List.mem_append.1 hx with e | e
   ·rcases List.mem_append.1 e with e | e
    ·exact h3 x e
    ·exact Ls l k _ x e
   ·exact yA _ x e
theorem VX {l:List gD} {i:Nat} (hi:i+1 < l.length):CJ [nA l i,nA l (i+1)]<=CJ l:=by
 have h1:l.drop i=nA l i::l.drop (i+1):=oQ (by omega);have h2:l.drop (i+1)=nA l (i+1)::l.drop (i+1+1):=oQ hi;conv=>{ rhs;rw [<- List.take_append_drop i l,h1,h2] }
 simp only [CJ,List.map_append,List.map_cons,List.map_nil,List.sum_append,List.sum_cons,List.sum_nil];omega
theorem OH {l:List gD} {i:Nat} (hi:i+2 < l.length):CJ [nA l i,nA l (i+1),nA l (i+2)]<=CJ l:=by
 have h1:l.drop i=nA l i::l.drop (i+1):=oQ (by omega);have h2:l.drop (i+1)=nA l (i+1)::l.drop (i+1+1):=oQ (by omega);have h3:l.drop (i+2)=nA l (i+2)::l.drop (i+2+1):=oQ hi;conv=>{ rhs;rw [<- List.take_append_drop i l,h1,h2,show i+1+1=i+2 from rfl,h3] }
 simp only [CJ,List.map_append,List.map_cons,List.map_nil,List.sum_append,List.sum_cons,List.sum_nil];omega
theorem wO.lt {B b:Nat} {xs:List Int} {w:World} (h:wO B b xs w):b < w.heap.size:=by
 rcases h with ⟨_,v,h2,_⟩ | ⟨_,v,h2,_⟩<;>exact (Array.getElem?_eq_some_iff.1 h2).1
structure Rd (H h1:Nat) (w:World) (tx:gD) (o:List Int) (W:World):Prop where
 bl:Below H w W
 bd:wO H H o W
 bx:W.heap[h1]?=some (.cells #[.int .i64 tx.f0,.string tx.f1,.bool tx.f2,.int .i64 tx.f3,.int .i64 tx.f4,.int .i64 tx.f5] 53 (0,0))
 hs:H<=W.heap.size
 ne:H < h1
theorem Rd.keep {H h1:Nat} {w:World} {tx:gD} {o:List Int} {W W':World} (h:Rd H h1 w tx o W) (hb:Below W.heap.size W W'):Rd H h1 w tx o W' :=
 ⟨h.bl.trans (hb.mono h.hs),h.bd.keep hb,(hb.block h1 (Array.getElem?_eq_some_iff.1 h.bx).1).trans h.bx,Nat.le_trans h.hs hb.size,h.ne⟩
theorem Rd.wb {H h1:Nat} {w:World} {tx:gD} {o:List Int} {W:World} (h:Rd H h1 w tx o W) (c:Int) (hl:o.length<=100000000) :
  Calls Tryz.prog 106 #[.pointer (some ⟨H,0,none⟩),.int .u8 c] W fun e w'=>e=.returned .nilIface/\Rd H h1 w tx (o++[c]) w':=by
 refine (Any.Builder_WriteByte_k Bw xC H H _ c W h.bd (by rw [List.length_map];omega) h.hs).mono ?_;rintro e w' ⟨rfl,k1,k2,k3⟩
 refine ⟨rfl,h.bl.trans k2,?_,k3 _ _ h.bx (fun e=>by have:=h.ne;simp only [Option.some.injEq] at e;omega) (fun c fz e=>?_),Nat.le_trans h.hs k2.size,h.ne⟩
 ·unfold wO;rw [List.map_append];exact .inr k1
 ·injection e with e1 e2 e3;exact absurd e2 (by decide)
theorem Rd.ws {H h1:Nat} {w:World} {tx:gD} {o:List Int} {W:World} (h:Rd H h1 w tx o W) (s:ByteArray) (hl:o.length+s.size<=100000000) :
  Calls Tryz.prog 112 #[.pointer (some ⟨H,0,none⟩),.string s] W fun e w'=>(∃ nn:Nat,e=.returned (.tuple #[.int .i64 nn,.nilIface]))/\Rd H h1 w tx (o++bytesOf s) w':=by
 refine (Any.Builder_WriteString_k Bz xC H H _ s W h.bd (by rw [List.length_map];omega) h.hs).mono ?_;rintro e w' ⟨rfl,k1,k2,k3⟩
 refine ⟨⟨_,rfl⟩,h.bl.trans k2,?_,k3 _ _ h.bx (fun e=>by have:=h.ne;simp only [Option.some.injEq] at e;omega) (fun c fz e=>?_),Nat.le_trans h.hs k2.size,h.ne⟩
 ·unfold wO
  rw [List.map_append];have e:(bytesOf s).map (Value.int .u8)=Lib.strCells s:=by simp [bytesOf,Lib.strCells,Lib.byteCells,Function.comp_def]
  rw [e];exact .inr k1
 ·injection e with e1 e2 e3;exact absurd e2 (by decide)
set_option maxRecDepth 100000 in
set_option maxHeartbeats 16000000 in
theorem Ga.calls (A0:Option Addr) (c0:Nat) (l0:List gD) (w:World) (hT:eU w) (hr0:Kd.C lD w A0 l0.length l0) (hc0:l0.length<=c0) (hsm:l0.length<=10000) (hsz:CJ l0<=20000) :
  Calls Tryz.prog 72 #[.slice A0 l0.length c0] w fun e w'=>e=.returned (.string (strOfNums (ou l0)))/\Below w.heap.size w w':=by
 have Ka:=Tryz.underlying53;have HT:=aj.mk hT;have mE:=aj.mk hr0;clear hT hr0;obtain ⟨n,hn⟩:∃ n,l0.length=n:=⟨_,rfl⟩;have wN:=aj.mk hn;have hslt:=aj.mk hsz;have HWF:=aj.mk (zy l0);rw [hn] at mE hc0 hsm HWF |-
 clear hn hsz;go_enter Tryz.func72,Tryz.ntmps72
 go_upto_region 3 with (fail)
 obtain ⟨W0,hW0⟩:∃ W0,w.alloc (.cells #[.pointer none,.slice none 0 0] 126)=W0:=⟨_,rfl⟩;have hB0:aj (wO w.heap.size w.heap.size [] W0):=⟨by rw [<- hW0];exact wO.new w⟩;have hb0:aj (Below w.heap.size w W0):=⟨by rw [<- hW0];exact ay (Below.refl _ _) _⟩;rw [hW0];clear hW0;generalize hH:w.heap.size=H at *;have HH:=aj.mk hH;clear hH;go_wp2;go_loopg [4,9] n (fun gg s4 s9 wr=>∃ kk first:Nat,kk<=n/\n - kk<=gg/\s4=.int .i64 first/\s9=.int .i64 kk/\first<=kk/\aj (Below H w wr)/\aj (wO H H (Gt l0 kk).2 wr)/\aj ((Gt l0 kk).1=first))
 case atStart=>exact ⟨0,0,by omega,by omega,rfl,rfl,by omega,hb0,hB0,⟨rfl⟩⟩
 case round =>
  obtain ⟨kk,first,hkk,hg,rfl,rfl,hfk,HB,SG,HFI⟩:=hrel;obtain ⟨out,hout⟩:∃ out,(Gt l0 kk).2=out:=⟨_,rfl⟩;have Tq:=aj.mk hout;rw [hout] at SG;have hwf:=HWF.out kk hkk;rw [hout] at hwf;have hos:out.length<=20000+4*kk:=by
   have h1:=Je l0 kk;have h2:=hslt.out;have h3:=hwf.2.1;omega
  have HOB:=aj.mk hwf.2.2;clear hout hwf;by_cases hlt:kk < n
  rotate_left
  ·have hltz:¬ (kk:Int) < (n:Int):=by omega
   have hkn:n=kk:=by omega
   have hwr:ou l0=out:=by
    unfold ou;rw [wN.out,hkn];exact Tq.out
   have HWR:=aj.mk hwr;have hst:=wh H H out wr SG.out HOB.out (by have:=HB.out.size;have:=HH.out;omega);have HST:=Lib.hid hst;clear hst hwr hkn;go_wp2_with (go_at_call 107;refine HST.out.mono ?_;rintro e w2 ⟨rfl,_,hb2⟩)
   refine bodyPost_ret (results_tmp rfl _ _ _) rfl ?_;exact ⟨by rw [HWR.out];rfl,by rw [HH.out];exact HB.out.trans hb2⟩
  have hltz:(kk:Int) < (n:Int):=by omega
  have hz0:(0:Int)<=(kk:Int):=by omega
  have hw1:IntKind.i64.wrap ((kk:Int)+1)=((kk+1:Nat):Int):=by rw [vC _ (by omega) (by omega)];omega
  have HWN:aj (Gt l0 (kk+1)=zx l0 kk (first,out)):=⟨by
   show zx l0 kk (Gt l0 kk)=_
   rw [<- HFI.out,<- Tq.out]⟩
  have hCr:=Kd.dO mE.out (by rw [HH.out];exact HB.out);obtain ⟨ad,rfl,x0,x1,x2,x3,x4,x5⟩:=eY hCr (kk:Int) hz0 hltz;simp only [Int.toNat_natCast] at x0 x1 x2 x3 x4 x5;have htx:nA l0 kk=aU l0 (kk:Int):=rfl;generalize aU l0 (kk:Int)=tx at *;have DT:=aj.mk htx;have hmem:tx∈l0:=by
   have:=oQ (l:=l0) (k:=kk) (by rw [wN.out];exact hlt);rw [<- htx];exact List.mem_of_mem_drop (by rw [this];exact List.mem_cons_self)
  have hxs:=MW hmem;clear htx hmem;go_upto_region 6 with (fail)
  have hn1:=heap_alloc_new wr (.cells #[.int .i64 tx.f0,.string tx.f1,.bool tx.f2,.int .i64 tx.f3,.int .i64 tx.f4,.int .i64 tx.f5] 53);have hB1:Below H w (wr.alloc (.cells #[.int .i64 tx.f0,.string tx.f1,.bool tx.f2,.int .i64 tx.f3,.int .i64 tx.f4,.int .i64 tx.f5] 53)):=HB.out.trans ((ay (Below.refl wr.heap.size wr) (.cells #[.int .i64 tx.f0,.string tx.f1,.bool tx.f2,.int .i64 tx.f3,.int .i64 tx.f4,.int .i64 tx.f5] 53)).mono (by have:=HB.out.size;have:=HH.out;omega));have VR:=aj.mk (SG.out.keep (ay (Below.refl _ wr) (.cells #[.int .i64 tx.f0,.string tx.f1,.bool tx.f2,.int .i64 tx.f3,.int .i64 tx.f4,.int .i64 tx.f5] 53)));have Sb:=Kd.gy hCr (.cells #[.int .i64 tx.f0,.string tx.f1,.bool tx.f2,.int .i64 tx.f3,.int .i64 tx.f4,.int .i64 tx.f5] 53);have hlt1:=SG.out.lt;obtain ⟨h1,RU⟩:∃ h1,wr.heap.size=h1:=⟨_,rfl⟩;rw [RU] at hn1 hlt1 |-
  clear x0 x1 x2 x3 x4 x5 RU HB SG hCr;generalize wr.alloc (.cells #[.int .i64 tx.f0,.string tx.f1,.bool tx.f2,.int .i64 tx.f3,.int .i64 tx.f4,.int .i64 tx.f5] 53)=W1 at *;have hrd:Rd H h1 w tx out W1:=⟨hB1,VR.out,hn1,by have:=hB1.size;have:=HH.out;omega,hlt1⟩;have EG:=aj.mk hrd;have Ju:=aj.mk Sb;have HTD:aj (∀ W,Rd H h1 w tx out W->eU W):=⟨fun W h=>HT.out.of_below (by rw [HH.out];exact h.bl)⟩;have a0:W1.cell? ⟨h1,0,none⟩=some (.int .i64 tx.f0):=(au hn1 0).trans rfl;have a1:W1.cell? ⟨h1,1,none⟩=some (.string tx.f1):=(au hn1 1).trans rfl;have a2:W1.cell? ⟨h1,2,none⟩=some (.bool tx.f2):=(au hn1 2).trans rfl;have a3:W1.cell? ⟨h1,3,none⟩=some (.int .i64 tx.f3):=(au hn1 3).trans rfl;have a4:W1.cell? ⟨h1,4,none⟩=some (.int .i64 tx.f4):=(au hn1 4).trans rfl;have a5:W1.cell? ⟨h1,5,none⟩=some (.int .i64 tx.f5):=(au hn1 5).trans rfl;clear hn1 hB1 hrd VR hlt1;by_cases hk4:tx.f0=4
  ·have g1:(tx.f0==4)=true:=beq_iff_eq.2 hk4
   have hz1:(0:Int)<=(first:Int):=by omega
   have hz2:(first:Int)<=(kk:Int):=by omega
   have hz3:kk<=c0:=by omega
   have SH:Gt l0 (kk+1)=(kk+1,out++OG l0 kk first):=by
    rw [HWN.out];unfold zx;rw [DT.out,if_pos hk4]
   obtain ⟨cl,hcl⟩:∃ cl,(l0.drop first).take (kk - first)=cl:=⟨_,rfl⟩;have Sd:cl.length=kk - first:=by rw [<- hcl,List.length_take,List.length_drop,wN.out];omega
   have hCc:=adU first (kk - first) (l:=l0) (by rw [wN.out];omega) (by rw [wN.out];exact Sb)
   rw [hcl] at hCc;have hcm:=jU.calls (some (ad.add (first*6))) (c0 - first) cl _ W1 (by rw [Sd];exact hCc) (by omega) (MX cl (by omega));rw [Sd] at hcm;unfold OG at SH;rw [hcl] at SH;clear hCc hcl Sd Sb a0 a1 a2 a3 a4 a5;have a0:W1.cell? ⟨h1,0,none⟩=some (.int .i64 tx.f0):=(au EG.out.bx 0).trans rfl;cases hcb:wL cl with
   | true =>
    rw [hcb] at hcm SH;rw [if_pos rfl] at SH;have CZ:=aj.mk SH;have HCM:=Lib.hid hcm;clear hcm SH hcb;go_wp2_with (first | (go_at_call 92;refine HCM.out.mono ?_;rintro e w2 ⟨rfl,⟨⟨q,rfl⟩⟩⟩;have hr2:=EG.out.keep (ak (Below.refl _ _) q)) | (go_at_call 106;with_reducible refine (hr2.wb 59 (by omega)).mono ?_;rintro e w3 ⟨rfl,hr3⟩) | (go_at_call 106;with_reducible refine (hr3.wb 10 (by simp;omega)).mono ?_;rintro e w4 ⟨rfl,hr4⟩))
    go_roundg (n - (kk+1))
    case measure=>omega
    case rel=>exact ⟨kk+1,kk+1,by omega,by omega,by go_num,by go_num,Nat.le_refl _,⟨hr4.bl⟩,⟨by rw [CZ.out];have:=hr4.bd;simpa using this⟩,⟨by rw [CZ.out]⟩⟩
   | false =>
    rw [hcb] at hcm SH;rw [if_neg Bool.false_ne_true,List.nil_append] at SH;have CZ:=aj.mk SH;have HCM:=Lib.hid hcm;clear hcm SH hcb;go_wp2_with (first | (go_at_call 92;refine HCM.out.mono ?_;rintro e w2 ⟨rfl,⟨⟨q,rfl⟩⟩⟩;have hr2:=EG.out.keep (ak (Below.refl _ _) q)) | (go_at_call 106;with_reducible refine (hr2.wb 10 (by omega)).mono ?_;rintro e w4 ⟨rfl,hr4⟩))
    go_roundg (n - (kk+1))
    case measure=>omega
    case rel=>exact ⟨kk+1,kk+1,by omega,by omega,by go_num,by go_num,Nat.le_refl _,⟨hr4.bl⟩,⟨by rw [CZ.out];exact hr4.bd⟩,⟨by rw [CZ.out]⟩⟩
  have g1:(tx.f0==4)=false:=beq_eq_false_iff_ne.2 hk4;have CZ:aj (Gt l0 (kk+1)=(first,out++qh l0 kk first++Aw tx)):=⟨by
   rw [HWN.out];unfold zx;rw [DT.out,if_neg hk4]⟩
  have QO:aj (∀ W,Below H w W->eU W):=⟨fun W h=>HT.out.of_below (by rw [HH.out];exact h)⟩;have MV:=aj.mk (fq _ (yA tx));have hst:(strOfNums (Aw tx)).size=(Aw tx).length:=by simp [strOfNums,ByteArray.size]
  have adQ:=FX tx;have hsl:=hslt.out;go_upto_region 11 with (fail)
  by_cases XH:kk=first
  ·have HG:aj (qh l0 kk first=[]):=⟨by unfold qh;rw [if_pos XH]⟩
   have e1:((kk:Int)==(first:Int))=true:=beq_iff_eq.2 (by omega);have e2:(kk==first)=true:=beq_iff_eq.2 XH;have hrd:=EG.out;clear XH a0 a1 a2 a3 a4 a5 Sb;go_upto_region 17 with (fail)
   have b0:W1.cell? ⟨h1,0,none⟩=some (.int .i64 tx.f0):=(au hrd.bx 0).trans rfl;have b1:W1.cell? ⟨h1,1,none⟩=some (.string tx.f1):=(au hrd.bx 1).trans rfl;have b2:W1.cell? ⟨h1,2,none⟩=some (.bool tx.f2):=(au hrd.bx 2).trans rfl;have b3:W1.cell? ⟨h1,3,none⟩=some (.int .i64 tx.f3):=(au hrd.bx 3).trans rfl;have b4:W1.cell? ⟨h1,4,none⟩=some (.int .i64 tx.f4):=(au hrd.bx 4).trans rfl;have b5:W1.cell? ⟨h1,5,none⟩=some (.int .i64 tx.f5):=(au hrd.bx 5).trans rfl;have wM:=Lib.hid (fT.calls tx.f0 tx.f1 tx.f2 tx.f3 tx.f4 tx.f5 _ W1 (QO.out _ hrd.bl) (FW tx (by omega)));go_wp2_with (first | (go_at_call 113;with_reducible refine wM.out.mono ?_;rintro e v5 ⟨rfl,hv5⟩;have Lv:=hrd.keep hv5) | (go_at_call 112;with_reducible refine (Lv.ws (strOfNums (Aw tx)) (by first | omega | (simp only [List.length_append,List.length_cons,List.length_nil];omega))).mono ?_;rintro e v6 ⟨⟨nn,rfl⟩,CK⟩))
   go_roundg (n - (kk+1))
   case measure=>omega
   case rel=>exact ⟨kk+1,first,by omega,by omega,rfl,by go_num,by omega,⟨CK.bl⟩,⟨by rw [CZ.out,HG.out];have:=CK.bd;rw [MV.out] at this;simpa using this⟩,⟨by rw [CZ.out]⟩⟩
  have e1:((kk:Int)==(first:Int))=false:=beq_eq_false_iff_ne.2 (by omega);have e2:(kk==first)=false:=beq_eq_false_iff_ne.2 XH;cases Ic:tx.f2 with
  | true =>
   have HG:aj (qh l0 kk first=[32]):=⟨by unfold qh;rw [if_neg XH,DT.out,if_pos Ic]⟩;rw [Ic] at a2;have hrd:=EG.out;clear XH a0 a1 a3 a4 a5 Sb Ic;go_upto_region 17 with (go_at_call 106;with_reducible refine (hrd.wb 32 (by omega)).mono ?_;rintro e w3 ⟨rfl,hr3⟩)
   clear a2;have b0:w3.cell? ⟨h1,0,none⟩=some (.int .i64 tx.f0):=(au hr3.bx 0).trans rfl;have b1:w3.cell? ⟨h1,1,none⟩=some (.string tx.f1):=(au hr3.bx 1).trans rfl;have b2:w3.cell? ⟨h1,2,none⟩=some (.bool tx.f2):=(au hr3.bx 2).trans rfl;have b3:w3.cell? ⟨h1,3,none⟩=some (.int .i64 tx.f3):=(au hr3.bx 3).trans rfl;have b4:w3.cell? ⟨h1,4,none⟩=some (.int .i64 tx.f4):=(au hr3.bx 4).trans rfl;have b5:w3.cell? ⟨h1,5,none⟩=some (.int .i64 tx.f5):=(au hr3.bx 5).trans rfl;have wM:=Lib.hid (fT.calls tx.f0 tx.f1 tx.f2 tx.f3 tx.f4 tx.f5 _ w3 (QO.out _ hr3.bl) (FW tx (by omega)));go_wp2_with (first | (go_at_call 113;with_reducible refine wM.out.mono ?_;rintro e v5 ⟨rfl,hv5⟩;have Lv:=hr3.keep hv5) | (go_at_call 112;with_reducible refine (Lv.ws (strOfNums (Aw tx)) (by first | omega | (simp only [List.length_append,List.length_cons,List.length_nil];omega))).mono ?_;rintro e v6 ⟨⟨nn,rfl⟩,CK⟩))
   go_roundg (n - (kk+1))
   case measure=>omega
   case rel=>exact ⟨kk+1,first,by omega,by omega,rfl,by go_num,by omega,⟨CK.bl⟩,⟨by rw [CZ.out,HG.out];have:=CK.bd;rw [MV.out] at this;simpa using this⟩,⟨by rw [CZ.out]⟩⟩
  | false =>
   rw [Ic] at a2;obtain ⟨j,rfl⟩:∃ j,kk=j+1:=⟨kk - 1,by omega⟩;obtain ⟨ad',e',y0,y1,y2,y3,y4,y5⟩:=eY Ju.out (j:Int) (by omega) (by omega);cases e'
   simp only [Int.toNat_natCast] at y0 y1 y2 y3 y4 y5;have hty:nA l0 j=aU l0 (j:Int):=rfl;generalize aU l0 (j:Int)=ty at *;have VY:=aj.mk hty;clear hty;have hj1:j+1<=10000:=by omega
   have hw2:IntKind.i64.wrap (((j+1:Nat):Int) - 1)=(j:Int):=by rw [vC _ (by omega) (by omega)];omega
   have hw3:IntKind.i64.wrap (j:Int)=(j:Int):=vC _ (by omega) (by omega);have hq0:(0:Int)<=(j:Int):=by omega
   have hq1:(j:Int) < (n:Int):=by omega
   have hsz2:CJ [ty,tx]<=20000:=by
    have:=VX (l:=l0) (i:=j) (by rw [wN.out];exact hlt);rw [VY.out,show nA l0 (j+1)=tx from DT.out] at this;omega
   have HMG:=Lib.hid (fun (W:World) (g:Nat) (h:W.heap[g]?=some (.cells #[.int .i64 ty.f0,.string ty.f1,.bool ty.f2,.int .i64 ty.f3,.int .i64 ty.f4,.int .i64 ty.f5,.int .i64 tx.f0,.string tx.f1,.bool false,.int .i64 tx.f3,.int .i64 tx.f4,.int .i64 tx.f5] 53 (0,0))) (hW:eU W)=>zQ.calls (some ⟨g,0,none⟩) 2 [ty,tx] W hW (RY h (by simp [FZ,XG,Ic]) (by simp)) (Nat.le_refl _) (by simp) hsz2);have HB2:aj (eU (W1.alloc (.cells #[.int .i64 ty.f0,.string ty.f1,.bool ty.f2,.int .i64 ty.f3,.int .i64 ty.f4,.int .i64 ty.f5,.int .i64 tx.f0,.string tx.f1,.bool false,.int .i64 tx.f3,.int .i64 tx.f4,.int .i64 tx.f5] 53)).drew/\Below W1.heap.size W1 (W1.alloc (.cells #[.int .i64 ty.f0,.string ty.f1,.bool ty.f2,.int .i64 ty.f3,.int .i64 ty.f4,.int .i64 ty.f5,.int .i64 tx.f0,.string tx.f1,.bool false,.int .i64 tx.f3,.int .i64 tx.f4,.int .i64 tx.f5] 53)).drew):=⟨by
    have h1:Below W1.heap.size W1 (W1.alloc (.cells #[.int .i64 ty.f0,.string ty.f1,.bool ty.f2,.int .i64 ty.f3,.int .i64 ty.f4,.int .i64 ty.f5,.int .i64 tx.f0,.string tx.f1,.bool false,.int .i64 tx.f3,.int .i64 tx.f4,.int .i64 tx.f5] 53)).drew:=kL (ay (Below.refl _ _) _);exact ⟨(QO.out _ EG.out.bl).of_below h1,h1⟩⟩
   have Zj:aj ((W1.alloc (.cells #[.int .i64 ty.f0,.string ty.f1,.bool ty.f2,.int .i64 ty.f3,.int .i64 ty.f4,.int .i64 ty.f5,.int .i64 tx.f0,.string tx.f1,.bool false,.int .i64 tx.f3,.int .i64 tx.f4,.int .i64 tx.f5] 53)).drew.heap[W1.heap.size]?=some (.cells #[.int .i64 ty.f0,.string ty.f1,.bool ty.f2,.int .i64 ty.f3,.int .i64 ty.f4,.int .i64 ty.f5,.int .i64 tx.f0,.string tx.f1,.bool false,.int .i64 tx.f3,.int .i64 tx.f4,.int .i64 tx.f5] 53 (0,0))):=⟨heap_alloc_new W1 _⟩;have QS:=aj.mk Ic;obtain ⟨m2,hm2⟩:∃ m2,lC [ty,tx]=m2:=⟨_,rfl⟩;rw [hm2] at HMG;have HM2:=aj.mk hm2;have HKF:=aj.mk XH;have adV:(⟨#[47,42,42,47]⟩:ByteArray).size=4:=rfl;have HCK:aj (∀ W,Below W1.heap.size W1 W->Kd.C lD W (some ad) n l0):=⟨fun W hb=>Kd.dO Ju.out hb⟩;clear hm2 Ic XH Sb;go_upto_region 14 with (fail)
   refine wp_region_still_tail 6 (by kernel_rfl) (by kernel_rfl) ?_;simp only [List.take_succ_cons,List.take_zero,List.drop_succ_cons,List.drop_zero];repeat still_step
   refine wpStill_nil ?_;cases m2 with
   | true =>
    have HG:aj (qh l0 (j+1) first=[47,42,42,47]):=⟨by
     unfold qh;rw [if_neg HKF.out,DT.out,QS.out,if_neg Bool.false_ne_true,if_pos];unfold Ae;rw [Nat.add_sub_cancel,VY.out,DT.out,HM2.out];rfl⟩
    clear a0 a1 a2 a3 a4 a5 y0 y1 y2 y3 y4 y5;go_upto_region 17 with (first | (go_at_call 111;refine (HMG.out _ _ Zj.out HB2.out.1).mono ?_;rintro e w2 ⟨rfl,hb2⟩;have hr2:=EG.out.keep (HB2.out.2.trans (hb2.mono HB2.out.2.size))) | (go_at_call 112;with_reducible refine (hr2.ws ⟨#[47,42,42,47]⟩ (by rw [adV];omega)).mono ?_;rintro e w3 ⟨⟨nn2,rfl⟩,hr3⟩))
    replace hr3:Rd H h1 w tx (out++[47,42,42,47]) w3:=hr3;have b0:w3.cell? ⟨h1,0,none⟩=some (.int .i64 tx.f0):=(au hr3.bx 0).trans rfl;have b1:w3.cell? ⟨h1,1,none⟩=some (.string tx.f1):=(au hr3.bx 1).trans rfl;have b2:w3.cell? ⟨h1,2,none⟩=some (.bool tx.f2):=(au hr3.bx 2).trans rfl;have b3:w3.cell? ⟨h1,3,none⟩=some (.int .i64 tx.f3):=(au hr3.bx 3).trans rfl;have b4:w3.cell? ⟨h1,4,none⟩=some (.int .i64 tx.f4):=(au hr3.bx 4).trans rfl;have b5:w3.cell? ⟨h1,5,none⟩=some (.int .i64 tx.f5):=(au hr3.bx 5).trans rfl;have wM:=Lib.hid (fT.calls tx.f0 tx.f1 tx.f2 tx.f3 tx.f4 tx.f5 _ w3 (QO.out _ hr3.bl) (FW tx (by omega)));go_wp2_with (first | (go_at_call 113;with_reducible refine wM.out.mono ?_;rintro e v5 ⟨rfl,hv5⟩;have Lv:=hr3.keep hv5) | (go_at_call 112;with_reducible refine (Lv.ws (strOfNums (Aw tx)) (by first | omega | (simp only [List.length_append,List.length_cons,List.length_nil];omega))).mono ?_;rintro e v6 ⟨⟨nn,rfl⟩,CK⟩))
    go_roundg (n - (j+1+1))
    case measure=>omega
    case rel=>exact ⟨j+1+1,first,by omega,by omega,rfl,by go_num,by omega,⟨CK.bl⟩,⟨by rw [CZ.out,HG.out];have:=CK.bd;rw [MV.out] at this;simpa using this⟩,⟨by rw [CZ.out]⟩⟩
   | false =>
    clear y0 y1 y2 y3 y4 y5;go_upto_region 15 with (go_at_call 111;refine (HMG.out _ _ Zj.out HB2.out.1).mono ?_;rintro e w2 ⟨rfl,hb2⟩;have hr2:=EG.out.keep (HB2.out.2.trans (hb2.mono HB2.out.2.size));have hk2:=HCK.out _ (HB2.out.2.trans (hb2.mono HB2.out.2.size)))
    clear a0 a1 a2 a3 a4 a5;by_cases hi:first+2<=j+1
    rotate_left
    ·obtain ⟨qz,hqz⟩:∃ qz:Int,(j:Int)+1 - 2=qz:=⟨_,rfl⟩
     have hw5:IntKind.i64.wrap ((j:Int)+1 - 2)=qz:=by rw [vC _ (by omega) (by omega)];omega
     have hge:decide ((first:Int)<=qz)=false:=decide_eq_false (by omega);clear hqz;have HI:=aj.mk hi;have HG:aj (qh l0 (j+1) first=[]):=⟨by
      unfold qh;rw [if_neg HKF.out,DT.out,QS.out,if_neg Bool.false_ne_true];have e:Ae l0 (j+1) first=false:=by
       unfold Ae;rw [show j+1 - 1=j by omega,VY.out,DT.out,HM2.out,decide_eq_false HI.out];rfl
      rw [e];rfl⟩
     clear hi hk2;go_quiet (fail)
     go_upto_region 17 with (fail)
     have b0:(w2.drewN nq).cell? ⟨h1,0,none⟩=some (.int .i64 tx.f0):=(au (hr2.keep (ak (Below.refl _ _) nq)).bx 0).trans rfl;have b1:(w2.drewN nq).cell? ⟨h1,1,none⟩=some (.string tx.f1):=(au (hr2.keep (ak (Below.refl _ _) nq)).bx 1).trans rfl;have b2:(w2.drewN nq).cell? ⟨h1,2,none⟩=some (.bool tx.f2):=(au (hr2.keep (ak (Below.refl _ _) nq)).bx 2).trans rfl;have b3:(w2.drewN nq).cell? ⟨h1,3,none⟩=some (.int .i64 tx.f3):=(au (hr2.keep (ak (Below.refl _ _) nq)).bx 3).trans rfl;have b4:(w2.drewN nq).cell? ⟨h1,4,none⟩=some (.int .i64 tx.f4):=(au (hr2.keep (ak (Below.refl _ _) nq)).bx 4).trans rfl;have b5:(w2.drewN nq).cell? ⟨h1,5,none⟩=some (.int .i64 tx.f5):=(au (hr2.keep (ak (Below.refl _ _) nq)).bx 5).trans rfl;have wM:=Lib.hid (fT.calls tx.f0 tx.f1 tx.f2 tx.f3 tx.f4 tx.f5 _ (w2.drewN nq) (QO.out _ (hr2.keep (ak (Below.refl _ _) nq)).bl) (FW tx (by omega)));go_wp2_with (first | (go_at_call 113;with_reducible refine wM.out.mono ?_;rintro e v5 ⟨rfl,hv5⟩;have Lv:=(hr2.keep (ak (Below.refl _ _) nq)).keep hv5) | (go_at_call 112;with_reducible refine (Lv.ws (strOfNums (Aw tx)) (by first | omega | (simp only [List.length_append,List.length_cons,List.length_nil];omega))).mono ?_;rintro e v6 ⟨⟨nn,rfl⟩,CK⟩))
     go_roundg (n - (j+1+1))
     case measure=>omega
     case rel=>exact ⟨j+1+1,first,by omega,by omega,rfl,by go_num,by omega,⟨CK.bl⟩,⟨by rw [CZ.out,HG.out];have:=CK.bd;rw [MV.out] at this;simpa using this⟩,⟨by rw [CZ.out]⟩⟩
    obtain ⟨i2,rfl⟩:∃ i2,j=i2+1:=⟨j - 1,by omega⟩;obtain ⟨ad1,e1',z0,z1,z2,z3,z4,z5⟩:=eY hk2 ((i2+1:Nat):Int) (by omega) (by omega);cases e1'
    rw [show aU l0 ((i2+1:Nat):Int)=ty from VY.out] at z0 z1 z2 z3 z4 z5;simp only [Int.toNat_natCast] at z0 z1 z2 z3 z4 z5;obtain ⟨ad1,e1',v0,v1,v2,v3,v4,v5⟩:=eY hk2 (i2:Int) (by omega) (by omega);cases e1'
    simp only [Int.toNat_natCast] at v0 v1 v2 v3 v4 v5;have htz:nA l0 i2=aU l0 (i2:Int):=rfl;generalize aU l0 (i2:Int)=tz at *;have HTZ:=aj.mk htz;have hw5:IntKind.i64.wrap ((i2:Int)+1+1 - 2)=(i2:Int):=by rw [vC _ (by omega) (by omega)];omega
    have hw6:IntKind.i64.wrap ((i2:Int)+1)=(i2:Int)+1:=vC _ (by omega) (by omega);have hw7:IntKind.i64.wrap (i2:Int)=(i2:Int):=vC _ (by omega) (by omega);have hge:decide ((first:Int)<=(i2:Int))=true:=decide_eq_true (by omega);have amx:decide (first<=i2)=true:=decide_eq_true (by omega);have hp0:(0:Int)<=(i2:Int):=by omega
    have hp1:(i2:Int) < (n:Int):=by omega
    have hp2:(0:Int)<=(i2:Int)+1:=by omega
    have hp3:(i2:Int)+1 < (n:Int):=by omega
    have hp4:((i2:Int)+1).toNat=i2+1:=by omega
    have HI:=aj.mk hi;have CY:=aj.mk hk2;clear htz hi hk2 hw3;have c0':w2.cell? ⟨h1,0,none⟩=some (.int .i64 tx.f0):=(au hr2.bx 0).trans rfl;have c1:w2.cell? ⟨h1,1,none⟩=some (.string tx.f1):=(au hr2.bx 1).trans rfl;have c2:w2.cell? ⟨h1,2,none⟩=some (.bool tx.f2):=(au hr2.bx 2).trans rfl;have c3:w2.cell? ⟨h1,3,none⟩=some (.int .i64 tx.f3):=(au hr2.bx 3).trans rfl;have c4:w2.cell? ⟨h1,4,none⟩=some (.int .i64 tx.f4):=(au hr2.bx 4).trans rfl;have c5:w2.cell? ⟨h1,5,none⟩=some (.int .i64 tx.f5):=(au hr2.bx 5).trans rfl;have VZ:CJ [tz,ty,tx]<=20000:=by
     have:=OH (l:=l0) (i:=i2) (by rw [wN.out];omega);rw [HTZ.out,VY.out,show nA l0 (i2+2)=tx from DT.out] at this;omega
    obtain ⟨g2,hg2⟩:∃ g2,ty.f2=g2:=⟨_,rfl⟩;rw [hg2] at z2;have HG2:=aj.mk hg2;cases g2 with
    | true =>
     have HG:aj (qh l0 (i2+1+1) first=[]):=⟨by
      unfold qh;rw [if_neg HKF.out,DT.out,QS.out,if_neg Bool.false_ne_true];have e:Ae l0 (i2+1+1) first=false:=by
       unfold Ae;rw [show i2+1+1 - 1=i2+1 by omega,VY.out,DT.out,HM2.out,HG2.out];simp
      rw [e];rfl⟩
     clear hg2 VZ;go_quiet (fail)
     go_upto_region 17 with (fail)
     have b0:(w2.drewN nq).cell? ⟨h1,0,none⟩=some (.int .i64 tx.f0):=(au (hr2.keep (ak (Below.refl _ _) nq)).bx 0).trans rfl;have b1:(w2.drewN nq).cell? ⟨h1,1,none⟩=some (.string tx.f1):=(au (hr2.keep (ak (Below.refl _ _) nq)).bx 1).trans rfl;have b2:(w2.drewN nq).cell? ⟨h1,2,none⟩=some (.bool tx.f2):=(au (hr2.keep (ak (Below.refl _ _) nq)).bx 2).trans rfl;have b3:(w2.drewN nq).cell? ⟨h1,3,none⟩=some (.int .i64 tx.f3):=(au (hr2.keep (ak (Below.refl _ _) nq)).bx 3).trans rfl;have b4:(w2.drewN nq).cell? ⟨h1,4,none⟩=some (.int .i64 tx.f4):=(au (hr2.keep (ak (Below.refl _ _) nq)).bx 4).trans rfl;have b5:(w2.drewN nq).cell? ⟨h1,5,none⟩=some (.int .i64 tx.f5):=(au (hr2.keep (ak (Below.refl _ _) nq)).bx 5).trans rfl;have wM:=Lib.hid (fT.calls tx.f0 tx.f1 tx.f2 tx.f3 tx.f4 tx.f5 _ (w2.drewN nq) (QO.out _ (hr2.keep (ak (Below.refl _ _) nq)).bl) (FW tx (by omega)));go_wp2_with (first | (go_at_call 113;with_reducible refine wM.out.mono ?_;rintro e v5 ⟨rfl,hv5⟩;have Lv:=(hr2.keep (ak (Below.refl _ _) nq)).keep hv5) | (go_at_call 112;with_reducible refine (Lv.ws (strOfNums (Aw tx)) (by first | omega | (simp only [List.length_append,List.length_cons,List.length_nil];omega))).mono ?_;rintro e v6 ⟨⟨nn,rfl⟩,CK⟩))
     go_roundg (n - (i2+1+1+1))
     case measure=>omega
     case rel=>exact ⟨i2+1+1+1,first,by omega,by omega,rfl,by go_num,by omega,⟨CK.bl⟩,⟨by rw [CZ.out,HG.out];have:=CK.bd;rw [MV.out] at this;simpa using this⟩,⟨by rw [CZ.out]⟩⟩
    | false =>
     by_cases hz1':tz.f0=1
     ·have q1:(tz.f0==1)=true:=beq_iff_eq.2 hz1'
      have aap:=Lib.hid (fun (W:World) (g:Nat) (h:W.heap[g]?=some (.cells #[.int .i64 tz.f0,.string tz.f1,.bool tz.f2,.int .i64 tz.f3,.int .i64 tz.f4,.int .i64 tz.f5,.int .i64 ty.f0,.string ty.f1,.bool false,.int .i64 ty.f3,.int .i64 ty.f4,.int .i64 ty.f5,.int .i64 tx.f0,.string tx.f1,.bool tx.f2,.int .i64 tx.f3,.int .i64 tx.f4,.int .i64 tx.f5] 53 (0,0))) (hW:eU W)=>zQ.calls (some ⟨g,0,none⟩) 3 [tz,ty,tx] W hW (RY h (by simp [FZ,XG,hg2]) (by simp)) (Nat.le_refl _) (by simp) VZ);have HB3:aj (eU (w2.alloc (.cells #[.int .i64 tz.f0,.string tz.f1,.bool tz.f2,.int .i64 tz.f3,.int .i64 tz.f4,.int .i64 tz.f5,.int .i64 ty.f0,.string ty.f1,.bool false,.int .i64 ty.f3,.int .i64 ty.f4,.int .i64 ty.f5,.int .i64 tx.f0,.string tx.f1,.bool tx.f2,.int .i64 tx.f3,.int .i64 tx.f4,.int .i64 tx.f5] 53)).drew/\Below w2.heap.size w2 (w2.alloc (.cells #[.int .i64 tz.f0,.string tz.f1,.bool tz.f2,.int .i64 tz.f3,.int .i64 tz.f4,.int .i64 tz.f5,.int .i64 ty.f0,.string ty.f1,.bool false,.int .i64 ty.f3,.int .i64 ty.f4,.int .i64 ty.f5,.int .i64 tx.f0,.string tx.f1,.bool tx.f2,.int .i64 tx.f3,.int .i64 tx.f4,.int .i64 tx.f5] 53)).drew):=⟨by
       have h1:Below w2.heap.size w2 (w2.alloc (.cells #[.int .i64 tz.f0,.string tz.f1,.bool tz.f2,.int .i64 tz.f3,.int .i64 tz.f4,.int .i64 tz.f5,.int .i64 ty.f0,.string ty.f1,.bool false,.int .i64 ty.f3,.int .i64 ty.f4,.int .i64 ty.f5,.int .i64 tx.f0,.string tx.f1,.bool tx.f2,.int .i64 tx.f3,.int .i64 tx.f4,.int .i64 tx.f5] 53)).drew:=kL (ay (Below.refl _ _) _);exact ⟨(QO.out _ hr2.bl).of_below h1,h1⟩⟩
      have HN3:aj ((w2.alloc (.cells #[.int .i64 tz.f0,.string tz.f1,.bool tz.f2,.int .i64 tz.f3,.int .i64 tz.f4,.int .i64 tz.f5,.int .i64 ty.f0,.string ty.f1,.bool false,.int .i64 ty.f3,.int .i64 ty.f4,.int .i64 ty.f5,.int .i64 tx.f0,.string tx.f1,.bool tx.f2,.int .i64 tx.f3,.int .i64 tx.f4,.int .i64 tx.f5] 53)).drew.heap[w2.heap.size]?=some (.cells #[.int .i64 tz.f0,.string tz.f1,.bool tz.f2,.int .i64 tz.f3,.int .i64 tz.f4,.int .i64 tz.f5,.int .i64 ty.f0,.string ty.f1,.bool false,.int .i64 ty.f3,.int .i64 ty.f4,.int .i64 ty.f5,.int .i64 tx.f0,.string tx.f1,.bool tx.f2,.int .i64 tx.f3,.int .i64 tx.f4,.int .i64 tx.f5] 53 (0,0))):=⟨heap_alloc_new w2 _⟩;obtain ⟨m3,hm3⟩:∃ m3,lC [tz,ty,tx]=m3:=⟨_,rfl⟩;rw [hm3] at aap;have HM3:=aj.mk hm3;have HZ1:=aj.mk hz1';clear hm3 hg2 hz1' VZ;refine wp_region_still_tail 34 (by kernel_rfl) (by kernel_rfl) ?_;simp only [List.take_succ_cons,List.take_zero,List.drop_succ_cons,List.drop_zero];repeat still_step
      refine wpStill_nil ?_;cases m3 with
      | true =>
       have HG:aj (qh l0 (i2+1+1) first=[47,42,42,47]):=⟨by
        unfold qh;rw [if_neg HKF.out,DT.out,QS.out,if_neg Bool.false_ne_true];have e:Ae l0 (i2+1+1) first=true:=by
         unfold Ae;rw [show i2+1+1 - 1=i2+1 by omega,show i2+1+1 - 2=i2 by omega,VY.out,DT.out,HTZ.out,HM2.out,HG2.out,HM3.out,HZ1.out,decide_eq_true HI.out];rfl
        rw [e];rfl⟩
       clear z0 z1 z2 z3 z4 z5 v0 v1 v2 v3 v4 v5 c0' c1 c2 c3 c4 c5;go_upto_region 17 with (first | (go_at_call 111;refine (aap.out _ _ HN3.out HB3.out.1).mono ?_;rintro e w4 ⟨rfl,hb4⟩;have hr4:=hr2.keep (HB3.out.2.trans (hb4.mono HB3.out.2.size))) | (go_at_call 112;with_reducible refine (hr4.ws ⟨#[47,42,42,47]⟩ (by rw [adV];omega)).mono ?_;rintro e w3 ⟨⟨nn2,rfl⟩,hr3⟩))
       replace hr3:Rd H h1 w tx (out++[47,42,42,47]) w3:=hr3;have b0:w3.cell? ⟨h1,0,none⟩=some (.int .i64 tx.f0):=(au hr3.bx 0).trans rfl;have b1:w3.cell? ⟨h1,1,none⟩=some (.string tx.f1):=(au hr3.bx 1).trans rfl;have b2:w3.cell? ⟨h1,2,none⟩=some (.bool tx.f2):=(au hr3.bx 2).trans rfl;have b3:w3.cell? ⟨h1,3,none⟩=some (.int .i64 tx.f3):=(au hr3.bx 3).trans rfl;have b4:w3.cell? ⟨h1,4,none⟩=some (.int .i64 tx.f4):=(au hr3.bx 4).trans rfl;have b5:w3.cell? ⟨h1,5,none⟩=some (.int .i64 tx.f5):=(au hr3.bx 5).trans rfl;have wM:=Lib.hid (fT.calls tx.f0 tx.f1 tx.f2 tx.f3 tx.f4 tx.f5 _ w3 (QO.out _ hr3.bl) (FW tx (by omega)));go_wp2_with (first | (go_at_call 113;with_reducible refine wM.out.mono ?_;rintro e v5 ⟨rfl,hv5⟩;have Lv:=hr3.keep hv5) | (go_at_call 112;with_reducible refine (Lv.ws (strOfNums (Aw tx)) (by first | omega | (simp only [List.length_append,List.length_cons,List.length_nil];omega))).mono ?_;rintro e v6 ⟨⟨nn,rfl⟩,CK⟩))
       go_roundg (n - (i2+1+1+1))
       case measure=>omega
       case rel=>exact ⟨i2+1+1+1,first,by omega,by omega,rfl,by go_num,by omega,⟨CK.bl⟩,⟨by rw [CZ.out,HG.out];have:=CK.bd;rw [MV.out] at this;simpa using this⟩,⟨by rw [CZ.out]⟩⟩
      | false =>
       have HG:aj (qh l0 (i2+1+1) first=[]):=⟨by
        unfold qh;rw [if_neg HKF.out,DT.out,QS.out,if_neg Bool.false_ne_true];have e:Ae l0 (i2+1+1) first=false:=by
         unfold Ae;rw [show i2+1+1 - 1=i2+1 by omega,show i2+1+1 - 2=i2 by omega,VY.out,DT.out,HTZ.out,HM2.out,HG2.out,HM3.out];simp
        rw [e];rfl⟩
       clear z0 z1 z2 z3 z4 z5 v0 v1 v2 v3 v4 v5 c0' c1 c2 c3 c4 c5;go_upto_region 17 with (go_at_call 111;refine (aap.out _ _ HN3.out HB3.out.1).mono ?_;rintro e w4 ⟨rfl,hb4⟩;have hr4:=hr2.keep (HB3.out.2.trans (hb4.mono HB3.out.2.size)))
       have b0:w4.cell? ⟨h1,0,none⟩=some (.int .i64 tx.f0):=(au hr4.bx 0).trans rfl;have b1:w4.cell? ⟨h1,1,none⟩=some (.string tx.f1):=(au hr4.bx 1).trans rfl;have b2:w4.cell? ⟨h1,2,none⟩=some (.bool tx.f2):=(au hr4.bx 2).trans rfl;have b3:w4.cell? ⟨h1,3,none⟩=some (.int .i64 tx.f3):=(au hr4.bx 3).trans rfl;have b4:w4.cell? ⟨h1,4,none⟩=some (.int .i64 tx.f4):=(au hr4.bx 4).trans rfl;have b5:w4.cell? ⟨h1,5,none⟩=some (.int .i64 tx.f5):=(au hr4.bx 5).trans rfl;have wM:=Lib.hid (fT.calls tx.f0 tx.f1 tx.f2 tx.f3 tx.f4 tx.f5 _ w4 (QO.out _ hr4.bl) (FW tx (by omega)));go_wp2_with (first | (go_at_call 113;with_reducible refine wM.out.mono ?_;rintro e v5 ⟨rfl,hv5⟩;have Lv:=hr4.keep hv5) | (go_at_call 112;with_reducible refine (Lv.ws (strOfNums (Aw tx)) (by first | omega | (simp only [List.length_append,List.length_cons,List.length_nil];omega))).mono ?_;rintro e v6 ⟨⟨nn,rfl⟩,CK⟩))
       go_roundg (n - (i2+1+1+1))
       case measure=>omega
       case rel=>exact ⟨i2+1+1+1,first,by omega,by omega,rfl,by go_num,by omega,⟨CK.bl⟩,⟨by rw [CZ.out,HG.out];have:=CK.bd;rw [MV.out] at this;simpa using this⟩,⟨by rw [CZ.out]⟩⟩
     ·have q1:(tz.f0==1)=false:=beq_eq_false_iff_ne.2 hz1'
      have HZ1:=aj.mk hz1';have HG:aj (qh l0 (i2+1+1) first=[]):=⟨by
       unfold qh;rw [if_neg HKF.out,DT.out,QS.out,if_neg Bool.false_ne_true];have e:Ae l0 (i2+1+1) first=false:=by
        unfold Ae;rw [show i2+1+1 - 1=i2+1 by omega,show i2+1+1 - 2=i2 by omega,VY.out,DT.out,HTZ.out,HM2.out,HG2.out,decide_eq_false HZ1.out];simp
       rw [e];rfl⟩
      clear hg2 VZ hz1';go_quiet (fail)
      go_upto_region 17 with (fail)
      have b0:(w2.drewN nq).cell? ⟨h1,0,none⟩=some (.int .i64 tx.f0):=(au (hr2.keep (ak (Below.refl _ _) nq)).bx 0).trans rfl;have b1:(w2.drewN nq).cell? ⟨h1,1,none⟩=some (.string tx.f1):=(au (hr2.keep (ak (Below.refl _ _) nq)).bx 1).trans rfl;have b2:(w2.drewN nq).cell? ⟨h1,2,none⟩=some (.bool tx.f2):=(au (hr2.keep (ak (Below.refl _ _) nq)).bx 2).trans rfl;have b3:(w2.drewN nq).cell? ⟨h1,3,none⟩=some (.int .i64 tx.f3):=(au (hr2.keep (ak (Below.refl _ _) nq)).bx 3).trans rfl;have b4:(w2.drewN nq).cell? ⟨h1,4,none⟩=some (.int .i64 tx.f4):=(au (hr2.keep (ak (Below.refl _ _) nq)).bx 4).trans rfl;have b5:(w2.drewN nq).cell? ⟨h1,5,none⟩=some (.int .i64 tx.f5):=(au (hr2.keep (ak (Below.refl _ _) nq)).bx 5).trans rfl;have wM:=Lib.hid (fT.calls tx.f0 tx.f1 tx.f2 tx.f3 tx.f4 tx.f5 _ (w2.drewN nq) (QO.out _ (hr2.keep (ak (Below.refl _ _) nq)).bl) (FW tx (by omega)));go_wp2_with (first | (go_at_call 113;with_reducible refine wM.out.mono ?_;rintro e v5 ⟨rfl,hv5⟩;have Lv:=(hr2.keep (ak (Below.refl _ _) nq)).keep hv5) | (go_at_call 112;with_reducible refine (Lv.ws (strOfNums (Aw tx)) (by first | omega | (simp only [List.length_append,List.length_cons,List.length_nil];omega))).mono ?_;rintro e v6 ⟨⟨nn,rfl⟩,CK⟩))
      go_roundg (n - (i2+1+1+1))
      case measure=>omega
      case rel=>exact ⟨i2+1+1+1,first,by omega,by omega,rfl,by go_num,by omega,⟨CK.bl⟩,⟨by rw [CZ.out,HG.out];have:=CK.bd;rw [MV.out] at this;simpa using this⟩,⟨by rw [CZ.out]⟩⟩
def pO.f (l0:List gD):Option (ByteArray × Int) :=
 if l0.length<=10000/\CJ l0<=20000 then
  (if (S.scan (ou l0)).err.isSome=true\/Gs uI ((S.tokens (ou l0)).map toS) l0=false then some (⟨#[]⟩,2)
  else if 20000 < (ou l0).length then some (⟨#[]⟩,3) else some (strOfNums (ou l0),0))
 else none
set_option maxRecDepth 100000 in
set_option maxHeartbeats 4000000 in
theorem pO.calls (A0:Option Addr) (c0:Nat) (l0:List gD) (r1:ByteArray) (r2:Int) (w:World) (hT:eU w) (hr0:Kd.C lD w A0 l0.length l0) (hc0:l0.length<=c0) (h:pO.f l0=some (r1,r2)) :
  Calls Tryz.prog 35 #[.slice A0 l0.length c0] w fun e w'=>e=.returned (.tuple #[.string r1,.int .i64 r2])/\Below w.heap.size w w':=by
 unfold pO.f at h;by_cases hg:l0.length<=10000/\CJ l0<=20000
 rotate_left
 ·rw [if_neg hg] at h;cases h
 rw [if_pos hg] at h;obtain ⟨hg1,hg2⟩:=hg;have hwc:=Ga.calls A0 c0 l0 w hT hr0 hc0 hg1 hg2;have hwf:=zy l0 l0.length (Nat.le_refl _);rw [List.take_length] at hwf;obtain ⟨out,hout⟩:∃ out,ou l0=out:=⟨_,rfl⟩;rw [show (Gt l0 l0.length).2=out from hout] at hwf;rw [hout] at hwc h;obtain ⟨src,hsrc⟩:∃ src,strOfNums out=src:=⟨_,rfl⟩;have hsb:bytesOf src=out:=by rw [<- hsrc];exact fq _ hwf.2.2
 have hss:src.size=out.length:=by rw [<- hsb,bytesOf_length]
 have hsz:src.size<=100000:=by have:=hwf.2.1;omega
 rw [hsrc] at hwc h;have htk:=fun W hW=>rz.calls src W hsz hW
 rw [hsb] at htk;obtain ⟨toks,yB⟩:∃ toks,S.tokens out=toks:=⟨_,rfl⟩;obtain ⟨er,her⟩:∃ er,(S.scan out).err=er:=⟨_,rfl⟩;rw [yB,her,EO] at htk;rw [yB,her,<- hss] at h;obtain ⟨ec,hec⟩:∃ ec,tN er=ec:=⟨_,rfl⟩;obtain ⟨el,hel⟩:∃ el,wB er=el:=⟨_,rfl⟩;rw [hec,hel] at htk;have Lh:aj (ec=0 <-> er=none):=⟨by
  rw [<- hec];cases er with
  | none=>exact ⟨fun _=>rfl,fun _=>rfl⟩
  | some p =>
   have:=S.xH (c:=p.1) (ln:=p.2) her;constructor
   ·intro e
    exact absurd (Int.ofNat_eq_zero.1 e) this
   ·intro e;cases e⟩
 have RX:aj (toks.length<=300000):=⟨by
  rw [<- yB];have h1:=S.rA (xs:=out) hwf.2.2;omega⟩
 have HT:=aj.mk hT;have HWC:=Lib.hid hwc;have zW:=Lib.hid htk;have H:=aj.mk h;have mE:=aj.mk hr0;obtain ⟨n,hn⟩:∃ n,l0.length=n:=⟨_,rfl⟩;have wN:=aj.mk hn;rw [hn] at HWC mE hc0 hg1 |-
 obtain ⟨ss,akb⟩:∃ ss,src.size=ss:=⟨_,rfl⟩;clear hwc htk h hec hel yB her hsb hwf hss hsrc hout hg2 hT hr0 hn hsz;go_enter Tryz.func35,Tryz.ntmps35
 go_upto_region 3 with (first | (go_at_call 72;refine HWC.out.mono ?_;rintro e w2 ⟨rfl,hb2⟩) | (go_at_call 51;refine (zW.out _ (HT.out.of_below hb2)).mono ?_;rintro e w3 ⟨v,rfl,hown,hb3⟩))
 obtain ⟨A,N,cap,rfl,hN⟩:∃ A cn cap,v=.slice A cn cap/\toks.length=cn:=by
  rcases hown.2 with ⟨rfl,e2⟩ | ⟨g,cap,cs,rfl,_⟩
  ·exact ⟨_,_,_,rfl,e2⟩
  ·exact ⟨_,_,_,rfl,rfl⟩
 have oh:=heap_alloc_new w3 (.cells #[.int .i64 ec,.int .i64 el] 76);have ho4:=dn hown ((But.refl (fun _=>False) w3).alloc (.cells #[.int .i64 ec,.int .i64 el] 76)) (fun _ e=>e.elim);have hb4:Below w.heap.size w (w3.alloc (.cells #[.int .i64 ec,.int .i64 el] 76)):=ay (hb2.trans (hb3.mono hb2.size)) _;obtain ⟨fb,yR⟩:∃ fb,w3.heap.size=fb:=⟨_,rfl⟩;rw [yR] at oh |-
 clear hown hb2 hb3 yR;generalize w3.alloc (.cells #[.int .i64 ec,.int .i64 el] 76)=W4 at *;obtain ⟨hxx,hNc,hC4⟩:=xG ho4;clear hxx;have hsc:=fun r hr=>oW.calls A cap (toks.map toS) A0 c0 l0 r W4 hC4 (by rw [List.length_map,hN];exact hNc) (by rw [wN.out];exact Kd.dO mE.out hb4) (by rw [wN.out];exact hc0) hr
 rw [List.length_map,hN,wN.out] at hsc;have hsf:oW.f (toks.map toS) l0=some (Gs uI (toks.map toS) l0):=by
  unfold oW.f;rw [if_pos (by rw [List.length_map];have:=RX.out;omega)]
 have wP:=Lib.hid (hsc _ hsf);have Di:=aj.mk hb4;have hf0:W4.cell? ⟨fb,0,none⟩=some (.int .i64 ec):=(au oh 0).trans rfl;clear hsc hsf hb4 oh ho4 hC4 hN hNc;obtain ⟨sm,hsm⟩:∃ sm,Gs uI (toks.map toS) l0=sm:=⟨_,rfl⟩;rw [hsm] at wP H;clear hsm;by_cases he0:ec=0
 rotate_left
 ·have hi:er.isSome=true:=by
   cases er with
   | none=>exact absurd (Lh.out.2 rfl) he0
   | some _=>rfl
  have h:=H.out;rw [if_pos (.inl hi)] at h;simp only [Option.some.injEq,Prod.mk.injEq] at h;obtain ⟨rfl,rfl⟩:=h;have g1:(ec != 0)=true:=bne_iff_ne.2 he0;clear he0 hi;go_wp2_with fail
  refine bodyPost_ret (results_tmp2 rfl _ _ _) rfl ?_;exact ⟨rfl,Di.out⟩
 have hen:er=none:=Lh.out.1 he0;rw [hen] at H;have g1:(ec != 0)=false:=bne_eq_false_iff_eq.2 he0;cases sm with
 | false =>
  have h:=H.out;rw [if_pos (.inr rfl)] at h;simp only [Option.some.injEq,Prod.mk.injEq] at h;obtain ⟨rfl,rfl⟩:=h;clear he0 hen;go_wp2_with (go_at_call 37;refine wP.out.mono ?_;rintro e w5 ⟨rfl,hb5⟩)
  refine bodyPost_ret (results_tmp2 rfl _ _ _) rfl ?_;exact ⟨rfl,Di.out.trans (hb5.mono Di.out.size)⟩
 | true =>
  have h:=H.out;rw [if_neg (by rintro (e | e)<;>cases e)] at h;rw [akb] at h;by_cases hbig:20000 < ss
  ·rw [if_pos hbig] at h
   simp only [Option.some.injEq,Prod.mk.injEq] at h;obtain ⟨rfl,rfl⟩:=h;have g2:decide ((20000:Int) < (ss:Int))=true:=decide_eq_true (by omega);have g3:decide (20000 < ss)=true:=decide_eq_true hbig;clear he0 hen hbig;go_wp2_with (go_at_call 37;refine wP.out.mono ?_;rintro e w5 ⟨rfl,hb5⟩)
   refine bodyPost_ret (results_tmp2 rfl _ _ _) rfl ?_;exact ⟨rfl,Di.out.trans (hb5.mono Di.out.size)⟩
  rw [if_neg hbig] at h;simp only [Option.some.injEq,Prod.mk.injEq] at h;obtain ⟨rfl,rfl⟩:=h;have g2:decide ((20000:Int) < (ss:Int))=false:=decide_eq_false (by omega);have g3:decide (20000 < ss)=false:=decide_eq_false hbig;clear he0 hen hbig;go_wp2_with (go_at_call 37;refine wP.out.mono ?_;rintro e w5 ⟨rfl,hb5⟩)
  refine bodyPost_ret (results_tmp2 rfl _ _ _) rfl ?_;exact ⟨rfl,Di.out.trans (hb5.mono Di.out.size)⟩
end Go.Proofs.YtkkpjonfaflkmaaGreatDoor.T
