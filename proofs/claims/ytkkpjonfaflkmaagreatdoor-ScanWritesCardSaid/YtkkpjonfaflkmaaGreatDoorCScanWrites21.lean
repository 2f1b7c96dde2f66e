/- A part of the proof of ScanWrites. -/
import Derived.Test.YtkkpjonfaflkmaaGreatDoorCScanWrites20
set_option linter.all false
namespace Go.Proofs.YtkkpjonfaflkmaaGreatDoor.T
open Go.RowKit Go.Maps Go.Proofs.aj.aI Go.Proofs.aj.aY Go.Proofs.aj.bq
attribute [local go_sem] Oper.semAt_some
theorem vZ.keep {B b:Nat} {xs:List Int} {w w':World} (h:vZ B b xs w) (hb:Below w.heap.size w w'):vZ B b xs w':=by
 have hk:∀ k (o:Obj),w.heap[k]?=some o->w'.heap[k]?=some o:=fun k o e=>(hb.block k (Array.getElem?_eq_some_iff.1 e).1).trans e
 have key:∀ p,Lib.BuilderAtF 126 5 B b p (xs.map (Value.int .u8)) w->Lib.BuilderAtF 126 5 B b p (xs.map (Value.int .u8)) w':=by
  rintro p ⟨h1,v,h2,h3,h4⟩
  refine ⟨h1,v,hk _ _ h2,⟨h3.1,?_⟩,h4⟩;rcases h3.2 with e | ⟨g,cap,cur,fz,e1,e2,e3,rest⟩
  ·exact .inl e
  ·exact .inr ⟨g,cap,cur,fz,e1,e2,hk _ _ e3,rest⟩
 exact h.elim (fun e=>.inl (key _ e)) (fun e=>.inr (key _ e))
def yc (x:dh):List Int:=if x.f0=2 then S.quote (bytesOf x.f1) else bytesOf x.f1
theorem Gb (x:dh) (h:x.f1.size<=20000):eD.f x.f0 x.f1 x.f2 x.f3 x.f4 x.f5=some (strOfNums (yc x)):=by
 unfold eD.f yc;by_cases e:x.f0=2
 ·rw [if_pos e,if_pos e]
  unfold gZ.f;rw [if_pos h];rfl
 rw [if_neg e,if_neg e];congr 1
 apply pO
 rw [bW _ (eG _)]
theorem xu (x:dh):∀ y∈yc x,0<=y/\y < 256:=by
 unfold yc;by_cases e:x.f0=2
 ·rw [if_pos e];exact S.pQ (eG _)
 ·rw [if_neg e];exact eG _
theorem Gc (x:dh):(yc x).length<=2*x.f1.size+2:=by
 unfold yc;have hb:(bytesOf x.f1).length=x.f1.size:=bytesOf_length _;by_cases e:x.f0=2
 ·rw [if_pos e,S.qH]
  have:=List.count_le_length (a:=S.wh (bytesOf x.f1)) (l:=bytesOf x.f1);omega
 ·rw [if_neg e];omega
def Ej (l:List dh):List Int:=l.flatMap yc
theorem Ut {l:List dh} {k:Nat} (h:k < l.length):Ej (l.take (k+1))=Ej (l.take k)++yc (aC l (k:Int)):=by
 have:l.take (k+1)=l.take k++[aC l (k:Int)]:=by
  rw [List.take_add_one,List.getElem?_eq_getElem h];unfold aC;rw [Int.toNat_natCast,List.getD_eq_getElem?_getD,List.getElem?_eq_getElem h];rfl
 rw [this];simp [Ej]
theorem El (l:List dh):∀ y∈Ej l,0<=y/\y < 256:=fun y hy=>by
 obtain ⟨x,_,hx⟩:=List.mem_flatMap.1 hy;exact xu x y hx
def nV (l:List dh):Nat:=(l.map fun x=>2*x.f1.size+2).sum
theorem nO (l:List dh) (k:Nat):nV (l.take k)<=nV l:=by
 unfold nV;conv=>{ rhs;rw [<- List.take_append_drop k l] }
 rw [List.map_append,List.sum_append];omega
theorem Gd:∀ l:List dh,(Ej l).length<=nV l
 | []=>Nat.le_refl _
 | x::l=>by
  have h1:=Gc x;have h2:=Gd l;simp only [Ej,List.flatMap_cons,List.length_append,nV,List.map_cons,List.sum_cons] at h2 |-
  omega
theorem Ol {l:List dh} {x:dh} (h:x∈l):2*x.f1.size+2<=nV l:=by
 induction l with
 | nil=>cases h
 | cons y l ih =>
  simp only [nV,List.map_cons,List.sum_cons] at ih |-
  rcases List.mem_cons.1 h with e | e
  ·subst e;omega
  ·have:=ih e;omega
def lY (l:List S.Tk):List S.Tk:=l.filter fun t=>!decide (t.kind=4)
def kJ (l:List dh):Bool:=match l.getLast? with
 | none=>false
 | some t=>decide (t.f0=3)&&(t.f1.toList==[44])
theorem Om (l:List dh) (hl:l.length<=1000000):jq.f l=some (kJ l):=by
 unfold jq.f kJ;rcases List.eq_nil_or_concat l with rfl | ⟨a,t,rfl⟩
 ·rfl
 ·rw [List.concat_eq_append] at hl |-
  have hw:wrap64 (((a++[t]).length:Int) - 1)=(a.length:Int):=by
   simp only [List.length_append,List.length_cons,List.length_nil] at hl |-
   unfold wrap64;omega
  rw [hw,if_pos (by rw [List.length_append,List.length_singleton];omega),if_pos (by omega),if_pos (by rw [List.length_append,List.length_singleton];omega),List.getLast?_concat];have hr:aC (a++[t]) (a.length:Int)=t:=by
   unfold aC;rw [Int.toNat_natCast,List.getD_eq_getElem?_getD,List.getElem?_append_right (Nat.le_refl _)];simp
  rw [hr];by_cases e:t.f0=3
  ·rw [if_pos e];simp [e]
  ·rw [if_neg e];simp [e]
theorem KH {w:World} {A:Option Addr} {l:List dh} (k:Nat) (hk:k<=l.length) (h:Kd.C jP w A l.length l):Kd.C jP w A k (l.take k):=by
 obtain ⟨h1,h2,h3⟩:=h;refine ⟨by rw [List.length_take];omega,by omega,fun hne=>?_⟩;obtain ⟨ad,e,hj⟩:=h3 (by omega);exact ⟨ad,e,fun j p hp=>hj j p (by rw [List.getElem?_take] at hp;split at hp;exact hp;cases hp)⟩
def iq (l:List dh):Bool :=
 (S.scan (Ej l)).err.isSome||!(sG mX ((lY (S.tokens (Ej l))).map toS) (if kJ l=true/\(lY (S.tokens (Ej l))).length+1=l.length then l.take (l.length - 1) else l))
set_option maxRecDepth 100000 in
set_option maxHeartbeats 4000000 in
theorem zJ.calls (A0:Option Addr) (c0:Nat) (l0:List dh) (w:World) (hT:dR w) (hr0:Kd.C jP w A0 l0.length l0) (hc0:l0.length<=c0) (hsm:l0.length<=1000) (hsz:nV l0<=20000) :
  Calls Tryz.prog 111 #[.slice A0 l0.length c0] w fun e w'=>e=.returned (.bool (iq l0))/\Below w.heap.size w w':=by
 have Bu:=Tryz.underlying53;have HT:=ah.mk hT;have iG:=ah.mk hr0;have HCM:=Lib.hid (fun W hW=>jq.calls A0 c0 l0 _ W hW hc0 (Om l0 (by omega)));clear hT hr0;obtain ⟨n,hn⟩:∃ n,l0.length=n:=⟨_,rfl⟩;have rY:=ah.mk hn;have hslt:=ah.mk hsz;rw [hn] at iG HCM hc0 hsm |-
 clear hn hsz;go_enter Tryz.func111,Tryz.ntmps111
 go_upto_region 2 with (fail)
 obtain ⟨W0,hW0⟩:∃ W0,w.alloc (.cells #[.pointer none,.slice none 0 0] 126)=W0:=⟨_,rfl⟩;have hB0:ah (vZ w.heap.size w.heap.size [] W0):=⟨by rw [<- hW0];exact vZ.new w⟩;have hb0:ah (Below w.heap.size w W0):=⟨by rw [<- hW0];exact av (Below.refl _ _) _⟩;rw [hW0];clear hW0;generalize hH:w.heap.size=H at *;have HH:=ah.mk hH;clear hH;go_wp2;go_loopg [13] n (fun gg s13 wr=>∃ kk:Nat,kk<=n/\n - kk<=gg/\s13=.int .i64 kk/\ah (Below H w wr)/\ah (vZ H H (Ej (l0.take kk)) wr))
 case atStart=>exact ⟨0,by omega,by omega,rfl,hb0,by rw [List.take_zero];exact hB0⟩
 case round =>
  obtain ⟨kk,hkk,hg,rfl,HB,VH⟩:=hrel;by_cases hlt:kk < n
  ·have hltz:(kk:Int) < (n:Int):=by omega
   have hz0:(0:Int)<=(kk:Int):=by omega
   have hw1:IntKind.i64.wrap ((kk:Int)+1)=((kk+1:Nat):Int):=by rw [uq _ (by omega) (by omega)];omega
   have zR:=ah.mk (Ut (l:=l0) (k:=kk) (by rw [rY.out];exact hlt));have hl1:=Nat.le_trans (Gd (l0.take kk)) (nO l0 kk);have hmem:aC l0 (kk:Int)∈l0:=by
    have:=ig (l:=l0) (k:=kk) (by rw [rY.out];exact hlt);exact List.mem_of_mem_drop (by rw [this];exact List.mem_cons_self)
   have hxs:=Ol hmem;obtain ⟨ad,rfl,x0,x1,x2,x3,x4,x5⟩:=bQ (Kd.bS iG.out (by rw [HH.out];exact HB.out)) (kk:Int) hz0 hltz;simp only [Int.toNat_natCast] at x0 x1 x2 x3 x4 x5;have hsl:=hslt.out;generalize aC l0 (kk:Int)=tx at *;have HSP:=Lib.hid (fun W hW=>eD.calls tx.f0 tx.f1 tx.f2 tx.f3 tx.f4 tx.f5 _ W hW (Gb tx (by omega)));have aff:=Gc tx;have NK:=ah.mk (bW _ (xu tx));have hst:(strOfNums (yc tx)).size=(yc tx).length:=by simp [strOfNums,ByteArray.size]
   clear hmem;go_upto_region 5 with (fail)
   have hn1:=heap_alloc_new wr (.cells #[.int .i64 tx.f0,.string tx.f1,.bool tx.f2,.int .i64 tx.f3,.int .i64 tx.f4,.int .i64 tx.f5] 53);have hB1:Below H w (wr.alloc (.cells #[.int .i64 tx.f0,.string tx.f1,.bool tx.f2,.int .i64 tx.f3,.int .i64 tx.f4,.int .i64 tx.f5] 53)):=HB.out.trans ((av (Below.refl wr.heap.size wr) (.cells #[.int .i64 tx.f0,.string tx.f1,.bool tx.f2,.int .i64 tx.f3,.int .i64 tx.f4,.int .i64 tx.f5] 53)).mono (by have:=HB.out.size;have:=HH.out;omega));have Yz:=ah.mk (VH.out.keep (av (Below.refl _ wr) (.cells #[.int .i64 tx.f0,.string tx.f1,.bool tx.f2,.int .i64 tx.f3,.int .i64 tx.f4,.int .i64 tx.f5] 53)));obtain ⟨h1,SL⟩:∃ h1,wr.heap.size=h1:=⟨_,rfl⟩;rw [SL] at hn1 |-
   clear x0 x1 x2 x3 x4 x5 SL HB VH;generalize wr.alloc (.cells #[.int .i64 tx.f0,.string tx.f1,.bool tx.f2,.int .i64 tx.f3,.int .i64 tx.f4,.int .i64 tx.f5] 53)=W1 at *;have HB1:=ah.mk hB1;have a0:W1.cell? ⟨h1,0,none⟩=some (.int .i64 tx.f0):=(au hn1 0).trans rfl;have a1:W1.cell? ⟨h1,1,none⟩=some (.string tx.f1):=(au hn1 1).trans rfl;have a2:W1.cell? ⟨h1,2,none⟩=some (.bool tx.f2):=(au hn1 2).trans rfl;have a3:W1.cell? ⟨h1,3,none⟩=some (.int .i64 tx.f3):=(au hn1 3).trans rfl;have a4:W1.cell? ⟨h1,4,none⟩=some (.int .i64 tx.f4):=(au hn1 4).trans rfl;have a5:W1.cell? ⟨h1,5,none⟩=some (.int .i64 tx.f5):=(au hn1 5).trans rfl;have HTW:ah (dR W1):=⟨HT.out.of_below (by rw [HH.out];exact hB1)⟩;have HWS:ah (∀ w2,Below W1.heap.size W1 w2->Calls Tryz.prog 112 #[.pointer (some ⟨H,0,none⟩),.string (strOfNums (yc tx))] w2 fun e w'=>∃ nn:Nat,e=.returned (.tuple #[.int .i64 nn,.nilIface])/\vZ H H (Ej (l0.take (kk+1))) w'/\Below H w w'):=⟨fun w2 hb=>by
    have hs2:=hb.size;have hs1:=hB1.size;have hHe:=HH.out;refine (zQ H H _ (strOfNums (yc tx)) w2 (Yz.out.keep hb) (by rw [hst];omega) (by omega)).mono ?_;rintro e w' ⟨rfl,hb1,hb2⟩
    rw [NK.out] at hb1;exact ⟨_,rfl,by rw [zR.out];exact hb1,hB1.trans ((hb.mono (by omega)).trans hb2)⟩⟩
   clear hn1 hB1 hst hsl hxs aff hl1;go_wp2_with (first | (go_at_call 113;refine (HSP.out _ HTW.out).mono ?_;rintro e w2 ⟨rfl,hb2⟩) | (go_at_call 112;refine (HWS.out _ hb2).mono ?_;rintro e w3 ⟨nn,rfl,ajj,hb3⟩))
   go_roundg (n - (kk+1))
   case measure=>omega
   case rel=>exact ⟨kk+1,by omega,by omega,by go_num,⟨hb3⟩,⟨ajj⟩⟩
  have hltz:¬ (kk:Int) < (n:Int):=by omega
  have hkn:n=kk:=by omega
  subst hkn;have afg:ah (vZ H H (Ej l0) wr):=⟨by have:=VH.out;rwa [List.take_of_length_le (by rw [rY.out];exact Nat.le_refl _)] at this⟩;clear VH;obtain ⟨src,hsrc⟩:∃ src,strOfNums (Ej l0)=src:=⟨_,rfl⟩;have hsb:bytesOf src=Ej l0:=by rw [<- hsrc];exact bW _ (El l0)
  have ajk:src.size<=20000:=by
   have h1:(bytesOf src).length=src.size:=bytesOf_length src;have h2:=Gd l0;have h3:=hslt.out;rw [hsb] at h1;omega
  have hstr:=vI H H (Ej l0) wr afg.out (El l0) (by have:=HB.out.size;have:=HH.out;omega);rw [hsrc] at hstr;have YA:=fun W hW=>qd.calls src W (by omega) hW
  obtain ⟨toks,xw⟩:∃ toks,S.tokens (bytesOf src)=toks:=⟨_,rfl⟩;obtain ⟨er,her⟩:∃ er,(S.scan (bytesOf src)).err=er:=⟨_,rfl⟩;rw [xw,her,FZ] at YA;obtain ⟨ec,hec⟩:∃ ec,vV er=ec:=⟨_,rfl⟩;obtain ⟨el,hel⟩:∃ el,zY er=el:=⟨_,rfl⟩;rw [hec,hel] at YA;have HST:=Lib.hid hstr;have zR:=Lib.hid YA;have hMB:iq l0=(er.isSome||!(sG mX ((lY toks).map toS) (if kJ l0=true/\(lY toks).length+1=l0.length then l0.take (l0.length - 1) else l0))):=by
   unfold iq;rw [<- hsb,xw,her]
  have hEC:ec=0 <-> er=none:=by
   rw [<- hec];cases er with
   | none=>exact ⟨fun _=>rfl,fun _=>rfl⟩
   | some p =>
    have:=S.wW (c:=p.1) (ln:=p.2) her;constructor
    ·intro e
     exact absurd (Int.ofNat_eq_zero.1 e) this
    ·intro e;cases e
  have Uu:ah (toks.length<=300000):=⟨by rw [<- xw];have h1:=S.qh (eG src);have h2:(bytesOf src).length=src.size:=bytesOf_length src;omega⟩;have QM:=ah.mk hMB;have Mw:=ah.mk hEC;have HTW:ah (∀ w2,Below H wr w2->dR w2):=⟨fun w2 hb=>HT.out.of_below (by rw [HH.out];exact HB.out.trans hb)⟩;clear hMB hEC hsb ajk hec hel xw her hsrc afg YA hstr;go_upto_region 9 with (first | (go_at_call 107;refine HST.out.mono ?_;rintro e w2 ⟨rfl,_,hb2⟩) | (go_at_call 51;refine (zR.out _ (HTW.out _ hb2)).mono ?_;rintro e w3 ⟨v,rfl,hown,hb3⟩))
  obtain ⟨A,N,cap,rfl,hN⟩:∃ A cn cap,v=.slice A cn cap/\toks.length=cn:=by
   rcases hown.2 with ⟨rfl,e2⟩ | ⟨g,cap,cs,rfl,_⟩
   ·exact ⟨_,_,_,rfl,e2⟩
   ·exact ⟨_,_,_,rfl,rfl⟩
  have nR:=heap_alloc_new w3 (.cells #[.int .i64 ec,.int .i64 el] 76);have hs4:=World.size_alloc w3 (.cells #[.int .i64 ec,.int .i64 el] 76);have Tw:=bV hown ((But.refl (fun _=>False) w3).alloc (.cells #[.int .i64 ec,.int .i64 el] 76)) (fun _ e=>e.elim);have hb4:Below H w (w3.alloc (.cells #[.int .i64 ec,.int .i64 el] 76)):=by
   have e1:=HB.out.size;have e2:=hb2.size;have e3:=hb3.size;have e4:=HH.out;exact HB.out.trans (hb2.trans ((hb3.mono (by omega)).trans ((av (Below.refl w3.heap.size w3) _).mono (by omega))))
  obtain ⟨fb,yD⟩:∃ fb,w3.heap.size=fb:=⟨_,rfl⟩;rw [yD] at nR hs4 |-
  clear hown hb2 hb3 yD;generalize w3.alloc (.cells #[.int .i64 ec,.int .i64 el] 76)=W4 at *;obtain ⟨hxx,hNc,YC⟩:=uU Tw;clear hxx;rw [List.length_map,hN] at YC;have Jp:=ah.mk YC;have CJ:=ah.mk hb4;have HN4:=ah.mk nR;have NQ:=ah.mk hN;have hNs:N<=300000:=by have:=Uu.out;omega
  clear Tw YC hb4 nR hN HST zR HTW HB;have NG:=ah.mk hs4;clear hs4;go_wp2;go_loopg [8,28] N (fun gg s8 s28 wr=>∃ kk:Nat,kk<=N/\N - kk<=gg/\s28=.int .i64 kk/\ah (Below (fb+1) W4 wr)/\ah (wr.ownsRow (fb+1) 53 6 s8 (lY (toks.take kk)).length (dG (lY (toks.take kk)))))
  case atStart=>exact ⟨0,by omega,by omega,rfl,⟨Below.refl _ _⟩,⟨World.ownsRow_nil _ _ _ _⟩⟩
  case round =>
   obtain ⟨kk,hkk,hg,rfl,HBr,HOw⟩:=hrel;by_cases hlt:kk < N
   ·have hltz:(kk:Int) < (N:Int):=by omega
    have hz0:(0:Int)<=(kk:Int):=by omega
    have hw1:IntKind.i64.wrap ((kk:Int)+1)=((kk+1:Nat):Int):=by rw [uq _ (by omega) (by omega)];omega
    obtain ⟨tk,htk⟩:∃ tk,toks[kk]?=some tk:=⟨_,List.getElem?_eq_getElem (by rw [NQ.out];exact hlt)⟩;have hrd:aC (toks.map toS) (kk:Int)=toS tk:=by
     unfold aC;rw [Int.toNat_natCast,List.getD_eq_getElem?_getD,List.getElem?_map,htk];rfl
    have hnk:lY (toks.take (kk+1))=lY (toks.take kk)++(if tk.kind=4 then [] else [tk]):=by
     rw [List.take_add_one,htk];unfold lY;rw [List.filter_append];by_cases e:tk.kind=4
     ·rw [if_pos e];simp [e]
     ·rw [if_neg e];simp [e]
    have HNK:=ah.mk hnk;obtain ⟨ad,rfl,x0,x1,x2,x3,x4,x5⟩:=bQ (Kd.bS Jp.out (by rw [NG.out];exact HBr.out)) (kk:Int) hz0 hltz;simp only [Int.toNat_natCast] at x0 x1 x2 x3 x4 x5;rw [hrd] at x0 x1 x2 x3 x4 x5;simp only [toS] at x0 x1 x2 x3 x4 x5;clear hrd htk hnk;go_upto_region 12 with (fail)
    have hn1:=heap_alloc_new wr (.cells #[.int .i64 tk.kind,.string (strOfNums tk.text),.bool tk.gap,.int .i64 tk.line,.int .i64 tk.at_,.int .i64 tk.to] 53);have hB1:Below (fb+1) W4 (wr.alloc (.cells #[.int .i64 tk.kind,.string (strOfNums tk.text),.bool tk.gap,.int .i64 tk.line,.int .i64 tk.at_,.int .i64 tk.to] 53)):=HBr.out.trans ((av (Below.refl wr.heap.size wr) (.cells #[.int .i64 tk.kind,.string (strOfNums tk.text),.bool tk.gap,.int .i64 tk.line,.int .i64 tk.at_,.int .i64 tk.to] 53)).mono (by have:=HBr.out.size;have:=NG.out;omega));have hO1:=bV HOw.out ((But.refl (fun _=>False) wr).alloc (.cells #[.int .i64 tk.kind,.string (strOfNums tk.text),.bool tk.gap,.int .i64 tk.line,.int .i64 tk.at_,.int .i64 tk.to] 53)) (fun _ e=>e.elim);obtain ⟨h1,SL⟩:∃ h1,wr.heap.size=h1:=⟨_,rfl⟩;rw [SL] at hn1 |-
    clear x0 x1 x2 x3 x4 x5 SL HBr HOw;generalize wr.alloc (.cells #[.int .i64 tk.kind,.string (strOfNums tk.text),.bool tk.gap,.int .i64 tk.line,.int .i64 tk.at_,.int .i64 tk.to] 53)=W1 at *;have HB1:=ah.mk hB1;have LP:=ah.mk hO1;have a0:W1.cell? ⟨h1,0,none⟩=some (.int .i64 tk.kind):=(au hn1 0).trans rfl;have a1:W1.cell? ⟨h1,1,none⟩=some (.string (strOfNums tk.text)):=(au hn1 1).trans rfl;have a2:W1.cell? ⟨h1,2,none⟩=some (.bool tk.gap):=(au hn1 2).trans rfl;have a3:W1.cell? ⟨h1,3,none⟩=some (.int .i64 tk.line):=(au hn1 3).trans rfl;have a4:W1.cell? ⟨h1,4,none⟩=some (.int .i64 tk.at_):=(au hn1 4).trans rfl;have a5:W1.cell? ⟨h1,5,none⟩=some (.int .i64 tk.to):=(au hn1 5).trans rfl;clear hn1 hB1 hO1;by_cases hk4:tk.kind=4
    ·have g1:((tk.kind:Int) != 4)=false:=bne_eq_false_iff_eq.2 (by omega)
     have YD:ah (lY (toks.take (kk+1))=lY (toks.take kk)):=⟨by rw [HNK.out,if_pos hk4,List.append_nil]⟩;go_wp2_with fail
     go_roundg (N - (kk+1))
     case measure=>omega
     case rel=>exact ⟨kk+1,by omega,by omega,by go_num,HB1,by rw [YD.out];exact LP⟩
    have g1:((tk.kind:Int) != 4)=true:=bne_iff_ne.2 (by omega);have YD:ah (lY (toks.take (kk+1))=lY (toks.take kk)++[tk]):=⟨by rw [HNK.out,if_neg hk4]⟩;have hol:(lY (toks.take kk)).length<=kk:=Nat.le_trans (List.length_filter_le _ _) (by rw [List.length_take];omega);obtain ⟨own,hown⟩:∃ own,lY (toks.take kk)=own:=⟨_,rfl⟩;rw [hown] at LP YD hol;clear hown HNK;obtain ⟨on,hon⟩:∃ on,own.length=on:=⟨_,rfl⟩;rw [hon] at LP hol;have HON:=ah.mk hon;clear hon;obtain ⟨i0,hi0,hz0',hz1,hz2⟩:=info_parts (show (Tryz.prog.info? 53).map (fun i=>(i.zero,i.size,i.bytes))=some (some (.agg DK),6,56) by kernel_rfl);have hXO:=bV LP.out ((But.refl (fun _=>False) W1).alloc (.cells #[.int .i64 tk.kind,.string (strOfNums tk.text),.bool tk.gap,.int .i64 tk.line,.int .i64 tk.at_,.int .i64 tk.to] 53)) (fun _ e=>e.elim);have hXN:=heap_alloc_new W1 (.cells #[.int .i64 tk.kind,.string (strOfNums tk.text),.bool tk.gap,.int .i64 tk.line,.int .i64 tk.at_,.int .i64 tk.to] 53);have WS:=World.size_alloc W1 (.cells #[.int .i64 tk.kind,.string (strOfNums tk.text),.bool tk.gap,.int .i64 tk.line,.int .i64 tk.at_,.int .i64 tk.to] 53);have HXO:=ah.mk hXO;have Xx:=ah.mk hXN;have hfs:fb+1<=W1.heap.size:=by have:=HB1.out.size;have:=NG.out;omega
    clear hXO hXN;go_wp2_with (at_builtin;refine wpList_append_own_at _ rfl (.tmp 35) (.tmp 37) 24 rfl (fb+1) 53 i0 (.agg DK) 6 56 Tryz.underlying24 hi0 hz0' hz1 hz2 rfl (by decide) _ on (dG own) rfl HXO.out ⟨W1.heap.size,0,none⟩ 1 1 (Db tk) rfl rfl (fun j u hu=>by rw [add_plain,au Xx.out j];simpa [Db] using hu) (uE _) (by unfold maxLen;omega) (by omega) (by rw [WS];omega) ?_;intro v' w1 hown' hgrow _ hat;have FI:=ah.mk hown';have NP:=ah.mk hgrow;have HAT:=ah.mk hat;clear hown' hgrow hat)
    have hbw:Below (fb+1) W4 w1:=HB1.out.trans ((((But.refl (fun k=>fb+1<=k) W1).alloc (.cells #[.int .i64 tk.kind,.string (strOfNums tk.text),.bool tk.gap,.int .i64 tk.line,.int .i64 tk.at_,.int .i64 tk.to] 53)).grown NP.out (fun k e=>(LP.out.lt k e).1)).jS hfs (fun k hk e=>by omega));have HBW:=ah.mk hbw;clear hbw NP HAT HXO Xx WS;go_roundg (N - (kk+1))
    case measure=>omega
    case rel=>exact ⟨kk+1,by omega,by omega,by go_num,HBW,⟨by rw [YD.out,List.length_append,List.length_singleton,HON.out];have:=FI.out;simpa [dG] using this⟩⟩
   have hltz:¬ (kk:Int) < (N:Int):=by omega
   have hkn:N=kk:=by omega
   subst hkn;rw [<- NQ.out,List.take_length] at HOw;obtain ⟨own,hown⟩:∃ own,lY toks=own:=⟨_,rfl⟩;rw [hown] at HOw QM;have hol:own.length<=N:=by rw [<- NQ.out];rw [<- hown];exact List.length_filter_le _ _
   clear hown;obtain ⟨A2,c2,rfl⟩:∃ A2 c2,u8=.slice A2 own.length c2:=by
    rcases HOw.out.2 with ⟨e1,e2⟩ | ⟨g,cap,cs,e1,_⟩
    ·exact ⟨none,0,by rw [e1,e2]⟩
    ·exact ⟨_,_,e1⟩
   obtain ⟨hxx,hc2,hC2⟩:=uU HOw.out;clear hxx;have qo:=ah.mk hC2;have hmw:ah (Below H w wr):=⟨CJ.out.trans (HBr.out.mono (by have:=CJ.out.size;have:=NG.out;have:=HH.out;omega))⟩;have hf0:wr.cell? ⟨fb,0,none⟩=some (.int .i64 ec):=(au ((HBr.out.block fb (by omega)).trans HN4.out) 0).trans rfl;have HR1:ah (Kd.C jP wr A0 l0.length l0):=⟨Kd.bS (by rw [rY.out];exact iG.out) (by rw [HH.out];exact hmw.out)⟩;have FL:=HR1.out;rw [rY.out] at FL;have JQ:=ah.mk FL;clear FL;clear HBr CJ HOw HN4 iG;obtain ⟨on,hon⟩:∃ on,own.length=on:=⟨_,rfl⟩;obtain ⟨cb,hcb⟩:∃ cb,kJ l0=cb:=⟨_,rfl⟩;rw [hcb] at HCM QM;have HON:=ah.mk hon;have hn1:cb=true->1<=n:=fun e=>by
    rcases Nat.eq_zero_or_pos n with h | h
    ·exfalso
     rw [List.length_eq_zero_iff.1 (rY.out.trans h)] at hcb;rw [<- hcb] at e;cases e
    ·exact h
   rw [rY.out,hon] at QM;rw [hon] at hol hc2 |-
   rw [List.length_map,hon] at qo;have afh:((own.map toS)).length<=1000000:=by rw [List.length_map,hon];omega
   clear hon hcb;have Uv:∀ (W:World) (n2 c2':Nat) (m:List dh),Below wr.heap.size wr W->m.length=n2->n2<=c2'->Kd.C jP wr A0 n2 m->Calls Tryz.prog 74 #[.slice A2 on c2,.slice A0 n2 c2',.func (.func 76) #[] #[]] W fun e w'=>e=.returned (.bool (sG mX (own.map toS) m))/\Below W.heap.size W w':=fun W n2 c2' m hb hm hc hC=>by
    have h1:=eqf.calls A2 c2 (own.map toS) A0 c2' m 76 mX W Jd Bv (by rw [List.length_map,HON.out];exact Kd.bS qo.out hb) (by rw [List.length_map,HON.out];exact hc2) (by rw [hm];exact Kd.bS hC hb) (by rw [hm];exact hc) afh;rw [List.length_map,HON.out,hm] at h1;exact h1
   have Uv:=Lib.hid Uv;clear afh;by_cases hcut:cb=true/\on+1=n
   ·rw [if_pos hcut] at QM
    obtain ⟨rfl,rfl⟩:=hcut;rw [show on+1 - 1=on by omega] at QM;have hC3:=KH on (by rw [rY.out];omega) (l:=l0) (w:=wr) (A:=A0) (by rw [rY.out];exact JQ.out);have hln:(l0.take on).length=on:=by rw [List.length_take,rY.out];omega
    have YE:=Lib.hid (fun W hb=>Uv.out W on on (l0.take on) hb hln (Nat.le_refl _) hC3);have hw2:IntKind.i64.wrap (((on+1:Nat):Int) - 1)=(on:Int):=by rw [uq _ (by omega) (by omega)];omega
    have hw3:(((on+1:Nat):Int) - 1)=(on:Int):=by omega
    have g2:((on:Int)==(on:Int))=true:=beq_self_eq_true _;have g3:(on==on)=true:=beq_self_eq_true _;have alK:on<=on+1:=by omega
    have alL:on<=c0:=by omega
    clear hn1 hC3 hln Uv;by_cases he0:ec=0
    ·have hm:iq l0=!(sG mX (own.map toS) (l0.take on)):=by rw [QM.out,(Mw.out.1 he0)];rfl
     have HM:=ah.mk hm;have g1:(ec != 0)=false:=bne_eq_false_iff_eq.2 he0;clear hm he0;go_wp2_with (first | (go_at_call 92;refine (HCM.out _ JQ.out).mono ?_;rintro e w' ⟨rfl,⟨⟨q,rfl⟩⟩⟩) | (go_at_call 74;refine (YE.out _ (ak (Below.refl _ _) _)).mono ?_;rintro e w5 ⟨rfl,hb5⟩))
     refine bodyPost_ret (results_tmp rfl _ _ _) rfl ?_;exact ⟨by rw [HM.out];rfl,by rw [HH.out];exact (ak hmw.out q).trans (hb5.mono (by have:=hmw.out.size;have:=HH.out;show H<=wr.heap.size;omega))⟩
    have hi:er.isSome=true:=by
     cases er with
     | none=>exact absurd (Mw.out.2 rfl) he0
     | some _=>rfl
    have HM:ah (iq l0=true):=⟨by rw [QM.out,hi];rfl⟩;have g1:(ec != 0)=true:=bne_iff_ne.2 he0;clear hi he0;go_wp2_with (go_at_call 92;refine (HCM.out _ JQ.out).mono ?_;rintro e w' ⟨rfl,⟨⟨q,rfl⟩⟩⟩)
    refine bodyPost_ret (results_tmp rfl _ _ _) rfl ?_;exact ⟨by rw [HM.out];rfl,by rw [HH.out];exact ak hmw.out q⟩
   rw [if_neg hcut] at QM;have YE:=Lib.hid (fun W hb=>Uv.out W n c0 l0 hb rY.out hc0 JQ.out);clear Uv;cases cb with
   | false =>
    clear hcut hn1;by_cases he0:ec=0
    ·have hm:iq l0=!(sG mX (own.map toS) l0):=by rw [QM.out,(Mw.out.1 he0)];rfl
     have HM:=ah.mk hm;have g1:(ec != 0)=false:=bne_eq_false_iff_eq.2 he0;clear hm he0;go_wp2_with (first | (go_at_call 92;refine (HCM.out _ JQ.out).mono ?_;rintro e w' ⟨rfl,⟨⟨q,rfl⟩⟩⟩) | (go_at_call 74;refine (YE.out _ (ak (Below.refl _ _) _)).mono ?_;rintro e w5 ⟨rfl,hb5⟩))
     refine bodyPost_ret (results_tmp rfl _ _ _) rfl ?_;exact ⟨by rw [HM.out];rfl,by rw [HH.out];exact (ak hmw.out q).trans (hb5.mono (by have:=hmw.out.size;have:=HH.out;show H<=wr.heap.size;omega))⟩
    have hi:er.isSome=true:=by
     cases er with
     | none=>exact absurd (Mw.out.2 rfl) he0
     | some _=>rfl
    have HM:ah (iq l0=true):=⟨by rw [QM.out,hi];rfl⟩;have g1:(ec != 0)=true:=bne_iff_ne.2 he0;clear hi he0;go_wp2_with (go_at_call 92;refine (HCM.out _ JQ.out).mono ?_;rintro e w' ⟨rfl,⟨⟨q,rfl⟩⟩⟩)
    refine bodyPost_ret (results_tmp rfl _ _ _) rfl ?_;exact ⟨by rw [HM.out];rfl,by rw [HH.out];exact ak hmw.out q⟩
   | true =>
    have hn2:=hn1 rfl;have hne:on+1≠n:=fun e=>hcut ⟨rfl,e⟩
    have hw2:IntKind.i64.wrap ((n:Int) - 1)=((n - 1:Nat):Int):=by rw [uq _ (by omega) (by omega)];omega
    have hw3:((n:Int) - 1)=((n - 1:Nat):Int):=by omega
    have g2:((on:Int)==((n - 1:Nat):Int))=false:=beq_eq_false_iff_ne.2 (by omega);have g3:(on==n - 1)=false:=beq_eq_false_iff_ne.2 (by omega);clear hcut hn1 hne hn2;by_cases he0:ec=0
    ·have hm:iq l0=!(sG mX (own.map toS) l0):=by rw [QM.out,(Mw.out.1 he0)];rfl
     have HM:=ah.mk hm;have g1:(ec != 0)=false:=bne_eq_false_iff_eq.2 he0;clear hm he0;go_wp2_with (first | (go_at_call 92;refine (HCM.out _ JQ.out).mono ?_;rintro e w' ⟨rfl,⟨⟨q,rfl⟩⟩⟩) | (go_at_call 74;refine (YE.out _ (ak (Below.refl _ _) _)).mono ?_;rintro e w5 ⟨rfl,hb5⟩))
     refine bodyPost_ret (results_tmp rfl _ _ _) rfl ?_;exact ⟨by rw [HM.out];rfl,by rw [HH.out];exact (ak hmw.out q).trans (hb5.mono (by have:=hmw.out.size;have:=HH.out;show H<=wr.heap.size;omega))⟩
    have hi:er.isSome=true:=by
     cases er with
     | none=>exact absurd (Mw.out.2 rfl) he0
     | some _=>rfl
    have HM:ah (iq l0=true):=⟨by rw [QM.out,hi];rfl⟩;have g1:(ec != 0)=true:=bne_iff_ne.2 he0;clear hi he0;go_wp2_with (go_at_call 92;refine (HCM.out _ JQ.out).mono ?_;rintro e w' ⟨rfl,⟨⟨q,rfl⟩⟩⟩)
    refine bodyPost_ret (results_tmp rfl _ _ _) rfl ?_;exact ⟨by rw [HM.out];rfl,by rw [HH.out];exact ak hmw.out q⟩
def tkC (x:dh):List Value:=[.int .i64 x.f0,.string x.f1,.bool x.f2,.int .i64 x.f3,.int .i64 x.f4,.int .i64 x.f5]
def Gf (l:List dh):List Value:=(l.map tkC).flatten
theorem Oo:∀ (l:List dh) (j:Nat) (t:dh),l[j]?=some t->((Gf l).drop (j*6)).take 6=tkC t
 | [],j,t,h=>by simp at h
 | x::l,0,t,h=>by
  simp only [List.getElem?_cons_zero,Option.some.injEq] at h;subst h;simp [Gf,tkC]
 | x::l,j+1,t,h=>by
  simp only [List.getElem?_cons_succ] at h;have:=Oo l j t h;have e:(Gf (x::l)).drop ((j+1)*6)=(Gf l).drop (j*6):=by
   simp only [Gf,List.map_cons,List.flatten_cons];rw [List.drop_append,List.drop_eq_nil_of_le (by simp [tkC];omega),List.nil_append];congr 1
   simp [tkC];omega
  rw [e];exact this
theorem Uw {W:World} {g:Nat} {cs:Array Value} {l:List dh} (hg:W.heap[g]?=some (.cells cs 53 (0,0))) (ht:cs.toList=Gf l) (hl:l.length<=300000):Kd.C jP W (some ⟨g,0,none⟩) l.length l:=by
 refine ⟨rfl,by omega,fun _=>⟨_,rfl,fun j p hj=>?_⟩⟩;refine ⟨tkC p,rfl,KO W p,fun i u hu=>?_⟩;have hi:i < 6:=(List.getElem?_eq_some_iff.1 hu).1;have e1:(Gf l)[j*6+i]?=some u:=by
  rw [<- Oo l j p hj,List.getElem?_take_of_lt hi,List.getElem?_drop] at hu;exact hu
 rw [<- ht] at e1;show W.cell? ((⟨g,0,none⟩:Addr).add (j*6+i))=some u
 rw [add_plain,au hg];simpa using e1
theorem aan {w:World} {ad:Addr} {l:List dh} (k m:Nat) (hk:k+m<=l.length) (h:Kd.C jP w (some ad) l.length l):Kd.C jP w (some (ad.add (k*6))) m ((l.drop k).take m):=by
 obtain ⟨h1,h2,h3⟩:=h;refine ⟨by rw [List.length_take,List.length_drop];omega,by omega,fun hne=>?_⟩;obtain ⟨ad',e,hj⟩:=h3 (by omega);cases e
 refine ⟨_,rfl,fun j p hp=>?_⟩;have hp2:l[k+j]?=some p:=by
  rw [List.getElem?_take] at hp;split at hp
  ·rw [List.getElem?_drop] at hp;exact hp
  ·cases hp
 obtain ⟨c,c1,c2,c3⟩:=hj (k+j) p hp2;refine ⟨c,c1,c2,fun i u hu=>?_⟩;have:=c3 i u hu;have e6:jP.sz=6:=rfl;rw [e6] at this |-
 rw [Go.Addr.add_add,show k*6+(j*6+i)=(k+j)*6+i by omega];exact this
def bU (l:List dh) (i:Nat):dh:=aC l (i:Int)
def xA (l:List dh) (i first:Nat):Bool :=
 iq [bU l (i - 1),bU l i]||(decide (first+2<=i)&&!(bU l (i - 1)).f2&&decide ((bU l (i - 2)).f0=1)&&iq [bU l (i - 2),bU l (i - 1),bU l i])
def oq (l:List dh) (i first:Nat):List Int :=
 if i=first then [] else if (bU l i).f2=true then [32] else if xA l i first=true then [47,42,42,47] else []
def Mx (l:List dh) (i first:Nat):List Int:=(if kJ ((l.drop first).take (i - first))=true then [59] else [])++[10]
def vW (l:List dh) (i:Nat) (p:Nat × List Int):Nat × List Int :=
 if (bU l i).f0=4 then (i+1,p.2++Mx l i p.1) else (p.1,p.2++oq l i p.1++yc (bU l i))
def Cb (l:List dh):Nat->Nat × List Int
 | 0=>(0,[])
 | k+1=>vW l k (Cb l k)
def kU (l:List dh):List Int:=(Cb l l.length).2
theorem Ux (l:List dh) (i first:Nat):(oq l i first).length<=4:=by
 unfold oq;split
 ·simp
 ·split
  ·simp
  ·split<;>simp
theorem MB (l:List dh) (i first:Nat):∀ x∈oq l i first,0<=x/\x < 256:=by
 unfold oq;split
 ·simp
 ·split
  ·simp
  ·split
   ·intro x hx
    simp only [List.mem_cons,List.not_mem_nil,or_false] at hx;omega
   ·simp
theorem MC (l:List dh) (i first:Nat):(Mx l i first).length<=4/\∀ x∈Mx l i first,0<=x/\x < 256:=by
 unfold Mx;split<;>simp
theorem uF (l:List dh):∀ k,k<=l.length->(Cb l k).1<=k/\(Cb l k).2.length<=nV (l.take k)+4*k/\∀ x∈(Cb l k).2,0<=x/\x < 256
 | 0,_=>⟨Nat.le_refl _,by simp [Cb],by simp [Cb]⟩
 | k+1,hk=>by
  obtain ⟨h1,h2,h3⟩:=uF l k (by omega);have hs:nV (l.take (k+1))=nV (l.take k)+(2*(bU l k).f1.size+2):=by
   have hd:l.take (k+1)=l.take k++[bU l k]:=by
    rw [List.take_add_one,List.getElem?_eq_getElem (by omega)];unfold bU aC;rw [Int.toNat_natCast,List.getD_eq_getElem?_getD,List.getElem?_eq_getElem (by omega)];rfl
   rw [hd];simp [nV]
  have hsp:=Gc (bU l k);simp only [Cb,vW];split
  ·obtain ⟨e1,e2⟩:=MC l k (Cb l k).1
   refine ⟨Nat.le_refl _,by rw [List.length_append];omega,fun x hx=>?_⟩;rcases List.mem_append.1 hx with e | e
   ·exact h3 x e
   ·exact e2 x e
  ·have e1:=Ux l k (Cb l k).1
   refine ⟨by omega,by rw [List.length_append,List.length_append];omega,fun x hx=>?_⟩;rcases List.mem_append.1 hx with e | e
   ·rcases List.mem_append.1 e with e | e
    ·exact h3 x e
    ·exact MB l k _ x e
   ·exact xu _ x e
theorem YF {l:List dh} {i:Nat} (hi:i+1 < l.length):nV [bU l i,bU l (i+1)]<=nV l:=by
 have h1:l.drop i=bU l i::l.drop (i+1):=ig (by omega);have h2:l.drop (i+1)=bU l (i+1)::l.drop (i+1+1):=ig hi;conv=>{ rhs;rw [<- List.take_append_drop i l,h1,h2] }
 simp only [nV,List.map_append,List.map_cons,List.map_nil,List.sum_append,List.sum_cons,List.sum_nil];omega
theorem Qu {l:List dh} {i:Nat} (hi:i+2 < l.length):nV [bU l i,bU l (i+1),bU l (i+2)]<=nV l:=by
 have h1:l.drop i=bU l i::l.drop (i+1):=ig (by omega);have h2:l.drop (i+1)=bU l (i+1)::l.drop (i+1+1):=ig (by omega);have h3:l.drop (i+2)=bU l (i+2)::l.drop (i+2+1):=ig hi;conv=>{ rhs;rw [<- List.take_append_drop i l,h1,h2,show i+1+1=i+2 from rfl,h3] }
 simp only [nV,List.map_append,List.map_cons,List.map_nil,List.sum_append,List.sum_cons,List.sum_nil];omega
theorem vZ.lt {B b:Nat} {xs:List Int} {w:World} (h:vZ B b xs w):b < w.heap.size:=by
 rcases h with ⟨_,v,h2,_⟩ | ⟨_,v,h2,_⟩<;>exact (Array.getElem?_eq_some_iff.1 h2).1
structure Rd (H h1:Nat) (w:World) (tx:dh) (o:List Int) (W:World):Prop where
 bl:Below H w W
 bd:vZ H H o W
 bx:W.heap[h1]?=some (.cells #[.int .i64 tx.f0,.string tx.f1,.bool tx.f2,.int .i64 tx.f3,.int .i64 tx.f4,.int .i64 tx.f5] 53 (0,0))
 hs:H<=W.heap.size
 ne:H < h1
theorem Rd.keep {H h1:Nat} {w:World} {tx:dh} {o:List Int} {W W':World} (h:Rd H h1 w tx o W) (hb:Below W.heap.size W W'):Rd H h1 w tx o W' :=
 ⟨h.bl.trans (hb.mono h.hs),h.bd.keep hb,(hb.block h1 (Array.getElem?_eq_some_iff.1 h.bx).1).trans h.bx,Nat.le_trans h.hs hb.size,h.ne⟩
theorem Rd.wb {H h1:Nat} {w:World} {tx:dh} {o:List Int} {W:World} (h:Rd H h1 w tx o W) (c:Int) (hl:o.length<=100000000) :
  Calls Tryz.prog 106 #[.pointer (some ⟨H,0,none⟩),.int .u8 c] W fun e w'=>e=.returned .nilIface/\Rd H h1 w tx (o++[c]) w':=by
 refine (Any.Builder_WriteByte_k Bl wN H H _ c W h.bd (by rw [List.length_map];omega) h.hs).mono ?_;rintro e w' ⟨rfl,k1,k2,k3⟩
 refine ⟨rfl,h.bl.trans k2,?_,k3 _ _ h.bx (fun e=>by have:=h.ne;simp only [Option.some.injEq] at e;omega) (fun c fz e=>?_),Nat.le_trans h.hs k2.size,h.ne⟩
 ·unfold vZ;rw [List.map_append];exact .inr k1
 ·injection e with e1 e2 e3;exact absurd e2 (by decide)
theorem Rd.ws {H h1:Nat} {w:World} {tx:dh} {o:List Int} {W:World} (h:Rd H h1 w tx o W) (s:ByteArray) (hl:o.length+s.size<=100000000) :
  Calls Tryz.prog 112 #[.pointer (some ⟨H,0,none⟩),.string s] W fun e w'=>(∃ nn:Nat,e=.returned (.tuple #[.int .i64 nn,.nilIface]))/\Rd H h1 w tx (o++bytesOf s) w':=by
 refine (Any.Builder_WriteString_k Bn wN H H _ s W h.bd (by rw [List.length_map];omega) h.hs).mono ?_;rintro e w' ⟨rfl,k1,k2,k3⟩
 refine ⟨⟨_,rfl⟩,h.bl.trans k2,?_,k3 _ _ h.bx (fun e=>by have:=h.ne;simp only [Option.some.injEq] at e;omega) (fun c fz e=>?_),Nat.le_trans h.hs k2.size,h.ne⟩
 ·unfold vZ
  rw [List.map_append];have e:(bytesOf s).map (Value.int .u8)=Lib.strCells s:=by simp [bytesOf,Lib.strCells,Lib.byteCells,Function.comp_def]
  rw [e];exact .inr k1
 ·injection e with e1 e2 e3;exact absurd e2 (by decide)
set_option maxRecDepth 100000 in
set_option maxHeartbeats 16000000 in
theorem Gg.calls (A0:Option Addr) (c0:Nat) (l0:List dh) (w:World) (hT:dR w) (hr0:Kd.C jP w A0 l0.length l0) (hc0:l0.length<=c0) (hsm:l0.length<=10000) (hsz:nV l0<=20000) :
  Calls Tryz.prog 72 #[.slice A0 l0.length c0] w fun e w'=>e=.returned (.string (strOfNums (kU l0)))/\Below w.heap.size w w':=by
 have Bu:=Tryz.underlying53;have HT:=ah.mk hT;have iG:=ah.mk hr0;clear hT hr0;obtain ⟨n,hn⟩:∃ n,l0.length=n:=⟨_,rfl⟩;have rY:=ah.mk hn;have hslt:=ah.mk hsz;have HWF:=ah.mk (uF l0);rw [hn] at iG hc0 hsm HWF |-
 clear hn hsz;go_enter Tryz.func72,Tryz.ntmps72
 go_upto_region 3 with (fail)
 obtain ⟨W0,hW0⟩:∃ W0,w.alloc (.cells #[.pointer none,.slice none 0 0] 126)=W0:=⟨_,rfl⟩;have hB0:ah (vZ w.heap.size w.heap.size [] W0):=⟨by rw [<- hW0];exact vZ.new w⟩;have hb0:ah (Below w.heap.size w W0):=⟨by rw [<- hW0];exact av (Below.refl _ _) _⟩;rw [hW0];clear hW0;generalize hH:w.heap.size=H at *;have HH:=ah.mk hH;clear hH;go_wp2;go_loopg [4,9] n (fun gg s4 s9 wr=>∃ kk first:Nat,kk<=n/\n - kk<=gg/\s4=.int .i64 first/\s9=.int .i64 kk/\first<=kk/\ah (Below H w wr)/\ah (vZ H H (Cb l0 kk).2 wr)/\ah ((Cb l0 kk).1=first))
 case atStart=>exact ⟨0,0,by omega,by omega,rfl,rfl,by omega,hb0,hB0,⟨rfl⟩⟩
 case round =>
  obtain ⟨kk,first,hkk,hg,rfl,rfl,hfk,HB,VH,HFI⟩:=hrel;obtain ⟨out,hout⟩:∃ out,(Cb l0 kk).2=out:=⟨_,rfl⟩;have WQ:=ah.mk hout;rw [hout] at VH;have hwf:=HWF.out kk hkk;rw [hout] at hwf;have hos:out.length<=20000+4*kk:=by
   have h1:=nO l0 kk;have h2:=hslt.out;have h3:=hwf.2.1;omega
  have HOB:=ah.mk hwf.2.2;clear hout hwf;by_cases hlt:kk < n
  rotate_left
  ·have hltz:¬ (kk:Int) < (n:Int):=by omega
   have hkn:n=kk:=by omega
   have hwr:kU l0=out:=by
    unfold kU;rw [rY.out,hkn];exact WQ.out
   have HWR:=ah.mk hwr;have hst:=vI H H out wr VH.out HOB.out (by have:=HB.out.size;have:=HH.out;omega);have HST:=Lib.hid hst;clear hst hwr hkn;go_wp2_with (go_at_call 107;refine HST.out.mono ?_;rintro e w2 ⟨rfl,_,hb2⟩)
   refine bodyPost_ret (results_tmp rfl _ _ _) rfl ?_;exact ⟨by rw [HWR.out];rfl,by rw [HH.out];exact HB.out.trans hb2⟩
  have hltz:(kk:Int) < (n:Int):=by omega
  have hz0:(0:Int)<=(kk:Int):=by omega
  have hw1:IntKind.i64.wrap ((kk:Int)+1)=((kk+1:Nat):Int):=by rw [uq _ (by omega) (by omega)];omega
  have HWN:ah (Cb l0 (kk+1)=vW l0 kk (first,out)):=⟨by
   show vW l0 kk (Cb l0 kk)=_
   rw [<- HFI.out,<- WQ.out]⟩
  have hCr:=Kd.bS iG.out (by rw [HH.out];exact HB.out);obtain ⟨ad,rfl,x0,x1,x2,x3,x4,x5⟩:=bQ hCr (kk:Int) hz0 hltz;simp only [Int.toNat_natCast] at x0 x1 x2 x3 x4 x5;have htx:bU l0 kk=aC l0 (kk:Int):=rfl;generalize aC l0 (kk:Int)=tx at *;have DR:=ah.mk htx;have hmem:tx∈l0:=by
   have:=ig (l:=l0) (k:=kk) (by rw [rY.out];exact hlt);rw [<- htx];exact List.mem_of_mem_drop (by rw [this];exact List.mem_cons_self)
  have hxs:=Ol hmem;clear htx hmem;go_upto_region 6 with (fail)
  have hn1:=heap_alloc_new wr (.cells #[.int .i64 tx.f0,.string tx.f1,.bool tx.f2,.int .i64 tx.f3,.int .i64 tx.f4,.int .i64 tx.f5] 53);have hB1:Below H w (wr.alloc (.cells #[.int .i64 tx.f0,.string tx.f1,.bool tx.f2,.int .i64 tx.f3,.int .i64 tx.f4,.int .i64 tx.f5] 53)):=HB.out.trans ((av (Below.refl wr.heap.size wr) (.cells #[.int .i64 tx.f0,.string tx.f1,.bool tx.f2,.int .i64 tx.f3,.int .i64 tx.f4,.int .i64 tx.f5] 53)).mono (by have:=HB.out.size;have:=HH.out;omega));have Yz:=ah.mk (VH.out.keep (av (Below.refl _ wr) (.cells #[.int .i64 tx.f0,.string tx.f1,.bool tx.f2,.int .i64 tx.f3,.int .i64 tx.f4,.int .i64 tx.f5] 53)));have Uy:=Kd.eT hCr (.cells #[.int .i64 tx.f0,.string tx.f1,.bool tx.f2,.int .i64 tx.f3,.int .i64 tx.f4,.int .i64 tx.f5] 53);have hlt1:=VH.out.lt;obtain ⟨h1,SL⟩:∃ h1,wr.heap.size=h1:=⟨_,rfl⟩;rw [SL] at hn1 hlt1 |-
  clear x0 x1 x2 x3 x4 x5 SL HB VH hCr;generalize wr.alloc (.cells #[.int .i64 tx.f0,.string tx.f1,.bool tx.f2,.int .i64 tx.f3,.int .i64 tx.f4,.int .i64 tx.f5] 53)=W1 at *;have hrd:Rd H h1 w tx out W1:=⟨hB1,Yz.out,hn1,by have:=hB1.size;have:=HH.out;omega,hlt1⟩;have Fb:=ah.mk hrd;have EG:=ah.mk Uy;have HTD:ah (∀ W,Rd H h1 w tx out W->dR W):=⟨fun W h=>HT.out.of_below (by rw [HH.out];exact h.bl)⟩;have a0:W1.cell? ⟨h1,0,none⟩=some (.int .i64 tx.f0):=(au hn1 0).trans rfl;have a1:W1.cell? ⟨h1,1,none⟩=some (.string tx.f1):=(au hn1 1).trans rfl;have a2:W1.cell? ⟨h1,2,none⟩=some (.bool tx.f2):=(au hn1 2).trans rfl;have a3:W1.cell? ⟨h1,3,none⟩=some (.int .i64 tx.f3):=(au hn1 3).trans rfl;have a4:W1.cell? ⟨h1,4,none⟩=some (.int .i64 tx.f4):=(au hn1 4).trans rfl;have a5:W1.cell? ⟨h1,5,none⟩=some (.int .i64 tx.f5):=(au hn1 5).trans rfl;clear hn1 hB1 hrd Yz hlt1;by_cases hk4:tx.f0=4
  ·have g1:(tx.f0==4)=true:=beq_iff_eq.2 hk4
   have hz1:(0:Int)<=(first:Int):=by omega
   have hz2:(first:Int)<=(kk:Int):=by omega
   have hz3:kk<=c0:=by omega
   have VI:Cb l0 (kk+1)=(kk+1,out++Mx l0 kk first):=by
    rw [HWN.out];unfold vW;rw [DR.out,if_pos hk4]
   obtain ⟨cl,hcl⟩:∃ cl,(l0.drop first).take (kk - first)=cl:=⟨_,rfl⟩;have Cc:cl.length=kk - first:=by rw [<- hcl,List.length_take,List.length_drop,rY.out];omega
   have hCc:=aan first (kk - first) (l:=l0) (by rw [rY.out];omega) (by rw [rY.out];exact Uy)
   rw [hcl] at hCc;have hcm:=jq.calls (some (ad.add (first*6))) (c0 - first) cl _ W1 (by rw [Cc];exact hCc) (by omega) (Om cl (by omega));rw [Cc] at hcm;unfold Mx at VI;rw [hcl] at VI;clear hCc hcl Cc Uy a0 a1 a2 a3 a4 a5;have a0:W1.cell? ⟨h1,0,none⟩=some (.int .i64 tx.f0):=(au Fb.out.bx 0).trans rfl;cases hcb:kJ cl with
   | true =>
    rw [hcb] at hcm VI;rw [if_pos rfl] at VI;have CO:=ah.mk VI;have HCM:=Lib.hid hcm;clear hcm VI hcb;go_wp2_with (first | (go_at_call 92;refine HCM.out.mono ?_;rintro e w2 ⟨rfl,⟨⟨q,rfl⟩⟩⟩;have hr2:=Fb.out.keep (ak (Below.refl _ _) q)) | (go_at_call 106;with_reducible refine (hr2.wb 59 (by omega)).mono ?_;rintro e w3 ⟨rfl,hr3⟩) | (go_at_call 106;with_reducible refine (hr3.wb 10 (by simp;omega)).mono ?_;rintro e w4 ⟨rfl,hr4⟩))
    go_roundg (n - (kk+1))
    case measure=>omega
    case rel=>exact ⟨kk+1,kk+1,by omega,by omega,by go_num,by go_num,Nat.le_refl _,⟨hr4.bl⟩,⟨by rw [CO.out];have:=hr4.bd;simpa using this⟩,⟨by rw [CO.out]⟩⟩
   | false =>
    rw [hcb] at hcm VI;rw [if_neg Bool.false_ne_true,List.nil_append] at VI;have CO:=ah.mk VI;have HCM:=Lib.hid hcm;clear hcm VI hcb;go_wp2_with (first | (go_at_call 92;refine HCM.out.mono ?_;rintro e w2 ⟨rfl,⟨⟨q,rfl⟩⟩⟩;have hr2:=Fb.out.keep (ak (Below.refl _ _) q)) | (go_at_call 106;with_reducible refine (hr2.wb 10 (by omega)).mono ?_;rintro e w4 ⟨rfl,hr4⟩))
    go_roundg (n - (kk+1))
    case measure=>omega
    case rel=>exact ⟨kk+1,kk+1,by omega,by omega,by go_num,by go_num,Nat.le_refl _,⟨hr4.bl⟩,⟨by rw [CO.out];exact hr4.bd⟩,⟨by rw [CO.out]⟩⟩
  have g1:(tx.f0==4)=false:=beq_eq_false_iff_ne.2 hk4;have CO:ah (Cb l0 (kk+1)=(first,out++oq l0 kk first++yc tx)):=⟨by
   rw [HWN.out];unfold vW;rw [DR.out,if_neg hk4]⟩
  have Tq:ah (∀ W,Below H w W->dR W):=⟨fun W h=>HT.out.of_below (by rw [HH.out];exact h)⟩;have NK:=ah.mk (bW _ (xu tx));have hst:(strOfNums (yc tx)).size=(yc tx).length:=by simp [strOfNums,ByteArray.size]
  have aff:=Gc tx;have hsl:=hslt.out;go_upto_region 11 with (fail)
  by_cases hkf:kk=first
  ·have HG:ah (oq l0 kk first=[]):=⟨by unfold oq;rw [if_pos hkf]⟩
   have e1:((kk:Int)==(first:Int))=true:=beq_iff_eq.2 (by omega);have e2:(kk==first)=true:=beq_iff_eq.2 hkf;have hrd:=Fb.out;clear hkf a0 a1 a2 a3 a4 a5 Uy;go_upto_region 17 with (fail)
   have b0:W1.cell? ⟨h1,0,none⟩=some (.int .i64 tx.f0):=(au hrd.bx 0).trans rfl;have b1:W1.cell? ⟨h1,1,none⟩=some (.string tx.f1):=(au hrd.bx 1).trans rfl;have b2:W1.cell? ⟨h1,2,none⟩=some (.bool tx.f2):=(au hrd.bx 2).trans rfl;have b3:W1.cell? ⟨h1,3,none⟩=some (.int .i64 tx.f3):=(au hrd.bx 3).trans rfl;have b4:W1.cell? ⟨h1,4,none⟩=some (.int .i64 tx.f4):=(au hrd.bx 4).trans rfl;have b5:W1.cell? ⟨h1,5,none⟩=some (.int .i64 tx.f5):=(au hrd.bx 5).trans rfl;have vX:=Lib.hid (eD.calls tx.f0 tx.f1 tx.f2 tx.f3 tx.f4 tx.f5 _ W1 (Tq.out _ hrd.bl) (Gb tx (by omega)));go_wp2_with (first | (go_at_call 113;with_reducible refine vX.out.mono ?_;rintro e v5 ⟨rfl,hv5⟩;have ME:=hrd.keep hv5) | (go_at_call 112;with_reducible refine (ME.ws (strOfNums (yc tx)) (by first | omega | (simp only [List.length_append,List.length_cons,List.length_nil];omega))).mono ?_;rintro e v6 ⟨⟨nn,rfl⟩,Ce⟩))
   go_roundg (n - (kk+1))
   case measure=>omega
   case rel=>exact ⟨kk+1,first,by omega,by omega,rfl,by go_num,by omega,⟨Ce.bl⟩,⟨by rw [CO.out,HG.out];have:=Ce.bd;rw [NK.out] at this;simpa using this⟩,⟨by rw [CO.out]⟩⟩
  have e1:((kk:Int)==(first:Int))=false:=beq_eq_false_iff_ne.2 (by omega);have e2:(kk==first)=false:=beq_eq_false_iff_ne.2 hkf;cases Jj:tx.f2 with
  | true =>
   have HG:ah (oq l0 kk first=[32]):=⟨by unfold oq;rw [if_neg hkf,DR.out,if_pos Jj]⟩;rw [Jj] at a2;have hrd:=Fb.out;clear hkf a0 a1 a3 a4 a5 Uy Jj;go_upto_region 17 with (go_at_call 106;with_reducible refine (hrd.wb 32 (by omega)).mono ?_;rintro e w3 ⟨rfl,hr3⟩)
   clear a2;have b0:w3.cell? ⟨h1,0,none⟩=some (.int .i64 tx.f0):=(au hr3.bx 0).trans rfl;have b1:w3.cell? ⟨h1,1,none⟩=some (.string tx.f1):=(au hr3.bx 1).trans rfl;have b2:w3.cell? ⟨h1,2,none⟩=some (.bool tx.f2):=(au hr3.bx 2).trans rfl;have b3:w3.cell? ⟨h1,3,none⟩=some (.int .i64 tx.f3):=(au hr3.bx 3).trans rfl;have b4:w3.cell? ⟨h1,4,none⟩=some (.int .i64 tx.f4):=(au hr3.bx 4).trans rfl;have b5:w3.cell? ⟨h1,5,none⟩=some (.int .i64 tx.f5):=(au hr3.bx 5).trans rfl;have vX:=Lib.hid (eD.calls tx.f0 tx.f1 tx.f2 tx.f3 tx.f4 tx.f5 _ w3 (Tq.out _ hr3.bl) (Gb tx (by omega)));go_wp2_with (first | (go_at_call 113;with_reducible refine vX.out.mono ?_;rintro e v5 ⟨rfl,hv5⟩;have ME:=hr3.keep hv5) | (go_at_call 112;with_reducible refine (ME.ws (strOfNums (yc tx)) (by first | omega | (simp only [List.length_append,List.length_cons,List.length_nil];omega))).mono ?_;rintro e v6 ⟨⟨nn,rfl⟩,Ce⟩))
   go_roundg (n - (kk+1))
   case measure=>omega
   case rel=>exact ⟨kk+1,first,by omega,by omega,rfl,by go_num,by omega,⟨Ce.bl⟩,⟨by rw [CO.out,HG.out];have:=Ce.bd;rw [NK.out] at this;simpa using this⟩,⟨by rw [CO.out]⟩⟩
  | false =>
   rw [Jj] at a2;obtain ⟨j,rfl⟩:∃ j,kk=j+1:=⟨kk - 1,by omega⟩;obtain ⟨ad',e',y0,y1,y2,y3,y4,y5⟩:=bQ EG.out (j:Int) (by omega) (by omega);cases e'
   simp only [Int.toNat_natCast] at y0 y1 y2 y3 y4 y5;have hty:bU l0 j=aC l0 (j:Int):=rfl;generalize aC l0 (j:Int)=ty at *;have YG:=ah.mk hty;clear hty;have hj1:j+1<=10000:=by omega
   have hw2:IntKind.i64.wrap (((j+1:Nat):Int) - 1)=(j:Int):=by rw [uq _ (by omega) (by omega)];omega
   have hw3:IntKind.i64.wrap (j:Int)=(j:Int):=uq _ (by omega) (by omega);have hq0:(0:Int)<=(j:Int):=by omega
   have hq1:(j:Int) < (n:Int):=by omega
   have hsz2:nV [ty,tx]<=20000:=by
    have:=YF (l:=l0) (i:=j) (by rw [rY.out];exact hlt);rw [YG.out,show bU l0 (j+1)=tx from DR.out] at this;omega
   have HMG:=Lib.hid (fun (W:World) (g:Nat) (h:W.heap[g]?=some (.cells #[.int .i64 ty.f0,.string ty.f1,.bool ty.f2,.int .i64 ty.f3,.int .i64 ty.f4,.int .i64 ty.f5,.int .i64 tx.f0,.string tx.f1,.bool false,.int .i64 tx.f3,.int .i64 tx.f4,.int .i64 tx.f5] 53 (0,0))) (hW:dR W)=>zJ.calls (some ⟨g,0,none⟩) 2 [ty,tx] W hW (Uw h (by simp [Gf,tkC,Jj]) (by simp)) (Nat.le_refl _) (by simp) hsz2);have HB2:ah (dR (W1.alloc (.cells #[.int .i64 ty.f0,.string ty.f1,.bool ty.f2,.int .i64 ty.f3,.int .i64 ty.f4,.int .i64 ty.f5,.int .i64 tx.f0,.string tx.f1,.bool false,.int .i64 tx.f3,.int .i64 tx.f4,.int .i64 tx.f5] 53)).drew/\Below W1.heap.size W1 (W1.alloc (.cells #[.int .i64 ty.f0,.string ty.f1,.bool ty.f2,.int .i64 ty.f3,.int .i64 ty.f4,.int .i64 ty.f5,.int .i64 tx.f0,.string tx.f1,.bool false,.int .i64 tx.f3,.int .i64 tx.f4,.int .i64 tx.f5] 53)).drew):=⟨by
    have h1:Below W1.heap.size W1 (W1.alloc (.cells #[.int .i64 ty.f0,.string ty.f1,.bool ty.f2,.int .i64 ty.f3,.int .i64 ty.f4,.int .i64 ty.f5,.int .i64 tx.f0,.string tx.f1,.bool false,.int .i64 tx.f3,.int .i64 tx.f4,.int .i64 tx.f5] 53)).drew:=jl (av (Below.refl _ _) _);exact ⟨(Tq.out _ Fb.out.bl).of_below h1,h1⟩⟩
   have HN2:ah ((W1.alloc (.cells #[.int .i64 ty.f0,.string ty.f1,.bool ty.f2,.int .i64 ty.f3,.int .i64 ty.f4,.int .i64 ty.f5,.int .i64 tx.f0,.string tx.f1,.bool false,.int .i64 tx.f3,.int .i64 tx.f4,.int .i64 tx.f5] 53)).drew.heap[W1.heap.size]?=some (.cells #[.int .i64 ty.f0,.string ty.f1,.bool ty.f2,.int .i64 ty.f3,.int .i64 ty.f4,.int .i64 ty.f5,.int .i64 tx.f0,.string tx.f1,.bool false,.int .i64 tx.f3,.int .i64 tx.f4,.int .i64 tx.f5] 53 (0,0))):=⟨heap_alloc_new W1 _⟩;have Tt:=ah.mk Jj;obtain ⟨m2,hm2⟩:∃ m2,iq [ty,tx]=m2:=⟨_,rfl⟩;rw [hm2] at HMG;have HM2:=ah.mk hm2;have HKF:=ah.mk hkf;have afi:(⟨#[47,42,42,47]⟩:ByteArray).size=4:=rfl;have HCK:ah (∀ W,Below W1.heap.size W1 W->Kd.C jP W (some ad) n l0):=⟨fun W hb=>Kd.bS EG.out hb⟩;clear hm2 Jj hkf Uy;go_upto_region 14 with (fail)
   refine wp_region_still_tail 6 (by kernel_rfl) (by kernel_rfl) ?_;simp only [List.take_succ_cons,List.take_zero,List.drop_succ_cons,List.drop_zero];repeat still_step
   refine wpStill_nil ?_;cases m2 with
   | true =>
    have HG:ah (oq l0 (j+1) first=[47,42,42,47]):=⟨by
     unfold oq;rw [if_neg HKF.out,DR.out,Tt.out,if_neg Bool.false_ne_true,if_pos];unfold xA;rw [Nat.add_sub_cancel,YG.out,DR.out,HM2.out];rfl⟩
    clear a0 a1 a2 a3 a4 a5 y0 y1 y2 y3 y4 y5;go_upto_region 17 with (first | (go_at_call 111;refine (HMG.out _ _ HN2.out HB2.out.1).mono ?_;rintro e w2 ⟨rfl,hb2⟩;have hr2:=Fb.out.keep (HB2.out.2.trans (hb2.mono HB2.out.2.size))) | (go_at_call 112;with_reducible refine (hr2.ws ⟨#[47,42,42,47]⟩ (by rw [afi];omega)).mono ?_;rintro e w3 ⟨⟨nn2,rfl⟩,hr3⟩))
    replace hr3:Rd H h1 w tx (out++[47,42,42,47]) w3:=hr3;have b0:w3.cell? ⟨h1,0,none⟩=some (.int .i64 tx.f0):=(au hr3.bx 0).trans rfl;have b1:w3.cell? ⟨h1,1,none⟩=some (.string tx.f1):=(au hr3.bx 1).trans rfl;have b2:w3.cell? ⟨h1,2,none⟩=some (.bool tx.f2):=(au hr3.bx 2).trans rfl;have b3:w3.cell? ⟨h1,3,none⟩=some (.int .i64 tx.f3):=(au hr3.bx 3).trans rfl;have b4:w3.cell? ⟨h1,4,none⟩=some (.int .i64 tx.f4):=(au hr3.bx 4).trans rfl;have b5:w3.cell? ⟨h1,5,none⟩=some (.int .i64 tx.f5):=(au hr3.bx 5).trans rfl;have vX:=Lib.hid (eD.calls tx.f0 tx.f1 tx.f2 tx.f3 tx.f4 tx.f5 _ w3 (Tq.out _ hr3.bl) (Gb tx (by omega)));go_wp2_with (first | (go_at_call 113;with_reducible refine vX.out.mono ?_;rintro e v5 ⟨rfl,hv5⟩;have ME:=hr3.keep hv5) | (go_at_call 112;with_reducible refine (ME.ws (strOfNums (yc tx)) (by first | omega | (simp only [List.length_append,List.length_cons,List.length_nil];omega))).mono ?_;rintro e v6 ⟨⟨nn,rfl⟩,Ce⟩))
    go_roundg (n - (j+1+1))
    case measure=>omega
    case rel=>exact ⟨j+1+1,first,by omega,by omega,rfl,by go_num,by omega,⟨Ce.bl⟩,⟨by rw [CO.out,HG.out];have:=Ce.bd;rw [NK.out] at this;simpa using this⟩,⟨by rw [CO.out]⟩⟩
   | false =>
    clear y0 y1 y2 y3 y4 y5;go_upto_region 15 with (go_at_call 111;refine (HMG.out _ _ HN2.out HB2.out.1).mono ?_;rintro e w2 ⟨rfl,hb2⟩;have hr2:=Fb.out.keep (HB2.out.2.trans (hb2.mono HB2.out.2.size));have hk2:=HCK.out _ (HB2.out.2.trans (hb2.mono HB2.out.2.size)))
    clear a0 a1 a2 a3 a4 a5;by_cases hi:first+2<=j+1
    rotate_left
    ·obtain ⟨qz,hqz⟩:∃ qz:Int,(j:Int)+1 - 2=qz:=⟨_,rfl⟩
     have hw5:IntKind.i64.wrap ((j:Int)+1 - 2)=qz:=by rw [uq _ (by omega) (by omega)];omega
     have hge:decide ((first:Int)<=qz)=false:=decide_eq_false (by omega);clear hqz;have HI:=ah.mk hi;have HG:ah (oq l0 (j+1) first=[]):=⟨by
      unfold oq;rw [if_neg HKF.out,DR.out,Tt.out,if_neg Bool.false_ne_true];have e:xA l0 (j+1) first=false:=by
       unfold xA;rw [show j+1 - 1=j by omega,YG.out,DR.out,HM2.out,decide_eq_false HI.out];rfl
      rw [e];rfl⟩
     clear hi hk2;go_quiet (fail)
     go_upto_region 17 with (fail)
     have b0:(w2.drewN nq).cell? ⟨h1,0,none⟩=some (.int .i64 tx.f0):=(au (hr2.keep (ak (Below.refl _ _) nq)).bx 0).trans rfl;have b1:(w2.drewN nq).cell? ⟨h1,1,none⟩=some (.string tx.f1):=(au (hr2.keep (ak (Below.refl _ _) nq)).bx 1).trans rfl;have b2:(w2.drewN nq).cell? ⟨h1,2,none⟩=some (.bool tx.f2):=(au (hr2.keep (ak (Below.refl _ _) nq)).bx 2).trans rfl;have b3:(w2.drewN nq).cell? ⟨h1,3,none⟩=some (.int .i64 tx.f3):=(au (hr2.keep (ak (Below.refl _ _) nq)).bx 3).trans rfl;have b4:(w2.drewN nq).cell? ⟨h1,4,none⟩=some (.int .i64 tx.f4):=(au (hr2.keep (ak (Below.refl _ _) nq)).bx 4).trans rfl;have b5:(w2.drewN nq).cell? ⟨h1,5,none⟩=some (.int .i64 tx.f5):=(au (hr2.keep (ak (Below.refl _ _) nq)).bx 5).trans rfl;have vX:=Lib.hid (eD.calls tx.f0 tx.f1 tx.f2 tx.f3 tx.f4 tx.f5 _ (w2.drewN nq) (Tq.out _ (hr2.keep (ak (Below.refl _ _) nq)).bl) (Gb tx (by omega)));go_wp2_with (first | (go_at_call 113;with_reducible refine vX.out.mono ?_;rintro e v5 ⟨rfl,hv5⟩;have ME:=(hr2.keep (ak (Below.refl _ _) nq)).keep hv5) | (go_at_call 112;with_reducible refine (ME.ws (strOfNums (yc tx)) (by first | omega | (simp only [List.length_append,List.length_cons,List.length_nil];omega))).mono ?_;rintro e v6 ⟨⟨nn,rfl⟩,Ce⟩))
     go_roundg (n - (j+1+1))
     case measure=>omega
     case rel=>exact ⟨j+1+1,first,by omega,by omega,rfl,by go_num,by omega,⟨Ce.bl⟩,⟨by rw [CO.out,HG.out];have:=Ce.bd;rw [NK.out] at this;simpa using this⟩,⟨by rw [CO.out]⟩⟩
    obtain ⟨i2,rfl⟩:∃ i2,j=i2+1:=⟨j - 1,by omega⟩;obtain ⟨ad1,e1',z0,z1,z2,z3,z4,z5⟩:=bQ hk2 ((i2+1:Nat):Int) (by omega) (by omega);cases e1'
    rw [show aC l0 ((i2+1:Nat):Int)=ty from YG.out] at z0 z1 z2 z3 z4 z5;simp only [Int.toNat_natCast] at z0 z1 z2 z3 z4 z5;obtain ⟨ad1,e1',v0,v1,v2,v3,v4,v5⟩:=bQ hk2 (i2:Int) (by omega) (by omega);cases e1'
    simp only [Int.toNat_natCast] at v0 v1 v2 v3 v4 v5;have htz:bU l0 i2=aC l0 (i2:Int):=rfl;generalize aC l0 (i2:Int)=tz at *;have HTZ:=ah.mk htz;have hw5:IntKind.i64.wrap ((i2:Int)+1+1 - 2)=(i2:Int):=by rw [uq _ (by omega) (by omega)];omega
    have hw6:IntKind.i64.wrap ((i2:Int)+1)=(i2:Int)+1:=uq _ (by omega) (by omega);have hw7:IntKind.i64.wrap (i2:Int)=(i2:Int):=uq _ (by omega) (by omega);have hge:decide ((first:Int)<=(i2:Int))=true:=decide_eq_true (by omega);have alM:decide (first<=i2)=true:=decide_eq_true (by omega);have hp0:(0:Int)<=(i2:Int):=by omega
    have hp1:(i2:Int) < (n:Int):=by omega
    have hp2:(0:Int)<=(i2:Int)+1:=by omega
    have hp3:(i2:Int)+1 < (n:Int):=by omega
    have hp4:((i2:Int)+1).toNat=i2+1:=by omega
    have HI:=ah.mk hi;have CG:=ah.mk hk2;clear htz hi hk2 hw3;have c0':w2.cell? ⟨h1,0,none⟩=some (.int .i64 tx.f0):=(au hr2.bx 0).trans rfl;have c1:w2.cell? ⟨h1,1,none⟩=some (.string tx.f1):=(au hr2.bx 1).trans rfl;have c2:w2.cell? ⟨h1,2,none⟩=some (.bool tx.f2):=(au hr2.bx 2).trans rfl;have c3:w2.cell? ⟨h1,3,none⟩=some (.int .i64 tx.f3):=(au hr2.bx 3).trans rfl;have c4:w2.cell? ⟨h1,4,none⟩=some (.int .i64 tx.f4):=(au hr2.bx 4).trans rfl;have c5:w2.cell? ⟨h1,5,none⟩=some (.int .i64 tx.f5):=(au hr2.bx 5).trans rfl;have YH:nV [tz,ty,tx]<=20000:=by
     have:=Qu (l:=l0) (i:=i2) (by rw [rY.out];omega);rw [HTZ.out,YG.out,show bU l0 (i2+2)=tx from DR.out] at this;omega
    obtain ⟨g2,hg2⟩:∃ g2,ty.f2=g2:=⟨_,rfl⟩;rw [hg2] at z2;have HG2:=ah.mk hg2;cases g2 with
    | true =>
     have HG:ah (oq l0 (i2+1+1) first=[]):=⟨by
      unfold oq;rw [if_neg HKF.out,DR.out,Tt.out,if_neg Bool.false_ne_true];have e:xA l0 (i2+1+1) first=false:=by
       unfold xA;rw [show i2+1+1 - 1=i2+1 by omega,YG.out,DR.out,HM2.out,HG2.out];simp
      rw [e];rfl⟩
     clear hg2 YH;go_quiet (fail)
     go_upto_region 17 with (fail)
     have b0:(w2.drewN nq).cell? ⟨h1,0,none⟩=some (.int .i64 tx.f0):=(au (hr2.keep (ak (Below.refl _ _) nq)).bx 0).trans rfl;have b1:(w2.drewN nq).cell? ⟨h1,1,none⟩=some (.string tx.f1):=(au (hr2.keep (ak (Below.refl _ _) nq)).bx 1).trans rfl;have b2:(w2.drewN nq).cell? ⟨h1,2,none⟩=some (.bool tx.f2):=(au (hr2.keep (ak (Below.refl _ _) nq)).bx 2).trans rfl;have b3:(w2.drewN nq).cell? ⟨h1,3,none⟩=some (.int .i64 tx.f3):=(au (hr2.keep (ak (Below.refl _ _) nq)).bx 3).trans rfl;have b4:(w2.drewN nq).cell? ⟨h1,4,none⟩=some (.int .i64 tx.f4):=(au (hr2.keep (ak (Below.refl _ _) nq)).bx 4).trans rfl;have b5:(w2.drewN nq).cell? ⟨h1,5,none⟩=some (.int .i64 tx.f5):=(au (hr2.keep (ak (Below.refl _ _) nq)).bx 5).trans rfl;have vX:=Lib.hid (eD.calls tx.f0 tx.f1 tx.f2 tx.f3 tx.f4 tx.f5 _ (w2.drewN nq) (Tq.out _ (hr2.keep (ak (Below.refl _ _) nq)).bl) (Gb tx (by omega)));go_wp2_with (first | (go_at_call 113;with_reducible refine vX.out.mono ?_;rintro e v5 ⟨rfl,hv5⟩;have ME:=(hr2.keep (ak (Below.refl _ _) nq)).keep hv5) | (go_at_call 112;with_reducible refine (ME.ws (strOfNums (yc tx)) (by first | omega | (simp only [List.length_append,List.length_cons,List.length_nil];omega))).mono ?_;rintro e v6 ⟨⟨nn,rfl⟩,Ce⟩))
     go_roundg (n - (i2+1+1+1))
     case measure=>omega
     case rel=>exact ⟨i2+1+1+1,first,by omega,by omega,rfl,by go_num,by omega,⟨Ce.bl⟩,⟨by rw [CO.out,HG.out];have:=Ce.bd;rw [NK.out] at this;simpa using this⟩,⟨by rw [CO.out]⟩⟩
    | false =>
     by_cases hz1':tz.f0=1
     ·have q1:(tz.f0==1)=true:=beq_iff_eq.2 hz1'
      have acr:=Lib.hid (fun (W:World) (g:Nat) (h:W.heap[g]?=some (.cells #[.int .i64 tz.f0,.string tz.f1,.bool tz.f2,.int .i64 tz.f3,.int .i64 tz.f4,.int .i64 tz.f5,.int .i64 ty.f0,.string ty.f1,.bool false,.int .i64 ty.f3,.int .i64 ty.f4,.int .i64 ty.f5,.int .i64 tx.f0,.string tx.f1,.bool tx.f2,.int .i64 tx.f3,.int .i64 tx.f4,.int .i64 tx.f5] 53 (0,0))) (hW:dR W)=>zJ.calls (some ⟨g,0,none⟩) 3 [tz,ty,tx] W hW (Uw h (by simp [Gf,tkC,hg2]) (by simp)) (Nat.le_refl _) (by simp) YH);have HB3:ah (dR (w2.alloc (.cells #[.int .i64 tz.f0,.string tz.f1,.bool tz.f2,.int .i64 tz.f3,.int .i64 tz.f4,.int .i64 tz.f5,.int .i64 ty.f0,.string ty.f1,.bool false,.int .i64 ty.f3,.int .i64 ty.f4,.int .i64 ty.f5,.int .i64 tx.f0,.string tx.f1,.bool tx.f2,.int .i64 tx.f3,.int .i64 tx.f4,.int .i64 tx.f5] 53)).drew/\Below w2.heap.size w2 (w2.alloc (.cells #[.int .i64 tz.f0,.string tz.f1,.bool tz.f2,.int .i64 tz.f3,.int .i64 tz.f4,.int .i64 tz.f5,.int .i64 ty.f0,.string ty.f1,.bool false,.int .i64 ty.f3,.int .i64 ty.f4,.int .i64 ty.f5,.int .i64 tx.f0,.string tx.f1,.bool tx.f2,.int .i64 tx.f3,.int .i64 tx.f4,.int .i64 tx.f5] 53)).drew):=⟨by
       have h1:Below w2.heap.size w2 (w2.alloc (.cells #[.int .i64 tz.f0,.string tz.f1,.bool tz.f2,.int .i64 tz.f3,.int .i64 tz.f4,.int .i64 tz.f5,.int .i64 ty.f0,.string ty.f1,.bool false,.int .i64 ty.f3,.int .i64 ty.f4,.int .i64 ty.f5,.int .i64 tx.f0,.string tx.f1,.bool tx.f2,.int .i64 tx.f3,.int .i64 tx.f4,.int .i64 tx.f5] 53)).drew:=jl (av (Below.refl _ _) _);exact ⟨(Tq.out _ hr2.bl).of_below h1,h1⟩⟩
      have HN3:ah ((w2.alloc (.cells #[.int .i64 tz.f0,.string tz.f1,.bool tz.f2,.int .i64 tz.f3,.int .i64 tz.f4,.int .i64 tz.f5,.int .i64 ty.f0,.string ty.f1,.bool false,.int .i64 ty.f3,.int .i64 ty.f4,.int .i64 ty.f5,.int .i64 tx.f0,.string tx.f1,.bool tx.f2,.int .i64 tx.f3,.int .i64 tx.f4,.int .i64 tx.f5] 53)).drew.heap[w2.heap.size]?=some (.cells #[.int .i64 tz.f0,.string tz.f1,.bool tz.f2,.int .i64 tz.f3,.int .i64 tz.f4,.int .i64 tz.f5,.int .i64 ty.f0,.string ty.f1,.bool false,.int .i64 ty.f3,.int .i64 ty.f4,.int .i64 ty.f5,.int .i64 tx.f0,.string tx.f1,.bool tx.f2,.int .i64 tx.f3,.int .i64 tx.f4,.int .i64 tx.f5] 53 (0,0))):=⟨heap_alloc_new w2 _⟩;obtain ⟨m3,hm3⟩:∃ m3,iq [tz,ty,tx]=m3:=⟨_,rfl⟩;rw [hm3] at acr;have HM3:=ah.mk hm3;have HZ1:=ah.mk hz1';clear hm3 hg2 hz1' YH;refine wp_region_still_tail 34 (by kernel_rfl) (by kernel_rfl) ?_;simp only [List.take_succ_cons,List.take_zero,List.drop_succ_cons,List.drop_zero];repeat still_step
      refine wpStill_nil ?_;cases m3 with
      | true =>
       have HG:ah (oq l0 (i2+1+1) first=[47,42,42,47]):=⟨by
        unfold oq;rw [if_neg HKF.out,DR.out,Tt.out,if_neg Bool.false_ne_true];have e:xA l0 (i2+1+1) first=true:=by
         unfold xA;rw [show i2+1+1 - 1=i2+1 by omega,show i2+1+1 - 2=i2 by omega,YG.out,DR.out,HTZ.out,HM2.out,HG2.out,HM3.out,HZ1.out,decide_eq_true HI.out];rfl
        rw [e];rfl⟩
       clear z0 z1 z2 z3 z4 z5 v0 v1 v2 v3 v4 v5 c0' c1 c2 c3 c4 c5;go_upto_region 17 with (first | (go_at_call 111;refine (acr.out _ _ HN3.out HB3.out.1).mono ?_;rintro e w4 ⟨rfl,hb4⟩;have hr4:=hr2.keep (HB3.out.2.trans (hb4.mono HB3.out.2.size))) | (go_at_call 112;with_reducible refine (hr4.ws ⟨#[47,42,42,47]⟩ (by rw [afi];omega)).mono ?_;rintro e w3 ⟨⟨nn2,rfl⟩,hr3⟩))
       replace hr3:Rd H h1 w tx (out++[47,42,42,47]) w3:=hr3;have b0:w3.cell? ⟨h1,0,none⟩=some (.int .i64 tx.f0):=(au hr3.bx 0).trans rfl;have b1:w3.cell? ⟨h1,1,none⟩=some (.string tx.f1):=(au hr3.bx 1).trans rfl;have b2:w3.cell? ⟨h1,2,none⟩=some (.bool tx.f2):=(au hr3.bx 2).trans rfl;have b3:w3.cell? ⟨h1,3,none⟩=some (.int .i64 tx.f3):=(au hr3.bx 3).trans rfl;have b4:w3.cell? ⟨h1,4,none⟩=some (.int .i64 tx.f4):=(au hr3.bx 4).trans rfl;have b5:w3.cell? ⟨h1,5,none⟩=some (.int .i64 tx.f5):=(au hr3.bx 5).trans rfl;have vX:=Lib.hid (eD.calls tx.f0 tx.f1 tx.f2 tx.f3 tx.f4 tx.f5 _ w3 (Tq.out _ hr3.bl) (Gb tx (by omega)));go_wp2_with (first | (go_at_call 113;with_reducible refine vX.out.mono ?_;rintro e v5 ⟨rfl,hv5⟩;have ME:=hr3.keep hv5) | (go_at_call 112;with_reducible refine (ME.ws (strOfNums (yc tx)) (by first | omega | (simp only [List.length_append,List.length_cons,List.length_nil];omega))).mono ?_;rintro e v6 ⟨⟨nn,rfl⟩,Ce⟩))
       go_roundg (n - (i2+1+1+1))
       case measure=>omega
       case rel=>exact ⟨i2+1+1+1,first,by omega,by omega,rfl,by go_num,by omega,⟨Ce.bl⟩,⟨by rw [CO.out,HG.out];have:=Ce.bd;rw [NK.out] at this;simpa using this⟩,⟨by rw [CO.out]⟩⟩
      | false =>
       have HG:ah (oq l0 (i2+1+1) first=[]):=⟨by
        unfold oq;rw [if_neg HKF.out,DR.out,Tt.out,if_neg Bool.false_ne_true];have e:xA l0 (i2+1+1) first=false:=by
         unfold xA;rw [show i2+1+1 - 1=i2+1 by omega,show i2+1+1 - 2=i2 by omega,YG.out,DR.out,HTZ.out,HM2.out,HG2.out,HM3.out];simp
        rw [e];rfl⟩
       clear z0 z1 z2 z3 z4 z5 v0 v1 v2 v3 v4 v5 c0' c1 c2 c3 c4 c5;go_upto_region 17 with (go_at_call 111;refine (acr.out _ _ HN3.out HB3.out.1).mono ?_;rintro e w4 ⟨rfl,hb4⟩;have hr4:=hr2.keep (HB3.out.2.trans (hb4.mono HB3.out.2.size)))
       have b0:w4.cell? ⟨h1,0,none⟩=some (.int .i64 tx.f0):=(au hr4.bx 0).trans rfl;have b1:w4.cell? ⟨h1,1,none⟩=some (.string tx.f1):=(au hr4.bx 1).trans rfl;have b2:w4.cell? ⟨h1,2,none⟩=some (.bool tx.f2):=(au hr4.bx 2).trans rfl;have b3:w4.cell? ⟨h1,3,none⟩=some (.int .i64 tx.f3):=(au hr4.bx 3).trans rfl;have b4:w4.cell? ⟨h1,4,none⟩=some (.int .i64 tx.f4):=(au hr4.bx 4).trans rfl;have b5:w4.cell? ⟨h1,5,none⟩=some (.int .i64 tx.f5):=(au hr4.bx 5).trans rfl;have vX:=Lib.hid (eD.calls tx.f0 tx.f1 tx.f2 tx.f3 tx.f4 tx.f5 _ w4 (Tq.out _ hr4.bl) (Gb tx (by omega)));go_wp2_with (first | (go_at_call 113;with_reducible refine vX.out.mono ?_;rintro e v5 ⟨rfl,hv5⟩;have ME:=hr4.keep hv5) | (go_at_call 112;with_reducible refine (ME.ws (strOfNums (yc tx)) (by first | omega | (simp only [List.length_append,List.length_cons,List.length_nil];omega))).mono ?_;rintro e v6 ⟨⟨nn,rfl⟩,Ce⟩))
       go_roundg (n - (i2+1+1+1))
       case measure=>omega
       case rel=>exact ⟨i2+1+1+1,first,by omega,by omega,rfl,by go_num,by omega,⟨Ce.bl⟩,⟨by rw [CO.out,HG.out];have:=Ce.bd;rw [NK.out] at this;simpa using this⟩,⟨by rw [CO.out]⟩⟩
     ·have q1:(tz.f0==1)=false:=beq_eq_false_iff_ne.2 hz1'
      have HZ1:=ah.mk hz1';have HG:ah (oq l0 (i2+1+1) first=[]):=⟨by
       unfold oq;rw [if_neg HKF.out,DR.out,Tt.out,if_neg Bool.false_ne_true];have e:xA l0 (i2+1+1) first=false:=by
        unfold xA;rw [show i2+1+1 - 1=i2+1 by omega,show i2+1+1 - 2=i2 by omega,YG.out,DR.out,HTZ.out,HM2.out,HG2.out,decide_eq_false HZ1.out];simp
       rw [e];rfl⟩
      clear hg2 YH hz1';go_quiet (fail)
      go_upto_region 17 with (fail)
      have b0:(w2.drewN nq).cell? ⟨h1,0,none⟩=some (.int .i64 tx.f0):=(au (hr2.keep (ak (Below.refl _ _) nq)).bx 0).trans rfl;have b1:(w2.drewN nq).cell? ⟨h1,1,none⟩=some (.string tx.f1):=(au (hr2.keep (ak (Below.refl _ _) nq)).bx 1).trans rfl;have b2:(w2.drewN nq).cell? ⟨h1,2,none⟩=some (.bool tx.f2):=(au (hr2.keep (ak (Below.refl _ _) nq)).bx 2).trans rfl;have b3:(w2.drewN nq).cell? ⟨h1,3,none⟩=some (.int .i64 tx.f3):=(au (hr2.keep (ak (Below.refl _ _) nq)).bx 3).trans rfl;have b4:(w2.drewN nq).cell? ⟨h1,4,none⟩=some (.int .i64 tx.f4):=(au (hr2.keep (ak (Below.refl _ _) nq)).bx 4).trans rfl;have b5:(w2.drewN nq).cell? ⟨h1,5,none⟩=some (.int .i64 tx.f5):=(au (hr2.keep (ak (Below.refl _ _) nq)).bx 5).trans rfl;have vX:=Lib.hid (eD.calls tx.f0 tx.f1 tx.f2 tx.f3 tx.f4 tx.f5 _ (w2.drewN nq) (Tq.out _ (hr2.keep (ak (Below.refl _ _) nq)).bl) (Gb tx (by omega)));go_wp2_with (first | (go_at_call 113;with_reducible refine vX.out.mono ?_;rintro e v5 ⟨rfl,hv5⟩;have ME:=(hr2.keep (ak (Below.refl _ _) nq)).keep hv5) | (go_at_call 112;with_reducible refine (ME.ws (strOfNums (yc tx)) (by first | omega | (simp only [List.length_append,List.length_cons,List.length_nil];omega))).mono ?_;rintro e v6 ⟨⟨nn,rfl⟩,Ce⟩))
      go_roundg (n - (i2+1+1+1))
      case measure=>omega
      case rel=>exact ⟨i2+1+1+1,first,by omega,by omega,rfl,by go_num,by omega,⟨Ce.bl⟩,⟨by rw [CO.out,HG.out];have:=Ce.bd;rw [NK.out] at this;simpa using this⟩,⟨by rw [CO.out]⟩⟩
def jv.f (l0:List dh):Option (ByteArray × Int) :=
 if l0.length<=10000/\nV l0<=20000 then
  (if (S.scan (kU l0)).err.isSome=true\/sG jK ((S.tokens (kU l0)).map toS) l0=false then some (⟨#[]⟩,2)
  else if 20000 < (kU l0).length then some (⟨#[]⟩,3) else some (strOfNums (kU l0),0))
 else none
end Go.Proofs.YtkkpjonfaflkmaaGreatDoor.T
