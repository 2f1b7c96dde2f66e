/- A part of the proof of ScanWrites. -/
import Derived.Test.YtkkpjonfaflkmaaGreatDoorCScanWrites11
import Derived.StillTailTactics
set_option linter.all false
namespace Go.Proofs.YtkkpjonfaflkmaaGreatDoor.T
open Go.RowKit Go.Maps Go.Proofs.aj.aI Go.Proofs.aj.aY Go.Proofs.aj.bq
attribute [local go_sem] Oper.semAt_some
def uK (first:Nat) (gap:Bool) (L:List S.Tk) (k:Nat) (t:List Int) (line i e:Nat):S.Tk:=⟨k,t,gap&&decide (first < L.length),line,i,e⟩
def Dc (first:Nat) (L:List S.Tk) (k:Nat) (t:List Int):Bool:=decide (k=3)&&decide (t=[58])&&decide (L.length=first+1)&&decide ((L.map (·.kind)).getD first 0=1)
def BH (first:Nat) (gap:Bool) (L:List S.Tk) (k:Nat) (t:List Int) (line i e:Nat):List S.Tk :=
 if k=3/\t=[59] then Kw L first i e line
 else if Dc first L k t=true then Kw (L++[uK first gap L k t line i e]) first e e line else L++[uK first gap L k t line i e]
def FM (first:Nat) (gap:Bool) (L:List S.Tk) (k:Nat) (t:List Int) (line i e:Nat):Nat :=
 if (k=3/\t=[59])\/Dc first L k t=true then (BH first gap L k t line i e).length else first
set_option maxRecDepth 100000 in
set_option maxHeartbeats 4000000 in
theorem put.calls (H base:Nat) (src:ByteArray) (i line:Nat) (v:Value) (first:Nat) (gap:Bool) (L:List S.Tk) (k:Nat) (t:List Int) (e:Nat) (xc xl:Int) (w:World) (hR:nA H src i line v first gap w) (hO:w.ownsRow base 53 6 v L.length (dG L)) (hHb:H < base) (hl:L.length<=200000) (hf:first<=L.length) (hbase:base<=w.heap.size) (hby:∀ t∈L,Bytes t) (ht:∀ x∈t,0<=x/\x < 256) :
  Calls Tryz.prog 86 #[.pointer (some ⟨H,0,none⟩),.agg #[.int .i64 k,.string (strOfNums t),.int .i64 e,.int .i64 xc,.int .i64 xl]] w fun en w'=>en=.returned (.tuple #[])/\∃ v',nA H src i line v' (FM first gap L k t line i e) false w'/\w'.ownsRow base 53 6 v' (BH first gap L k t line i e).length (dG (BH first gap L k t line i e))/\But (fun k=>k=H\/v.ownBlock=some k) w w'/\(v'.ownBlock=v.ownBlock\/∃ k,v'.ownBlock=some k/\w.heap.size<=k):=by
 have htx:=str_eq (strOfNums t) [59];have FP:=str_eq (strOfNums t) [58];rw [bW _ ht] at htx FP;replace htx:((strOfNums t).toList==([59]:List UInt8))=decide (t=[59]):=htx;replace FP:((strOfNums t).toList==([58]:List UInt8))=decide (t=[58]):=FP;by_cases yF:k=3/\t=[59]
 ·have b1:((k:Int)==3)=true:=beq_iff_eq.2 (by omega)
  rw [decide_eq_true yF.2] at htx;have hpl:BH first gap L k t line i e=Kw L first i e line:=if_pos yF
  have hpf:FM first gap L k t line i e=(Kw L first i e line).length:=by unfold FM;rw [if_pos (.inl yF),hpl]
  rw [hpl,hpf];have HC:=Lib.hid (fun W (hb:But (fun _=>False) w W)=>closed.calls H base src i line v first gap L i e line W (hR.but hb (fun e=>e)) (bV hO hb (fun k e=>e.elim)) hHb (by omega) hf);have hcl:∃ L',Kw L first i e line=L':=⟨_,rfl⟩
  obtain ⟨L',hL'⟩:=hcl;rw [hL'] at HC |-
  have HR:=ah.mk hR;have HO:=ah.mk hO;generalize strOfNums t=tx at *;clear hpl hpf yF FP ht hR hO hL';go_enter Tryz.func86,Tryz.ntmps86
  go_upto_region 1 with (fail)
  have hn1:=heap_alloc_new w (.cells #[.int .i64 k,.string tx,.int .i64 e,.int .i64 xc,.int .i64 xl] 82);have hb1:But (fun _=>False) w (w.alloc (.cells #[.int .i64 k,.string tx,.int .i64 e,.int .i64 xc,.int .i64 xl] 82)):=(But.refl _ w).alloc _;obtain ⟨X,hX⟩:∃ X,w.heap.size=X:=⟨_,rfl⟩;rw [hX] at hn1 |-
  generalize w.alloc (.cells #[.int .i64 k,.string tx,.int .i64 e,.int .i64 xc,.int .i64 xl] 82)=W1 at *;have x0:W1.cell? ⟨X,0,none⟩=some (.int .i64 k):=(au hn1 0).trans rfl;have x1:W1.cell? ⟨X,1,none⟩=some (.string tx):=(au hn1 1).trans rfl;have x2:W1.cell? ⟨X,2,none⟩=some (.int .i64 e):=(au hn1 2).trans rfl;have FL:=HR.out.but hb1 (fun e=>e);have c1:=FL.c1;have c2:=FL.c2;have HB1:=ah.mk hb1;clear FL hb1 hn1;go_upto_region 2 with (fail)
  refine wp_region_still_tail 11 (by kernel_rfl) (by kernel_rfl) ?_;simp only [List.take_succ_cons,List.take_zero,List.drop_succ_cons,List.drop_zero];repeat still_step
  refine wpStill_nil ?_;go_wp2_with (go_at_call 82;refine (HC.out _ HB1.out.drew).mono ?_;rintro en w3 ⟨rfl,v',Qg,hO3,hb3,hv3⟩)
  refine bodyPost_ret (results_none rfl _ _ _) rfl ?_;exact ⟨rfl,v',Qg,hO3,HB1.out.drew.trans hb3 (fun _ _ e=>e.elim) (fun _ _ e=>e),hv3.imp id (fun ⟨k,e1,e2⟩=>⟨k,e1,Nat.le_trans HB1.out.size e2⟩)⟩
 have hpl:BH first gap L k t line i e=if Dc first L k t=true then Kw (L++[uK first gap L k t line i e]) first e e line else L++[uK first gap L k t line i e]:=if_neg yF
 have hpf:FM first gap L k t line i e=if Dc first L k t=true then (BH first gap L k t line i e).length else first:=by
  unfold FM;by_cases h:Dc first L k t=true
  ·rw [if_pos (.inr h),if_pos h]
  ·rw [if_neg (fun e=>e.elim yF h),if_neg h]
 obtain ⟨A,c,rfl,hA⟩:=jC hO;obtain ⟨n,hn⟩:∃ n,L.length=n:=⟨_,rfl⟩;have hlab:Dc first L k t=(decide (k=3)&&decide (t=[58])&&decide (n=first+1)&&decide ((L.map (·.kind)).getD first 0=1)):=by unfold Dc;rw [hn]
 have aag:uK first gap L k t line i e=⟨k,t,gap&&decide (first < n),line,i,e⟩:=by unfold uK;rw [hn]
 have HR:=ah.mk hR;have HO:=ah.mk hO;have HN:=ah.mk hn;have aiV:=ah.mk hlab;have HPT:=ah.mk aag;have HPL:=ah.mk hpl;have HPF:=ah.mk hpf;have Xz:=ah.mk hby;have Tq:=ah.mk ht;obtain ⟨gp,Jj⟩:∃ gp,(gap&&decide (first < n))=gp:=⟨_,rfl⟩;have Tt:=ah.mk Jj;rw [hn] at hl hf HO HR |-
 have NT:=yF;have als:=hR.lt;clear hpl hpf yF ht hR hO hn hlab aag hA hby Jj;obtain ⟨tx,abE⟩:∃ tx,strOfNums t=tx:=⟨_,rfl⟩;have DR:=ah.mk abE;rw [abE] at htx FP |-
 clear abE;go_enter Tryz.func86,Tryz.ntmps86
 go_upto_region 1 with (fail)
 have hn1:=heap_alloc_new w (.cells #[.int .i64 k,.string tx,.int .i64 e,.int .i64 xc,.int .i64 xl] 82);have hb1:But (fun _=>False) w (w.alloc (.cells #[.int .i64 k,.string tx,.int .i64 e,.int .i64 xc,.int .i64 xl] 82)):=(But.refl _ w).alloc _;obtain ⟨X,hX⟩:∃ X,w.heap.size=X:=⟨_,rfl⟩;have HX:=ah.mk hX;rw [hX] at hn1 |-
 have hs1:=World.size_alloc w (.cells #[.int .i64 k,.string tx,.int .i64 e,.int .i64 xc,.int .i64 xl] 82);generalize w.alloc (.cells #[.int .i64 k,.string tx,.int .i64 e,.int .i64 xc,.int .i64 xl] 82)=W1 at *;have x0:W1.cell? ⟨X,0,none⟩=some (.int .i64 k):=(au hn1 0).trans rfl;have x1:W1.cell? ⟨X,1,none⟩=some (.string tx):=(au hn1 1).trans rfl;have x2:W1.cell? ⟨X,2,none⟩=some (.int .i64 e):=(au hn1 2).trans rfl;have HX1:=ah.mk hn1;have FL:=HR.out.but hb1 (fun e=>e);have LP:=ah.mk (bV HO.out hb1 (fun k e=>e.elim));have c1:=FL.c1;have c2:=FL.c2;have c3:=FL.c3;have c4:=FL.c4;have c5:=FL.c5;have HR1:=ah.mk FL;have HB1:=ah.mk hb1;clear FL hb1 hn1;go_cut [3,12] from 2 (fun s3 s12 wc=>s3=.pointer (some ⟨X,0,none⟩)/\s12=.bool false/\W1=wc)
 case first =>
  by_cases hk:k=3
  ·have b1:((k:Int)==3)=true:=beq_iff_eq.2 (by omega)
   rw [decide_eq_false (fun e=>NT ⟨hk,e⟩)] at htx;clear NT hk;go_wp2;go_meet
   exact ⟨rfl,rfl,rfl⟩
  have b1:((k:Int)==3)=false:=beq_eq_false_iff_ne.2 (by omega);clear NT hk htx;go_wp2;go_meet
  exact ⟨rfl,rfl,rfl⟩
 case rest =>
  obtain ⟨rfl,rfl,rfl⟩:=hcut;clear htx NT;go_upto_region 4 with (fail)
  obtain ⟨i0,hi0,hz0',hz1,hz2⟩:=info_parts (show (Tryz.prog.info? 53).map (fun i=>(i.zero,i.size,i.bytes))=some (some (.agg DK),6,56) by kernel_rfl);have HB2:ah (But (fun _=>False) W1 (W1.drew.alloc (.cells #[.int .i64 k,.string tx,.bool gp,.int .i64 line,.int .i64 i,.int .i64 e] 53))):=⟨((But.refl _ W1).drew).alloc _⟩;have HO2:=ah.mk (bV LP.out HB2.out (fun k e=>e.elim));have HN2:=ah.mk (heap_alloc_new W1.drew (.cells #[.int .i64 k,.string tx,.bool gp,.int .i64 line,.int .i64 i,.int .i64 e] 53));have HS2:=ah.mk (World.size_alloc W1.drew (.cells #[.int .i64 k,.string tx,.bool gp,.int .i64 line,.int .i64 i,.int .i64 e] 53));have HXW:ah (X+1=W1.heap.size):=⟨by rw [hs1,HX.out]⟩;have HR2:=HR1.out.but HB2.out (fun e=>e);have XA:ah (∀ w2,(W1.drew.alloc (.cells #[.int .i64 k,.string tx,.bool gp,.int .i64 line,.int .i64 i,.int .i64 e] 53)).grownBy w2 (Value.slice A n c).ownBlock->nA H src i line (.slice A n c) first gap w2/\w2.heap[X]?=some (.cells #[.int .i64 k,.string tx,.int .i64 e,.int .i64 xc,.int .i64 xl] 82 (0,0))):=⟨fun w2 hg=>by
   have hb:=(But.refl (fun k=>(Value.slice A n c).ownBlock=some k) _).grown hg (fun k e=>e);have ho:=fun k e=>(HO.out.lt k e)
   refine ⟨HR2.but hb (fun e=>by have:=ho H e;omega),?_⟩;have hX2:=(HB2.out.block X (by rw [<- HXW.out];omega) (fun e=>e)).trans HX1.out;exact (hb.block X (Array.getElem?_eq_some_iff.1 hX2).1 (fun e=>by have:=ho X e;have:=HX.out;omega)).trans hX2⟩
  have aek:base<=(W1.drew.alloc (.cells #[.int .i64 k,.string tx,.bool gp,.int .i64 line,.int .i64 i,.int .i64 e] 53)).heap.size:=by
   rw [HS2.out];show base<=W1.heap.size+1;have:=HXW.out;have:=HX.out;omega
  have XB:=ah.mk aek;have HR3:=ah.mk HR2;have QK:ah ((W1.drew.alloc (.cells #[.int .i64 k,.string tx,.bool gp,.int .i64 line,.int .i64 i,.int .i64 e] 53)).heap[X]?=some (.cells #[.int .i64 k,.string tx,.int .i64 e,.int .i64 xc,.int .i64 xl] 82 (0,0))):=⟨(HB2.out.block X (by rw [<- HXW.out];omega) (fun e=>e)).trans HX1.out⟩;have bI:ah (∀ g cap w2,nA H src i line (.slice A n c) first gap w2->w2.heap[X]?=some (.cells #[.int .i64 k,.string tx,.int .i64 e,.int .i64 xc,.int .i64 xl] 82 (0,0))->w2.ownsRow base 53 6 (.slice (some ⟨g,0,none⟩) (n+1) cap) (n+1) (dG L++[.int .i64 k,.string tx,.bool gp,.int .i64 line,.int .i64 i,.int .i64 e])->(W1.drew.alloc (.cells #[.int .i64 k,.string tx,.bool gp,.int .i64 line,.int .i64 i,.int .i64 e] 53)).grownBy w2 (Value.slice A n c).ownBlock->((Value.slice A n c).ownBlock=some g\/g=(W1.drew.alloc (.cells #[.int .i64 k,.string tx,.bool gp,.int .i64 line,.int .i64 i,.int .i64 e] 53)).heap.size) ->
    (∃ v',ah (nA H src i line v' first gap (w2.setCell ⟨H,3,none⟩ (.slice (some ⟨g,0,none⟩) (n+1) cap)))/\ah ((w2.setCell ⟨H,3,none⟩ (.slice (some ⟨g,0,none⟩) (n+1) cap)).ownsRow base 53 6 v' (n+1) (dG (L++[uK first gap L k t line i e])))/\ah (But (fun k=>k=H\/(Value.slice A n c).ownBlock=some k) w (w2.setCell ⟨H,3,none⟩ (.slice (some ⟨g,0,none⟩) (n+1) cap)))/\ah (v'.ownBlock=(Value.slice A n c).ownBlock\/∃ k,v'.ownBlock=some k/\w.heap.size<=k)/\ah ((w2.setCell ⟨H,3,none⟩ (.slice (some ⟨g,0,none⟩) (n+1) cap)).heap[X]?=some (.cells #[.int .i64 k,.string tx,.int .i64 e,.int .i64 xc,.int .i64 xl] 82 (0,0))))):=⟨fun g cap w2 h1 h2 h3 h4 h5=>by
   have hXH:X≠H:=by have:=HX.out;have:=HR.out.lt;omega
   have htk:dG (L++[uK first gap L k t line i e])=dG L++[.int .i64 k,.string tx,.bool gp,.int .i64 line,.int .i64 i,.int .i64 e]:=by
    rw [HPT.out,Tt.out];simp [dG,Db,DR.out]
   have hbs:But (·=H) w2 (w2.setCell ⟨H,3,none⟩ (.slice (some ⟨g,0,none⟩) (n+1) cap)):=(But.refl _ _).set _ _ rfl;refine ⟨.slice (some ⟨g,0,none⟩) (n+1) cap,⟨h1.abD _⟩,⟨?_⟩,⟨?_⟩,⟨?_⟩,⟨?_⟩⟩
   ·rw [htk]
    exact bV h3 hbs (fun k e h=>by have:=(h3.lt k h).1;omega)
   ·exact (((HB1.out.trans' HB2.out).mono (fun k _ e=>e.elim)).grown h4 (fun k e=>.inr e)).set _ _ (.inl rfl)
   ·rcases h5 with e | e
    ·exact .inl e.symm
    ·exact .inr ⟨g,rfl,by rw [e,HS2.out];show w.heap.size<=W1.heap.size+1;have:=HXW.out;have:=HX.out;omega⟩
   ·exact (hbs.block X (Array.getElem?_eq_some_iff.1 h2).1 hXH).trans h2⟩
  clear hs1 aek HR2;go_cut [3,4] from 5 (fun s3 s4 wc=>s3=.pointer (some ⟨X,0,none⟩)/\s4=.int .i64 n/\∃ v',ah (nA H src i line v' first gap wc)/\ah (wc.ownsRow base 53 6 v' (n+1) (dG (L++[uK first gap L k t line i e])))/\ah (But (fun k=>k=H\/(Value.slice A n c).ownBlock=some k) w wc)/\ah (v'.ownBlock=(Value.slice A n c).ownBlock\/∃ k,v'.ownBlock=some k/\w.heap.size<=k)/\ah (wc.heap[X]?=some (.cells #[.int .i64 k,.string tx,.int .i64 e,.int .i64 xc,.int .i64 xl] 82 (0,0))))
  case first =>
   cases gap with
   | false =>
    obtain rfl:false=gp:=by have:=Tt.out;simpa using this
    refine sU (fun W=>W.cell? ⟨H,1,none⟩=some (.int .i64 i)/\W.cell? ⟨H,2,none⟩=some (.int .i64 line)/\W.cell? ⟨H,3,none⟩=some (.slice A n c)/\W.cell? ⟨H,4,none⟩=some (.int .i64 first)/\W.cell? ⟨H,5,none⟩=some (.bool false)/\W.cell? ⟨X,0,none⟩=some (.int .i64 k)/\W.cell? ⟨X,1,none⟩=some (.string tx)/\W.cell? ⟨X,2,none⟩=some (.int .i64 e)) 34 (by kernel_rfl) ?_;have hS0:(fun W=>W.cell? ⟨H,1,none⟩=some (.int .i64 i)/\W.cell? ⟨H,2,none⟩=some (.int .i64 line)/\W.cell? ⟨H,3,none⟩=some (.slice A n c)/\W.cell? ⟨H,4,none⟩=some (.int .i64 first)/\W.cell? ⟨H,5,none⟩=some (.bool false)/\W.cell? ⟨X,0,none⟩=some (.int .i64 k)/\W.cell? ⟨X,1,none⟩=some (.string tx)/\W.cell? ⟨X,2,none⟩=some (.int .i64 e)) W1.drew:=⟨c1,c2,c3,c4,c5,x0,x1,x2⟩;refine aT (i:=0) (v:=.pointer (some ⟨H,0,none⟩)) rfl (by kernel_rfl) (by kernel_rfl) (by kernel_rfl) (by kernel_rfl) (fun _ _ _ h=>h) hS0 (Or.inl ⟨by kernel_rfl,fun W hW=>by obtain ⟨s1,s2,s3,s4,s5,y0,y1,y2⟩:=hW;go_simp⟩) ?_;try simp only [Act.put,sArr,sZer,sSuc]
    refine aT (i:=1) (v:=.pointer (some ⟨H,0,none⟩)) rfl (by kernel_rfl) (by kernel_rfl) (by kernel_rfl) (by kernel_rfl) (fun _ _ _ h=>h) hS0 (Or.inl ⟨by kernel_rfl,fun W hW=>by obtain ⟨s1,s2,s3,s4,s5,y0,y1,y2⟩:=hW;go_simp⟩) ?_;try simp only [Act.put,sArr,sZer,sSuc]
    refine aT (i:=2) (v:=.pointer (some ⟨H,0,none⟩)) rfl (by kernel_rfl) (by kernel_rfl) (by kernel_rfl) (by kernel_rfl) (fun _ _ _ h=>h) hS0 (Or.inl ⟨by kernel_rfl,fun W hW=>by obtain ⟨s1,s2,s3,s4,s5,y0,y1,y2⟩:=hW;go_simp⟩) ?_;try simp only [Act.put,sArr,sZer,sSuc]
    refine aT (i:=3) (v:=.pointer (some ⟨H,3,none⟩)) rfl (by kernel_rfl) (by kernel_rfl) (by kernel_rfl) (by kernel_rfl) (fun _ _ _ h=>h) hS0 (Or.inl ⟨by kernel_rfl,fun W hW=>by obtain ⟨s1,s2,s3,s4,s5,y0,y1,y2⟩:=hW;go_simp⟩) ?_;try simp only [Act.put,sArr,sZer,sSuc]
    refine aT (i:=4) (v:=.slice A n c) rfl (by kernel_rfl) (by kernel_rfl) (by kernel_rfl) (by kernel_rfl) (fun _ _ _ h=>h) hS0 (Or.inl ⟨by kernel_rfl,fun W hW=>by obtain ⟨s1,s2,s3,s4,s5,y0,y1,y2⟩:=hW;go_simp⟩) ?_;try simp only [Act.put,sArr,sZer,sSuc]
    refine aT (i:=5) (v:=.pointer (some ⟨X,0,none⟩)) rfl (by kernel_rfl) (by kernel_rfl) (by kernel_rfl) (by kernel_rfl) (fun _ _ _ h=>h) hS0 (Or.inl ⟨by kernel_rfl,fun W hW=>by obtain ⟨s1,s2,s3,s4,s5,y0,y1,y2⟩:=hW;go_simp⟩) ?_;try simp only [Act.put,sArr,sZer,sSuc]
    refine aT (i:=6) (v:=.int .i64 k) rfl (by kernel_rfl) (by kernel_rfl) (by kernel_rfl) (by kernel_rfl) (fun _ _ _ h=>h) hS0 (Or.inl ⟨by kernel_rfl,fun W hW=>by obtain ⟨s1,s2,s3,s4,s5,y0,y1,y2⟩:=hW;go_simp⟩) ?_;try simp only [Act.put,sArr,sZer,sSuc]
    refine aT (i:=7) (v:=.pointer (some ⟨X,1,none⟩)) rfl (by kernel_rfl) (by kernel_rfl) (by kernel_rfl) (by kernel_rfl) (fun _ _ _ h=>h) hS0 (Or.inl ⟨by kernel_rfl,fun W hW=>by obtain ⟨s1,s2,s3,s4,s5,y0,y1,y2⟩:=hW;go_simp⟩) ?_;try simp only [Act.put,sArr,sZer,sSuc]
    refine aT (i:=8) (v:=.string tx) rfl (by kernel_rfl) (by kernel_rfl) (by kernel_rfl) (by kernel_rfl) (fun _ _ _ h=>h) hS0 (Or.inl ⟨by kernel_rfl,fun W hW=>by obtain ⟨s1,s2,s3,s4,s5,y0,y1,y2⟩:=hW;go_simp⟩) ?_;try simp only [Act.put,sArr,sZer,sSuc]
    refine aT (i:=9) (v:=.pointer (some ⟨H,0,none⟩)) rfl (by kernel_rfl) (by kernel_rfl) (by kernel_rfl) (by kernel_rfl) (fun _ _ _ h=>h) hS0 (Or.inl ⟨by kernel_rfl,fun W hW=>by obtain ⟨s1,s2,s3,s4,s5,y0,y1,y2⟩:=hW;go_simp⟩) ?_;try simp only [Act.put,sArr,sZer,sSuc]
    refine aT (i:=10) (v:=.pointer (some ⟨H,0,none⟩)) rfl (by kernel_rfl) (by kernel_rfl) (by kernel_rfl) (by kernel_rfl) (fun _ _ _ h=>h) hS0 (Or.inl ⟨by kernel_rfl,fun W hW=>by obtain ⟨s1,s2,s3,s4,s5,y0,y1,y2⟩:=hW;go_simp⟩) ?_;try simp only [Act.put,sArr,sZer,sSuc]
    refine aT (i:=11) (v:=.pointer (some ⟨H,5,none⟩)) rfl (by kernel_rfl) (by kernel_rfl) (by kernel_rfl) (by kernel_rfl) (fun _ _ _ h=>h) hS0 (Or.inl ⟨by kernel_rfl,fun W hW=>by obtain ⟨s1,s2,s3,s4,s5,y0,y1,y2⟩:=hW;go_simp⟩) ?_;try simp only [Act.put,sArr,sZer,sSuc]
    refine aT (i:=12) (v:=.bool false) rfl (by kernel_rfl) (by kernel_rfl) (by kernel_rfl) (by kernel_rfl) (fun _ _ _ h=>h) hS0 (Or.inl ⟨by kernel_rfl,fun W hW=>by obtain ⟨s1,s2,s3,s4,s5,y0,y1,y2⟩:=hW;go_simp⟩) ?_;try simp only [Act.put,sArr,sZer,sSuc]
    refine aT (i:=13) (v:=.bool false) rfl (by kernel_rfl) (by kernel_rfl) (by kernel_rfl) (by kernel_rfl) (fun _ _ _ h=>h) hS0 (Or.inl ⟨by kernel_rfl,fun W hW=>by obtain ⟨s1,s2,s3,s4,s5,y0,y1,y2⟩:=hW;go_simp⟩) ?_;try simp only [Act.put,sArr,sZer,sSuc]
    refine aT (i:=14) (v:=undef) rfl (by kernel_rfl) (by kernel_rfl) (by kernel_rfl) (by kernel_rfl) (fun _ _ _ h=>h) hS0 (Or.inr ⟨by kernel_rfl,rfl⟩) ?_;try simp only [Act.put,sArr,sZer,sSuc]
    refine aT (i:=15) (v:=undef) rfl (by kernel_rfl) (by kernel_rfl) (by kernel_rfl) (by kernel_rfl) (fun _ _ _ h=>h) hS0 (Or.inr ⟨by kernel_rfl,rfl⟩) ?_;try simp only [Act.put,sArr,sZer,sSuc]
    refine aT (i:=16) (v:=undef) rfl (by kernel_rfl) (by kernel_rfl) (by kernel_rfl) (by kernel_rfl) (fun _ _ _ h=>h) hS0 (Or.inr ⟨by kernel_rfl,rfl⟩) ?_;try simp only [Act.put,sArr,sZer,sSuc]
    refine aT (i:=17) (v:=undef) rfl (by kernel_rfl) (by kernel_rfl) (by kernel_rfl) (by kernel_rfl) (fun _ _ _ h=>h) hS0 (Or.inr ⟨by kernel_rfl,rfl⟩) ?_;try simp only [Act.put,sArr,sZer,sSuc]
    refine aT (i:=18) (v:=undef) rfl (by kernel_rfl) (by kernel_rfl) (by kernel_rfl) (by kernel_rfl) (fun _ _ _ h=>h) hS0 (Or.inr ⟨by kernel_rfl,rfl⟩) ?_;try simp only [Act.put,sArr,sZer,sSuc]
    refine aT (i:=19) (v:=undef) rfl (by kernel_rfl) (by kernel_rfl) (by kernel_rfl) (by kernel_rfl) (fun _ _ _ h=>h) hS0 (Or.inr ⟨by kernel_rfl,rfl⟩) ?_;try simp only [Act.put,sArr,sZer,sSuc]
    refine aT (i:=20) (v:=.bool false) rfl (by kernel_rfl) (by kernel_rfl) (by kernel_rfl) (by kernel_rfl) (fun _ _ _ h=>h) hS0 (Or.inl ⟨by kernel_rfl,fun W hW=>by obtain ⟨s1,s2,s3,s4,s5,y0,y1,y2⟩:=hW;go_simp⟩) ?_;try simp only [Act.put,sArr,sZer,sSuc]
    refine aT (i:=21) (v:=.pointer (some ⟨H,0,none⟩)) rfl (by kernel_rfl) (by kernel_rfl) (by kernel_rfl) (by kernel_rfl) (fun _ _ _ h=>h) hS0 (Or.inl ⟨by kernel_rfl,fun W hW=>by obtain ⟨s1,s2,s3,s4,s5,y0,y1,y2⟩:=hW;go_simp⟩) ?_;try simp only [Act.put,sArr,sZer,sSuc]
    refine aT (i:=22) (v:=.pointer (some ⟨H,0,none⟩)) rfl (by kernel_rfl) (by kernel_rfl) (by kernel_rfl) (by kernel_rfl) (fun _ _ _ h=>h) hS0 (Or.inl ⟨by kernel_rfl,fun W hW=>by obtain ⟨s1,s2,s3,s4,s5,y0,y1,y2⟩:=hW;go_simp⟩) ?_;try simp only [Act.put,sArr,sZer,sSuc]
    refine aT (i:=23) (v:=.pointer (some ⟨H,2,none⟩)) rfl (by kernel_rfl) (by kernel_rfl) (by kernel_rfl) (by kernel_rfl) (fun _ _ _ h=>h) hS0 (Or.inl ⟨by kernel_rfl,fun W hW=>by obtain ⟨s1,s2,s3,s4,s5,y0,y1,y2⟩:=hW;go_simp⟩) ?_;try simp only [Act.put,sArr,sZer,sSuc]
    refine aT (i:=24) (v:=.int .i64 line) rfl (by kernel_rfl) (by kernel_rfl) (by kernel_rfl) (by kernel_rfl) (fun _ _ _ h=>h) hS0 (Or.inl ⟨by kernel_rfl,fun W hW=>by obtain ⟨s1,s2,s3,s4,s5,y0,y1,y2⟩:=hW;go_simp⟩) ?_;try simp only [Act.put,sArr,sZer,sSuc]
    refine aT (i:=25) (v:=.pointer (some ⟨H,0,none⟩)) rfl (by kernel_rfl) (by kernel_rfl) (by kernel_rfl) (by kernel_rfl) (fun _ _ _ h=>h) hS0 (Or.inl ⟨by kernel_rfl,fun W hW=>by obtain ⟨s1,s2,s3,s4,s5,y0,y1,y2⟩:=hW;go_simp⟩) ?_;try simp only [Act.put,sArr,sZer,sSuc]
    refine aT (i:=26) (v:=.pointer (some ⟨H,0,none⟩)) rfl (by kernel_rfl) (by kernel_rfl) (by kernel_rfl) (by kernel_rfl) (fun _ _ _ h=>h) hS0 (Or.inl ⟨by kernel_rfl,fun W hW=>by obtain ⟨s1,s2,s3,s4,s5,y0,y1,y2⟩:=hW;go_simp⟩) ?_;try simp only [Act.put,sArr,sZer,sSuc]
    refine aT (i:=27) (v:=.pointer (some ⟨H,1,none⟩)) rfl (by kernel_rfl) (by kernel_rfl) (by kernel_rfl) (by kernel_rfl) (fun _ _ _ h=>h) hS0 (Or.inl ⟨by kernel_rfl,fun W hW=>by obtain ⟨s1,s2,s3,s4,s5,y0,y1,y2⟩:=hW;go_simp⟩) ?_;try simp only [Act.put,sArr,sZer,sSuc]
    refine aT (i:=28) (v:=.int .i64 i) rfl (by kernel_rfl) (by kernel_rfl) (by kernel_rfl) (by kernel_rfl) (fun _ _ _ h=>h) hS0 (Or.inl ⟨by kernel_rfl,fun W hW=>by obtain ⟨s1,s2,s3,s4,s5,y0,y1,y2⟩:=hW;go_simp⟩) ?_;try simp only [Act.put,sArr,sZer,sSuc]
    refine aT (i:=29) (v:=.pointer (some ⟨X,2,none⟩)) rfl (by kernel_rfl) (by kernel_rfl) (by kernel_rfl) (by kernel_rfl) (fun _ _ _ h=>h) hS0 (Or.inl ⟨by kernel_rfl,fun W hW=>by obtain ⟨s1,s2,s3,s4,s5,y0,y1,y2⟩:=hW;go_simp⟩) ?_;try simp only [Act.put,sArr,sZer,sSuc]
    refine aT (i:=30) (v:=.int .i64 e) rfl (by kernel_rfl) (by kernel_rfl) (by kernel_rfl) (by kernel_rfl) (fun _ _ _ h=>h) hS0 (Or.inl ⟨by kernel_rfl,fun W hW=>by obtain ⟨s1,s2,s3,s4,s5,y0,y1,y2⟩:=hW;go_simp⟩) ?_;try simp only [Act.put,sArr,sZer,sSuc]
    refine aT (i:=31) (v:=.agg #[.int .i64 k,.string tx,.bool false,.int .i64 line,.int .i64 i,.int .i64 e]) rfl (by kernel_rfl) (by kernel_rfl) (by kernel_rfl) (by kernel_rfl) (fun _ _ _ h=>h) hS0 (Or.inl ⟨by kernel_rfl,fun W hW=>by obtain ⟨s1,s2,s3,s4,s5,y0,y1,y2⟩:=hW;go_simp⟩) ?_;try simp only [Act.put,sArr,sZer,sSuc]
    refine qw (k:=32) (by kernel_rfl) rfl (fun K hK=>?_);rw [if_pos (by kernel_rfl)];go_simp;refine hK _ _ ?_ ?_
    ·exact ⟨HR3.out.c1,HR3.out.c2,HR3.out.c3,HR3.out.c4,HR3.out.c5,(au QK.out 0).trans rfl,(au QK.out 1).trans rfl,(au QK.out 2).trans rfl⟩
    clear hK K;try simp only [Act.put,sArr,sZer,sSuc]
    refine qw (k:=33) (by kernel_rfl) rfl (fun K hK=>?_);refine step_append_lies _ rfl (.tmp 34) (.tmp 62) 24 rfl base 53 i0 (.agg DK) 6 56 Tryz.underlying24 hi0 hz0' hz1 hz2 rfl (by decide) (.slice A n c) n (dG L) rfl HO2.out ⟨W1.heap.size,0,none⟩ 1 1 [.int .i64 k,.string tx,.bool false,.int .i64 line,.int .i64 i,.int .i64 e] rfl rfl (fun j u hu=>by rw [add_plain];exact (au HN2.out j).trans (by rw [List.getElem?_toArray];exact hu)) (by simp [Value.oneCell']) (by decide) (by unfold maxLen;omega) (by omega) XB.out _ rfl ?_;intro g cap w2 hown2 BI hl2 hlt2
    obtain ⟨hr2,hx2⟩:=XA.out w2 BI;refine hK _ _ ?_ ?_
    ·exact ⟨hr2.c1,hr2.c2,hr2.c3,hr2.c4,hr2.c5,(au hx2 0).trans rfl,(au hx2 1).trans rfl,(au hx2 2).trans rfl⟩
    clear hK K;have r3:=hr2.c3;have rf:=hr2.fr 3;have HRW:=ah.mk hr2;have Tv:=ah.mk hx2;have HOW:=ah.mk hown2;have HGW:=ah.mk BI;have HLW:=ah.mk hl2;clear hr2 hx2 hown2 BI hl2;try simp only [Act.put,sArr,sZer,sSuc]
    refine ko (k:=34) (by kernel_rfl) rfl (by kernel_rfl) (fun K hK=>?_);rw [if_pos (by kernel_rfl)];go_simp;refine hK _ _ ?_;clear hK K;try simp only [Act.put,sArr,sZer,sSuc]
    refine ko (k:=35) (by kernel_rfl) rfl (by kernel_rfl) (fun K hK=>?_);rw [if_pos (by kernel_rfl)];go_simp;refine hK _ _ ?_;clear hK K;try simp only [Act.put,sArr,sZer,sSuc]
    refine ko (k:=36) (by kernel_rfl) rfl (by kernel_rfl) (fun K hK=>?_);rw [if_pos (by kernel_rfl)];go_simp;refine hK _ _ ?_;clear hK K;try simp only [Act.put,sArr,sZer,sSuc]
    refine yH (by kernel_rfl) ?_ _;go_wp2_with fail
    go_meet
    exact ⟨rfl,rfl,bI.out g cap w2 HRW.out Tv.out HOW.out HGW.out HLW.out⟩
   | true =>
    by_cases hlt:first < n
    ·obtain rfl:true=gp:=by have:=Tt.out;rw [decide_eq_true hlt] at this;simpa using this
     have l1:decide ((first:Int) < (n:Int))=true:=decide_eq_true (by omega);have l2:decide (first < n)=true:=decide_eq_true hlt;refine sU (fun W=>W.cell? ⟨H,1,none⟩=some (.int .i64 i)/\W.cell? ⟨H,2,none⟩=some (.int .i64 line)/\W.cell? ⟨H,3,none⟩=some (.slice A n c)/\W.cell? ⟨H,4,none⟩=some (.int .i64 first)/\W.cell? ⟨H,5,none⟩=some (.bool true)/\W.cell? ⟨X,0,none⟩=some (.int .i64 k)/\W.cell? ⟨X,1,none⟩=some (.string tx)/\W.cell? ⟨X,2,none⟩=some (.int .i64 e)) 34 (by kernel_rfl) ?_;have hS0:(fun W=>W.cell? ⟨H,1,none⟩=some (.int .i64 i)/\W.cell? ⟨H,2,none⟩=some (.int .i64 line)/\W.cell? ⟨H,3,none⟩=some (.slice A n c)/\W.cell? ⟨H,4,none⟩=some (.int .i64 first)/\W.cell? ⟨H,5,none⟩=some (.bool true)/\W.cell? ⟨X,0,none⟩=some (.int .i64 k)/\W.cell? ⟨X,1,none⟩=some (.string tx)/\W.cell? ⟨X,2,none⟩=some (.int .i64 e)) W1.drew:=⟨c1,c2,c3,c4,c5,x0,x1,x2⟩;refine aT (i:=0) (v:=.pointer (some ⟨H,0,none⟩)) rfl (by kernel_rfl) (by kernel_rfl) (by kernel_rfl) (by kernel_rfl) (fun _ _ _ h=>h) hS0 (Or.inl ⟨by kernel_rfl,fun W hW=>by obtain ⟨s1,s2,s3,s4,s5,y0,y1,y2⟩:=hW;go_simp⟩) ?_;try simp only [Act.put,sArr,sZer,sSuc]
     refine aT (i:=1) (v:=.pointer (some ⟨H,0,none⟩)) rfl (by kernel_rfl) (by kernel_rfl) (by kernel_rfl) (by kernel_rfl) (fun _ _ _ h=>h) hS0 (Or.inl ⟨by kernel_rfl,fun W hW=>by obtain ⟨s1,s2,s3,s4,s5,y0,y1,y2⟩:=hW;go_simp⟩) ?_;try simp only [Act.put,sArr,sZer,sSuc]
     refine aT (i:=2) (v:=.pointer (some ⟨H,0,none⟩)) rfl (by kernel_rfl) (by kernel_rfl) (by kernel_rfl) (by kernel_rfl) (fun _ _ _ h=>h) hS0 (Or.inl ⟨by kernel_rfl,fun W hW=>by obtain ⟨s1,s2,s3,s4,s5,y0,y1,y2⟩:=hW;go_simp⟩) ?_;try simp only [Act.put,sArr,sZer,sSuc]
     refine aT (i:=3) (v:=.pointer (some ⟨H,3,none⟩)) rfl (by kernel_rfl) (by kernel_rfl) (by kernel_rfl) (by kernel_rfl) (fun _ _ _ h=>h) hS0 (Or.inl ⟨by kernel_rfl,fun W hW=>by obtain ⟨s1,s2,s3,s4,s5,y0,y1,y2⟩:=hW;go_simp⟩) ?_;try simp only [Act.put,sArr,sZer,sSuc]
     refine aT (i:=4) (v:=.slice A n c) rfl (by kernel_rfl) (by kernel_rfl) (by kernel_rfl) (by kernel_rfl) (fun _ _ _ h=>h) hS0 (Or.inl ⟨by kernel_rfl,fun W hW=>by obtain ⟨s1,s2,s3,s4,s5,y0,y1,y2⟩:=hW;go_simp⟩) ?_;try simp only [Act.put,sArr,sZer,sSuc]
     refine aT (i:=5) (v:=.pointer (some ⟨X,0,none⟩)) rfl (by kernel_rfl) (by kernel_rfl) (by kernel_rfl) (by kernel_rfl) (fun _ _ _ h=>h) hS0 (Or.inl ⟨by kernel_rfl,fun W hW=>by obtain ⟨s1,s2,s3,s4,s5,y0,y1,y2⟩:=hW;go_simp⟩) ?_;try simp only [Act.put,sArr,sZer,sSuc]
     refine aT (i:=6) (v:=.int .i64 k) rfl (by kernel_rfl) (by kernel_rfl) (by kernel_rfl) (by kernel_rfl) (fun _ _ _ h=>h) hS0 (Or.inl ⟨by kernel_rfl,fun W hW=>by obtain ⟨s1,s2,s3,s4,s5,y0,y1,y2⟩:=hW;go_simp⟩) ?_;try simp only [Act.put,sArr,sZer,sSuc]
     refine aT (i:=7) (v:=.pointer (some ⟨X,1,none⟩)) rfl (by kernel_rfl) (by kernel_rfl) (by kernel_rfl) (by kernel_rfl) (fun _ _ _ h=>h) hS0 (Or.inl ⟨by kernel_rfl,fun W hW=>by obtain ⟨s1,s2,s3,s4,s5,y0,y1,y2⟩:=hW;go_simp⟩) ?_;try simp only [Act.put,sArr,sZer,sSuc]
     refine aT (i:=8) (v:=.string tx) rfl (by kernel_rfl) (by kernel_rfl) (by kernel_rfl) (by kernel_rfl) (fun _ _ _ h=>h) hS0 (Or.inl ⟨by kernel_rfl,fun W hW=>by obtain ⟨s1,s2,s3,s4,s5,y0,y1,y2⟩:=hW;go_simp⟩) ?_;try simp only [Act.put,sArr,sZer,sSuc]
     refine aT (i:=9) (v:=.pointer (some ⟨H,0,none⟩)) rfl (by kernel_rfl) (by kernel_rfl) (by kernel_rfl) (by kernel_rfl) (fun _ _ _ h=>h) hS0 (Or.inl ⟨by kernel_rfl,fun W hW=>by obtain ⟨s1,s2,s3,s4,s5,y0,y1,y2⟩:=hW;go_simp⟩) ?_;try simp only [Act.put,sArr,sZer,sSuc]
     refine aT (i:=10) (v:=.pointer (some ⟨H,0,none⟩)) rfl (by kernel_rfl) (by kernel_rfl) (by kernel_rfl) (by kernel_rfl) (fun _ _ _ h=>h) hS0 (Or.inl ⟨by kernel_rfl,fun W hW=>by obtain ⟨s1,s2,s3,s4,s5,y0,y1,y2⟩:=hW;go_simp⟩) ?_;try simp only [Act.put,sArr,sZer,sSuc]
     refine aT (i:=11) (v:=.pointer (some ⟨H,5,none⟩)) rfl (by kernel_rfl) (by kernel_rfl) (by kernel_rfl) (by kernel_rfl) (fun _ _ _ h=>h) hS0 (Or.inl ⟨by kernel_rfl,fun W hW=>by obtain ⟨s1,s2,s3,s4,s5,y0,y1,y2⟩:=hW;go_simp⟩) ?_;try simp only [Act.put,sArr,sZer,sSuc]
     refine aT (i:=12) (v:=.bool true) rfl (by kernel_rfl) (by kernel_rfl) (by kernel_rfl) (by kernel_rfl) (fun _ _ _ h=>h) hS0 (Or.inl ⟨by kernel_rfl,fun W hW=>by obtain ⟨s1,s2,s3,s4,s5,y0,y1,y2⟩:=hW;go_simp⟩) ?_;try simp only [Act.put,sArr,sZer,sSuc]
     refine aT (i:=13) (v:=.bool true) rfl (by kernel_rfl) (by kernel_rfl) (by kernel_rfl) (by kernel_rfl) (fun _ _ _ h=>h) hS0 (Or.inl ⟨by kernel_rfl,fun W hW=>by obtain ⟨s1,s2,s3,s4,s5,y0,y1,y2⟩:=hW;go_simp⟩) ?_;try simp only [Act.put,sArr,sZer,sSuc]
     refine aT (i:=14) (v:=.int .i64 n) rfl (by kernel_rfl) (by kernel_rfl) (by kernel_rfl) (by kernel_rfl) (fun _ _ _ h=>h) hS0 (Or.inl ⟨by kernel_rfl,fun W hW=>by obtain ⟨s1,s2,s3,s4,s5,y0,y1,y2⟩:=hW;go_simp⟩) ?_;try simp only [Act.put,sArr,sZer,sSuc]
     refine aT (i:=15) (v:=.pointer (some ⟨H,0,none⟩)) rfl (by kernel_rfl) (by kernel_rfl) (by kernel_rfl) (by kernel_rfl) (fun _ _ _ h=>h) hS0 (Or.inl ⟨by kernel_rfl,fun W hW=>by obtain ⟨s1,s2,s3,s4,s5,y0,y1,y2⟩:=hW;go_simp⟩) ?_;try simp only [Act.put,sArr,sZer,sSuc]
     refine aT (i:=16) (v:=.pointer (some ⟨H,0,none⟩)) rfl (by kernel_rfl) (by kernel_rfl) (by kernel_rfl) (by kernel_rfl) (fun _ _ _ h=>h) hS0 (Or.inl ⟨by kernel_rfl,fun W hW=>by obtain ⟨s1,s2,s3,s4,s5,y0,y1,y2⟩:=hW;go_simp⟩) ?_;try simp only [Act.put,sArr,sZer,sSuc]
     refine aT (i:=17) (v:=.pointer (some ⟨H,4,none⟩)) rfl (by kernel_rfl) (by kernel_rfl) (by kernel_rfl) (by kernel_rfl) (fun _ _ _ h=>h) hS0 (Or.inl ⟨by kernel_rfl,fun W hW=>by obtain ⟨s1,s2,s3,s4,s5,y0,y1,y2⟩:=hW;go_simp⟩) ?_;try simp only [Act.put,sArr,sZer,sSuc]
     refine aT (i:=18) (v:=.int .i64 first) rfl (by kernel_rfl) (by kernel_rfl) (by kernel_rfl) (by kernel_rfl) (fun _ _ _ h=>h) hS0 (Or.inl ⟨by kernel_rfl,fun W hW=>by obtain ⟨s1,s2,s3,s4,s5,y0,y1,y2⟩:=hW;go_simp⟩) ?_;try simp only [Act.put,sArr,sZer,sSuc]
     refine aT (i:=19) (v:=.bool true) rfl (by kernel_rfl) (by kernel_rfl) (by kernel_rfl) (by kernel_rfl) (fun _ _ _ h=>h) hS0 (Or.inl ⟨by kernel_rfl,fun W hW=>by obtain ⟨s1,s2,s3,s4,s5,y0,y1,y2⟩:=hW;go_simp⟩) ?_;try simp only [Act.put,sArr,sZer,sSuc]
     refine aT (i:=20) (v:=.bool true) rfl (by kernel_rfl) (by kernel_rfl) (by kernel_rfl) (by kernel_rfl) (fun _ _ _ h=>h) hS0 (Or.inl ⟨by kernel_rfl,fun W hW=>by obtain ⟨s1,s2,s3,s4,s5,y0,y1,y2⟩:=hW;go_simp⟩) ?_;try simp only [Act.put,sArr,sZer,sSuc]
     refine aT (i:=21) (v:=.pointer (some ⟨H,0,none⟩)) rfl (by kernel_rfl) (by kernel_rfl) (by kernel_rfl) (by kernel_rfl) (fun _ _ _ h=>h) hS0 (Or.inl ⟨by kernel_rfl,fun W hW=>by obtain ⟨s1,s2,s3,s4,s5,y0,y1,y2⟩:=hW;go_simp⟩) ?_;try simp only [Act.put,sArr,sZer,sSuc]
     refine aT (i:=22) (v:=.pointer (some ⟨H,0,none⟩)) rfl (by kernel_rfl) (by kernel_rfl) (by kernel_rfl) (by kernel_rfl) (fun _ _ _ h=>h) hS0 (Or.inl ⟨by kernel_rfl,fun W hW=>by obtain ⟨s1,s2,s3,s4,s5,y0,y1,y2⟩:=hW;go_simp⟩) ?_;try simp only [Act.put,sArr,sZer,sSuc]
     refine aT (i:=23) (v:=.pointer (some ⟨H,2,none⟩)) rfl (by kernel_rfl) (by kernel_rfl) (by kernel_rfl) (by kernel_rfl) (fun _ _ _ h=>h) hS0 (Or.inl ⟨by kernel_rfl,fun W hW=>by obtain ⟨s1,s2,s3,s4,s5,y0,y1,y2⟩:=hW;go_simp⟩) ?_;try simp only [Act.put,sArr,sZer,sSuc]
     refine aT (i:=24) (v:=.int .i64 line) rfl (by kernel_rfl) (by kernel_rfl) (by kernel_rfl) (by kernel_rfl) (fun _ _ _ h=>h) hS0 (Or.inl ⟨by kernel_rfl,fun W hW=>by obtain ⟨s1,s2,s3,s4,s5,y0,y1,y2⟩:=hW;go_simp⟩) ?_;try simp only [Act.put,sArr,sZer,sSuc]
     refine aT (i:=25) (v:=.pointer (some ⟨H,0,none⟩)) rfl (by kernel_rfl) (by kernel_rfl) (by kernel_rfl) (by kernel_rfl) (fun _ _ _ h=>h) hS0 (Or.inl ⟨by kernel_rfl,fun W hW=>by obtain ⟨s1,s2,s3,s4,s5,y0,y1,y2⟩:=hW;go_simp⟩) ?_;try simp only [Act.put,sArr,sZer,sSuc]
     refine aT (i:=26) (v:=.pointer (some ⟨H,0,none⟩)) rfl (by kernel_rfl) (by kernel_rfl) (by kernel_rfl) (by kernel_rfl) (fun _ _ _ h=>h) hS0 (Or.inl ⟨by kernel_rfl,fun W hW=>by obtain ⟨s1,s2,s3,s4,s5,y0,y1,y2⟩:=hW;go_simp⟩) ?_;try simp only [Act.put,sArr,sZer,sSuc]
     refine aT (i:=27) (v:=.pointer (some ⟨H,1,none⟩)) rfl (by kernel_rfl) (by kernel_rfl) (by kernel_rfl) (by kernel_rfl) (fun _ _ _ h=>h) hS0 (Or.inl ⟨by kernel_rfl,fun W hW=>by obtain ⟨s1,s2,s3,s4,s5,y0,y1,y2⟩:=hW;go_simp⟩) ?_;try simp only [Act.put,sArr,sZer,sSuc]
     refine aT (i:=28) (v:=.int .i64 i) rfl (by kernel_rfl) (by kernel_rfl) (by kernel_rfl) (by kernel_rfl) (fun _ _ _ h=>h) hS0 (Or.inl ⟨by kernel_rfl,fun W hW=>by obtain ⟨s1,s2,s3,s4,s5,y0,y1,y2⟩:=hW;go_simp⟩) ?_;try simp only [Act.put,sArr,sZer,sSuc]
     refine aT (i:=29) (v:=.pointer (some ⟨X,2,none⟩)) rfl (by kernel_rfl) (by kernel_rfl) (by kernel_rfl) (by kernel_rfl) (fun _ _ _ h=>h) hS0 (Or.inl ⟨by kernel_rfl,fun W hW=>by obtain ⟨s1,s2,s3,s4,s5,y0,y1,y2⟩:=hW;go_simp⟩) ?_;try simp only [Act.put,sArr,sZer,sSuc]
     refine aT (i:=30) (v:=.int .i64 e) rfl (by kernel_rfl) (by kernel_rfl) (by kernel_rfl) (by kernel_rfl) (fun _ _ _ h=>h) hS0 (Or.inl ⟨by kernel_rfl,fun W hW=>by obtain ⟨s1,s2,s3,s4,s5,y0,y1,y2⟩:=hW;go_simp⟩) ?_;try simp only [Act.put,sArr,sZer,sSuc]
     refine aT (i:=31) (v:=.agg #[.int .i64 k,.string tx,.bool true,.int .i64 line,.int .i64 i,.int .i64 e]) rfl (by kernel_rfl) (by kernel_rfl) (by kernel_rfl) (by kernel_rfl) (fun _ _ _ h=>h) hS0 (Or.inl ⟨by kernel_rfl,fun W hW=>by obtain ⟨s1,s2,s3,s4,s5,y0,y1,y2⟩:=hW;go_simp⟩) ?_;try simp only [Act.put,sArr,sZer,sSuc]
     refine qw (k:=32) (by kernel_rfl) rfl (fun K hK=>?_);rw [if_pos (by kernel_rfl)];go_simp;refine hK _ _ ?_ ?_
     ·exact ⟨HR3.out.c1,HR3.out.c2,HR3.out.c3,HR3.out.c4,HR3.out.c5,(au QK.out 0).trans rfl,(au QK.out 1).trans rfl,(au QK.out 2).trans rfl⟩
     clear hK K;try simp only [Act.put,sArr,sZer,sSuc]
     refine qw (k:=33) (by kernel_rfl) rfl (fun K hK=>?_);refine step_append_lies _ rfl (.tmp 34) (.tmp 62) 24 rfl base 53 i0 (.agg DK) 6 56 Tryz.underlying24 hi0 hz0' hz1 hz2 rfl (by decide) (.slice A n c) n (dG L) rfl HO2.out ⟨W1.heap.size,0,none⟩ 1 1 [.int .i64 k,.string tx,.bool true,.int .i64 line,.int .i64 i,.int .i64 e] rfl rfl (fun j u hu=>by rw [add_plain];exact (au HN2.out j).trans (by rw [List.getElem?_toArray];exact hu)) (by simp [Value.oneCell']) (by decide) (by unfold maxLen;omega) (by omega) XB.out _ rfl ?_;intro g cap w2 hown2 BI hl2 hlt2
     obtain ⟨hr2,hx2⟩:=XA.out w2 BI;refine hK _ _ ?_ ?_
     ·exact ⟨hr2.c1,hr2.c2,hr2.c3,hr2.c4,hr2.c5,(au hx2 0).trans rfl,(au hx2 1).trans rfl,(au hx2 2).trans rfl⟩
     clear hK K;have r3:=hr2.c3;have rf:=hr2.fr 3;have HRW:=ah.mk hr2;have Tv:=ah.mk hx2;have HOW:=ah.mk hown2;have HGW:=ah.mk BI;have HLW:=ah.mk hl2;clear hr2 hx2 hown2 BI hl2;try simp only [Act.put,sArr,sZer,sSuc]
     refine ko (k:=34) (by kernel_rfl) rfl (by kernel_rfl) (fun K hK=>?_);rw [if_pos (by kernel_rfl)];go_simp;refine hK _ _ ?_;clear hK K;try simp only [Act.put,sArr,sZer,sSuc]
     refine ko (k:=35) (by kernel_rfl) rfl (by kernel_rfl) (fun K hK=>?_);rw [if_pos (by kernel_rfl)];go_simp;refine hK _ _ ?_;clear hK K;try simp only [Act.put,sArr,sZer,sSuc]
     refine ko (k:=36) (by kernel_rfl) rfl (by kernel_rfl) (fun K hK=>?_);rw [if_pos (by kernel_rfl)];go_simp;refine hK _ _ ?_;clear hK K;try simp only [Act.put,sArr,sZer,sSuc]
     refine yH (by kernel_rfl) ?_ _;go_wp2_with fail
     go_meet
     exact ⟨rfl,rfl,bI.out g cap w2 HRW.out Tv.out HOW.out HGW.out HLW.out⟩
    obtain rfl:false=gp:=by have:=Tt.out;rw [decide_eq_false hlt] at this;simpa using this
    have l1:decide ((first:Int) < (n:Int))=false:=decide_eq_false (by omega);have l2:decide (first < n)=false:=decide_eq_false hlt;refine sU (fun W=>W.cell? ⟨H,1,none⟩=some (.int .i64 i)/\W.cell? ⟨H,2,none⟩=some (.int .i64 line)/\W.cell? ⟨H,3,none⟩=some (.slice A n c)/\W.cell? ⟨H,4,none⟩=some (.int .i64 first)/\W.cell? ⟨H,5,none⟩=some (.bool true)/\W.cell? ⟨X,0,none⟩=some (.int .i64 k)/\W.cell? ⟨X,1,none⟩=some (.string tx)/\W.cell? ⟨X,2,none⟩=some (.int .i64 e)) 34 (by kernel_rfl) ?_;have hS0:(fun W=>W.cell? ⟨H,1,none⟩=some (.int .i64 i)/\W.cell? ⟨H,2,none⟩=some (.int .i64 line)/\W.cell? ⟨H,3,none⟩=some (.slice A n c)/\W.cell? ⟨H,4,none⟩=some (.int .i64 first)/\W.cell? ⟨H,5,none⟩=some (.bool true)/\W.cell? ⟨X,0,none⟩=some (.int .i64 k)/\W.cell? ⟨X,1,none⟩=some (.string tx)/\W.cell? ⟨X,2,none⟩=some (.int .i64 e)) W1.drew:=⟨c1,c2,c3,c4,c5,x0,x1,x2⟩;refine aT (i:=0) (v:=.pointer (some ⟨H,0,none⟩)) rfl (by kernel_rfl) (by kernel_rfl) (by kernel_rfl) (by kernel_rfl) (fun _ _ _ h=>h) hS0 (Or.inl ⟨by kernel_rfl,fun W hW=>by obtain ⟨s1,s2,s3,s4,s5,y0,y1,y2⟩:=hW;go_simp⟩) ?_;try simp only [Act.put,sArr,sZer,sSuc]
    refine aT (i:=1) (v:=.pointer (some ⟨H,0,none⟩)) rfl (by kernel_rfl) (by kernel_rfl) (by kernel_rfl) (by kernel_rfl) (fun _ _ _ h=>h) hS0 (Or.inl ⟨by kernel_rfl,fun W hW=>by obtain ⟨s1,s2,s3,s4,s5,y0,y1,y2⟩:=hW;go_simp⟩) ?_;try simp only [Act.put,sArr,sZer,sSuc]
    refine aT (i:=2) (v:=.pointer (some ⟨H,0,none⟩)) rfl (by kernel_rfl) (by kernel_rfl) (by kernel_rfl) (by kernel_rfl) (fun _ _ _ h=>h) hS0 (Or.inl ⟨by kernel_rfl,fun W hW=>by obtain ⟨s1,s2,s3,s4,s5,y0,y1,y2⟩:=hW;go_simp⟩) ?_;try simp only [Act.put,sArr,sZer,sSuc]
    refine aT (i:=3) (v:=.pointer (some ⟨H,3,none⟩)) rfl (by kernel_rfl) (by kernel_rfl) (by kernel_rfl) (by kernel_rfl) (fun _ _ _ h=>h) hS0 (Or.inl ⟨by kernel_rfl,fun W hW=>by obtain ⟨s1,s2,s3,s4,s5,y0,y1,y2⟩:=hW;go_simp⟩) ?_;try simp only [Act.put,sArr,sZer,sSuc]
    refine aT (i:=4) (v:=.slice A n c) rfl (by kernel_rfl) (by kernel_rfl) (by kernel_rfl) (by kernel_rfl) (fun _ _ _ h=>h) hS0 (Or.inl ⟨by kernel_rfl,fun W hW=>by obtain ⟨s1,s2,s3,s4,s5,y0,y1,y2⟩:=hW;go_simp⟩) ?_;try simp only [Act.put,sArr,sZer,sSuc]
    refine aT (i:=5) (v:=.pointer (some ⟨X,0,none⟩)) rfl (by kernel_rfl) (by kernel_rfl) (by kernel_rfl) (by kernel_rfl) (fun _ _ _ h=>h) hS0 (Or.inl ⟨by kernel_rfl,fun W hW=>by obtain ⟨s1,s2,s3,s4,s5,y0,y1,y2⟩:=hW;go_simp⟩) ?_;try simp only [Act.put,sArr,sZer,sSuc]
    refine aT (i:=6) (v:=.int .i64 k) rfl (by kernel_rfl) (by kernel_rfl) (by kernel_rfl) (by kernel_rfl) (fun _ _ _ h=>h) hS0 (Or.inl ⟨by kernel_rfl,fun W hW=>by obtain ⟨s1,s2,s3,s4,s5,y0,y1,y2⟩:=hW;go_simp⟩) ?_;try simp only [Act.put,sArr,sZer,sSuc]
    refine aT (i:=7) (v:=.pointer (some ⟨X,1,none⟩)) rfl (by kernel_rfl) (by kernel_rfl) (by kernel_rfl) (by kernel_rfl) (fun _ _ _ h=>h) hS0 (Or.inl ⟨by kernel_rfl,fun W hW=>by obtain ⟨s1,s2,s3,s4,s5,y0,y1,y2⟩:=hW;go_simp⟩) ?_;try simp only [Act.put,sArr,sZer,sSuc]
    refine aT (i:=8) (v:=.string tx) rfl (by kernel_rfl) (by kernel_rfl) (by kernel_rfl) (by kernel_rfl) (fun _ _ _ h=>h) hS0 (Or.inl ⟨by kernel_rfl,fun W hW=>by obtain ⟨s1,s2,s3,s4,s5,y0,y1,y2⟩:=hW;go_simp⟩) ?_;try simp only [Act.put,sArr,sZer,sSuc]
    refine aT (i:=9) (v:=.pointer (some ⟨H,0,none⟩)) rfl (by kernel_rfl) (by kernel_rfl) (by kernel_rfl) (by kernel_rfl) (fun _ _ _ h=>h) hS0 (Or.inl ⟨by kernel_rfl,fun W hW=>by obtain ⟨s1,s2,s3,s4,s5,y0,y1,y2⟩:=hW;go_simp⟩) ?_;try simp only [Act.put,sArr,sZer,sSuc]
    refine aT (i:=10) (v:=.pointer (some ⟨H,0,none⟩)) rfl (by kernel_rfl) (by kernel_rfl) (by kernel_rfl) (by kernel_rfl) (fun _ _ _ h=>h) hS0 (Or.inl ⟨by kernel_rfl,fun W hW=>by obtain ⟨s1,s2,s3,s4,s5,y0,y1,y2⟩:=hW;go_simp⟩) ?_;try simp only [Act.put,sArr,sZer,sSuc]
    refine aT (i:=11) (v:=.pointer (some ⟨H,5,none⟩)) rfl (by kernel_rfl) (by kernel_rfl) (by kernel_rfl) (by kernel_rfl) (fun _ _ _ h=>h) hS0 (Or.inl ⟨by kernel_rfl,fun W hW=>by obtain ⟨s1,s2,s3,s4,s5,y0,y1,y2⟩:=hW;go_simp⟩) ?_;try simp only [Act.put,sArr,sZer,sSuc]
    refine aT (i:=12) (v:=.bool true) rfl (by kernel_rfl) (by kernel_rfl) (by kernel_rfl) (by kernel_rfl) (fun _ _ _ h=>h) hS0 (Or.inl ⟨by kernel_rfl,fun W hW=>by obtain ⟨s1,s2,s3,s4,s5,y0,y1,y2⟩:=hW;go_simp⟩) ?_;try simp only [Act.put,sArr,sZer,sSuc]
    refine aT (i:=13) (v:=.bool true) rfl (by kernel_rfl) (by kernel_rfl) (by kernel_rfl) (by kernel_rfl) (fun _ _ _ h=>h) hS0 (Or.inl ⟨by kernel_rfl,fun W hW=>by obtain ⟨s1,s2,s3,s4,s5,y0,y1,y2⟩:=hW;go_simp⟩) ?_;try simp only [Act.put,sArr,sZer,sSuc]
    refine aT (i:=14) (v:=.int .i64 n) rfl (by kernel_rfl) (by kernel_rfl) (by kernel_rfl) (by kernel_rfl) (fun _ _ _ h=>h) hS0 (Or.inl ⟨by kernel_rfl,fun W hW=>by obtain ⟨s1,s2,s3,s4,s5,y0,y1,y2⟩:=hW;go_simp⟩) ?_;try simp only [Act.put,sArr,sZer,sSuc]
    refine aT (i:=15) (v:=.pointer (some ⟨H,0,none⟩)) rfl (by kernel_rfl) (by kernel_rfl) (by kernel_rfl) (by kernel_rfl) (fun _ _ _ h=>h) hS0 (Or.inl ⟨by kernel_rfl,fun W hW=>by obtain ⟨s1,s2,s3,s4,s5,y0,y1,y2⟩:=hW;go_simp⟩) ?_;try simp only [Act.put,sArr,sZer,sSuc]
    refine aT (i:=16) (v:=.pointer (some ⟨H,0,none⟩)) rfl (by kernel_rfl) (by kernel_rfl) (by kernel_rfl) (by kernel_rfl) (fun _ _ _ h=>h) hS0 (Or.inl ⟨by kernel_rfl,fun W hW=>by obtain ⟨s1,s2,s3,s4,s5,y0,y1,y2⟩:=hW;go_simp⟩) ?_;try simp only [Act.put,sArr,sZer,sSuc]
    refine aT (i:=17) (v:=.pointer (some ⟨H,4,none⟩)) rfl (by kernel_rfl) (by kernel_rfl) (by kernel_rfl) (by kernel_rfl) (fun _ _ _ h=>h) hS0 (Or.inl ⟨by kernel_rfl,fun W hW=>by obtain ⟨s1,s2,s3,s4,s5,y0,y1,y2⟩:=hW;go_simp⟩) ?_;try simp only [Act.put,sArr,sZer,sSuc]
    refine aT (i:=18) (v:=.int .i64 first) rfl (by kernel_rfl) (by kernel_rfl) (by kernel_rfl) (by kernel_rfl) (fun _ _ _ h=>h) hS0 (Or.inl ⟨by kernel_rfl,fun W hW=>by obtain ⟨s1,s2,s3,s4,s5,y0,y1,y2⟩:=hW;go_simp⟩) ?_;try simp only [Act.put,sArr,sZer,sSuc]
    refine aT (i:=19) (v:=.bool false) rfl (by kernel_rfl) (by kernel_rfl) (by kernel_rfl) (by kernel_rfl) (fun _ _ _ h=>h) hS0 (Or.inl ⟨by kernel_rfl,fun W hW=>by obtain ⟨s1,s2,s3,s4,s5,y0,y1,y2⟩:=hW;go_simp⟩) ?_;try simp only [Act.put,sArr,sZer,sSuc]
    refine aT (i:=20) (v:=.bool false) rfl (by kernel_rfl) (by kernel_rfl) (by kernel_rfl) (by kernel_rfl) (fun _ _ _ h=>h) hS0 (Or.inl ⟨by kernel_rfl,fun W hW=>by obtain ⟨s1,s2,s3,s4,s5,y0,y1,y2⟩:=hW;go_simp⟩) ?_;try simp only [Act.put,sArr,sZer,sSuc]
    refine aT (i:=21) (v:=.pointer (some ⟨H,0,none⟩)) rfl (by kernel_rfl) (by kernel_rfl) (by kernel_rfl) (by kernel_rfl) (fun _ _ _ h=>h) hS0 (Or.inl ⟨by kernel_rfl,fun W hW=>by obtain ⟨s1,s2,s3,s4,s5,y0,y1,y2⟩:=hW;go_simp⟩) ?_;try simp only [Act.put,sArr,sZer,sSuc]
    refine aT (i:=22) (v:=.pointer (some ⟨H,0,none⟩)) rfl (by kernel_rfl) (by kernel_rfl) (by kernel_rfl) (by kernel_rfl) (fun _ _ _ h=>h) hS0 (Or.inl ⟨by kernel_rfl,fun W hW=>by obtain ⟨s1,s2,s3,s4,s5,y0,y1,y2⟩:=hW;go_simp⟩) ?_;try simp only [Act.put,sArr,sZer,sSuc]
    refine aT (i:=23) (v:=.pointer (some ⟨H,2,none⟩)) rfl (by kernel_rfl) (by kernel_rfl) (by kernel_rfl) (by kernel_rfl) (fun _ _ _ h=>h) hS0 (Or.inl ⟨by kernel_rfl,fun W hW=>by obtain ⟨s1,s2,s3,s4,s5,y0,y1,y2⟩:=hW;go_simp⟩) ?_;try simp only [Act.put,sArr,sZer,sSuc]
    refine aT (i:=24) (v:=.int .i64 line) rfl (by kernel_rfl) (by kernel_rfl) (by kernel_rfl) (by kernel_rfl) (fun _ _ _ h=>h) hS0 (Or.inl ⟨by kernel_rfl,fun W hW=>by obtain ⟨s1,s2,s3,s4,s5,y0,y1,y2⟩:=hW;go_simp⟩) ?_;try simp only [Act.put,sArr,sZer,sSuc]
    refine aT (i:=25) (v:=.pointer (some ⟨H,0,none⟩)) rfl (by kernel_rfl) (by kernel_rfl) (by kernel_rfl) (by kernel_rfl) (fun _ _ _ h=>h) hS0 (Or.inl ⟨by kernel_rfl,fun W hW=>by obtain ⟨s1,s2,s3,s4,s5,y0,y1,y2⟩:=hW;go_simp⟩) ?_;try simp only [Act.put,sArr,sZer,sSuc]
    refine aT (i:=26) (v:=.pointer (some ⟨H,0,none⟩)) rfl (by kernel_rfl) (by kernel_rfl) (by kernel_rfl) (by kernel_rfl) (fun _ _ _ h=>h) hS0 (Or.inl ⟨by kernel_rfl,fun W hW=>by obtain ⟨s1,s2,s3,s4,s5,y0,y1,y2⟩:=hW;go_simp⟩) ?_;try simp only [Act.put,sArr,sZer,sSuc]
    refine aT (i:=27) (v:=.pointer (some ⟨H,1,none⟩)) rfl (by kernel_rfl) (by kernel_rfl) (by kernel_rfl) (by kernel_rfl) (fun _ _ _ h=>h) hS0 (Or.inl ⟨by kernel_rfl,fun W hW=>by obtain ⟨s1,s2,s3,s4,s5,y0,y1,y2⟩:=hW;go_simp⟩) ?_;try simp only [Act.put,sArr,sZer,sSuc]
    refine aT (i:=28) (v:=.int .i64 i) rfl (by kernel_rfl) (by kernel_rfl) (by kernel_rfl) (by kernel_rfl) (fun _ _ _ h=>h) hS0 (Or.inl ⟨by kernel_rfl,fun W hW=>by obtain ⟨s1,s2,s3,s4,s5,y0,y1,y2⟩:=hW;go_simp⟩) ?_;try simp only [Act.put,sArr,sZer,sSuc]
    refine aT (i:=29) (v:=.pointer (some ⟨X,2,none⟩)) rfl (by kernel_rfl) (by kernel_rfl) (by kernel_rfl) (by kernel_rfl) (fun _ _ _ h=>h) hS0 (Or.inl ⟨by kernel_rfl,fun W hW=>by obtain ⟨s1,s2,s3,s4,s5,y0,y1,y2⟩:=hW;go_simp⟩) ?_;try simp only [Act.put,sArr,sZer,sSuc]
    refine aT (i:=30) (v:=.int .i64 e) rfl (by kernel_rfl) (by kernel_rfl) (by kernel_rfl) (by kernel_rfl) (fun _ _ _ h=>h) hS0 (Or.inl ⟨by kernel_rfl,fun W hW=>by obtain ⟨s1,s2,s3,s4,s5,y0,y1,y2⟩:=hW;go_simp⟩) ?_;try simp only [Act.put,sArr,sZer,sSuc]
    refine aT (i:=31) (v:=.agg #[.int .i64 k,.string tx,.bool false,.int .i64 line,.int .i64 i,.int .i64 e]) rfl (by kernel_rfl) (by kernel_rfl) (by kernel_rfl) (by kernel_rfl) (fun _ _ _ h=>h) hS0 (Or.inl ⟨by kernel_rfl,fun W hW=>by obtain ⟨s1,s2,s3,s4,s5,y0,y1,y2⟩:=hW;go_simp⟩) ?_;try simp only [Act.put,sArr,sZer,sSuc]
    refine qw (k:=32) (by kernel_rfl) rfl (fun K hK=>?_);rw [if_pos (by kernel_rfl)];go_simp;refine hK _ _ ?_ ?_
    ·exact ⟨HR3.out.c1,HR3.out.c2,HR3.out.c3,HR3.out.c4,HR3.out.c5,(au QK.out 0).trans rfl,(au QK.out 1).trans rfl,(au QK.out 2).trans rfl⟩
    clear hK K;try simp only [Act.put,sArr,sZer,sSuc]
    refine qw (k:=33) (by kernel_rfl) rfl (fun K hK=>?_);refine step_append_lies _ rfl (.tmp 34) (.tmp 62) 24 rfl base 53 i0 (.agg DK) 6 56 Tryz.underlying24 hi0 hz0' hz1 hz2 rfl (by decide) (.slice A n c) n (dG L) rfl HO2.out ⟨W1.heap.size,0,none⟩ 1 1 [.int .i64 k,.string tx,.bool false,.int .i64 line,.int .i64 i,.int .i64 e] rfl rfl (fun j u hu=>by rw [add_plain];exact (au HN2.out j).trans (by rw [List.getElem?_toArray];exact hu)) (by simp [Value.oneCell']) (by decide) (by unfold maxLen;omega) (by omega) XB.out _ rfl ?_;intro g cap w2 hown2 BI hl2 hlt2
    obtain ⟨hr2,hx2⟩:=XA.out w2 BI;refine hK _ _ ?_ ?_
    ·exact ⟨hr2.c1,hr2.c2,hr2.c3,hr2.c4,hr2.c5,(au hx2 0).trans rfl,(au hx2 1).trans rfl,(au hx2 2).trans rfl⟩
    clear hK K;have r3:=hr2.c3;have rf:=hr2.fr 3;have HRW:=ah.mk hr2;have Tv:=ah.mk hx2;have HOW:=ah.mk hown2;have HGW:=ah.mk BI;have HLW:=ah.mk hl2;clear hr2 hx2 hown2 BI hl2;try simp only [Act.put,sArr,sZer,sSuc]
    refine ko (k:=34) (by kernel_rfl) rfl (by kernel_rfl) (fun K hK=>?_);rw [if_pos (by kernel_rfl)];go_simp;refine hK _ _ ?_;clear hK K;try simp only [Act.put,sArr,sZer,sSuc]
    refine ko (k:=35) (by kernel_rfl) rfl (by kernel_rfl) (fun K hK=>?_);rw [if_pos (by kernel_rfl)];go_simp;refine hK _ _ ?_;clear hK K;try simp only [Act.put,sArr,sZer,sSuc]
    refine ko (k:=36) (by kernel_rfl) rfl (by kernel_rfl) (fun K hK=>?_);rw [if_pos (by kernel_rfl)];go_simp;refine hK _ _ ?_;clear hK K;try simp only [Act.put,sArr,sZer,sSuc]
    refine yH (by kernel_rfl) ?_ _;go_wp2_with fail
    go_meet
    exact ⟨rfl,rfl,bI.out g cap w2 HRW.out Tv.out HOW.out HGW.out HLW.out⟩
  case rest =>
   obtain ⟨rfl,rfl,v5,HR5,HO5,IY,HV5,HX5⟩:=hcut;have qf:=HR5.out.fr 5;have q5:=HR5.out.c5;clear x0 x1 x2 c1 c2 c3 c4 c5;go_upto_region 6 with (fail)
   have hXH:X≠H:=by have:=HX.out;omega
   have hB6:But (·=H) wc (wc.setCell ⟨H,5,none⟩ (.bool false)):=(But.refl _ _).set _ _ rfl;have hR6:=HR5.out.Qf false;have hO6:=bV HO5.out hB6 (fun k e h=>by have:=(HO5.out.lt k h).1;omega);have hX6:=(hB6.block X (Array.getElem?_eq_some_iff.1 HX5.out).1 hXH).trans HX5.out;have HB6:ah (But (fun k=>k=H\/(Value.slice A n c).ownBlock=some k) w (wc.setCell ⟨H,5,none⟩ (.bool false))):=⟨IY.out.set _ _ (.inl rfl)⟩;clear hB6;generalize wc.setCell ⟨H,5,none⟩ (.bool false)=W6 at *;have c1:=hR6.c1;have c2:=hR6.c2;have c3:=hR6.c3;have c4:=hR6.c4;have x0:W6.cell? ⟨X,0,none⟩=some (.int .i64 k):=(au hX6 0).trans rfl;have x1:W6.cell? ⟨X,1,none⟩=some (.string tx):=(au hX6 1).trans rfl;have x2:W6.cell? ⟨X,2,none⟩=some (.int .i64 e):=(au hX6 2).trans rfl;have HR6:=ah.mk hR6;have HO6:=ah.mk hO6;clear HR5 HO5 IY HX5 qf q5 hR6 hO6 hX6 bI XA XB HN2 HS2 HO2 HB2 QK HR3 HX1 LP HR1 HB1;obtain ⟨lab,hlb⟩:∃ lab,Dc first L k t=lab:=⟨_,rfl⟩
   have Qd:=ah.mk hlb;obtain ⟨A5,c5,rfl,-⟩:=jC HO6.out;clear hlb;go_cut [3,99] from 7 (fun s3 s99 wd=>s3=.pointer (some ⟨X,0,none⟩)/\s99=.bool lab/\∃ q:Nat,wd=W6.drewN q)
   case first =>
    have hlab:=aiV.out;rw [Qd.out] at hlab;by_cases hk:k=3
    rotate_left
    ·have b1:((k:Int)==3)=false:=beq_eq_false_iff_ne.2 (by omega)
     rw [decide_eq_false hk,Bool.false_and,Bool.false_and,Bool.false_and] at hlab;subst hlab;clear hk FP;go_quiet (fail)
     go_wp2_with fail
     go_meet
     exact ⟨rfl,rfl,_,rfl⟩
    have b1:((k:Int)==3)=true:=beq_iff_eq.2 (by omega);rw [decide_eq_true hk,Bool.true_and] at hlab;by_cases ht:t=[58]
    rotate_left
    ·rw [decide_eq_false ht] at FP hlab
     rw [Bool.false_and,Bool.false_and] at hlab;subst hlab;clear hk ht;go_quiet (fail)
     go_wp2_with fail
     go_meet
     exact ⟨rfl,rfl,_,rfl⟩
    rw [decide_eq_true ht] at FP hlab;rw [Bool.true_and] at hlab;by_cases hnf:n=first+1
    rotate_left
    ·have b3:((n:Int)==(first:Int)+1)=false:=beq_eq_false_iff_ne.2 (by omega)
     have b4:IntKind.i64.wrap ((first:Int)+1)=(first:Int)+1:=uq _ (by omega) (by omega);rw [decide_eq_false hnf,Bool.false_and] at hlab;subst hlab;clear hk ht hnf;go_quiet (fail)
     go_wp2_with fail
     go_meet
     exact ⟨rfl,rfl,_,rfl⟩
    have b3:((n:Int)==(first:Int)+1)=true:=beq_iff_eq.2 (by omega);have b4:IntKind.i64.wrap ((first:Int)+1)=(first:Int)+1:=uq _ (by omega) (by omega);rw [decide_eq_true hnf,Bool.true_and] at hlab;obtain ⟨tk,htk⟩:∃ tk,L[first]?=some tk:=⟨_,List.getElem?_eq_getElem (by rw [HN.out];omega)⟩;have hgd:(L.map (·.kind)).getD first 0=tk.kind:=by
     rw [List.getD_eq_getElem?_getD,List.getElem?_map,htk];rfl
    rw [hgd] at hlab;obtain ⟨ad,rfl,z0,-⟩:=Tm HO6.out (k:=first) (t:=tk) (by rw [List.getElem?_append_left (by rw [HN.out];omega)];exact htk);have z1:(0:Int)<=(first:Int):=by omega
    have z2:(first:Int) < (n:Int)+1:=by omega
    have z3:first < n+1:=by omega
    have z4:(first:Int) < ((n+1:Nat):Int):=by omega
    generalize tk.kind=tkk at *;by_cases hk1:tkk=1
    ·have b5:((tkk:Int)==1)=true:=beq_iff_eq.2 (by omega)
     rw [decide_eq_true hk1] at hlab;subst hlab;clear hk ht hnf htk hgd hk1;go_quiet (fail)
     go_wp2_with fail
     go_meet
     exact ⟨rfl,rfl,_,rfl⟩
    have b5:((tkk:Int)==1)=false:=beq_eq_false_iff_ne.2 (by omega);rw [decide_eq_false hk1] at hlab;subst hlab;clear hk ht hnf htk hgd hk1;go_quiet (fail)
    go_wp2_with fail
    go_meet
    exact ⟨rfl,rfl,_,rfl⟩
   case rest =>
    obtain ⟨rfl,rfl,q,rfl⟩:=hcut;clear FP;cases lab with
    | false =>
     have HP1:ah (BH first gap L k t line i e=L++[uK first gap L k t line i e]):=⟨by rw [HPL.out,Qd.out,if_neg Bool.false_ne_true]⟩;have HP2:ah (FM first gap L k t line i e=first):=⟨by rw [HPF.out,Qd.out,if_neg Bool.false_ne_true]⟩;go_wp2_with fail
     go_end0
     refine ⟨rfl,.slice A5 (n+1) c5,?_,?_,HB6.out.drewN q,HV5.out⟩
     ·rw [HP2.out];exact HR6.out
     ·rw [HP1.out,List.length_append,HN.out];exact HO6.out
    | true =>
     have HP1:ah (BH first gap L k t line i e=Kw (L++[uK first gap L k t line i e]) first e e line):=⟨by rw [HPL.out,Qd.out,if_pos rfl]⟩;have HP2:ah (FM first gap L k t line i e=(Kw (L++[uK first gap L k t line i e]) first e e line).length):=⟨by rw [HPF.out,Qd.out,if_pos rfl,HP1.out]⟩;have HC:=Lib.hid (closed.calls H base src i line (.slice A5 (n+1) c5) first false (L++[uK first gap L k t line i e]) e e line (W6.drewN q).drew HR6.out (by rw [List.length_append,HN.out];exact HO6.out) hHb (by rw [List.length_append,HN.out];show n+1<=_;omega) (by rw [List.length_append,HN.out];show first<=n+1;omega));generalize hL':Kw (L++[uK first gap L k t line i e]) first e e line=L' at *
     have y2:(W6.drewN q).cell? ⟨X,2,none⟩=some (.int .i64 e):=x2;have y3:(W6.drewN q).cell? ⟨H,2,none⟩=some (.int .i64 line):=c2;have HB7:ah (But (fun k=>k=H\/(Value.slice A n c).ownBlock=some k) w (W6.drewN q).drew):=⟨(HB6.out.drewN q).drew⟩;clear x0 x1 x2 c1 c2 c3 c4;generalize W6.drewN q=W7 at *;go_upto_region 7 with (fail)
     refine wp_region_still_tail 9 (by kernel_rfl) (by kernel_rfl) ?_;simp only [List.take_succ_cons,List.take_zero,List.drop_succ_cons,List.drop_zero];repeat still_step
     refine wpStill_nil ?_;go_wp2_with (go_at_call 82;refine HC.out.mono ?_;rintro en w3 ⟨rfl,v',Qg,hO3,hb3,hv3⟩)
     go_end0
     refine ⟨rfl,v',by rw [HP2.out];exact Qg,by rw [HP1.out];exact hO3,?_,?_⟩
     ·refine HB7.out.trans hb3 (fun _ _ e=>e) (fun k hk e=>?_)
      rcases e with e | e
      ·exact .inl e
      ·rcases HV5.out with e2 | ⟨k2,e2,e3⟩
       ·exact .inr (e2.symm.trans e)
       ·rw [e2] at e
        cases e
        omega
     ·rcases hv3 with e2 | ⟨k2,e2,e3⟩
      ·rcases HV5.out with e4 | ⟨k3,e4,e5⟩
       ·exact .inl (e2.trans e4)
       ·exact .inr ⟨k3,e2.trans e4,e5⟩
      ·exact .inr ⟨k2,e2,Nat.le_trans HB7.out.size e3⟩
end Go.Proofs.YtkkpjonfaflkmaaGreatDoor.T
namespace Go.Proofs.YtkkpjonfaflkmaaGreatDoor.T
open Go.RowKit Go.Proofs.aj.aI Go.Proofs.aj.aY Go.Proofs.aj.bq
theorem yI {i:Nat} (h:i<=1000000000000):wrap64 ((i:Int)+1)=((i+1:Nat):Int):=by unfold wrap64;omega
theorem fB (a0:ByteArray) {i:Nat} (h:i < a0.size):(bytesOf a0).drop i=bt a0 (i:Int)::(bytesOf a0).drop (i+1):=by
 rw [um a0 i h];exact drop_at _ _ (by rw [bytesOf_length];exact h)
theorem sV (L:List Int) (h:∀ x∈L,0<=x/\x < 256):(strOfNums L).size=L.length:=by simp [strOfNums,ByteArray.size]
theorem yJ (a0:ByteArray):strOfNums (bytesOf a0)=a0:=by
 apply pO
 rw [bW _ (eG a0)]
end Go.Proofs.YtkkpjonfaflkmaaGreatDoor.T
namespace Go.Proofs.YtkkpjonfaflkmaaGreatDoor.T
open Go.RowKit Go.Proofs.aj.aI Go.Proofs.aj.aY Go.Proofs.aj.bq
attribute [local go_sem] eY eZ gH gI dV dW fq fu
def bR.l0:Nat->ByteArray->Int->Option (Bool)
 | 0,_,_=>none
 | k+1,x0,x3=>if x3 < (x0.size:Int) then (if 0<=x3 then (if (bt x0 x3) < 32 then (some false) else (if (bt x0 x3) > 126 then (some false) else (bR.l0 k x0 (wrap64 (x3+1))))) else (none)) else (some true)
def bR.f (k:Nat) (a0:ByteArray):Option (Bool):=bR.l0 k a0 0
set_option maxHeartbeats 8000000 in
set_option maxRecDepth 100000 in
theorem bR.calls (k:Nat) (a0:ByteArray) (r:Bool) (w:World) (h:bR.f k a0=some r) :
  Calls Tryz.prog 43 #[.string a0] w fun e w'=>e=.returned (.bool r)/\aG w w':=by
 have H:(bR.l0 k a0 0)=some r:=h;clear h;have H':=ah.mk H;clear H;go_enter Tryz.func43,Tryz.ntmps43
 go_wp2;go_loopg [3] k (fun kq v3 w'=>∃ (bZ:Int),v3=.int .i64 bZ/\ah (bR.l0 kq a0 bZ=some r)/\ah (kq<=k)/\aG w w')
 case atStart=>exact ⟨(0),(by first | rfl | (simp;done) | (simp [*];done)),H',⟨Nat.le_refl _⟩,by repeat (first | exact aG.refl _ | apply aG.step)⟩
 case round =>
  clear H';obtain ⟨bZ,rfl,HA,jY,⟨m1,rfl⟩⟩:=hrel;cases gk with
  | zero=>exact absurd HA.out (by simp [bR.l0])
  | succ k1 =>
   have H:=HA.out;clear HA;simp only [bR.l0] at H;by_cases c2:bZ < (a0.size:Int)
   rotate_left
   ·rw [if_neg c2] at H
    have kX:decide (bZ < (a0.size:Int))=false:=decide_eq_false c2;clear c2;obtain rfl:=Option.some.inj H;go_wp2;go_ret;exact ⟨by first | rfl | (simp;done) | (simp [*];done),by repeat (first | exact aG.refl _ | apply aG.step)⟩
   rw [if_pos c2] at H;have kX:decide (bZ < (a0.size:Int))=true:=decide_eq_true c2;clear c2;by_cases c3:0<=bZ
   rotate_left
   ·rw [if_neg c3] at H
    exact absurd H (by simp)
   rw [if_pos c3] at H;have nH:decide (0<=bZ)=true:=decide_eq_true c3;clear c3;by_cases c5:(bt a0 bZ) < 32
   ·rw [if_pos c5] at H
    have kN:decide ((bt a0 bZ) < 32)=true:=decide_eq_true c5;clear c5;obtain rfl:=Option.some.inj H;have p4:0<=(bZ:Int):=of_decide_eq_true (by with_reducible assumption);have q4:bZ < (a0.size:Int):=of_decide_eq_true (by with_reducible assumption);have hx4:=dJ a0 bZ;replace p4:=eq_true p4;replace q4:=eq_true q4;go_wp2;go_ret;exact ⟨by first | rfl | (simp;done) | (simp [*];done),by repeat (first | exact aG.refl _ | apply aG.step)⟩
   rw [if_neg c5] at H;have kN:decide ((bt a0 bZ) < 32)=false:=decide_eq_false c5;clear c5;by_cases c7:(bt a0 bZ) > 126
   ·rw [if_pos c7] at H
    have sJ:decide (126 < (bt a0 bZ))=true:=decide_eq_true c7;clear c7;obtain rfl:=Option.some.inj H;have p4:0<=(bZ:Int):=of_decide_eq_true (by with_reducible assumption);have q4:bZ < (a0.size:Int):=of_decide_eq_true (by with_reducible assumption);have hx4:=dJ a0 bZ;replace p4:=eq_true p4;replace q4:=eq_true q4;have p6:0<=(bZ:Int):=of_decide_eq_true (by with_reducible assumption);have q6:bZ < (a0.size:Int):=of_decide_eq_true (by with_reducible assumption);have hx6:=dJ a0 bZ;replace p6:=eq_true p6;replace q6:=eq_true q6;go_wp2;go_ret;exact ⟨by first | rfl | (simp;done) | (simp [*];done),by repeat (first | exact aG.refl _ | apply aG.step)⟩
   rw [if_neg c7] at H;have sJ:decide (126 < (bt a0 bZ))=false:=decide_eq_false c7;clear c7;have H':=ah.mk H;clear H;have p4:0<=(bZ:Int):=of_decide_eq_true (by with_reducible assumption);have q4:bZ < (a0.size:Int):=of_decide_eq_true (by with_reducible assumption);have hx4:=dJ a0 bZ;replace p4:=eq_true p4;replace q4:=eq_true q4;have p6:0<=(bZ:Int):=of_decide_eq_true (by with_reducible assumption);have q6:bZ < (a0.size:Int):=of_decide_eq_true (by with_reducible assumption);have hx6:=dJ a0 bZ;replace p6:=eq_true p6;replace q6:=eq_true q6;go_wp2;go_roundg k1
   case measure=>have:=jY.out;omega
   case rel=>exact ⟨(wrap64 (bZ+1)),(by first | rfl | (simp;done) | (simp [*];done)),H',⟨by have:=jY.out;omega⟩,by repeat (first | exact aG.refl _ | apply aG.step)⟩
end Go.Proofs.YtkkpjonfaflkmaaGreatDoor.T
