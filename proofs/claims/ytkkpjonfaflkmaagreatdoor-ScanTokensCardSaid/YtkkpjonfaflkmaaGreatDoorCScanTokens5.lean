/- For ScanTokens: its callees return what is said of them. -/
import Derived.Test.YtkkpjonfaflkmaaGreatDoorCScanTokens4
import Derived.RangeFuncNested
import Derived.OwnWalkIn
import Derived.LoopIn
import Derived.TacticsInMore
import Derived.LoopNIn
import Derived.Deep.AppendSrc
namespace Go.Proofs.YtkkpjonfaflkmaaGreatDoor.T
open Go.RowKit Go.Maps Go.Proofs.ah.aT Go.Proofs.ah.bn Go.Proofs.ah.bA
set_option linter.unusedSimpArgs false
set_option linter.unusedVariables false
def encS (v:Value):Option (DataW Unit × List MemPlace) :=
 match v with
 | .slice none n c=>some (.agg [.lit (.int .i64 n),.lit (.int .i64 c)],[])
 | .slice (some ⟨g,o,none⟩) n c=>some (.agg [.lit (.int .i64 g),.lit (.int .i64 o),.lit (.int .i64 n),.lit (.int .i64 c)],[])
 | _=>none
theorem Qi {v v':Value} {d:DataW Unit} {p p':List MemPlace} (h:encS v=some (d,p)) (h':encS v'=some (d,p')):v=v':=by
 unfold encS at h h';split at h
 ·split at h'
  ·simp at h h'
   obtain ⟨rfl,_⟩:=h;obtain ⟨h',_⟩:=h';simp at h'
   obtain ⟨h1,h2⟩:=h';cases Int.ofNat_inj.1 h1;cases Int.ofNat_inj.1 h2;rfl
  ·simp at h h'
   obtain ⟨rfl,_⟩:=h;obtain ⟨h',_⟩:=h';simp at h'
  ·cases h'
 ·split at h'
  ·simp at h h'
   obtain ⟨rfl,_⟩:=h;obtain ⟨h',_⟩:=h';simp at h'
  ·simp at h h'
   obtain ⟨rfl,_⟩:=h;obtain ⟨h',_⟩:=h';simp at h'
   obtain ⟨h1,h2,h3,h4⟩:=h';cases Int.ofNat_inj.1 h1;cases Int.ofNat_inj.1 h2;cases Int.ofNat_inj.1 h3;cases Int.ofNat_inj.1 h4;rfl
  ·cases h'
 ·cases h
def uS (ps:List (Int × ByteArray)) (c:Int):List ByteArray:=(ps.filter fun p=>decide (p.1=c)).map (·.2)
structure Aj (W:World) (b base:Nat) (ps:List (Int × ByteArray)) (hd:Int->Value) (D:DataW Unit):Prop where
 map:W.ownsMap Tryz.prog 5 encS b ps.length D
 at_:∀ c,0<=c->c < 256->∃ d,encS (hd c)=some (d,[])/\D.atKey (.int .u8 c) (.agg [.lit (.int .i64 0),.lit (.int .i64 0)])=d
 row:∀ c,W.ownsRow base 9 1 (hd c) (uS ps c).length ((uS ps c).map Value.string)
 apart:∀ c c',c≠c'->(hd c).ownBlock=none\/(hd c).ownBlock≠(hd c').ownBlock
 lt:b < base
theorem Yl (w:World):(zeroValue 43).run Tryz.prog w=.ok (.slice none 0 0) w:=by kernel_rfl
theorem Qj:Keyed Tryz.prog 5:=int_keyed Tryz.underlying5
theorem Qk {x:Int} (h0:0<=x) (h1:x < 256):keyOf Tryz.prog 5 (.int .u8 x)=some (.int .u8 x):=keyOf_int_mk Tryz.underlying5 (WalkArith.wf_u8 ⟨h0,by omega⟩)
theorem Aj.look {W:World} {b base:Nat} {ps:List (Int × ByteArray)} {hd:Int->Value} {D:DataW Unit} (h:Aj W b base ps hd D) (c:Int) (h0:0<=c) (h1:c < 256) :
  (Instr.lookup 91 (.map (some b)) (.int .u8 c) false).run Tryz.prog W=.ok (hd c) W:=by
 obtain ⟨v,p,hrun,hv⟩:=h.map.lookup Qj Tryz.underlying91 (Yl W) (zd:=.agg [.lit (.int .i64 0),.lit (.int .i64 0)]) (zp:=[]) rfl (Qk h0 h1);obtain ⟨d,h2,h3⟩:=h.at_ c h0 h1;rw [h3] at hv;rw [hrun,Qi hv h2]
theorem Aj.blk {W W':World} {b base:Nat} {ps:List (Int × ByteArray)} {hd:Int->Value} {D:DataW Unit} (h:Aj W b base ps hd D) (he:W'.heap[b]?=W.heap[b]?) (hr:∀ c g,(hd c).ownBlock=some g->W'.heap[g]?=W.heap[g]?):Aj W' b base ps hd D:=by
 refine ⟨?_,h.at_,fun c=>?_,h.apart,h.lt⟩
 ·obtain ⟨es,clock,hb,rest⟩:=h.map
  exact ⟨es,clock,he.trans hb,rest⟩
 ·obtain ⟨h1,h2⟩:=h.row c
  refine ⟨h1,h2.imp id ?_⟩;rintro ⟨g,cap,cur,hv,hbg,hg,rest⟩
  exact ⟨g,cap,cur,hv,hbg,(hr c g (by rw [hv];rfl)).trans hg,rest⟩
theorem Aj.kept {W W':World} {b base:Nat} {ps:List (Int × ByteArray)} {hd:Int->Value} {D:DataW Unit} (h:Aj W b base ps hd D) (hb:Below W.heap.size W W'):Aj W' b base ps hd D :=
 h.blk (hb.block _ h.map.lt) (fun c g hg=>hb.block _ ((h.row c).lt g hg).2)
theorem Aj.step {W W1 w':World} {b base:Nat} {ps:List (Int × ByteArray)} {hd:Int->Value} {D:DataW Unit} (h:Aj W b base ps hd D) (hw1:Below W.heap.size W W1) (c:Int) (h0:0<=c) (h1:c < 256) (x:ByteArray) (g cap:Nat) (hps:ps.length<=1000)
  (hown:w'.ownsRow base 9 1 (.slice (some ⟨g,0,none⟩) ((uS ps c).length+1) cap) ((uS ps c).length+1) ((uS ps c).map Value.string++[.string x])) (hg:W1.grownBy w' (hd c).ownBlock) (hloc:(hd c).ownBlock=some g\/W.heap.size<=g) (hbw:b < W.heap.size) :
  ∃ w2 D' hd',(Instr.mapUpdate 91 (.map (some b)) (.int .u8 c) (.slice (some ⟨g,0,none⟩) ((uS ps c).length+1) cap)).run Tryz.prog w'=.ok () w2/\Aj w2 b base (ps++[(c,x)]) hd' D'/\w'.grownBy w2 (some b):=by
 have hne:∀ c',c'≠c->∀ g',(hd c').ownBlock=some g'->w'.heap[g']?=W.heap[g']?:=by
  intro c' hc' g' hg'
  have hl:=((h.row c').lt g' hg').2;refine (hg.block g' (by have:=hw1.size;omega) ?_).trans (hw1.block _ hl);intro e
  rcases h.apart c' c hc' with e1 | e1
  ·rw [e1] at hg';cases hg'
  ·exact e1 (by rw [hg',e])
 have hbb:w'.heap[b]?=W.heap[b]?:=by
  refine (hg.block b (by have:=hw1.size;omega) ?_).trans (hw1.block _ hbw);intro e
  have:=((h.row c).lt b e.symm).1;have:=h.lt;omega
 have hmap:w'.ownsMap Tryz.prog 5 encS b ps.length D:=by
  obtain ⟨es,clock,hb,rest⟩:=h.map;exact ⟨es,clock,hbb.trans hb,rest⟩
 obtain ⟨w2,hrun,hm2,hg2⟩:=hmap.update Qj Tryz.underlying91 (by unfold maxLen;omega) (Qk h0 h1) (val:=.slice (some ⟨g,0,none⟩) ((uS ps c).length+1) cap) (d:=_) (ps:=[]) rfl;have hgb:g≠b:=by have:=(hown.lt g rfl).1;have:=h.lt;omega
 have hlist:∀ c',uS (ps++[(c,x)]) c'=if c'=c then uS ps c'++[x] else uS ps c':=fun c'=>by
  unfold uS;rw [List.filter_append,List.map_append];by_cases e:c'=c
  ·rw [if_pos e];simp [e]
  rw [if_neg e];have:¬ c=c':=fun q=>e q.symm
  simp [this]
 refine ⟨w2,_,fun c'=>if c'=c then .slice (some ⟨g,0,none⟩) ((uS ps c).length+1) cap else hd c',hrun,⟨by rw [List.length_append];exact hm2,fun c' h0' h1'=>?_,fun c'=>?_,fun c' c'' hcc=>?_,h.lt⟩,hg2⟩
 ·by_cases e:c'=c
  ·subst e
   simp only [if_true];exact ⟨_,rfl,atKey_put_same hmap.isMap (show WideAt.IsKeyLit (.int .u8 c') from trivial) _ _⟩
  simp only [e,if_false];obtain ⟨d,h2,h3⟩:=h.at_ c' h0' h1';refine ⟨d,h2,?_⟩;rw [atKey_put_other (by simpa using e)];exact h3
 ·rw [hlist]
  by_cases e:c'=c
  ·subst e
   simp only [if_true];rw [List.length_append,List.map_append];have:=hown.kept hg2 (.inr (by simp [Value.ownBlock];exact hgb));exact this
  simp only [e,if_false];obtain ⟨r1,r2⟩:=h.row c';refine ⟨r1,r2.imp id ?_⟩;rintro ⟨g',cap',cur',hv,hbg,hg',rest⟩
  have hob:(hd c').ownBlock=some g':=by rw [hv];rfl
  have hlt':g' < w'.heap.size:=by have:=((h.row c').lt g' hob).2;have:=hw1.size;have:=hg.size;omega
  exact ⟨g',cap',cur',hv,hbg,(hg2.block g' hlt' (by intro e1;cases e1;have:=h.lt;omega)).trans ((hne c' e g' hob).trans hg'),rest⟩
 ·have LV:∀ c',c'≠c->(hd c').ownBlock=none\/(hd c').ownBlock≠some g:=by
   intro c' e
   rcases hloc with hl | hl
   ·rw [<- hl];exact h.apart c' c e
   ·cases hv:(hd c').ownBlock with
    | none=>exact .inl rfl
    | some g' =>
     have:=((h.row c').lt g' hv).2;exact .inr (by intro e1;cases e1;omega)
  by_cases e:c'=c
  ·have e2:c''≠c:=fun q=>hcc (by rw [e,q])
   simp only [e,e2,if_true,if_false];refine .inr ?_;rcases LV c'' e2 with q | q
   ·rw [q];simp [Value.ownBlock]
   ·exact fun q2=>q q2.symm
  by_cases e2:c''=c
  ·simp only [e,e2,if_true,if_false]
   exact LV c' e
  simp only [e,e2,if_false];exact h.apart c' c'' hcc
def jH:List (Int × ByteArray):=S.signs.map fun l=>(l.headD 0,strOfNums l)
theorem Bv:jH.length=35:=by decide
def DF:ByteArray:=⟨(([92,61,61,32,92,62,62,32,92,60,60,32,62,62,61,32,60,60,61,32,42,42,32,47,47,32,124,124,32,38,38,32,61,61,32,92,61,32,92,62,32,92,60,32,62,61]:List UInt8).append [32,60,61,32,62,62,32,60,60,32,62,60,32,60,62,32,43,32,45,32,42,32,47,32,37,32,124,32,38,32,61,32,62,32,60,32,92,32,40,32,41,32,44,32,58,32,59]).toArray⟩
theorem NG:(Lib.fields DF.data.toList).map (fun l=>Value.string ⟨l.toArray⟩)=jH.map fun p=>Value.string p.2:=by
 have h:(Lib.fields DF.data.toList).map (fun l=>(⟨l.toArray⟩:ByteArray))=jH.map (·.2):=by decide +kernel
 have h2:=congrArg (List.map Value.string) h;rw [List.map_map,List.map_map] at h2;exact h2
theorem Tt:(Lib.fields DF.data.toList).length=35:=by decide +kernel
theorem Ql:∀ (j:Nat) b,DF.data.toList[j]?=some b->b.toNat < 128:=fun j b hb =>
 of_decide_eq_true (List.all_eq_true.1 (show DF.data.toList.all (fun b=>decide (b.toNat < 128))=true by decide +kernel) b (List.mem_of_getElem? hb))
theorem Tv:∀ k:Fin 35,(bytesOf (jH.getD k.val (0,⟨#[]⟩)).2).headD 0=(jH.getD k.val (0,⟨#[]⟩)).1/\(bytesOf (jH.getD k.val (0,⟨#[]⟩)).2)≠[]/\0<=(jH.getD k.val (0,⟨#[]⟩)).1/\(jH.getD k.val (0,⟨#[]⟩)).1 < 256:=by decide +kernel
theorem Aj.aaZ (w:World) (o:Obj):Aj ((w.alloc (.map #[] 0)).alloc o) w.heap.size (w.heap.size+2) [] (fun _=>.slice none 0 0) (.map []) :=
 ⟨(World.ownsMap_made _ _ _ _).alloc o,fun c _ _=>⟨_,rfl,rfl⟩,fun c=>World.ownsRow_nil _ _ _ _,fun c c' _=>.inl rfl,by omega⟩
set_option maxRecDepth 100000 in
set_option maxHeartbeats 4000000 in
theorem JX.calls (w:World) (hT:Lib.TabIs Tryz.prog (w.alloc (.map #[] 0)) "strings.asciiSpace" .u8 Lib.asciiSpaceTab) :
  Calls Tryz.prog 88 #[] w fun e w'=>e=.returned (.map (some w.heap.size))/\Below w.heap.size w w'/\∃ hd D,Aj w' w.heap.size (w.heap.size+2) jH hd D:=by
 have hmm:=@run_makeMap Tryz.prog;have hfi:=Tryz.strings_Fields_laid DF (w.alloc (.map #[] 0)) (by decide) Ql hT;rw [Tt,NG] at hfi;have HFI:=Lib.hid hfi;have HI0:=aj.mk (Aj.aaZ w (.cells (jH.map fun p=>Value.string p.2).toArray 9));have mE:aj (((w.alloc (.map #[] 0)).alloc (.cells (jH.map fun p=>Value.string p.2).toArray 9)).heap[w.heap.size+1]?=some (.cells (jH.map fun p=>Value.string p.2).toArray 9 (0,0))):=⟨by
  have:=heap_alloc_new (w.alloc (.map #[] 0)) (.cells (jH.map fun p=>Value.string p.2).toArray 9);rwa [World.size_alloc] at this⟩
 have HB0:aj (Below w.heap.size w ((w.alloc (.map #[] 0)).alloc (.cells (jH.map fun p=>Value.string p.2).toArray 9))):=⟨ay (ay (Below.refl _ _) _) _⟩;have HS0:aj (w.heap.size+2<=((w.alloc (.map #[] 0)).alloc (.cells (jH.map fun p=>Value.string p.2).toArray 9)).heap.size):=⟨by simp⟩;clear hfi hT;go_enter Tryz.func88,Tryz.ntmps88
 go_wp2_with (go_at_call 122;refine HFI.out.mono ?_;rintro e w1 ⟨rfl,rfl⟩)
 obtain ⟨W0,hW0⟩:∃ W0,(w.alloc (.map #[] 0)).alloc (.cells (jH.map fun p=>Value.string p.2).toArray 9)=W0:=⟨_,rfl⟩;rw [hW0] at HI0 mE HB0 HS0 |-
 clear hW0 HFI;generalize hH:w.heap.size=H at *;obtain ⟨i0,hi,hz0,hz1,hz2⟩:=info_parts (show (Tryz.prog.info? 9).map (fun i=>(i.zero,i.size,i.bytes))=some (some (.string ⟨#[]⟩),1,16) by kernel_rfl);go_loopg [3,7] 35 (fun gg _ s7 wr=>∃ (kk:Nat) (hd:Int->Value) (D:DataW Unit),kk<=35/\35 - kk<=gg/\s7=.int .i64 kk/\aj (Aj wr H (H+2) (jH.take kk) hd D)/\aj (wr.heap[H+1]?=some (.cells (jH.map fun p=>Value.string p.2).toArray 9 (0,0)))/\aj (Below H w wr)/\aj (H+2<=wr.heap.size))
 case atStart=>exact ⟨0,_,_,by omega,by omega,rfl,HI0,mE,HB0,HS0⟩
 case round =>
  obtain ⟨kk,hd,D,hkk,hg,rfl,HI,HR,HB,HS⟩:=hrel;by_cases hlt:kk < 35
  rotate_left
  ·obtain rfl:kk=35:=by omega
   go_wp2;go_ret;rw [hH];refine ⟨rfl,HB.out,hd,D,?_⟩;have:=HI.out;rw [List.take_of_length_le (by rw [Bv];omega)] at this;exact this
  have hltz:(kk:Int) < 35:=by omega
  obtain ⟨q1,q2,q3,q4⟩:=Tv ⟨kk,hlt⟩;simp only at q1 q2 q3 q4;have hget:jH[kk]?=some (jH.getD kk (0,⟨#[]⟩)):=by
   rw [List.getD_eq_getElem?_getD,List.getElem?_eq_getElem (by rw [Bv];exact hlt)];rfl
  have htake:jH.take (kk+1)=jH.take kk++[jH.getD kk (0,⟨#[]⟩)]:=by
   rw [List.take_add_one,hget];rfl
  have hcell:wr.cell? ⟨H+1,kk,none⟩=some (.string (jH.getD kk (0,⟨#[]⟩)).2):=by
   refine (au HR.out kk).trans ?_;rw [List.getElem?_toArray,List.getElem?_map,hget];rfl
  obtain ⟨p,hp⟩:∃ p,jH.getD kk (0,⟨#[]⟩)=p:=⟨_,rfl⟩;rw [hp] at q1 q2 q3 q4 htake hcell;obtain ⟨c,x⟩:=p;simp only at q1 q2 q3 q4 hcell;obtain ⟨y,M,hyM⟩:∃ y M,bytesOf x=y::M:=by
   rcases hb:bytesOf x with _ | ⟨y,M⟩
   ·exact absurd hb q2
   ·exact ⟨y,M,rfl⟩
  obtain ⟨hz,hby⟩:=Bp x y M hyM;rw [hyM] at q1;obtain rfl:y=c:=q1;have hzi:(0:Int) < (x.size:Int):=by omega
  have HI1:aj (Aj wr.drew H (H+2) (jH.take kk) hd D):=⟨⟨HI.out.map,HI.out.at_,HI.out.row,HI.out.apart,HI.out.lt⟩⟩;have HI2:aj (Aj (wr.alloc (.cells #[.string x] 9)).drew H (H+2) (jH.take kk) hd D):=⟨HI.out.kept (aD (ay (Below.refl _ _) _))⟩;have alK:=HI1.out.look y q3 q4;have hlk2:=HI2.out.look y q3 q4;have HT:=aj.mk htake;have Qm:(jH.take kk).length<=1000:=by rw [List.length_take];omega
  have HPL:=aj.mk Qm;have hgl:(uS (jH.take kk) y).length<=1000:=by
   unfold uS;rw [List.length_map];exact Nat.le_trans (List.length_filter_le _ _) Qm
  obtain ⟨gn,hgn⟩:∃ gn,(uS (jH.take kk) y).length=gn:=⟨_,rfl⟩;have HGN:=aj.mk hgn;rw [hgn] at hgl;clear q2 hyM hget htake Qm hgn;go_wp2;go_region_law ((refine step_append_lies _ rfl (.tmp 17) (.tmp 19) 43 rfl (H+2) 9 i0 (.string ⟨#[]⟩) 1 16 Tryz.underlying43 hi hz0 hz1 hz2 rfl (by decide) (hd y) gn ((uS (jH.take kk) y).map Value.string) rfl (by rw [<- HGN.out];exact HI2.out.row y) ⟨wr.heap.size,0,none⟩ 1 1 [.string x] rfl rfl (cell_one_new _ _ _) (by simp [Value.oneCell']) (by decide) (by unfold maxLen;omega) (by omega) (by have:=HS.out;simp;omega) (wr.heap.size+1) (by simp) ?_;intro g cap w' hown' hgr hl hlt';obtain ⟨w2,D2,hd2,hrun,hI2,hg2⟩:=HI.out.step (W1:=(wr.alloc (.cells #[.string x] 9)).drew) (aD (ay (Below.refl _ _) _)) y q3 q4 x g cap HPL.out (by rw [HGN.out];exact hown') hgr (hl.imp id (fun e=>by omega)) HI.out.map.lt;rw [HGN.out] at hrun;have HI3:=aj.mk hI2;have HG3:=aj.mk (And.intro hgr hg2);clear hI2 hg2 hgr hown' hl))
  all_goals
   go_wp2;go_roundg (35 - (kk+1))
   case measure=>omega
   case rel =>
    obtain ⟨k1,k2⟩:=HG3.out;have abb:∀ k,(hd y).ownBlock=some k->H+2<=k:=fun k e=>((HI.out.row y).lt k e).1
    have hs1:=k1.size;have hs2:=k2.size;have hs0:=HS.out;have hs3:((wr.alloc (.cells #[.string x] 9)).drew).heap.size=wr.heap.size+1:=World.size_alloc _ _;refine ⟨kk+1,hd2,D2,by omega,by omega,by go_num,⟨by rw [HT.out];exact HI3.out⟩,⟨?_⟩,⟨?_⟩,⟨by omega⟩⟩
    ·refine (k2.block _ (by omega) (by simp)).trans ((k1.block _ (by omega) (by intro e;have:=abb _ e.symm;omega)).trans ?_)
     exact (Below.heap_alloc _ _ _ (by omega)).trans HR.out
    ·have b0:Below H w (wr.alloc (.cells #[.string x] 9)):=HB.out.alloc (by omega) _
     have b1:Below H w (wr.alloc (.cells #[.string x] 9)).drew:=⟨b0.os,b0.tape,b0.output,b0.size,b0.block⟩;exact (b1.grown k1 (by omega) (fun k e=>by have:=abb k e;omega)).grown k2 (by omega) (fun k e=>by cases e;omega)
theorem DI (c:Int):uS jH c=(S.signs.filter fun l=>decide (l.headD 0=c)).map strOfNums:=by
 unfold uS jH;rw [List.filter_map,List.map_map];rfl
theorem vZ:∀ l∈S.signs,l≠[]/\l.length<=3/\∀ x∈l,0<=x/\x < 256:=by decide
theorem NH (c:Int) (t:List Int):(uS jH c).find? (fun x=>(bytesOf x).isPrefixOf (c::t))=(S.signs.find? (fun x=>x.isPrefixOf (c::t))).map strOfNums:=by
 rw [DI,List.find?_map,List.find?_filter];congr 1
 have key:∀ ls:List (List Int),(∀ l∈ls,l≠[]/\l.length<=3/\∀ x∈l,0<=x/\x < 256) ->
   ls.find? (fun a=>decide ((decide (a.headD 0=c))=true/\((fun x=>(bytesOf x).isPrefixOf (c::t)) ∘ strOfNums) a=true))=ls.find? (fun x=>x.isPrefixOf (c::t)):=by
  intro ls
  induction ls with
  | nil=>intro _;rfl
  | cons l ls ih =>
   intro h
   obtain ⟨h1,_,h2⟩:=h l (by simp);have e:decide ((decide (l.headD 0=c))=true/\((fun x=>(bytesOf x).isPrefixOf (c::t)) ∘ strOfNums) l=true)=l.isPrefixOf (c::t):=by
    simp only [Function.comp_apply];simp only [fq l h2];rcases l with _ | ⟨a,l'⟩
    ·exact absurd rfl h1
    ·by_cases ha:a=c
     ·subst ha;simp only [List.headD_cons,decide_true,true_and,Bool.decide_eq_true]
     ·simp [List.isPrefixOf,ha]
   rw [List.find?_cons,List.find?_cons,e,ih (fun l' hl'=>h l' (by simp [hl']))]
 exact key S.signs vZ
structure ScM (s:Nat) (src:ByteArray) (i line:Int) (mb base:Nat) (hd:Int->Value) (D:DataW Unit) (w:World):Prop where
 sc:Sc s src i line (.map (some mb)) w
 sg:Aj w mb base jH hd D
 nm:mb≠s
 nr:∀ c g,(hd c).ownBlock=some g->g≠s
theorem Aj.but {s:Nat} {w w':World} {mb base:Nat} {hd:Int->Value} {D:DataW Unit} (h:Aj w mb base jH hd D) (nm:mb≠s) (nr:∀ c g,(hd c).ownBlock=some g->g≠s) (hb:But (·=s) w w'):Aj w' mb base jH hd D :=
 h.blk (hb.block _ h.map.lt nm) (fun c g hg=>hb.block _ ((h.row c).lt g hg).2 (nr c g hg))
set_option maxRecDepth 100000 in
set_option maxHeartbeats 4000000 in
theorem NI.calls (s:Nat) (src:ByteArray) (i line mb base:Nat) (hd:Int->Value) (D:DataW Unit) (w:World) (hsz:src.size<=100000) (hl:line<=1000000000) (hi:i < src.size) (h:ScM s src i line mb base hd D w) :
  Calls Tryz.prog 125 #[.pointer (some ⟨s,0,none⟩)] w fun e w'=>But (·=s) w w'/\sJ s src (.map (some mb)) i line e w' (S.iY ((bytesOf src).drop i)):=by
 have HM:=aj.mk h;obtain ⟨n,hn⟩:∃ n,src.size=n:=⟨_,rfl⟩;obtain ⟨L,hL⟩:∃ L,bytesOf src=L:=⟨_,rfl⟩;have HN:aj (L.length=n):=⟨by rw [<- hL,bytesOf_length];exact hn⟩;have hbi:=kQ src i hi;rw [hL] at hbi |-
 have hdi:=drop_at L i (by rw [HN.out];omega);obtain ⟨c,hc⟩:∃ c,L.getD i 0=c:=⟨_,rfl⟩;have hcr:0<=c/\c < 256:=by rw [<- hc];exact gK src _ (by rw [hL];exact lK _ _ (by rw [HN.out];omega))
 rw [hc] at hbi hdi;have NJ:=aj.mk hdi;have HL:=aj.mk hL;have HX:aj (bytesOf (src.extract i n)=L.drop i):=⟨by rw [<- hn,sH,hL]⟩;have hz0:(0:Int)<=(i:Int):=by omega
 have hz1:(i:Int) < (n:Int):=by omega
 have hz2:(i:Int)<=(n:Int):=by omega
 obtain ⟨G,hG⟩:∃ G,uS jH c=G:=⟨_,rfl⟩;have hrow:=h.sg.row c;rw [hG] at hrow;obtain ⟨k,hk⟩:∃ k,G.length=k:=⟨_,rfl⟩;rw [hk] at hrow;obtain ⟨A,cap,hv⟩:∃ A cap,hd c=.slice A k cap:=by
  rcases hrow.2 with ⟨e,e2⟩ | ⟨g,cap,cur,e,_⟩
  ·exact ⟨_,_,by rw [e,e2]⟩
  ·exact ⟨_,_,e⟩
 have hlk:∀ y:nD s src i line (.map (some mb)) w,(Instr.lookup 91 (.map (some mb)) (.int .u8 c) false).run Tryz.prog y.world=.ok (.slice A k cap) y.world:=fun y=>by
  rw [<- hv];exact (h.sg.but h.nm h.nr y.but).look c hcr.1 hcr.2
 have hkb:k<=35:=by
  rw [<- hk,<- hG];unfold uS;rw [List.length_map];have:=List.length_filter_le (fun p:Int × ByteArray=>decide (p.1=c)) jH;rw [Bv] at this;exact this
 have hfind:=NH c (L.drop (i+1));rw [hG,<- hdi] at hfind;have hgr:∀ x∈G,x.size<=3/\∃ l,x=strOfNums l:=by
  intro x hx
  rw [<- hG,DI] at hx;obtain ⟨l,hl,rfl⟩:=List.mem_map.1 hx;obtain ⟨_,h1,h2⟩:=vZ l (List.mem_filter.1 hl).1;refine ⟨?_,l,rfl⟩;rw [<- bytesOf_length,fq l h2];exact h1
 have LW:=aj.mk hgr;clear hgr;have HF:=aj.mk hfind;have alL:=aj.mk hrow;have HG:=aj.mk hG;have HV:=aj.mk hv;have HK:=aj.mk hk;have HW0:aj (Sc s src i line (.map (some mb)) w.drew/\But (·=s) w w.drew):=⟨h.sc,(But.refl _ w).drew⟩;have cc0:∀ y:nD s src i line (.map (some mb)) w,y.world.cell? ⟨s,0,none⟩=some (.string src):=nD.c0;have OQ:∀ y:nD s src i line (.map (some mb)) w,y.world.cell? ⟨s,1,none⟩=some (.int .i64 i):=nD.c1;have cc3:∀ y:nD s src i line (.map (some mb)) w,y.world.cell? ⟨s,3,none⟩=some (.map (some mb)):=nD.c3;have hne:Nonempty (nD s src i line (.map (some mb)) w):=⟨⟨w.drew,HW0.out.1,HW0.out.2⟩⟩;clear hfind hrow hG hv hk hL hc hdi hcr;rw [hn] at hsz hi;go_enter Tryz.func125,Tryz.ntmps125
 go_upto_region 1 with (fail)
 refine dM (fun W=>∃ y:nD s src i line (.map (some mb)) w,W=y.world) (by kernel_rfl) (by kernel_rfl) ⟨⟨w.drew,HW0.out.1,HW0.out.2⟩,rfl⟩ ?_;repeat (go_big_quiet_step (fail))
 refine wpQuiet_nil ?_;rintro W ⟨y,rfl⟩
 go_wp2;have HY0:aj (∃ y2:nD s src i line (.map (some mb)) w,y.world=y2.world):=⟨⟨y,rfl⟩⟩;generalize y.world=W0 at *;go_loopg [4,20] (k+1) (fun gg _ s20 wr=>∃ j:Nat,j<=k/\k+1 - j<=gg/\s20=.int .i64 j/\aj (∃ y2:nD s src i line (.map (some mb)) w,wr=y2.world)/\aj ((G.drop j).find? (fun x=>(bytesOf x).isPrefixOf (L.drop i))=G.find? (fun x=>(bytesOf x).isPrefixOf (L.drop i))))
 case atStart=>exact ⟨0,Nat.zero_le _,by omega,rfl,HY0,⟨rfl⟩⟩
 case round =>
  obtain ⟨j,hj,hg,rfl,HY,HA⟩:=hrel;obtain ⟨y2,hy2⟩:=HY.out;have hs2:=y2.sc;have hb2:=y2.but;rw [<- hy2] at hs2 hb2;have HS2:=aj.mk hs2;have HB2:=aj.mk hb2;have d1:=hs2.c1;have d2:=hs2.c2;have f1:=hs2.fr 1;clear hs2 hb2 hy2;by_cases hlt:j < k
  rotate_left
  ·obtain rfl:j=k:=by omega
   have hnone:S.signs.find? (fun x=>x.isPrefixOf (L.drop i))=none:=by
    have h1:=HF.out;have hG0:G.drop j=[]:=List.drop_eq_nil_of_le (by rw [HK.out];omega);rw [<- HA.out,hG0] at h1;cases h2:S.signs.find? (fun x=>x.isPrefixOf (L.drop i)) with
    | none=>rfl
    | some v=>rw [h2] at h1;cases h1
   have HT:aj (S.iY (L.drop i)=.err 13):=⟨by unfold S.iY;rw [hnone]⟩;have HFL:=Lib.hid (kU.calls (.pointer (some ⟨s,0,none⟩)) 13 line wr);clear hnone;go_wp2_with (go_at_call 97;refine HFL.out.mono ?_;rintro e w3 ⟨rfl,rfl⟩;unfold Fails)
   refine ⟨rfl,HB2.out,?_⟩;rw [HT.out];exact ⟨rfl,_,HS2.out⟩
  have hltz:(j:Int) < (k:Int):=by omega
  have hGl:j < G.length:=by rw [HK.out];exact hlt
  have hdj:G.drop j=G[j]::G.drop (j+1):=List.drop_eq_getElem_cons hGl;have hxm:G[j]∈G:=List.getElem_mem hGl;have hgj:(G.map Value.string)[j]?=some (.string G[j]):=by rw [List.getElem?_map,List.getElem?_eq_getElem hGl];rfl
  obtain ⟨x,hx⟩:∃ x,G[j]=x:=⟨_,rfl⟩;rw [hx] at hdj hxm hgj;have hr2:=(HM.out.sg.but HM.out.nm HM.out.nr HB2.out).row c;rw [HG.out,HK.out,HV.out] at hr2;rcases hr2.2 with ⟨_,e2⟩ | ⟨g,cap',cur,e,_⟩
  ·omega
  simp only [Value.slice.injEq] at e;obtain ⟨rfl,_,rfl⟩:=e;have hcell:wr.cell? ⟨g,j,none⟩=some (.string x):=by rw [hr2.cellAt j (by omega),hgj]
  obtain ⟨b,hb⟩:∃ b,(bytesOf x).isPrefixOf (L.drop i)=b:=⟨_,rfl⟩;have hcall:∀ W,Calls Tryz.prog 123 #[.string (src.extract i n),.string x] W fun e W'=>e=.returned (.bool b)/\W'=W:=fun W=>by
   have h:=Tryz.strings_HasPrefix (src.extract i n) x W;rw [tY,HX.out,hb] at h;exact h
  have hxs:=(LW.out x hxm).1;have HXL:=aj.mk (LW.out x hxm).2;have HC:=Lib.hid hcall;have HDJ:=aj.mk hdj;have HB:=aj.mk hb;clear hr2 hcall hdj hgj hx hxm hb;have hne2:Nonempty (nD s src i line (.map (some mb)) w):=hne;go_upto_region 4 with (fail)
  refine dM (fun W=>∃ y:nD s src i line (.map (some mb)) w,W=y.world) (by kernel_rfl) (by kernel_rfl) ⟨⟨wr.drew,HS2.out,HB2.out.drew⟩,rfl⟩ ?_;repeat (go_big_quiet_step ((rename_i y;(go_at_call 123;refine (HC.out _).mono ?_;rintro e w' ⟨rfl,rfl⟩;exact ⟨rfl,y,rfl⟩))))
  refine wpQuiet_nil ?_;rintro W ⟨y3,rfl⟩
  have JV:=aj.mk y3.sc;have HB3:=aj.mk y3.but;have c1:=y3.sc.c1;have fr1:=y3.sc.fr 1;generalize y3.world=W3 at *;cases b with
  | true =>
   have hfs:∃ l,S.signs.find? (fun x=>x.isPrefixOf (L.drop i))=some l/\x=strOfNums l/\x.size=l.length:=by
    have h1:=HF.out;rw [<- HA.out,HDJ.out,List.find?_cons] at h1;simp only [HB.out] at h1;cases h2:S.signs.find? (fun x=>x.isPrefixOf (L.drop i)) with
    | none=>rw [h2] at h1;cases h1
    | some v =>
     rw [h2] at h1;simp only [Option.map_some,Option.some.injEq] at h1;obtain ⟨_,_,h4⟩:=vZ v (List.mem_of_find?_eq_some h2);refine ⟨v,rfl,h1,?_⟩;rw [h1,<- bytesOf_length,fq v h4]
   obtain ⟨l,hl1,hl2,hl3⟩:=hfs;have HT:aj (S.iY (L.drop i)=.ok l l.length):=⟨by unfold S.iY;rw [hl1]⟩;have HL2:=aj.mk hl2;have HL3:=aj.mk hl3;clear hl1 hl2 hl3;obtain ⟨xn,hxn⟩:∃ xn,x.size=xn:=⟨_,rfl⟩;rw [hxn] at hxs;rw [hxn] at HL3;have hw:IntKind.i64.wrap ((i:Int)+(xn:Int))=(i:Int)+(xn:Int):=vC _ (by omega) (by omega);go_wp2_with fail
   go_ret;refine ⟨HB3.out.set _ _ rfl,?_⟩;rw [HT.out];refine ⟨by rw [HL2.out];rfl,?_⟩;rw [<- HL3.out];exact JV.out.set1 _
  | false =>
   go_wp2_with fail
   go_roundg (k+1 - (j+1))
   case measure=>omega
   case rel =>
    refine ⟨j+1,by omega,by omega,by go_num,⟨⟨_,JV.out,HB3.out⟩,rfl⟩,⟨?_⟩⟩;rw [<- HA.out,HDJ.out,List.find?_cons];simp only [HB.out]
end Go.Proofs.YtkkpjonfaflkmaaGreatDoor.T
namespace Go.Proofs.YtkkpjonfaflkmaaGreatDoor.T
open Go.RowKit Go.Proofs.ah.aT Go.Proofs.ah.bn Go.Proofs.ah.bA
set_option linter.unusedSimpArgs false
set_option linter.unusedVariables false
def JY:Go.Shelf.Ren:=⟨fun | 167=>106 | 166=>112 | 240=>132 | 276=>153 | 169=>107 | n=>n,fun | 0=>0 | 3=>3 | 4=>4 | 5=>5 | 9=>9 | 20=>20 | 37=>100 | 70=>124 | 72=>126 | 75=>128 | 76=>134 | 80=>94 | 127=>141 | 164=>160 | n=>n,fun | n=>n⟩
theorem Bw:Go.Proofs.Lays.n167 Tryz.prog JY:={
 mixed:=by kernel_rfl
 f167:=Tryz.func106.trans (congrArg some (by kernel_rfl))
 f240:=Tryz.func132.trans (congrArg some (by kernel_rfl))
 f276:=Tryz.func153.trans (congrArg some (by kernel_rfl))
 t0:=Tryz.underlying0
 a0:=Tryz.isAgg0
 z0:=Tryz.sizeOf0
 v0:=Tryz.zeroValue0
 t4:=Tryz.underlying4
 a4:=Tryz.isAgg4
 z4:=Tryz.sizeOf4
 v4:=Tryz.zeroValue4
 t5:=Tryz.underlying5
 a5:=Tryz.isAgg5
 z5:=Tryz.sizeOf5
 v5:=Tryz.zeroValue5
 t9:=Tryz.underlying9
 a9:=Tryz.isAgg9
 z9:=Tryz.sizeOf9
 v9:=Tryz.zeroValue9
 t20:=Tryz.underlying20
 a20:=Tryz.isAgg20
 z20:=Tryz.sizeOf20
 v20:=Tryz.zeroValue20
 t37:=Tryz.underlying100
 a37:=Tryz.isAgg100
 z37:=Tryz.sizeOf100
 v37:=Tryz.zeroValue100
 t70:=Tryz.underlying124
 a70:=Tryz.isAgg124
 z70:=Tryz.sizeOf124
 v70:=Tryz.zeroValue124
 t72:=Tryz.underlying126
 a72:=Tryz.isAgg126
 z72:=Tryz.sizeOf126
 v72:=Tryz.zeroValue126
 t75:=Tryz.underlying128
 a75:=Tryz.isAgg128
 z75:=Tryz.sizeOf128
 v75:=Tryz.zeroValue128
 t164:=Tryz.underlying160
 a164:=Tryz.isAgg160
 z164:=Tryz.sizeOf160
 v164:=Tryz.zeroValue160 }
theorem Bz:Go.Proofs.Lays.n166 Tryz.prog JY:={
 mixed:=by kernel_rfl
 f166:=Tryz.func112.trans (congrArg some (by kernel_rfl))
 f240:=Tryz.func132.trans (congrArg some (by kernel_rfl))
 f276:=Tryz.func153.trans (congrArg some (by kernel_rfl))
 t0:=Tryz.underlying0
 a0:=Tryz.isAgg0
 z0:=Tryz.sizeOf0
 v0:=Tryz.zeroValue0
 t3:=Tryz.underlying3
 a3:=Tryz.isAgg3
 z3:=Tryz.sizeOf3
 v3:=Tryz.zeroValue3
 t4:=Tryz.underlying4
 a4:=Tryz.isAgg4
 z4:=Tryz.sizeOf4
 v4:=Tryz.zeroValue4
 t9:=Tryz.underlying9
 a9:=Tryz.isAgg9
 z9:=Tryz.sizeOf9
 v9:=Tryz.zeroValue9
 t20:=Tryz.underlying20
 a20:=Tryz.isAgg20
 z20:=Tryz.sizeOf20
 v20:=Tryz.zeroValue20
 t37:=Tryz.underlying100
 a37:=Tryz.isAgg100
 z37:=Tryz.sizeOf100
 v37:=Tryz.zeroValue100
 t70:=Tryz.underlying124
 a70:=Tryz.isAgg124
 z70:=Tryz.sizeOf124
 v70:=Tryz.zeroValue124
 t72:=Tryz.underlying126
 a72:=Tryz.isAgg126
 z72:=Tryz.sizeOf126
 v72:=Tryz.zeroValue126
 t75:=Tryz.underlying128
 a75:=Tryz.isAgg128
 z75:=Tryz.sizeOf128
 v75:=Tryz.zeroValue128
 t164:=Tryz.underlying160
 a164:=Tryz.isAgg160
 z164:=Tryz.sizeOf160
 v164:=Tryz.zeroValue160 }
theorem xC:Builder.Extra Tryz.prog JY:={
 sizeBuilder:=by kernel_rfl
 liesBuilder:=by kernel_rfl
 t5:=Tryz.underlying5
 a5:=Tryz.isAgg5
 z5:=Tryz.sizeOf5
 v5:=Tryz.zeroValue5
 infoByte:=by kernel_rfl
 cellsByte:=by kernel_rfl
 sizeByte:=by kernel_rfl
 neB5:=by decide }
def wO (B b:Nat) (xs:List Int) (w:World):Prop:=Lib.IsBuilderF 126 5 B b (xs.map (Value.int .u8)) w
theorem wO.new (w:World):wO w.heap.size w.heap.size [] (w.alloc (.cells #[.pointer none,.slice none 0 0] 126)) :=
 .inl ⟨Nat.le_refl _,.slice none 0 0,heap_alloc_new w _,World.ownsRowF_nil _ _ _ _,by simp [Value.ownBlock]⟩
theorem Df (B b:Nat) (xs:List Int) (c:Int) (w:World) (h:wO B b xs w) (hl:xs.length<=100000000) (hB:B<=w.heap.size) :
  Calls Tryz.prog 106 #[.pointer (some ⟨b,0,none⟩),.int .u8 c] w fun e w'=>e=.returned .nilIface/\wO B b (xs++[c]) w'/\Below B w w':=by
 refine (Any.Builder_WriteByte_k Bw xC B b _ c w h (by rw [List.length_map];omega) hB).mono ?_;rintro e w' ⟨rfl,h1,h2,_⟩
 refine ⟨rfl,?_,h2⟩;unfold wO;rw [List.map_append];exact .inr h1
theorem zV (B b:Nat) (xs:List Int) (s:ByteArray) (w:World) (h:wO B b xs w) (hl:xs.length+s.size<=100000000) (hB:B<=w.heap.size) :
  Calls Tryz.prog 112 #[.pointer (some ⟨b,0,none⟩),.string s] w fun e w'=>e=.returned (.tuple #[.int .i64 s.size,.nilIface])/\wO B b (xs++bytesOf s) w'/\Below B w w':=by
 refine (Any.Builder_WriteString_k Bz xC B b _ s w h (by rw [List.length_map];omega) hB).mono ?_;rintro e w' ⟨rfl,h1,h2,_⟩
 refine ⟨rfl,?_,h2⟩;unfold wO;rw [List.map_append];have e:(bytesOf s).map (Value.int .u8)=Lib.strCells s:=by simp [bytesOf,Lib.strCells,Lib.byteCells,Function.comp_def]
 rw [e];exact .inr h1
theorem wh (B b:Nat) (xs:List Int) (w:World) (h:wO B b xs w) (hr:∀ x∈xs,0<=x/\x < 256) (hB:B<=w.heap.size) :
  Calls Tryz.prog 107 #[.pointer (some ⟨b,0,none⟩)] w fun e w'=>e=.returned (.string (strOfNums xs))/\wO B b xs w'/\Below B w w':=by
 have e:xs.map (Value.int .u8)=Lib.byteCells (xs.map fun x=>UInt8.ofNat x.toNat):=by
  simp only [Lib.byteCells,List.map_map];refine List.map_congr_left fun x hx=>?_
  obtain ⟨h0,h1⟩:=hr x hx;simp only [Function.comp_apply];congr 1
  rw [UInt8.toNat_ofNat_of_lt' (by simp [UInt8.size];omega)];omega
 unfold wO at h |-
 rw [e] at h |-
 refine (Tryz.Builder_String_any_k B b _ w h hB).mono ?_;rintro e' w' ⟨rfl,h1,h2,_⟩
 exact ⟨rfl,h1,h2⟩
end Go.Proofs.YtkkpjonfaflkmaaGreatDoor.T
namespace Go.Proofs.YtkkpjonfaflkmaaGreatDoor.T
open Go.RowKit
set_option linter.unusedSimpArgs false
set_option linter.unusedVariables false
def Rc (fn:FuncId) (tmps:Array Value) (ps:Array Tmp) (assign body:Code) (D:Nat) (st:LoopState) (pend:Option Code):Loop :=
 { state:=st,pending:=pend,fn:=fn,tmps:=tmps,params:=ps,assign:=assign,body:=body,defers:=D }
def Ak (w:World) (fn:FuncId) (tmps:Array Value) (ps:Array Tmp) (assign body:Code):World :=
 (w.alloc (.deferred (some []))).alloc (.loop (Rc fn tmps ps assign body w.heap.size .ready none))
variable {F:Fence} {n:Nat} {P:Program}
theorem BA {g:Operand} {ps:Array Tmp} {assign body:Code} {Q:Exit->Act->World->Prop} {a:Act} {w:World}
  (hro:F.round=none) (h1:1<=n) {gf:Nat} {lb:Array Value} (hg:a.eval g=.func (.func gf) #[] lb) (hFg:F.fn gf) (eg:∀ args w,(callFunc gf args).run P w=.ok (.enter gf args) w)
  (Rdy Dn:World->Prop)
  (hcall:∀ fn rd X,F.fn fn->rd=Rc fn a.tmps ps assign body w.heap.size .ready none->X.heap.size=w.heap.size+2->Below w.heap.size w X->X.heap[w.heap.size]?=some (.deferred (some []))->X.heap[w.heap.size+1]?=some (.loop rd) ->
   CallsIn F (n - 1) P gf (#[.func (.yield (w.heap.size+1)) #[] #[]]++lb) X fun e Z=>(∃ v,e=.returned v) /\
    ((Z.heap[w.heap.size+1]?=some (.loop rd)/\Rdy Z)\/(Z.heap[w.heap.size+1]?=some (.loop { rd with state:=.done,pending:=some .ret })/\Dn Z)))
  (wm:∀ Z r,w.heap.size+1 < Z.heap.size->Rdy Z->Q .normal { a with defers:={ target:=.collected w.heap.size,args:=#[] }::a.defers } (Z.putObj (w.heap.size+1) (.loop r)))
  (hdone:∀ Z r,w.heap.size+1 < Z.heap.size->Dn Z->Code.ret.wpIn F n P Q { a with defers:={ target:=.collected w.heap.size,args:=#[] }::a.defers } (Z.putObj (w.heap.size+1) (.loop r))) :
  (Code.rangeFunc g ps assign body).wpIn F n P Q a w:=by
 refine wpIn_rangeFunc ?_;intro fn hfn
 rw [hro];refine ⟨w.heap.size+1,[{ target:=.collected w.heap.size,args:=#[] }],Ak w fn a.tmps ps assign body,{ target:=.fn (.func gf) lb,args:=#[.func (.yield (w.heap.size+1)) #[] #[]] },Ak w fn a.tmps ps assign body,gf,
  #[.func (.yield (w.heap.size+1)) #[] #[]]++lb,Ak w fn a.tmps ps assign body,?_,?_,?_,?_,fun _=>h1,?_⟩
 ·exact run_enterLoop_outer _ _ _ _ _
 ·simp only [resolve,hg]
  simp [go_sem]
 ·intro f' hf'
  simp [Target.leads] at hf'
  subst hf';exact hFg
 ·simp [invoke,go_sem,eg]
 refine (hcall fn _ _ hfn rfl (by simp [Ak]) (((Below.refl _ w).alloc (Nat.le_refl _) _).alloc (by simp) _)
  ((Below.heap_alloc _ _ _ (by simp)).trans (World.alloc_heap_new w _)) (by have:=World.alloc_heap_new (w.alloc (.deferred (some []))) (.loop (Rc fn a.tmps ps assign body w.heap.size .ready none));rwa [World.size_alloc] at this)).mono ?_
 rintro e Z ⟨⟨v,rfl⟩,⟨hb,hR⟩ | ⟨hb,hD⟩⟩
 ·have hlt:=(Array.getElem?_eq_some_iff.1 hb).1
  exact ⟨none,_,run_endLoop (P:=P) hb (by simp [Rc]),wm _ _ hlt hR⟩
 ·have hlt:=(Array.getElem?_eq_some_iff.1 hb).1
  exact ⟨some .ret,_,run_endLoop (P:=P) hb (by simp),hdone _ _ hlt hD⟩
def GX (l:Nat) (R:Ending->World->Prop) (e:Exit) (W:World):Prop :=
 ∃ r,W.heap[l]?=some (.loop r)/\match e with
  | .normal=>R (.returned (.bool true)) (W.putObj l (.loop { r with state:=.ready,pending:=none }))
  | .ret=>R (.returned (.bool false)) (W.putObj l (.loop { r with state:=.done,pending:=some .ret }))
  | _=>False
theorem BD {l D:Nat} {r:Loop} {fn:FuncId} {tmps:Array Value} {ps:Array Tmp} {assign body:Code} {args:Array Value} {W:World} {R:Ending->World->Prop} (hrd:r=Rc fn tmps ps assign body D .ready none) (hF:F.fn fn) (hl:W.heap[l]?=some (.loop r)) (hs:args.size=ps.size)
  (h:assign.wpIn (F.inRound l) n P (Exit.then (fun a1 W1=>W1.heap[l]?=some (.loop r)/\body.wpIn (F.inRound l) n P (fun e _ W2=>GX l R e W2) a1 (W1.putObj l (.loop { r with state:=.busy }))) (fun _ _ _=>False))
   { tmps:=(ps.zip args).foldl (fun t (p,v)=>t.setIfInBounds p v) tmps,defers:=[] } W):YieldAt F n P l args W R:=by
 have e1:r.fn=fn:=by rw [hrd];rfl
 have e2:r.tmps=tmps:=by rw [hrd];rfl
 have e3:r.params=ps:=by rw [hrd];rfl
 have e4:r.assign=assign:=by rw [hrd];rfl
 have e5:r.body=body:=by rw [hrd];rfl
 have e6:r.state=.ready:=by rw [hrd];rfl
 clear hrd;subst e1 e2 e3 e4 e5;refine ⟨r.fn,_,r.assign,r.body,run_yield hl hs,roundIn_of_wpIn hF (wpIn_mono h ?_)⟩;intro e a1 W1 he
 cases e with
 | normal =>
  obtain ⟨h1,h2⟩:=he;refine ⟨_,run_beginRound h1 e6,wpIn_mono h2 ?_⟩;rintro e2 a2 W2 ⟨r2,h3,h4⟩
  cases e2 with
  | normal=>exact ⟨_,_,run_endRound (P:=P) none h3,h4⟩
  | ret=>exact ⟨_,_,run_endRound (P:=P) (some .ret) h3,h4⟩
  | exit id=>exact h4.elim
  | goto t=>exact h4.elim
  | panic ch=>exact h4.elim
  | outgrown=>exact h4.elim
 | exit id=>exact he.elim
 | goto t=>exact he.elim
 | ret=>exact he.elim
 | panic ch=>exact he.elim
 | outgrown=>exact he.elim
end Go.Proofs.YtkkpjonfaflkmaaGreatDoor.T
namespace Go.Proofs.YtkkpjonfaflkmaaGreatDoor.T
open Go.RowKit Go.Proofs.ah.aT Go.Proofs.ah.bn Go.Proofs.ah.bA
set_option linter.unusedSimpArgs false
set_option linter.unusedVariables false
attribute [local go_sem] Oper.semAt_some
def Ym (n:Nat) (v:Value):Nat:=n+1 - (intOf v).toNat
set_option maxRecDepth 100000 in
set_option maxHeartbeats 2000000 in
theorem NK (n:Nat) (hn:1<=n) (l B1 B2 g N c ww:Nat) (hw:0 < ww) (hN:N<=1000000) (hww:ww<=8) (hc:N<=c) (hc2:c<=9223372036854775807) (J:Nat->World->Prop) (Jx:World->Prop)
  (hJc:∀ k A,J k A->A.cell? ⟨B1,0,none⟩=some (.int .i64 ww)/\A.cell? ⟨B2,0,none⟩=some (.slice (some ⟨g,0,none⟩) N c))
  (hY:∀ k W,k < N / ww->J k W->YieldAt Fence.wide (n - 1) Tryz.prog l #[.slice (some ⟨g,k*ww,none⟩) ww ww] W fun e W'=>(e=.returned (.bool true)/\J (k+1) W')\/(e=.returned (.bool false)/\Jx W'))
  (W:World) (h0:J 0 W) :
  CallsIn Fence.wide n Tryz.prog 154 #[.func (.yield l) #[] #[],.pointer (some ⟨B1,0,none⟩),.pointer (some ⟨B2,0,none⟩)] W fun e W'=>(∃ v,e=.returned v)/\(J (N / ww) W'\/Jx W'):=by
 have HY:=aj.mk hY;have HJ0:=aj.mk h0;have HJc:=aj.mk hJc;clear hY h0 hJc;refine callsIn_of_wp Tryz.func154 rfl trivial ?_ rfl;simp only [Tryz.ntmps154,List.size_toArray,List.length_cons,List.length_nil,Nat.reduceAdd,Nat.reduceSub,Array.replicate_succ,Array.replicate_zero,List.push_toArray,List.append_toArray,List.nil_append,List.cons_append];gi_wp2
 gi_loopw [4] (fun v wr=>∃ k i:Nat,k<=N / ww/\i=k*ww/\i<=N/\v=.int .i64 i/\aj (J k wr))
  (fun v wr=>Ym N v)
 case atStart=>exact ⟨0,0,Nat.zero_le _,by omega,Nat.zero_le _,rfl,HJ0⟩
 case round =>
  obtain ⟨k,i,hk,hi,hiN,rfl,HJ⟩:=hrel;obtain ⟨c1,c2⟩:=HJc.out k wr HJ.out;by_cases hlt:k < N / ww
  rotate_left
  ·have hkN:k=N / ww:=by omega
   have hbig:N < i+ww:=by
    have h1:=Nat.div_add_mod N ww;have h2:=Nat.mod_lt N hw;rw [<- hkN,Nat.mul_comm] at h1;omega
   have g1:decide ((i:Int)+(ww:Int)<=(N:Int))=false:=decide_eq_false (by omega);have hlim:i+ww<=1000010:=by omega
   clear hi;gi_wp2
   go_end0
   exact ⟨⟨_,rfl⟩,.inl (by rw [<- hkN];exact HJ.out)⟩
  have hfit:i+ww<=N:=by
   have h1:(k+1)*ww<=N:=by
    have:=Nat.mul_le_of_le_div ww (k+1) N hlt;exact this
   rw [Nat.add_mul] at h1;omega
  have g1:decide ((i:Int)+(ww:Int)<=(N:Int))=true:=decide_eq_true (by omega);have g2:(i:Int)+(ww:Int)<=(N:Int):=by omega
  have g3:(0:Int)<=(i:Int):=by omega
  have g4:(i:Int)<=(i:Int)+(ww:Int):=by omega
  have hlim:i+ww<=1000000:=by omega
  obtain ⟨fn,tmps,assign,body,hy,hR⟩:=HY.out k wr hlt HJ.out;rw [<- hi] at hy;have HR:=Lib.hid hR;have HI:=aj.mk hi;clear hR hi;gi_wp2
  refine HR.out.mono ?_;rintro e W3 (⟨rfl,hJ3⟩ | ⟨rfl,hJx3⟩)
  ·obtain ⟨c1',c2'⟩:=HJc.out _ _ hJ3
   gi_wp2
   go_roundw
   case rel=>exact ⟨k+1,i+ww,by omega,by rw [HI.out,Nat.add_mul];omega,hfit,by go_num,⟨hJ3⟩⟩
   case measure =>
    have e1:Ym N (.int .i64 ((i:Int)+(ww:Int)))=N+1 - ((i:Int)+(ww:Int)).toNat:=rfl;have e2:Ym N (.int .i64 (i:Int))=N+1 - (i:Int).toNat:=rfl;first | (rw [e1,e2];omega) | (show N+1 - _ < N+1 - _;omega)
  ·gi_wp2
   refine bodyPost_ret (results_none rfl _ _ _) rfl ?_;exact ⟨⟨_,rfl⟩,.inr hJx3⟩
theorem groups.calls (v:Value) (hv:∃ A N c,v=.slice A N c) (ww:Int) (w:World) :
  Calls Tryz.prog 133 #[v,.int .i64 ww] w fun e w'=>e=.returned (.func (.func 154) #[] #[.pointer (some ⟨w.heap.size+1,0,none⟩),.pointer (some ⟨w.heap.size,0,none⟩)])/\w'=(w.alloc (.cells #[v] 100)).alloc (.cells #[.int .i64 ww] 3):=by
 obtain ⟨A,N,c,rfl⟩:∃ A N c,v=.slice A N c:=hv;go_enter Tryz.func133,Tryz.ntmps133
 go_wp2;go_ret;exact ⟨rfl,rfl⟩
theorem Dg:∀ args w,(callFunc 154 args).run Tryz.prog w=.ok (.enter 154 args) w:=enters_of Tryz.func154 (by kernel_rfl) rfl
end Go.Proofs.YtkkpjonfaflkmaaGreatDoor.T
namespace Go.Proofs.YtkkpjonfaflkmaaGreatDoor.T
open Go.RowKit Go.Proofs.ah.aT Go.Proofs.ah.bn Go.Proofs.ah.bA
set_option linter.unusedSimpArgs false
set_option linter.unusedVariables false
def tK (base:Nat) (v:Value) (xs:List Int) (W:World):Prop :=
 (v=.slice none 0 0/\xs=[])\/∃ g cap,v=.slice (some ⟨g,0,none⟩) xs.length cap/\base<=g/\g < W.heap.size/\xs.length<=cap/\cap<=9223372036854775807 /\
  (∀ j,j < xs.length->W.cell? ⟨g,j,none⟩=some (.int .u8 (xs.getD j 0)))/\∀ j,j < cap->(W.cell? ⟨g,j,none⟩).isSome=true/\W.frozen? ⟨g,j,none⟩=false
theorem tK.nil (base:Nat) (W:World):tK base (.slice none 0 0) [] W:=.inl ⟨rfl,rfl⟩
theorem tK.slice {base:Nat} {v:Value} {xs:List Int} {W:World} (h:tK base v xs W):∃ A c,v=.slice A xs.length c/\xs.length<=c:=by
 rcases h with ⟨rfl,rfl⟩ | ⟨g,cap,rfl,_,_,h,_⟩
 ·exact ⟨_,_,rfl,Nat.le_refl _⟩
 ·exact ⟨_,_,rfl,h⟩
theorem tK.C {base:Nat} {A:Option Addr} {c:Nat} {xs:List Int} {W:World} (h:tK base (.slice A xs.length c) xs W):Kd.C (Kd.int .u8) W A xs.length xs:=by
 refine Kd.JC (d:=(0:Int)) (h1:=fun _=>rfl) ?_;rcases h with ⟨h1,rfl⟩ | ⟨g,cap,h1,_,_,h2,h3,h4,_⟩
 ·simp at h1
  obtain ⟨rfl,_⟩:=h1;exact ⟨rfl,by decide,fun h=>absurd h (by simp)⟩
 ·simp at h1
  obtain ⟨rfl,rfl⟩:=h1;exact ⟨rfl,by omega,fun _=>⟨_,rfl,fun j hj=>by rw [add_plain];exact h4 j hj⟩⟩
theorem tK.below {base B:Nat} {v:Value} {xs:List Int} {W W':World} (h:tK base v xs W) (hB:W.heap.size<=B) (hb:Below B W W'):tK base v xs W':=by
 rcases h with h | ⟨g,cap,h1,h2,h3,h4,h5,h6,h7⟩
 ·exact .inl h
 ·refine .inr ⟨g,cap,h1,h2,by have:=hb.size;omega,h4,h5,fun j hj=>?_,fun j hj=>?_⟩
  ·exact (hb.cell (p:=⟨g,j,none⟩) (by show g < B;omega)).trans (h6 j hj)
  ·rw [hb.cell (p:=⟨g,j,none⟩) (by show g < B;omega),hb.frozen (p:=⟨g,j,none⟩) (by show g < B;omega)]
   exact h7 j hj
theorem tK.alloc {base:Nat} {v:Value} {xs:List Int} {W:World} (h:tK base v xs W) (o:Obj):tK base v xs (W.alloc o):=h.below (Nat.le_refl _) (ay (Below.refl _ _) o)
theorem tK.drewN {base:Nat} {v:Value} {xs:List Int} {W:World} (h:tK base v xs W) (n:Nat):tK base v xs (W.drewN n):=h
theorem tK.conv {base:Nat} (W:World) (s:ByteArray) (hb:base<=W.heap.size) (hs:s.size<=100000):tK base (.slice (some ⟨W.heap.size,0,none⟩) s.size (grownCap W s.size 0 5)) (bytesOf s) (Lib.bytesWorld W 5 s):=by
 have hB:=Buf.new W s;have hg:s.size<=grownCap W s.size 0 5:=grownCap_ge W s.size 0 5;have hm:grownCap W s.size 0 5<=maxLen:=grownCap_le_maxLen W s.size 0 5 (by unfold maxLen;omega);unfold maxLen at hm;have hz:(Lib.bytesCells W 5 s).size=grownCap W s.size 0 5:=by
  simp only [Lib.bytesCells,Array.size_append,Array.size_map,Array.size_replicate];have:s.data.size=s.size:=rfl;omega
 refine .inr ⟨W.heap.size,_,by rw [bytesOf_length],hb,by rw [Lib.bytesWorld_size];omega,by rw [bytesOf_length];exact hg,by omega,fun j hj=>hB.cell j hj,fun j hj=>?_⟩;have hn:=Lib.bytesWorld_at_new W 5 s;rw [hz] at hn;constructor
 ·simp only [World.cell?,hn]
  rw [Array.getElem?_eq_getElem (by rw [hz];exact hj)];rfl
 ·simp only [World.frozen?,hn]
  have:¬ grownCap W s.size 0 5<=j:=by omega
  simp [this]
end Go.Proofs.YtkkpjonfaflkmaaGreatDoor.T
