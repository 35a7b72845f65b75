/-
  THE WALK of a fleet's freeze. Conditions: a fleet of which all holds; the shard is open.
-/
import Derived.Test.YtfdibjgmbdkbcaaYGf
import Derived.Test.YtfdibjgmbdkbcaaYGq
namespace Go.Proofs.Ytfdibjgmbdkbcaa
open Go.RowKit Go.Lib
set_option maxRecDepth 100000 in
set_option maxHeartbeats 4000000 in
theorem freeze_any (w:World) (B gF k:Nat) (tag:Tag) (f:Flt) (s:Shd) (hF:FltAt w B gF tag f) (hT:TagOk w B tag) (hI:Fl.Inv f) (hBw:B<=w.heap.size) (hs:f.sh[k]? = some s) :
 Calls Try.prog 135 #[.pointer (some ⟨gF,0,none⟩),.int .i64 (k:Int)] w (StepP w B gF tag (Fl.freeze f k s)):=by
 have hx0:=(Below.refl w.heap.size w).alloc (Nat.le_refl _) (.cells #[.int .i64 0,.int .i64 0,.int .i64 0,.int .i64 0,.slice none 0 0] 105)
 have hans:Blk (w.alloc (.cells #[.int .i64 0,.int .i64 0,.int .i64 0,.int .i64 0,.slice none 0 0] 105)) w.heap.size 105 #[.int .i64 0,.int .i64 0,.int .i64 0,.int .i64 0,.slice none 0 0]:=heap_alloc_new w _
 obtain ⟨R,HR⟩:∃ R,Hid (R=Fl.freeze f k s):=⟨_,Lib.hid rfl⟩
 rw [<-HR.out]
 have hfine:=(hI.sh k _ hs).fine
 have hbook8:=hI.book_len
 have hlen8:=hI.len
 obtain ⟨vs,vb,us,ws,hP⟩:=hF.parts
 have hP1:=hP.below hx0
 have hT1:=hT.size hx0.size
 obtain ⟨gS,oS,cS,u,hvs,hu,hgSB,hgSlt,hncS,hcSm,hltk,⟨curS,hcurS⟩,hTS,hcell⟩:=hP1.row hs
 subst hvs
 unfold maxLen at hcSm
 obtain ⟨⟨es,hes,hTg,hin⟩,hTr,hTseg⟩:=id hTS
 obtain ⟨A5,c5,hev,hlc5,hcm5⟩:=hes.shape
 unfold maxLen at hcm5
 have hEL:BList _ (fun b=>B<=b/\b<_) u.ev s.ents:=hTS.1.ownL.blist
 have q1:=hP1.2.1
 go_enter Try.func135,Try.ntmps135
 go_upto_region 1 with (fail)
 generalize w.alloc (.cells #[.int .i64 0,.int .i64 0,.int .i64 0,.int .i64 0,.slice none 0 0] 105)=w1 at *
 have g0:w1.cell? ⟨gF,0,none⟩=some (.slice (some ⟨gS,oS,none⟩) f.sh.length cS):=q1.cell 0
 have p3:w1.cell? ⟨gS,oS+k*7+3,none⟩=some u.ev:=hcell 3 _ rfl
 have hkB:(k:Int)<(f.sh.length:Int):=by omega
 have hk0:(0:Int)<=(k:Int):=by omega
 rw [hev] at p3 hEL
 have HEV:=Lib.hid hev
 clear hev
 go_wp2_with fail
 with_reducible refine (Root_fine w1 _ _ s.ents hEL hfine).mono ?_
 rintro e w2 ⟨rv,rfl,ho2,hx2⟩
 obtain ⟨A2,c2,hrv,_,_⟩:=Own.shape ho2
 have hl32:(Tr.root (s.ents.map Tr.leafH)).length=32:=Tr.length_rootL _
 rw [hl32] at hrv
 subst hrv
 go_upto_region 3 with (fail)
 have hx3:=(hx2.alloc hx2.size (.cells #[.int .i64 0,.int .i64 0] 32))
 have hB1:B<=w1.heap.size:=Nat.le_trans hBw hx0.size
 have hrv3:OwnB (w2.alloc (.cells #[.int .i64 0,.int .i64 0] 32)) w1.heap.size (.slice A2 32 c2) (Tr.rootL s.ents):=ho2.alloc _
 generalize w2.alloc (.cells #[.int .i64 0,.int .i64 0] 32)=w3 at *
 have hP3:=hP1.below hx3
 have hT3:=hT1.size hx3.size
 have hK3:Kept w w3 B tag tag:=(Kept.of_below hx0 hBw).trans (Kept.of_below hx3 hB1) hBw
 have hans3:=hans.below hx3 hans.lt
 have p2:w3.cell? ⟨gS,oS+k*7+2,none⟩=some (.int .i64 s.st):=(hx3.cell (p:=⟨gS,oS+k*7+2,none⟩) hgSlt).trans (hcell 2 _ rfl)
 have f2:w3.frozen? ⟨gS,oS+k*7+2,none⟩=false:=frozen_of_row w3 gS _ curS 156 ((hx3.block gS hgSlt).trans hcurS)
 go_upto_region 4 with (fail)
 obtain ⟨hP4,hs4,hu4,hK4⟩:=hP3.cell (s':={ s with st:=2 }) (u':=u) (x:=.int .i64 2) hs hu (i:=2) (by decide) rfl ((hP3.2.2.2.2.1 k s u hs hu))
 have hgw:gS≠w.heap.size:=Blk.ne (w:=w3) ((hx3.block gS hgSlt).trans hcurS) hans3 (by decide)
 have hans4:Blk (w3.setCell ⟨gS,oS+k*7+2,none⟩ (.int .i64 2)) w.heap.size 105 #[.int .i64 0,.int .i64 0,.int .i64 0,.int .i64 0,.slice none 0 0]:=hans3.far (p:=⟨gS,oS+k*7+2,none⟩) hgw.symm _
 have hrv4:OwnB (w3.setCell ⟨gS,oS+k*7+2,none⟩ (.int .i64 2)) w1.heap.size (.slice A2 32 c2) (Tr.rootL s.ents):=Own.setCell (p:=⟨gS,oS+k*7+2,none⟩) hrv3 (fun e=>by have:=(Own.lt hrv3 gS e).1;omega) _
 have hT4:TagOk (w3.setCell ⟨gS,oS+k*7+2,none⟩ (.int .i64 2)) B tag:=hT3.size (by simp)
 have hs34:(w3.setCell ⟨gS,oS+k*7+2,none⟩ (.int .i64 2)).heap.size=w3.heap.size:=by simp
 have hK4':=hK3.trans hK4 hBw
 clear hK4
 generalize w3.setCell ⟨gS,oS+k*7+2,none⟩ (.int .i64 2)=w4 at *
 have r3:w4.cell? ⟨gS,oS+k*7+3,none⟩=some (.slice A5 s.ents.length c5):=by rw [<-HEV.out];exact hP4.cells hs4 hu4 (i:=3) rfl
 go_upto_region 5 with (fail)
 have hB4:B<=w4.heap.size:=by have:=hx3.size;omega
 have hx5:=(Below.refl w4.heap.size w4).alloc (Nat.le_refl _) (.cells #[.int .i64 (s.ents.length:Int),.slice A2 32 c2] 39)
 have hhead:Blk (w4.alloc (.cells #[.int .i64 (s.ents.length:Int),.slice A2 32 c2] 39)) w4.heap.size 39 #[.int .i64 (s.ents.length:Int),.slice A2 32 c2]:=heap_alloc_new w4 _
 generalize w4.alloc (.cells #[.int .i64 (s.ents.length:Int),.slice A2 32 c2] 39)=w5 at *
 have hP5:=hP4.below hx5
 have hT5:=hT4.size hx5.size
 have hK5:=hK4'.trans (Kept.of_below hx5 hB4) hBw
 have hans5:=hans4.below hx5 hans4.lt
 have hrv5:=hrv4.below hx5
 have hB5:B<=w5.heap.size:=Nat.le_trans hB4 hx5.size
 rw [hs34] at hhead
 clear hB4 hs34 hx5
 generalize w3.heap.size=gH at *
 have e0:w5.cell? ⟨gS,oS+k*7,none⟩=some (.int .i64 s.fr):=hP5.cells hs4 hu4 (i:=0) rfl
 have e1:w5.cell? ⟨gS,oS+k*7+1,none⟩=some (.int .i64 s.til):=hP5.cells hs4 hu4 (i:=1) rfl
 have e2:w5.cell? ⟨gH,0,none⟩=some (.int .i64 (s.ents.length:Int)):=hhead.cell 0
 have e3:w5.cell? ⟨gH,1,none⟩=some (.slice A2 32 c2):=hhead.cell 1
 have hS5:FrzS gS (oS+k*7) gH (.int .i64 s.fr) (.int .i64 s.til) (.int .i64 (s.ents.length:Int)) (.slice A2 32 c2) w5.drew:=⟨e0,e1,e2,e3⟩
 have hx6:Below w5.heap.size w5 (w5.alloc (.cells #[.int .i64 (k:Int),.int .i64 s.fr,.int .i64 s.til,.int .i64 (s.ents.length:Int),.slice A2 32 c2] 61)).drew:=((Below.refl w5.heap.size w5).alloc (Nat.le_refl _) _).drew
 have hsrc:SlAt (w5.alloc (.cells #[.int .i64 (k:Int),.int .i64 s.fr,.int .i64 s.til,.int .i64 (s.ents.length:Int),.slice A2 32 c2] 61)).drew (fun b=>b=w5.heap.size) 5 (.slice (some ⟨w5.heap.size,0,none⟩) 1 1) 1 [.int .i64 (k:Int),.int .i64 s.fr,.int .i64 s.til,.int .i64 (s.ents.length:Int),.slice A2 32 c2]:=SlAt.newK w5 _ [_,_,_,_,_] 5 rfl
 have hP6:=hP5.below hx6
 have hT6:=hT5.size hx6.size
 have hK6:=hK5.trans (Kept.of_below hx6 hB5) hBw
 have hans6:=hans5.below hx6 hans5.lt
 have hrv6:=hrv5.below hx6
 have hhead6:=hhead.below hx6 hhead.lt
 have hS6:=hS5.of (z':=(w5.alloc (.cells #[.int .i64 (k:Int),.int .i64 s.fr,.int .i64 s.til,.int .i64 (s.ents.length:Int),.slice A2 32 c2] 61)).drew) (hx6.block gS hP5.blk.2.1) (hx6.block gH hhead.lt)
 have hB6:B<=((w5.alloc (.cells #[.int .i64 (k:Int),.int .i64 s.fr,.int .i64 s.til,.int .i64 (s.ents.length:Int),.slice A2 32 c2] 61)).drew).heap.size:=Nat.le_trans hB5 hx6.size
 obtain ⟨Ab,cb,hvb,_,hcbm⟩:=Own.shape hP5.2.2.2.2.2.2.1
 subst hvb
 have pb5:w5.cell? ⟨gF,1,none⟩=some (.slice Ab f.book.length cb):=hP5.2.1.cell 1
 have pb6:((w5.alloc (.cells #[.int .i64 (k:Int),.int .i64 s.fr,.int .i64 s.til,.int .i64 (s.ents.length:Int),.slice A2 32 c2] 61)).drew).cell? ⟨gF,1,none⟩=some (.slice Ab f.book.length cb):=hP6.2.1.cell 1
 have hrow6:=hP6.2.2.2.2.2.2.1
 have hgF6:=hP6.2.1.lt
 have hgS6:=hP6.blk.2.1
 have hgH6:=hhead6.lt
 obtain ⟨cur6,hcur6⟩:=hP6.blk.2.2
 have hne1:some gS≠(Value.slice Ab f.book.length cb).ownBlock:=fun e=>Own.ne_blk hrow6 hcur6 (by decide) e.symm
 have hne2:some gH≠(Value.slice Ab f.book.length cb).ownBlock:=fun e=>Own.ne_blk hrow6 hhead6 (by decide) e.symm
 have hne3:some gF≠(Value.slice Ab f.book.length cb).ownBlock:=fun e=>Own.ne_blk hrow6 hP6.2.1 (by decide) e.symm
 have hne4:some w.heap.size≠(Value.slice Ab f.book.length cb).ownBlock:=fun e=>Own.ne_blk hrow6 hans6 (by decide) e.symm
 have hneS:gS≠gF:=Blk.ne hcur6 hP6.2.1 (by decide)
 have hneH:gH≠gF:=Blk.ne hhead6 hP6.2.1 (by decide)
 have hneA:w.heap.size≠gF:=Blk.ne hans6 hP6.2.1 (by decide)
 have hr32:(Tr.rootL s.ents).length=32:=hl32
 obtain ⟨i0,hi,hz0,hz1,hz2⟩:=info_parts info_rec
 clear hhead hP4 hP3 hP1 hP hans hans3 hans4 hrv3 hrv4 ho2 hes hcell hin hTg hTr hTseg hTS hEL hT3 hT4 hK3 hK4' hK5 hx3 hx2 r3 p2 p3 f2 g0
 refine wp_region_held_drew (S:=(fun z:World=>z.cell? ⟨gS,oS+k*7,none⟩=some (.int .i64 s.fr)/\z.cell? ⟨gS,oS+k*7+1,none⟩=some (.int .i64 s.til)/\z.cell? ⟨gH,0,none⟩=some (.int .i64 (s.ents.length:Int))/\z.cell? ⟨gH,1,none⟩=some (.slice A2 32 c2))) (by kernel_rfl) ?_ (fun hHeld=>?_)
 · exact hS5
 refine step_tk 0 (h:=?_)
 refine step_tk 1 (h:=?_)
 refine step_tk 2 (h:=?_)
 refine step_tk 3 (h:=?_)
 refine step_tk 4 (h:=?_)
 refine step_tk 6 (h:=?_)
 refine step_tk 7 (h:=?_)
 refine step_tk 8 (h:=?_)
 refine step_tk 9 (h:=?_)
 refine step_tk 10 (h:=?_)
 refine step_tk 11 (h:=?_)
 refine step_tk 12 (h:=?_)
 refine step_tk 13 (h:=?_)
 refine step_tk 14 (h:=?_)
 refine step_tk 15 (h:=?_)
 refine step_tk 16 (h:=?_)
 refine step_two 5 17 rfl rfl (by kernel_rfl) (by rfl) (by rfl) (fun K hK=>?_) (fun K hK=>?_)
 · skip
   go_simp
   refine hK.out _ _ ?_ (fun hHeld=>?_)
   · exact hS5
   clear hK K
   try simp only [Act.put,List.setIfInBounds_toArray,List.set_cons_zero,List.set_cons_succ]
   refine step_alone 17 rfl (by kernel_rfl) (by rfl) (fun K hK=>?_)
   go_simp
   generalize hw6:(w5.alloc (.cells #[.int .i64 (k:Int),.int .i64 s.fr,.int .i64 s.til,.int .i64 (s.ents.length:Int),.slice A2 32 c2] 61)).drew=w6 at *
   refine hK.out _ _ ?_ (fun hHeld=>?_)
   · exact hS6
   clear hK K
   try simp only [Act.put,List.setIfInBounds_toArray,List.set_cons_zero,List.set_cons_succ]
   refine step_alone 18 rfl (by kernel_rfl) (by rfl) (fun K hK=>?_)
   refine wp_append_Own w6 (.tmp 39) (.tmp 51) 62 (by rfl) B 61 i0 _ 5 56 Try.underlying62 hi hz0 hz1 hz2 rfl (by omega) (.slice Ab f.book.length cb) f.book.length (flatRc f.book ws) (by rfl) hrow6 _ _ 1 [.int .i64 (k:Int),.int .i64 s.fr,.int .i64 s.til,.int .i64 (s.ents.length:Int),.slice A2 32 c2] (by rfl) hsrc (by simp [Value.oneCell']) (by simp only [maxLen];omega) (by omega) hB6 ?_
   intro v8 w8 hown8 hgr8 hat8
   obtain ⟨A8,c8,hv8,_,_⟩:=Own.shape hown8
   subst hv8
   have hS8:FrzS gS (oS+k*7) gH _ _ _ _ w8:=FrzS.of hS6 (hgr8.block gS hgS6 hne1) (hgr8.block gH hgH6 hne2)
   have pb8:w8.cell? ⟨gF,1,none⟩=some (.slice Ab f.book.length cb):=(World.cell?_of_block (hgr8.block gF hgF6 hne3)).trans pb6
   have pf8:w8.frozen? ⟨gF,1,none⟩=false:=frozen_of_row w8 gF _ _ _ ((hgr8.block gF hgF6 hne3).trans hP6.2.1)
   refine hK.out _ _ ?_ (fun hHeld=>?_)
   · exact hS8
   clear hK K
   try simp only [Act.put,List.setIfInBounds_toArray,List.set_cons_zero,List.set_cons_succ]
   refine step_tk 19 (h:=?_)
   refine step_tk 20 (h:=?_)
   refine step_tk 21 (h:=?_)
   refine step_alone 22 rfl (by kernel_rfl) (by rfl) (fun K hK=>?_)
   go_simp
   refine hK.out _ _ ?_ (fun hHeld=>?_)
   · exact FrzS.of hS8 (Below.heap_setCell _ _ _ _ hneS) (Below.heap_setCell _ _ _ _ hneH)
   clear hK K
   try simp only [Act.put,List.setIfInBounds_toArray,List.set_cons_zero,List.set_cons_succ]
   refine wpAnyH_done (by kernel_rfl) ?_ _
   have hh9:Blk (w8.setCell ⟨gF,1,none⟩ (.slice A8 (f.book.length+1) c8)) gH 39 #[.int .i64 (s.ents.length:Int),.slice A2 32 c2]:=(hhead6.keep (hgr8.block gH hgH6 hne2)).far (p:=⟨gF,1,none⟩) hneH _
   have hans9:Blk (w8.setCell ⟨gF,1,none⟩ (.slice A8 (f.book.length+1) c8)) w.heap.size 105 #[.int .i64 0,.int .i64 0,.int .i64 0,.int .i64 0,.slice none 0 0]:=(hans6.keep (hgr8.block _ hans6.lt hne4)).far (p:=⟨gF,1,none⟩) hneA _
   obtain ⟨hP9,hT9,hK9⟩:=hP6.snoc (r:=⟨(k:Int),s.fr,s.til,(s.ents.length:Int),Tr.rootL s.ents⟩) (rv:=.slice A2 32 c2) hT6 hB6 ⟨hrv6.mono hB1,fun b hb=>hT1.2 b (Own.lt hrv6 b hb).1⟩ hgr8 hown8
   have hrv8:OwnB w8 w1.heap.size (.slice A2 32 c2) (Tr.rootL s.ents):=Own.keep hrv6 (fun b hb hbl _=>hgr8.block b hbl (fun e=>Own.apart hrv6 hrow6 (by decide) b hb e.symm))
   have hrv9:OwnB (w8.setCell ⟨gF,1,none⟩ (.slice A8 (f.book.length+1) c8)) w1.heap.size (.slice A2 32 c2) (Tr.rootL s.ents):=Own.setCell (p:=⟨gF,1,none⟩) hrv8 (Own.ne_blk hrv8 (hP6.2.1.keep (hgr8.block gF hgF6 hne3)) (by decide)) _
   have hK9':=hK6.trans hK9 hBw
   clear hK9
   generalize w8.setCell ⟨gF,1,none⟩ (.slice A8 (f.book.length+1) c8)=w9 at *
   have h90:w9.cell? ⟨gH,0,none⟩=some (.int .i64 (s.ents.length:Int)):=hh9.cell 0
   have h91:w9.cell? ⟨gH,1,none⟩=some (.slice A2 32 c2):=hh9.cell 1
   have a90:w9.cell? ⟨w.heap.size,0,none⟩=some (.int .i64 0):=hans9.cell 0
   have f90:=hans9.frozen 0
   have a91:w9.cell? ⟨w.heap.size,1,none⟩=some (.int .i64 0):=hans9.cell 1
   have f91:=hans9.frozen 1
   have a92:w9.cell? ⟨w.heap.size,2,none⟩=some (.int .i64 0):=hans9.cell 2
   have f92:=hans9.frozen 2
   have a93:w9.cell? ⟨w.heap.size,3,none⟩=some (.int .i64 0):=hans9.cell 3
   have f93:=hans9.frozen 3
   have a94:w9.cell? ⟨w.heap.size,4,none⟩=some (.slice none 0 0):=hans9.cell 4
   have f94:=hans9.frozen 4
   go_wp2_with fail
   have hW:set5 w9 w.heap.size (.int .i64 0) (.int .i64 (k:Int)) (.int .i64 0) (.int .i64 (s.ents.length:Int)) (.slice A2 32 c2)=(((((w9.setCell ⟨w.heap.size,0,none⟩ (.int .i64 0)).setCell ⟨w.heap.size,1,none⟩ (.int .i64 (k:Int))).setCell ⟨w.heap.size,2,none⟩ (.int .i64 0)).setCell ⟨w.heap.size,3,none⟩ (.int .i64 (s.ents.length:Int))).setCell ⟨w.heap.size,4,none⟩ (.slice A2 32 c2)):=rfl
   rw [<-hW]
   have hb5:=set5_blk (a:=.int .i64 0) (b:=.int .i64 (k:Int)) (c:=.int .i64 0) (d:=.int .i64 (s.ents.length:Int)) (e:=.slice A2 32 c2) hans9
   have hF9:FltAt (set5 w9 w.heap.size (.int .i64 0) (.int .i64 (k:Int)) (.int .i64 0) (.int .i64 (s.ents.length:Int)) (.slice A2 32 c2)) B gF tag (Fl.freeze f k s).1:=hP9.at_.set5 hans9
   have hT9s:TagOk (set5 w9 w.heap.size (.int .i64 0) (.int .i64 (k:Int)) (.int .i64 0) (.int .i64 (s.ents.length:Int)) (.slice A2 32 c2)) B tag:=hT9.size (by rw [set5_size];exact Nat.le_refl _)
   have hK9s:Kept w (set5 w9 w.heap.size (.int .i64 0) (.int .i64 (k:Int)) (.int .i64 0) (.int .i64 (s.ents.length:Int)) (.slice A2 32 c2)) B tag tag:=hK9'.set5 (Nat.le_refl _) hBw
   have hbt9:OwnB (set5 w9 w.heap.size (.int .i64 0) (.int .i64 (k:Int)) (.int .i64 0) (.int .i64 (s.ents.length:Int)) (.slice A2 32 c2)) B (.slice A2 32 c2) (Tr.rootL s.ents):=OwnB.mono (Own.set5 hrv9 hans9 (by decide)) hB1
   clear hW
   generalize set5 w9 w.heap.size (.int .i64 0) (.int .i64 (k:Int)) (.int .i64 0) (.int .i64 (s.ents.length:Int)) (.slice A2 32 c2)=W at *
   have s0:W.cell? ⟨w.heap.size,0,none⟩=some (.int .i64 0):=hb5.cell 0
   have s1:W.cell? ⟨w.heap.size,1,none⟩=some (.int .i64 (k:Int)):=hb5.cell 1
   have s2:W.cell? ⟨w.heap.size,2,none⟩=some (.int .i64 0):=hb5.cell 2
   have s3:W.cell? ⟨w.heap.size,3,none⟩=some (.int .i64 (s.ents.length:Int)):=hb5.cell 3
   have s4:W.cell? ⟨w.heap.size,4,none⟩=some (.slice A2 32 c2):=hb5.cell 4
   exact bodyPost_ret (v:=.agg #[.int .i64 0,.int .i64 (k:Int),.int .i64 0,.int .i64 (s.ents.length:Int),.slice A2 32 c2]) (by simp [results,Try.results135,go_sem,s0,s1,s2,s3,s4]) rfl (by rw [HR.out];exact ⟨.slice A2 32 c2,tag,rfl,hF9,hT9s,hK9s,hbt9⟩)
 · skip
   go_simp
   generalize hw6:(w5.alloc (.cells #[.int .i64 (k:Int),.int .i64 s.fr,.int .i64 s.til,.int .i64 (s.ents.length:Int),.slice A2 32 c2] 61)).drew=w6 at *
   refine hK.out _ _ ?_ (fun hHeld=>?_)
   · exact hS6
   clear hK K
   try simp only [Act.put,List.setIfInBounds_toArray,List.set_cons_zero,List.set_cons_succ]
   refine step_alone 5 rfl (by kernel_rfl) (by rfl) (fun K hK=>?_)
   go_simp
   refine hK.out _ _ ?_ (fun hHeld=>?_)
   · exact hS6
   clear hK K
   try simp only [Act.put,List.setIfInBounds_toArray,List.set_cons_zero,List.set_cons_succ]
   refine step_alone 18 rfl (by kernel_rfl) (by rfl) (fun K hK=>?_)
   refine wp_append_Own w6 (.tmp 39) (.tmp 51) 62 (by rfl) B 61 i0 _ 5 56 Try.underlying62 hi hz0 hz1 hz2 rfl (by omega) (.slice Ab f.book.length cb) f.book.length (flatRc f.book ws) (by rfl) hrow6 _ _ 1 [.int .i64 (k:Int),.int .i64 s.fr,.int .i64 s.til,.int .i64 (s.ents.length:Int),.slice A2 32 c2] (by rfl) hsrc (by simp [Value.oneCell']) (by simp only [maxLen];omega) (by omega) hB6 ?_
   intro v8 w8 hown8 hgr8 hat8
   obtain ⟨A8,c8,hv8,_,_⟩:=Own.shape hown8
   subst hv8
   have hS8:FrzS gS (oS+k*7) gH _ _ _ _ w8:=FrzS.of hS6 (hgr8.block gS hgS6 hne1) (hgr8.block gH hgH6 hne2)
   have pb8:w8.cell? ⟨gF,1,none⟩=some (.slice Ab f.book.length cb):=(World.cell?_of_block (hgr8.block gF hgF6 hne3)).trans pb6
   have pf8:w8.frozen? ⟨gF,1,none⟩=false:=frozen_of_row w8 gF _ _ _ ((hgr8.block gF hgF6 hne3).trans hP6.2.1)
   refine hK.out _ _ ?_ (fun hHeld=>?_)
   · exact hS8
   clear hK K
   try simp only [Act.put,List.setIfInBounds_toArray,List.set_cons_zero,List.set_cons_succ]
   refine step_tk 19 (h:=?_)
   refine step_tk 20 (h:=?_)
   refine step_tk 21 (h:=?_)
   refine step_alone 22 rfl (by kernel_rfl) (by rfl) (fun K hK=>?_)
   go_simp
   refine hK.out _ _ ?_ (fun hHeld=>?_)
   · exact FrzS.of hS8 (Below.heap_setCell _ _ _ _ hneS) (Below.heap_setCell _ _ _ _ hneH)
   clear hK K
   try simp only [Act.put,List.setIfInBounds_toArray,List.set_cons_zero,List.set_cons_succ]
   refine wpAnyH_done (by kernel_rfl) ?_ _
   have hh9:Blk (w8.setCell ⟨gF,1,none⟩ (.slice A8 (f.book.length+1) c8)) gH 39 #[.int .i64 (s.ents.length:Int),.slice A2 32 c2]:=(hhead6.keep (hgr8.block gH hgH6 hne2)).far (p:=⟨gF,1,none⟩) hneH _
   have hans9:Blk (w8.setCell ⟨gF,1,none⟩ (.slice A8 (f.book.length+1) c8)) w.heap.size 105 #[.int .i64 0,.int .i64 0,.int .i64 0,.int .i64 0,.slice none 0 0]:=(hans6.keep (hgr8.block _ hans6.lt hne4)).far (p:=⟨gF,1,none⟩) hneA _
   obtain ⟨hP9,hT9,hK9⟩:=hP6.snoc (r:=⟨(k:Int),s.fr,s.til,(s.ents.length:Int),Tr.rootL s.ents⟩) (rv:=.slice A2 32 c2) hT6 hB6 ⟨hrv6.mono hB1,fun b hb=>hT1.2 b (Own.lt hrv6 b hb).1⟩ hgr8 hown8
   have hrv8:OwnB w8 w1.heap.size (.slice A2 32 c2) (Tr.rootL s.ents):=Own.keep hrv6 (fun b hb hbl _=>hgr8.block b hbl (fun e=>Own.apart hrv6 hrow6 (by decide) b hb e.symm))
   have hrv9:OwnB (w8.setCell ⟨gF,1,none⟩ (.slice A8 (f.book.length+1) c8)) w1.heap.size (.slice A2 32 c2) (Tr.rootL s.ents):=Own.setCell (p:=⟨gF,1,none⟩) hrv8 (Own.ne_blk hrv8 (hP6.2.1.keep (hgr8.block gF hgF6 hne3)) (by decide)) _
   have hK9':=hK6.trans hK9 hBw
   clear hK9
   generalize w8.setCell ⟨gF,1,none⟩ (.slice A8 (f.book.length+1) c8)=w9 at *
   have h90:w9.cell? ⟨gH,0,none⟩=some (.int .i64 (s.ents.length:Int)):=hh9.cell 0
   have h91:w9.cell? ⟨gH,1,none⟩=some (.slice A2 32 c2):=hh9.cell 1
   have a90:w9.cell? ⟨w.heap.size,0,none⟩=some (.int .i64 0):=hans9.cell 0
   have f90:=hans9.frozen 0
   have a91:w9.cell? ⟨w.heap.size,1,none⟩=some (.int .i64 0):=hans9.cell 1
   have f91:=hans9.frozen 1
   have a92:w9.cell? ⟨w.heap.size,2,none⟩=some (.int .i64 0):=hans9.cell 2
   have f92:=hans9.frozen 2
   have a93:w9.cell? ⟨w.heap.size,3,none⟩=some (.int .i64 0):=hans9.cell 3
   have f93:=hans9.frozen 3
   have a94:w9.cell? ⟨w.heap.size,4,none⟩=some (.slice none 0 0):=hans9.cell 4
   have f94:=hans9.frozen 4
   go_wp2_with fail
   have hW:set5 w9 w.heap.size (.int .i64 0) (.int .i64 (k:Int)) (.int .i64 0) (.int .i64 (s.ents.length:Int)) (.slice A2 32 c2)=(((((w9.setCell ⟨w.heap.size,0,none⟩ (.int .i64 0)).setCell ⟨w.heap.size,1,none⟩ (.int .i64 (k:Int))).setCell ⟨w.heap.size,2,none⟩ (.int .i64 0)).setCell ⟨w.heap.size,3,none⟩ (.int .i64 (s.ents.length:Int))).setCell ⟨w.heap.size,4,none⟩ (.slice A2 32 c2)):=rfl
   rw [<-hW]
   have hb5:=set5_blk (a:=.int .i64 0) (b:=.int .i64 (k:Int)) (c:=.int .i64 0) (d:=.int .i64 (s.ents.length:Int)) (e:=.slice A2 32 c2) hans9
   have hF9:FltAt (set5 w9 w.heap.size (.int .i64 0) (.int .i64 (k:Int)) (.int .i64 0) (.int .i64 (s.ents.length:Int)) (.slice A2 32 c2)) B gF tag (Fl.freeze f k s).1:=hP9.at_.set5 hans9
   have hT9s:TagOk (set5 w9 w.heap.size (.int .i64 0) (.int .i64 (k:Int)) (.int .i64 0) (.int .i64 (s.ents.length:Int)) (.slice A2 32 c2)) B tag:=hT9.size (by rw [set5_size];exact Nat.le_refl _)
   have hK9s:Kept w (set5 w9 w.heap.size (.int .i64 0) (.int .i64 (k:Int)) (.int .i64 0) (.int .i64 (s.ents.length:Int)) (.slice A2 32 c2)) B tag tag:=hK9'.set5 (Nat.le_refl _) hBw
   have hbt9:OwnB (set5 w9 w.heap.size (.int .i64 0) (.int .i64 (k:Int)) (.int .i64 0) (.int .i64 (s.ents.length:Int)) (.slice A2 32 c2)) B (.slice A2 32 c2) (Tr.rootL s.ents):=OwnB.mono (Own.set5 hrv9 hans9 (by decide)) hB1
   clear hW
   generalize set5 w9 w.heap.size (.int .i64 0) (.int .i64 (k:Int)) (.int .i64 0) (.int .i64 (s.ents.length:Int)) (.slice A2 32 c2)=W at *
   have s0:W.cell? ⟨w.heap.size,0,none⟩=some (.int .i64 0):=hb5.cell 0
   have s1:W.cell? ⟨w.heap.size,1,none⟩=some (.int .i64 (k:Int)):=hb5.cell 1
   have s2:W.cell? ⟨w.heap.size,2,none⟩=some (.int .i64 0):=hb5.cell 2
   have s3:W.cell? ⟨w.heap.size,3,none⟩=some (.int .i64 (s.ents.length:Int)):=hb5.cell 3
   have s4:W.cell? ⟨w.heap.size,4,none⟩=some (.slice A2 32 c2):=hb5.cell 4
   exact bodyPost_ret (v:=.agg #[.int .i64 0,.int .i64 (k:Int),.int .i64 0,.int .i64 (s.ents.length:Int),.slice A2 32 c2]) (by simp [results,Try.results135,go_sem,s0,s1,s2,s3,s4]) rfl (by rw [HR.out];exact ⟨.slice A2 32 c2,tag,rfl,hF9,hT9s,hK9s,hbt9⟩)
end Go.Proofs.Ytfdibjgmbdkbcaa
