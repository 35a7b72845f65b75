/-
  THE WALK of fleet.Play. Conditions: what comes in is read as windows, and as what is done.
-/
import Derived.Test.YtfdibjgmbdkbcaaYRepr
import Derived.Test.YtfdibjgmbdkbcaaYGu
import Derived.Test.YtfdibjgmbdkbcaaYFU
namespace Go.Proofs.Ytfdibjgmbdkbcaa
open Go.RowKit Go.Lib
def PlayP (w:World) (r:Flt × List Ans × (Nat × Nat)) (e:Ending) (w':World):Prop :=
 ∃ vs vb va,e = .returned (.tuple #[.agg #[vs,vb],va,.agg #[.int .i64 (r.2.2.1:Int),.int .i64 (r.2.2.2:Int)]])/\RdL w' (fun b=>w.heap.size<=b) vs r.1.sh/\RdL w' (fun b=>w.heap.size<=b) vb r.1.book/\RdL w' (fun b=>w.heap.size<=b) va r.2.1/\Below w.heap.size w w'
theorem rdL_nil {α:Type} [Rp α] (w:World) (F:Nat->Prop):RdL w F (.slice none 0 0) ([]:List α):=⟨none,0,rfl,Nat.le_refl _,by simp [maxLen],fun h=>absurd h (by simp)⟩
set_option maxRecDepth 100000 in
set_option maxHeartbeats 4000000 in
theorem play_any (w:World) (F F2:Nat->Prop) (wv lv:Value) (ws:List (Int × Int)) (l:List Dob) (hws:RdL w F wv ws) (hl:RdL w F2 lv l) :
 Calls Try.prog 74 #[wv,lv] w (PlayP w (Fl.play ws l)):=by
 obtain ⟨Aw,cw,hvw,hncw,hcwm⟩:=hws.form
 obtain ⟨Al,cl,hvl,hncl,hclm⟩:=hl.form
 subst hvw hvl
 unfold maxLen at hcwm hclm
 have hx0:=((Below.refl w.heap.size w).alloc (Nat.le_refl _) (.cells #[.slice none 0 0,.slice none 0 0] 92)).alloc (by simp) (.cells #[.int .i64 0,.int .i64 0] 32)
 have hb4:Blk ((w.alloc (.cells #[.slice none 0 0,.slice none 0 0] 92)).alloc (.cells #[.int .i64 0,.int .i64 0] 32)) w.heap.size 92 #[.slice none 0 0,.slice none 0 0]:=Blk.alloc (heap_alloc_new w _) _
 have hb6:Blk ((w.alloc (.cells #[.slice none 0 0,.slice none 0 0] 92)).alloc (.cells #[.int .i64 0,.int .i64 0] 32)) (w.heap.size+1) 32 #[.int .i64 0,.int .i64 0]:=by
  have:=heap_alloc_new (w.alloc (.cells #[.slice none 0 0,.slice none 0 0] 92)) (.cells #[.int .i64 0,.int .i64 0] 32)
  rw [World.size_alloc] at this
  exact this
 obtain ⟨R,HR⟩:∃ R,Hid (R=Fl.play ws l):=⟨_,Lib.hid rfl⟩
 rw [<-HR.out]
 go_enter Try.func74,Try.ntmps74
 go_upto_region 1 with (fail)
 generalize ((w.alloc (.cells #[.slice none 0 0,.slice none 0 0] 92)).alloc (.cells #[.int .i64 0,.int .i64 0] 32))=w1 at *
 obtain ⟨a,b,hab⟩:∃ a b:Nat,Fl.wrongW ws=(a,b):=⟨_,_,rfl⟩
 have hfv:fv (Fl.wrongW ws) = .agg #[.int .i64 (a:Int),.int .i64 (b:Int)]:=by rw [hab];rfl
 have HV:=Lib.hid (wrongW_any w1 _ _ ws (hws.below hx0))
 rw [hfv] at HV
 have HAB:=Lib.hid hab
 clear hfv hab
 go_wp2_with fail
 with_reducible refine HV.out.mono ?_
 rintro e w2 ⟨rfl,hx2⟩
 go_upto_region 2 with (fail)
 have hx3:=hx2.alloc hx2.size (.cells #[.int .i64 (a:Int),.int .i64 (b:Int)] 32)
 have hbW:Blk (w2.alloc (.cells #[.int .i64 (a:Int),.int .i64 (b:Int)] 32)) w2.heap.size 32 #[.int .i64 (a:Int),.int .i64 (b:Int)]:=heap_alloc_new w2 _
 have hs2:=hx2.size
 generalize w2.alloc (.cells #[.int .i64 (a:Int),.int .i64 (b:Int)] 32)=w3 at *
 have hb43:=hb4.below hx3 hb4.lt
 have hb63:=hb6.below hx3 hb6.lt
 have hg6:w.heap.size+1<w1.heap.size:=hb6.lt
 generalize w2.heap.size=gW at *
 have hx03:=hx0.trans (hx3.mono hx0.size)
 have l0:w3.cell? ⟨gW,0,none⟩=some (.int .i64 (a:Int)):=hbW.cell 0
 have l1:w3.cell? ⟨gW,1,none⟩=some (.int .i64 (b:Int)):=hbW.cell 1
 have a0:w3.cell? ⟨w.heap.size,0,none⟩=some (.slice none 0 0):=hb43.cell 0
 have a1:w3.cell? ⟨w.heap.size,1,none⟩=some (.slice none 0 0):=hb43.cell 1
 have a2:w3.cell? ⟨w.heap.size+1,0,none⟩=some (.int .i64 0):=hb63.cell 0
 have a3:w3.cell? ⟨w.heap.size+1,1,none⟩=some (.int .i64 0):=hb63.cell 1
 have y0:=hb43.frozen 0
 have y1:=hb43.frozen 1
 have y2:=hb63.frozen 0
 have y3:=hb63.frozen 1
 by_cases ha:a=0
 · have hne:((a:Int) != 0)=false:=by rw [bne_eq_false_iff_eq];omega
   by_cases h120:120<l.length
   · have h120B:(120:Int)<(l.length:Int):=by omega
     have HS:Hid (R=(⟨[],[]⟩,[],(5,0))):=Lib.hid (by rw [HR.out];unfold Fl.play;rw [if_neg (by rw [HAB.out];simp [ha]),if_pos h120])
     go_wp2_with fail
     have hn45:w.heap.size≠w.heap.size+1:=by omega
     have hn54:w.heap.size+1≠w.heap.size:=by omega
     have he4:Blk ((((w3.setCell ⟨w.heap.size,0,none⟩ (.slice none 0 0)).setCell ⟨w.heap.size,1,none⟩ (.slice none 0 0)).setCell ⟨w.heap.size+1,0,none⟩ (.int .i64 5)).setCell ⟨w.heap.size+1,1,none⟩ (.int .i64 0)) w.heap.size 92 #[.slice none 0 0,.slice none 0 0]:=(hb43.set2 (.slice none 0 0) (.slice none 0 0)).far2 hn45 (.int .i64 5) (.int .i64 0)
     have he6:Blk ((((w3.setCell ⟨w.heap.size,0,none⟩ (.slice none 0 0)).setCell ⟨w.heap.size,1,none⟩ (.slice none 0 0)).setCell ⟨w.heap.size+1,0,none⟩ (.int .i64 5)).setCell ⟨w.heap.size+1,1,none⟩ (.int .i64 0)) (w.heap.size+1) 32 #[.int .i64 5,.int .i64 0]:=(hb63.far2 hn54 (.slice none 0 0) (.slice none 0 0)).set2 (.int .i64 5) (.int .i64 0)
     have hxe:Below w.heap.size w ((((w3.setCell ⟨w.heap.size,0,none⟩ (.slice none 0 0)).setCell ⟨w.heap.size,1,none⟩ (.slice none 0 0)).setCell ⟨w.heap.size+1,0,none⟩ (.int .i64 5)).setCell ⟨w.heap.size+1,1,none⟩ (.int .i64 0)):=below_set2 (below_set2 hx03 (Nat.le_refl _) (.slice none 0 0) (.slice none 0 0)) (Nat.le_succ _) (.int .i64 5) (.int .i64 0)
     have hr1:RdL ((((w3.setCell ⟨w.heap.size,0,none⟩ (.slice none 0 0)).setCell ⟨w.heap.size,1,none⟩ (.slice none 0 0)).setCell ⟨w.heap.size+1,0,none⟩ (.int .i64 5)).setCell ⟨w.heap.size+1,1,none⟩ (.int .i64 0)) (fun b=>w.heap.size<=b) (.slice none 0 0) ([]:List Shd):=rdL_nil _ _
     have hr2:RdL ((((w3.setCell ⟨w.heap.size,0,none⟩ (.slice none 0 0)).setCell ⟨w.heap.size,1,none⟩ (.slice none 0 0)).setCell ⟨w.heap.size+1,0,none⟩ (.int .i64 5)).setCell ⟨w.heap.size+1,1,none⟩ (.int .i64 0)) (fun b=>w.heap.size<=b) (.slice none 0 0) ([]:List Rec):=rdL_nil _ _
     have hr3:RdL ((((w3.setCell ⟨w.heap.size,0,none⟩ (.slice none 0 0)).setCell ⟨w.heap.size,1,none⟩ (.slice none 0 0)).setCell ⟨w.heap.size+1,0,none⟩ (.int .i64 5)).setCell ⟨w.heap.size+1,1,none⟩ (.int .i64 0)) (fun b=>w.heap.size<=b) (.slice none 0 0) ([]:List Ans):=rdL_nil _ _
     generalize ((((w3.setCell ⟨w.heap.size,0,none⟩ (.slice none 0 0)).setCell ⟨w.heap.size,1,none⟩ (.slice none 0 0)).setCell ⟨w.heap.size+1,0,none⟩ (.int .i64 5)).setCell ⟨w.heap.size+1,1,none⟩ (.int .i64 0))=W at *
     have s0:W.cell? ⟨w.heap.size,0,none⟩=some (.slice none 0 0):=he4.cell 0
     have s1:W.cell? ⟨w.heap.size,1,none⟩=some (.slice none 0 0):=he4.cell 1
     have s2:W.cell? ⟨w.heap.size+1,0,none⟩=some (.int .i64 5):=he6.cell 0
     have s3:W.cell? ⟨w.heap.size+1,1,none⟩=some (.int .i64 0):=he6.cell 1
     exact bodyPost_ret (v:=.tuple #[.agg #[.slice none 0 0,.slice none 0 0],.slice none 0 0,.agg #[.int .i64 5,.int .i64 0]]) (by simp [results,Try.results74,go_sem,s0,s1,s2,s3]) rfl (by rw [HS.out];exact ⟨.slice none 0 0,.slice none 0 0,.slice none 0 0,rfl,hr1,hr2,hr3,hxe⟩)
   have h120B:decide ((120:Int)<(l.length:Int))=false:=decide_eq_false (by omega)
   have HS:Hid (R=((Fl.run (Fl.start ws) l).1,(Fl.run (Fl.start ws) l).2,(0,0))):=Lib.hid (by rw [HR.out];unfold Fl.play;rw [if_neg (by rw [HAB.out];simp [ha]),if_neg h120])
   have hB46:w.heap.size+1<w3.heap.size:=hb63.lt
   have hws3:∀ z,Below w3.heap.size w3 z->RdL z F (.slice Aw ws.length cw) ws:=fun z hz=>(hws.below hx03).below hz
   have hl3:∀ z,Below w3.heap.size w3 z->RdL z (fun b=>b<w3.heap.size) (.slice Al l.length cl) l:=fun z hz=>(((hl.below hx03).weak (F':=fun b=>b<w3.heap.size) fun b hb _=>hb)).below hz
   have hx4:=(Below.refl w3.heap.size w3).alloc (Nat.le_refl _) (.cells #[.slice none 0 0,.slice none 0 0] 165)
   have hbF:Blk (w3.alloc (.cells #[.slice none 0 0,.slice none 0 0] 165)) w3.heap.size 165 #[.slice none 0 0,.slice none 0 0]:=heap_alloc_new w3 _
   have hb4z:∀ z,Below w3.heap.size w3 z->Blk z w.heap.size 92 #[.slice none 0 0,.slice none 0 0]:=fun z hz=>hb43.below hz hb43.lt
   have hb6z:∀ z,Below w3.heap.size w3 z->Blk z (w.heap.size+1) 32 #[.int .i64 0,.int .i64 0]:=fun z hz=>hb63.below hz hb63.lt
   go_upto_region 7 with (fail)
   generalize w3.alloc (.cells #[.slice none 0 0,.slice none 0 0] 165)=w4 at *
   generalize hBe:w3.heap.size=B at *
   have hF4:FltAt w4 B B (fun _=>none) (Fl.start (ws.take 0)):=by rw [show Fl.start (ws.take 0)=⟨[],[]⟩ by simp [Fl.start]];exact FltAt.start0 hbF (Nat.le_refl _)
   have hlen8:ws.length<=8:=(Fl.wrongW_ok (by rw [HAB.out];exact ha)).1
   have hInv0:Fl.Inv (Fl.start ws):=Fl.Inv.start (by rw [HAB.out];exact ha)
   have HA:=Lib.hid ha
   clear ha hb4 hb6 hb43 hb63 hbW l0 l1 a0 a1 a2 a3 y0 y1 y2 y3
   go_wp2_with fail
   go_loopg [31] ws.length (fun k i wr=>∃ j:Nat,j+k=ws.length/\i = .int .i64 (j:Int)/\FltAt wr B B (fun _=>none) (Fl.start (ws.take j))/\Below B w3 wr)
   case atStart=>exact ⟨0,by omega,rfl,hF4,hx4⟩
   case round =>
    obtain ⟨j,hj,rfl,hFj,hx⟩:=hrel
    by_cases hlt:j<ws.length
    · obtain ⟨b',off,c',hA1,_,hb1,c0,c1⟩:=win_at (hws3 wr hx) hlt
      injection hA1 with hA1 _ hA3
      subst hA1 hA3
      have hltB:(j:Int)<(ws.length:Int):=by omega
      have hj0:(0:Int)<=(j:Int):=by omega
      have hst:Fl.start (ws.take (j+1))=⟨(Fl.start (ws.take j)).sh++[newShd ws[j].1 ws[j].2],(Fl.start (ws.take j)).book⟩:=by
       unfold Fl.start
       rw [List.take_succ_eq_append_getElem hlt,List.map_append]
       rfl
      have hnj:(Fl.start (ws.take j)).sh.length=j:=by simp [Fl.start];omega
      have HST:=Lib.hid hst
      clear hst
      generalize Fl.start (ws.take j)=fj at *
      generalize ws[j].1=pa at *
      generalize ws[j].2=pb at *
      go_upto_region 10 with (fail)
      have hx5:=(Below.refl wr.heap.size wr).alloc (Nat.le_refl _) (.cells #[.int .i64 pa,.int .i64 pb] 112)
      have hbX:Blk (wr.alloc (.cells #[.int .i64 pa,.int .i64 pb] 112)) wr.heap.size 112 #[.int .i64 pa,.int .i64 pb]:=heap_alloc_new wr _
      have hBr:B<=wr.heap.size:=by have:=hx.size;omega
      obtain ⟨vs,vb,us,rs,hP⟩:=hFj.parts
      have hP5:=hP.below hx5
      have hx05:=hx.trans (hx5.mono hBr)
      have hB5:B<=(wr.alloc (.cells #[.int .i64 pa,.int .i64 pb] 112)).heap.size:=Nat.le_trans hBr hx5.size
      generalize wr.alloc (.cells #[.int .i64 pa,.int .i64 pb] 112)=w5 at *
      generalize wr.heap.size=gX at *
      obtain ⟨Av,cv,hvs,_,hcvm⟩:=Own.shape hP5.2.2.2.1
      subst hvs
      have pv5:w5.cell? ⟨B,0,none⟩=some (.slice Av fj.sh.length cv):=hP5.2.1.cell 0
      have hx6:Below w5.heap.size w5 (w5.alloc (.cells #[.int .i64 pa,.int .i64 pb,.int .i64 1,.slice none 0 0,.int .i64 0,.slice none 0 0,.slice none 0 0] 156)).drew:=((Below.refl w5.heap.size w5).alloc (Nat.le_refl _) _).drew
      have hsrc:SlAt (w5.alloc (.cells #[.int .i64 pa,.int .i64 pb,.int .i64 1,.slice none 0 0,.int .i64 0,.slice none 0 0,.slice none 0 0] 156)).drew (fun b=>b=w5.heap.size) 7 (.slice (some ⟨w5.heap.size,0,none⟩) 1 1) 1 [.int .i64 pa,.int .i64 pb,.int .i64 1,.slice none 0 0,.int .i64 0,.slice none 0 0,.slice none 0 0]:=SlAt.newK w5 _ [_,_,_,_,_,_,_] 7 rfl
      have hP6:=hP5.below hx6
      have hB6:B<=((w5.alloc (.cells #[.int .i64 pa,.int .i64 pb,.int .i64 1,.slice none 0 0,.int .i64 0,.slice none 0 0,.slice none 0 0] 156)).drew).heap.size:=Nat.le_trans hB5 hx6.size
      have hx06:=hx05.trans (hx6.mono hB5)
      have pv6:((w5.alloc (.cells #[.int .i64 pa,.int .i64 pb,.int .i64 1,.slice none 0 0,.int .i64 0,.slice none 0 0,.slice none 0 0] 156)).drew).cell? ⟨B,0,none⟩=some (.slice Av fj.sh.length cv):=hP6.2.1.cell 0
      have hbX6:=hbX.below hx6 hbX.lt
      have hbX5:Blk w5.drew gX 112 #[.int .i64 pa,.int .i64 pb]:=hbX
      have hSX:∀ z:World,Blk z gX 112 #[.int .i64 pa,.int .i64 pb]->z.cell? ⟨gX,0,none⟩=some (.int .i64 pa)/\z.cell? ⟨gX,1,none⟩=some (.int .i64 pb):=fun z hz=>⟨hz.cell 0,hz.cell 1⟩
      have hne1:some gX≠(Value.slice Av fj.sh.length cv).ownBlock:=fun e=>Own.ne_blk hP6.2.2.2.1 hbX6 (by decide) e.symm
      have hne2:some B≠(Value.slice Av fj.sh.length cv).ownBlock:=fun e=>Own.ne_blk hP6.2.2.2.1 hP6.2.1 (by decide) e.symm
      have hneX:gX≠B:=Blk.ne hbX6 hP6.2.1 (by decide)
      obtain ⟨i0,hi,hz0,hz1,hz2⟩:=info_parts info_shd
      have hnj8:fj.sh.length<=8:=by omega
      clear hnj hx5 hbX c0 c1 hb1 hFj hP hP5
      refine wp_region_held_drew (S:=(fun z:World=>z.cell? ⟨gX,0,none⟩=some (.int .i64 pa)/\z.cell? ⟨gX,1,none⟩=some (.int .i64 pb))) (by kernel_rfl) ?_ (fun hHeld=>?_)
      · exact hSX _ hbX5
      refine step_tk 0 (h:=?_)
      refine step_tk 1 (h:=?_)
      refine step_tk 2 (h:=?_)
      refine step_tk 3 (h:=?_)
      refine step_tk 4 (h:=?_)
      refine step_tk 6 (h:=?_)
      refine step_tk 7 (h:=?_)
      refine step_tk 8 (h:=?_)
      refine step_tk 9 (h:=?_)
      refine step_tk 10 (h:=?_)
      refine step_two 5 11 rfl rfl (by kernel_rfl) (by rfl) (by rfl) (fun K hK=>?_) (fun K hK=>?_)
      · skip
        go_simp
        refine hK.out _ _ ?_ (fun hHeld=>?_)
        · exact hSX _ hbX5
        clear hK K
        try simp only [Act.put,List.setIfInBounds_toArray,List.set_cons_zero,List.set_cons_succ]
        refine step_alone 11 rfl (by kernel_rfl) (by rfl) (fun K hK=>?_)
        go_simp
        generalize hw6:(w5.alloc (.cells #[.int .i64 pa,.int .i64 pb,.int .i64 1,.slice none 0 0,.int .i64 0,.slice none 0 0,.slice none 0 0] 156)).drew=w6 at *
        refine hK.out _ _ ?_ (fun hHeld=>?_)
        · exact hSX _ hbX6
        clear hK K
        try simp only [Act.put,List.setIfInBounds_toArray,List.set_cons_zero,List.set_cons_succ]
        refine step_alone 12 rfl (by kernel_rfl) (by rfl) (fun K hK=>?_)
        refine wp_append_Own w6 (.tmp 40) (.tmp 46) 90 (by rfl) B 156 i0 _ 7 104 Try.underlying90 hi hz0 hz1 hz2 rfl (by omega) (.slice Av fj.sh.length cv) fj.sh.length (flatSh fj.sh us) (by rfl) hP6.2.2.2.1 _ _ 1 [.int .i64 pa,.int .i64 pb,.int .i64 1,.slice none 0 0,.int .i64 0,.slice none 0 0,.slice none 0 0] (by rfl) hsrc (by simp [Value.oneCell']) (by simp only [maxLen];omega) (by omega) hB6 ?_
        intro v8 w8 hown8 hgr8 hat8
        obtain ⟨A8,c8,hv8,_,_⟩:=Own.shape hown8
        subst hv8
        have hbX8:Blk w8 gX 112 #[.int .i64 pa,.int .i64 pb]:=hbX6.keep (hgr8.block gX hbX6.lt hne1)
        have hbF8:Blk w8 B 165 #[.slice Av fj.sh.length cv,vb]:=hP6.2.1.keep (hgr8.block B hP6.2.1.lt hne2)
        have pb8:w8.cell? ⟨B,0,none⟩=some (.slice Av fj.sh.length cv):=hbF8.cell 0
        have pf8:=hbF8.frozen 0
        refine hK.out _ _ ?_ (fun hHeld=>?_)
        · exact hSX _ hbX8
        clear hK K
        try simp only [Act.put,List.setIfInBounds_toArray,List.set_cons_zero,List.set_cons_succ]
        refine step_tk 13 (h:=?_)
        refine step_tk 14 (h:=?_)
        refine step_tk 15 (h:=?_)
        refine step_alone 16 rfl (by kernel_rfl) (by rfl) (fun K hK=>?_)
        go_simp
        refine hK.out _ _ ?_ (fun hHeld=>?_)
        · exact hSX _ (hbX8.far (p:=⟨B,0,none⟩) hneX _)
        clear hK K
        try simp only [Act.put,List.setIfInBounds_toArray,List.set_cons_zero,List.set_cons_succ]
        refine wpAnyH_done (by kernel_rfl) ?_ _
        obtain ⟨hP9,hx9⟩:=hP6.shsnoc hB6 hgr8 hown8
        rw [<-HST.out] at hP9
        have hx09:=hx06.trans hx9
        generalize w8.setCell ⟨B,0,none⟩ (.slice A8 (fj.sh.length+1) c8)=w9 at *
        go_wp2_with fail
        go_roundg (gk-1)
        case measure=>omega
        case rel=>exact ⟨j+1,by omega,by go_num,hP9.at_,hx09⟩
      · skip
        go_simp
        generalize hw6:(w5.alloc (.cells #[.int .i64 pa,.int .i64 pb,.int .i64 1,.slice none 0 0,.int .i64 0,.slice none 0 0,.slice none 0 0] 156)).drew=w6 at *
        refine hK.out _ _ ?_ (fun hHeld=>?_)
        · exact hSX _ hbX6
        clear hK K
        try simp only [Act.put,List.setIfInBounds_toArray,List.set_cons_zero,List.set_cons_succ]
        refine step_alone 5 rfl (by kernel_rfl) (by rfl) (fun K hK=>?_)
        go_simp
        refine hK.out _ _ ?_ (fun hHeld=>?_)
        · exact hSX _ hbX6
        clear hK K
        try simp only [Act.put,List.setIfInBounds_toArray,List.set_cons_zero,List.set_cons_succ]
        refine step_alone 12 rfl (by kernel_rfl) (by rfl) (fun K hK=>?_)
        refine wp_append_Own w6 (.tmp 40) (.tmp 46) 90 (by rfl) B 156 i0 _ 7 104 Try.underlying90 hi hz0 hz1 hz2 rfl (by omega) (.slice Av fj.sh.length cv) fj.sh.length (flatSh fj.sh us) (by rfl) hP6.2.2.2.1 _ _ 1 [.int .i64 pa,.int .i64 pb,.int .i64 1,.slice none 0 0,.int .i64 0,.slice none 0 0,.slice none 0 0] (by rfl) hsrc (by simp [Value.oneCell']) (by simp only [maxLen];omega) (by omega) hB6 ?_
        intro v8 w8 hown8 hgr8 hat8
        obtain ⟨A8,c8,hv8,_,_⟩:=Own.shape hown8
        subst hv8
        have hbX8:Blk w8 gX 112 #[.int .i64 pa,.int .i64 pb]:=hbX6.keep (hgr8.block gX hbX6.lt hne1)
        have hbF8:Blk w8 B 165 #[.slice Av fj.sh.length cv,vb]:=hP6.2.1.keep (hgr8.block B hP6.2.1.lt hne2)
        have pb8:w8.cell? ⟨B,0,none⟩=some (.slice Av fj.sh.length cv):=hbF8.cell 0
        have pf8:=hbF8.frozen 0
        refine hK.out _ _ ?_ (fun hHeld=>?_)
        · exact hSX _ hbX8
        clear hK K
        try simp only [Act.put,List.setIfInBounds_toArray,List.set_cons_zero,List.set_cons_succ]
        refine step_tk 13 (h:=?_)
        refine step_tk 14 (h:=?_)
        refine step_tk 15 (h:=?_)
        refine step_alone 16 rfl (by kernel_rfl) (by rfl) (fun K hK=>?_)
        go_simp
        refine hK.out _ _ ?_ (fun hHeld=>?_)
        · exact hSX _ (hbX8.far (p:=⟨B,0,none⟩) hneX _)
        clear hK K
        try simp only [Act.put,List.setIfInBounds_toArray,List.set_cons_zero,List.set_cons_succ]
        refine wpAnyH_done (by kernel_rfl) ?_ _
        obtain ⟨hP9,hx9⟩:=hP6.shsnoc hB6 hgr8 hown8
        rw [<-HST.out] at hP9
        have hx09:=hx06.trans hx9
        generalize w8.setCell ⟨B,0,none⟩ (.slice A8 (fj.sh.length+1) c8)=w9 at *
        go_wp2_with fail
        go_roundg (gk-1)
        case measure=>omega
        case rel=>exact ⟨j+1,by omega,by go_num,hP9.at_,hx09⟩
    · have hltB:decide ((j:Int)<(ws.length:Int))=false:=decide_eq_false (by omega)
      have hjn:ws.take j=ws:=List.take_of_length_le (by omega)
      rw [hjn] at hFj
      clear hjn
      generalize Fl.start ws=f0 at *
      go_wp2_with fail
      go_loopg [11,54] l.length (fun k o i wr=>∃ j:Nat,j+k=l.length/\i = .int .i64 (j:Int)/\∃ (Ao:Option Addr) (co:Nat) (tag:Tag),o = .slice Ao j co/\FltAt wr B B tag (Fl.run f0 (l.take j)).1/\TagOk wr B tag/\AnsAt wr B tag (.slice Ao j co) (Fl.run f0 (l.take j)).2/\Below B w3 wr)
      case atStart=>exact ⟨0,by omega,rfl,none,0,fun _=>none,rfl,hFj,⟨fun _ _=>rfl,fun _ _=>rfl⟩,AnsAt.nil_ _ _ _,hx⟩
      clear hFj hx
      case round =>
       obtain ⟨j,hj,rfl,Ao,co,tag,rfl,hFj,hTj,hAj,hx⟩:=hrel
       have hBr:B<=wr.heap.size:=by have:=hx.size;omega
       by_cases hlt:j<l.length
       · obtain ⟨q,off,c',hA1,hdo⟩:=do_at (hl3 wr hx) hlt hBr
         injection hA1 with hA1 _ hA3
         subst hA1 hA3
         have hltB:(j:Int)<(l.length:Int):=by omega
         have hj0:(0:Int)<=(j:Int):=by omega
         have HRN:=Lib.hid (Fl.run_next f0 l hlt)
         have hInv:=hInv0.run (l.take j)
         have HLA:Hid ((Fl.run f0 (l.take j)).2.length=j):=Lib.hid (by rw [Fl.length_run,List.length_take];omega)
         have hr32:=Fl.step_root hInv l[j]
         have HC:=Lib.hid (do_any wr B B q (off+j*7) tag _ l[j] hFj hTj hInv hdo)
         generalize Fl.run f0 (l.take j)=fa at *
         obtain ⟨fj,aj⟩:=fa
         simp only at hFj hAj hInv HLA hr32 HC HRN
         generalize Fl.step fj l[j]=sp at *
         obtain ⟨f6,ae,as_,ap,az,ar⟩:=sp
         simp only at hr32 HC HRN
         go_wp2_with fail
         with_reducible refine HC.out.mono ?_
         rintro e w6 ⟨rv,tag',rfl,hF6,hT6,hK6,hrv6⟩
         obtain ⟨A6,c6,hrve,_,_⟩:=Own.shape hrv6
         subst hrve
         clear HC
         simp only at hF6 hrv6
         have hA6:=hAj.kept hK6
         have hx6:Below B w3 w6:=hx.trans hK6.1
         clear hdo hFj hTj hAj hInv hK6 hx
         go_upto_region 17 with (fail)
         have hx7:=(Below.refl w6.heap.size w6).alloc (Nat.le_refl _) (.cells #[.int .i64 (ae:Int),.int .i64 as_,.int .i64 ap,.int .i64 az,.slice A6 ar.length c6] 105)
         have hbY:Blk (w6.alloc (.cells #[.int .i64 (ae:Int),.int .i64 as_,.int .i64 ap,.int .i64 az,.slice A6 ar.length c6] 105)) w6.heap.size 105 #[.int .i64 (ae:Int),.int .i64 as_,.int .i64 ap,.int .i64 az,.slice A6 ar.length c6]:=heap_alloc_new w6 _
         have hB6:B<=w6.heap.size:=by have:=hx6.size;omega
         have hne8:(Value.slice Ao j co).ownBlock≠some w6.heap.size:=by
          obtain ⟨rs6,r16,r26,r36,r46⟩:=hA6
          intro e
          have:=(Own.lt r26 _ e).2
          omega
         have hF7:=hF6.below hx7
         have hT7:=hT6.size hx7.size
         have hA7:=hA6.below hx7
         have hrv7:=OwnB.below hrv6 hx7
         have hx07:=hx6.trans (hx7.mono hB6)
         generalize w6.alloc (.cells #[.int .i64 (ae:Int),.int .i64 as_,.int .i64 ap,.int .i64 az,.slice A6 ar.length c6] 105)=w7 at *
         generalize w6.heap.size=gY at *
         have e4:w7.cell? ⟨gY,4,none⟩=some (.slice A6 ar.length c6):=hbY.cell 4
         go_wp2_with fail
         with_reducible refine (clone_any w7 _ (.slice A6 ar.length c6) ar (OwnB.bytes hrv7) (Nat.le_trans hr32 (by decide))).mono ?_
         rintro e w8 ⟨v8,rfl,ho8,hx8⟩
         obtain ⟨A8,c8,hv8,_,_⟩:=Own.shape ho8
         subst hv8
         have hB7:B<=w7.heap.size:=by have:=hx07.size;omega
         have hF8:=hF7.below hx8
         have hT8:=hT7.size hx8.size
         have hA8:=hA7.below hx8
         have hbY8:=hbY.below hx8 hbY.lt
         have hx08:=hx07.trans (hx8.mono hB7)
         have hrt8:TB w8 B tag' none (.slice A8 ar.length c8) ar:=⟨ho8.mono hB7,fun b hb=>hT7.2 b (Own.lt ho8 b hb).1⟩
         have y4:w8.cell? ⟨gY,4,none⟩=some (.slice A6 ar.length c6):=hbY8.cell 4
         have yf4:=hbY8.frozen 4
         go_upto_region 18 with (fail)
         have hbY9:=hbY8.set_ 4 (.slice A8 ar.length c8)
         have hsm:=Same1.set hbY8 4 (.slice A8 ar.length c8)
         have hF9:=hF8.alien hsm ans_alien
         have hT9:TagOk (w8.setCell ⟨gY,4,none⟩ (.slice A8 ar.length c8)) B tag':=hT8.size (by simp)
         obtain ⟨rs,r1,r2,r3,r4⟩:=hA8
         have hgY:B<=gY:=hB6
         have r29:=Own.setCell (p:=⟨gY,4,none⟩) r2 hne8 (.slice A8 ar.length c8)
         have r49:∀ (i:Nat) (a:Ans) (u:Value),aj[i]? = some a->rs[i]? = some u->TB (w8.setCell ⟨gY,4,none⟩ (.slice A8 ar.length c8)) B tag' none u a.root:=fun i a u ha hu=>(r4 i a u ha hu).alien hsm (by decide)
         have hrt9:TB (w8.setCell ⟨gY,4,none⟩ (.slice A8 ar.length c8)) B tag' none (.slice A8 ar.length c8) ar:=hrt8.alien hsm (by decide)
         have hx09:Below B w3 (w8.setCell ⟨gY,4,none⟩ (.slice A8 ar.length c8)):=hx08.setCell (p:=⟨gY,4,none⟩) hgY _
         clear hsm hbY8 hF8 hT8 r2 r4 hrt8 hx08 hA6 hA7 hF7 hF6
         generalize w8.setCell ⟨gY,4,none⟩ (.slice A8 ar.length c8)=w9 at *
         have hx10:=(Below.refl w9.heap.size w9).alloc (Nat.le_refl _) (.cells #[.int .i64 (ae:Int),.int .i64 as_,.int .i64 ap,.int .i64 az,.slice A8 ar.length c8] 105)
         have hB9:B<=w9.heap.size:=by have:=hx09.size;omega
         have hF10:=hF9.below hx10
         have hT10:=hT9.size hx10.size
         have r210:=r29.alloc (.cells #[.int .i64 (ae:Int),.int .i64 as_,.int .i64 ap,.int .i64 az,.slice A8 ar.length c8] 105)
         have r410:∀ (i:Nat) (a:Ans) (u:Value),aj[i]? = some a->rs[i]? = some u->TB (w9.alloc (.cells #[.int .i64 (ae:Int),.int .i64 as_,.int .i64 ap,.int .i64 az,.slice A8 ar.length c8] 105)) B tag' none u a.root:=fun i a u ha hu=>(r49 i a u ha hu).below hx10
         have hrt10:=hrt9.below hx10
         have hx010:=hx09.trans (hx10.mono hB9)
         have hsrc:SlAt (w9.alloc (.cells #[.int .i64 (ae:Int),.int .i64 as_,.int .i64 ap,.int .i64 az,.slice A8 ar.length c8] 105)) _ 5 (.slice (some ⟨w9.heap.size,0,none⟩) 1 1) 1 [.int .i64 (ae:Int),.int .i64 as_,.int .i64 ap,.int .i64 az,.slice A8 ar.length c8]:=SlAt.newK w9 _ [.int .i64 (ae:Int),.int .i64 as_,.int .i64 ap,.int .i64 az,.slice A8 ar.length c8] 5 rfl
         have r310:=r210
         rw [HLA.out] at r310
         have hB10:B<=(w9.alloc (.cells #[.int .i64 (ae:Int),.int .i64 as_,.int .i64 ap,.int .i64 az,.slice A8 ar.length c8] 105)).heap.size:=Nat.le_trans hB9 hx10.size
         have q0:w9.cell? ⟨gY,0,none⟩=some (.int .i64 (ae:Int)):=hbY9.cell 0
         have q1:w9.cell? ⟨gY,1,none⟩=some (.int .i64 as_):=hbY9.cell 1
         have q2:w9.cell? ⟨gY,2,none⟩=some (.int .i64 ap):=hbY9.cell 2
         have q3:w9.cell? ⟨gY,3,none⟩=some (.int .i64 az):=hbY9.cell 3
         have q4:w9.cell? ⟨gY,4,none⟩=some (.slice A8 ar.length c8):=hbY9.cell 4
         obtain ⟨i0,hi,hz0,hz1,hz2⟩:=info_parts info_ans
         clear hx10 r29 r49 hF9 hT9 hrt9 hx09 hB9
         go_wp2_with (at_builtin
                      refine wpList_append_Own _ (by rfl) (.tmp 68) (.tmp 70) 93 (by rfl) B 105 i0 _ 5 56 Try.underlying93 hi hz0 hz1 hz2 (by rfl) (by omega) (.slice Ao j co) j (flatA aj rs) (by rfl) r310 _ _ 1 [.int .i64 (ae:Int),.int .i64 as_,.int .i64 ap,.int .i64 az,.slice A8 ar.length c8] (by rfl) hsrc (by simp [Value.oneCell']) (by simp only [maxLen];omega) (by omega) hB10 ?_
                      intro v11 w11 hown11 hgr11 hat11
                      obtain ⟨A11,c11,hv11,_,_⟩:=Own.shape hown11
                      subst hv11)
         have hA11:=AnsAt.snoc (a:=⟨ae,as_,ap,az,ar⟩) r1 r210 r3 r410 hrt10 hgr11 (by rw [HLA.out];exact hown11) hat11 hT10
         have hF11:=hF10.alien (Same1.grown hgr11 r210) ans_alien
         have hT11:=hT10.size hgr11.size
         have hx011:Below B w3 w11:=hx010.grown hgr11 (by have:=hx010.size;omega) (fun b hb=>(r210.lt b hb).1)
         go_roundg (gk-1)
         case measure=>omega
         case rel=>exact ⟨j+1,by omega,by go_num,A11,c11,tag',rfl,by rw [HRN.out];exact hF11,hT11,by rw [HRN.out];exact hA11,hx011⟩
       · have hltB:decide ((j:Int)<(l.length:Int))=false:=decide_eq_false (by omega)
         have hjn:l.take j=l:=List.take_of_length_le (by omega)
         rw [hjn] at hFj hAj
         clear hjn
         have hInv:=hInv0.run l
         generalize Fl.run f0 l=fa at *
         obtain ⟨Ff,la⟩:=fa
         simp only at hFj hAj hInv HS
         have hbook8:=hInv.book_len
         have hBr:B<=wr.heap.size:=by have:=hx.size;omega
         obtain ⟨vs,vb,us,rs,hP⟩:=hFj.parts
         obtain ⟨Ab,cb,hvb,_,hcbm⟩:=Own.shape hP.2.2.2.2.2.2.1
         unfold maxLen at hcbm
         subst hvb
         obtain ⟨Av,cv,hvv,_,_⟩:=Own.shape hP.2.2.2.1
         subst hvv
         have g1:wr.cell? ⟨B,1,none⟩=some (.slice Ab Ff.book.length cb):=hP.2.1.cell 1
         clear hFj
         go_wp2_with fail
         go_loopg [79] Ff.book.length (fun k i wr=>∃ m:Nat,m+k=Ff.book.length/\i = .int .i64 (m:Int)/\∃ us rs,FltP wr B B tag Ff (.slice Av Ff.sh.length cv) (.slice Ab Ff.book.length cb) us rs/\TagOk wr B tag/\AnsAt wr B tag (.slice Ao j co) la/\Below B w3 wr)
         case atStart=>exact ⟨0,by omega,rfl,us,rs,hP,hTj,hAj,hx⟩
         clear hP hTj hAj hx hBr g1
         case round =>
          obtain ⟨i,hi',rfl,us,rs,hP,hTj,hAj,hx⟩:=hrel
          have hBr:B<=wr.heap.size:=by have:=hx.size;omega
          by_cases hlt:i<Ff.book.length
          · have hltB:(i:Int)<(Ff.book.length:Int):=by omega
            have hi0:(0:Int)<=(i:Int):=by omega
            obtain ⟨gB,oB,cB,hvB,hgBB,hgBlt,hnB,_,hcB⟩:=hP.2.2.2.2.2.2.1.form (by omega)
            injection hvB with hvB _ hvc
            subst hvB hvc
            obtain ⟨r,hbr⟩:∃ r,Ff.book[i]? = some r:=⟨_,List.getElem?_eq_getElem hlt⟩
            obtain ⟨rv,hwi⟩:∃ v,rs[i]? = some v:=⟨_,List.getElem?_eq_getElem (by have:=hP.2.2.2.2.2.1;omega)⟩
            have hrt:=hP.2.2.2.2.2.2.2 i r rv hbr hwi
            obtain ⟨Ar,cr,hrv,_,_⟩:=Own.shape hrt.1
            subst hrv
            have hr32:r.root.length<=140737488355000:=by rw [(hInv.book r (List.mem_of_getElem? hbr)).root];decide
            have p4:wr.cell? ⟨gB,oB+i*5+4,none⟩=some (.slice Ar r.root.length cr):=by rw [Nat.add_assoc];exact hcB _ _ (flat_at rcCells (fun _ _=>rfl) Ff.book rs i 4 r _ _ hbr hwi rfl)
            have g13:wr.cell? ⟨B,1,none⟩=some (.slice (some ⟨gB,oB,none⟩) Ff.book.length cb):=hP.2.1.cell 1
            have hneB:B≠gB:=by
             obtain ⟨_,cur,hc⟩:=Own.type hP.2.2.2.2.2.2.1 gB rfl
             exact Blk.ne hP.2.1 hc (by decide)
            clear hcB
            go_upto_region 23 with (fail)
            refine wp_region_held_drew (S:=(fun z:World=>z.cell? ⟨B,1,none⟩=some (.slice (some ⟨gB,oB,none⟩) Ff.book.length cb))) (by kernel_rfl) ?_ (fun hHeld=>?_)
            · exact g13
            refine step_tk 0 (h:=?_)
            refine step_tk 1 (h:=?_)
            refine step_tk 2 (h:=?_)
            refine step_tk 3 (h:=?_)
            refine step_tk 4 (h:=?_)
            refine step_tk 5 (h:=?_)
            refine step_tk 6 (h:=?_)
            refine step_tk 7 (h:=?_)
            refine step_tk 8 (h:=?_)
            refine step_tk 9 (h:=?_)
            refine step_tk 10 (h:=?_)
            refine step_tk 11 (h:=?_)
            refine step_tk 12 (h:=?_)
            refine step_tk 13 (h:=?_)
            refine step_tk 14 (h:=?_)
            refine step_alone 15 rfl (by kernel_rfl) (by rfl) (fun K hK=>?_)
            go_simp
            refine hK.out _ _ ?_ (fun hHeld=>?_)
            · exact g13
            clear hK K
            try simp only [Act.put,List.setIfInBounds_toArray,List.set_cons_zero,List.set_cons_succ]
            refine step_alone 16 rfl (by kernel_rfl) (by rfl) (fun K hK=>?_)
            go_simp
            refine (clone_any wr.drew _ (.slice Ar r.root.length cr) r.root (OwnB.bytes (hrt.1.drew)) hr32).mono ?_
            rintro e w6 ⟨v6,rfl,ho6,hx6⟩
            obtain ⟨A6,c6,hv6,_,_⟩:=Own.shape ho6
            subst hv6
            have hx6':Below wr.heap.size wr w6:=Below.trans ((Below.refl wr.heap.size wr).drew) hx6
            have hP6:=hP.below hx6'
            have g16:w6.cell? ⟨B,1,none⟩=some (.slice (some ⟨gB,oB,none⟩) Ff.book.length cb):=hP6.2.1.cell 1
            have p46:w6.cell? ⟨gB,oB+i*5+4,none⟩=some (.slice Ar r.root.length cr):=(hx6'.cell (p:=⟨gB,oB+i*5+4,none⟩) hgBlt).trans p4
            have pf6:w6.frozen? ⟨gB,oB+i*5+4,none⟩=false:=by obtain ⟨_,cur,hc⟩:=Own.type hP6.2.2.2.2.2.2.1 gB rfl;exact frozen_of_row w6 gB _ cur _ hc
            go_simp
            refine hK.out _ _ ?_ (fun hHeld=>?_)
            · exact g16
            clear hK K
            try simp only [Act.put,List.setIfInBounds_toArray,List.set_cons_zero,List.set_cons_succ]
            refine step_tk 17 (h:=?_)
            refine step_tk 18 (h:=?_)
            refine step_tk 19 (h:=?_)
            refine step_alone 20 rfl (by kernel_rfl) (by rfl) (fun K hK=>?_)
            go_simp
            refine hK.out _ _ ?_ (fun hHeld=>?_)
            · exact (World.cell?_of_block (Below.heap_setCell _ _ _ B hneB)).trans g16
            clear hK K
            try simp only [Act.put,List.setIfInBounds_toArray,List.set_cons_zero,List.set_cons_succ]
            refine wpAnyH_done (by kernel_rfl) ?_ _
            have hT6:=hTj.size hx6'.size
            have hA6:=hAj.below hx6'
            have hx06:=hx.trans (hx6'.mono hBr)
            obtain ⟨hP9,hK9,_⟩:=hP6.bookRoot (rv:=.slice A6 r.root.length c6) hbr ⟨OwnB.mono ho6 hBr,fun b hb=>hTj.2 b (Own.lt ho6 b hb).1⟩
            have hA9:=hA6.kept hK9
            have hx09:=hx06.trans hK9.1
            have hT9:TagOk (w6.setCell ⟨gB,oB+i*5+4,none⟩ (.slice A6 r.root.length c6)) B tag:=hT6.size (by simp)
            generalize w6.setCell ⟨gB,oB+i*5+4,none⟩ (.slice A6 r.root.length c6)=w9 at *
            go_wp2_with fail
            go_roundg (gk-1)
            case measure=>omega
            case rel=>exact ⟨i+1,by omega,by go_num,us,_,hP9,hT9,hA9,hx09⟩
          · have hltB:decide ((i:Int)<(Ff.book.length:Int))=false:=decide_eq_false (by omega)
            have hb4r:=hb4z wr hx
            have hb6r:=hb6z wr hx
            have g0:wr.cell? ⟨B,0,none⟩=some (.slice Av Ff.sh.length cv):=hP.2.1.cell 0
            have g1:wr.cell? ⟨B,1,none⟩=some (.slice Ab Ff.book.length cb):=hP.2.1.cell 1
            have hwB:w.heap.size<=B:=by omega
            have hx0r:Below w.heap.size w wr:=hx03.trans (hx.mono hwB)
            have a0:wr.cell? ⟨w.heap.size,0,none⟩=some (.slice none 0 0):=hb4r.cell 0
            have a1:wr.cell? ⟨w.heap.size,1,none⟩=some (.slice none 0 0):=hb4r.cell 1
            have a2:wr.cell? ⟨w.heap.size+1,0,none⟩=some (.int .i64 0):=hb6r.cell 0
            have a3:wr.cell? ⟨w.heap.size+1,1,none⟩=some (.int .i64 0):=hb6r.cell 1
            have y0:=hb4r.frozen 0
            have y1:=hb4r.frozen 1
            have y2:=hb6r.frozen 0
            have y3:=hb6r.frozen 1
            go_wp2_with fail
            have hn45:w.heap.size≠w.heap.size+1:=by omega
            have hn54:w.heap.size+1≠w.heap.size:=by omega
            have he4:Blk ((((wr.setCell ⟨w.heap.size,0,none⟩ (.slice Av Ff.sh.length cv)).setCell ⟨w.heap.size,1,none⟩ (.slice Ab Ff.book.length cb)).setCell ⟨w.heap.size+1,0,none⟩ (.int .i64 0)).setCell ⟨w.heap.size+1,1,none⟩ (.int .i64 0)) w.heap.size 92 #[.slice Av Ff.sh.length cv,.slice Ab Ff.book.length cb]:=(hb4r.set2 (.slice Av Ff.sh.length cv) (.slice Ab Ff.book.length cb)).far2 hn45 (.int .i64 0) (.int .i64 0)
            have he6:Blk ((((wr.setCell ⟨w.heap.size,0,none⟩ (.slice Av Ff.sh.length cv)).setCell ⟨w.heap.size,1,none⟩ (.slice Ab Ff.book.length cb)).setCell ⟨w.heap.size+1,0,none⟩ (.int .i64 0)).setCell ⟨w.heap.size+1,1,none⟩ (.int .i64 0)) (w.heap.size+1) 32 #[.int .i64 0,.int .i64 0]:=(hb6r.far2 hn54 (.slice Av Ff.sh.length cv) (.slice Ab Ff.book.length cb)).set2 (.int .i64 0) (.int .i64 0)
            have hxe:Below w.heap.size w ((((wr.setCell ⟨w.heap.size,0,none⟩ (.slice Av Ff.sh.length cv)).setCell ⟨w.heap.size,1,none⟩ (.slice Ab Ff.book.length cb)).setCell ⟨w.heap.size+1,0,none⟩ (.int .i64 0)).setCell ⟨w.heap.size+1,1,none⟩ (.int .i64 0)):=below_set2 (below_set2 hx0r (Nat.le_refl _) (.slice Av Ff.sh.length cv) (.slice Ab Ff.book.length cb)) (Nat.le_succ _) (.int .i64 0) (.int .i64 0)
            have hPe:=(hP.set2 hb4r fleet_alien (.slice Av Ff.sh.length cv) (.slice Ab Ff.book.length cb)).set2 (hb6r.far2 hn54 (.slice Av Ff.sh.length cv) (.slice Ab Ff.book.length cb)) fault_alien (.int .i64 0) (.int .i64 0)
            have hAe:=(hAj.set2 hb4r (by decide) (by decide) (.slice Av Ff.sh.length cv) (.slice Ab Ff.book.length cb)).set2 (hb6r.far2 hn54 (.slice Av Ff.sh.length cv) (.slice Ab Ff.book.length cb)) (by decide) (by decide) (.int .i64 0) (.int .i64 0)
            have hr1:=hPe.rd.1.weak (F':=fun b=>w.heap.size<=b) (fun b _ h=>Nat.le_trans hwB h)
            have hr2:=hPe.rd.2.weak (F':=fun b=>w.heap.size<=b) (fun b _ h=>Nat.le_trans hwB h)
            have hr3:=hAe.rd.weak (F':=fun b=>w.heap.size<=b) (fun b _ h=>Nat.le_trans hwB h)
            clear hPe hAe
            generalize ((((wr.setCell ⟨w.heap.size,0,none⟩ (.slice Av Ff.sh.length cv)).setCell ⟨w.heap.size,1,none⟩ (.slice Ab Ff.book.length cb)).setCell ⟨w.heap.size+1,0,none⟩ (.int .i64 0)).setCell ⟨w.heap.size+1,1,none⟩ (.int .i64 0))=W at *
            have s0:W.cell? ⟨w.heap.size,0,none⟩=some (.slice Av Ff.sh.length cv):=he4.cell 0
            have s1:W.cell? ⟨w.heap.size,1,none⟩=some (.slice Ab Ff.book.length cb):=he4.cell 1
            have s2:W.cell? ⟨w.heap.size+1,0,none⟩=some (.int .i64 0):=he6.cell 0
            have s3:W.cell? ⟨w.heap.size+1,1,none⟩=some (.int .i64 0):=he6.cell 1
            exact bodyPost_ret (v:=.tuple #[.agg #[.slice Av Ff.sh.length cv,.slice Ab Ff.book.length cb],.slice Ao j co,.agg #[.int .i64 0,.int .i64 0]]) (by simp [results,Try.results74,go_sem,s0,s1,s2,s3]) rfl (by rw [HS.out];exact ⟨.slice Av Ff.sh.length cv,.slice Ab Ff.book.length cb,.slice Ao j co,rfl,hr1,hr2,hr3,hxe⟩)
 · have hne:((a:Int) != 0)=true:=by rw [bne_iff_ne];omega
   have HS:Hid (R=(⟨[],[]⟩,[],(a,b))):=Lib.hid (by rw [HR.out];unfold Fl.play;rw [if_pos (by rw [HAB.out];exact ha),HAB.out])
   have hn4:gW≠w.heap.size:=by omega
   have hn5:gW≠w.heap.size+1:=by omega
   go_upto_region 3 with (fail)
   refine wp_region_held_drew (S:=(fun z:World=>z.cell? ⟨gW,0,none⟩=some (.int .i64 (a:Int))/\z.cell? ⟨gW,1,none⟩=some (.int .i64 (b:Int)))) (by kernel_rfl) ?_ (fun hHeld=>?_)
   · exact ⟨l0,l1⟩
   refine step_tk 0 (h:=?_)
   refine step_tk 1 (h:=?_)
   refine step_alone 2 rfl (by kernel_rfl) (by rfl) (fun K hK=>?_)
   go_simp
   refine hK.out _ _ ?_ (fun hHeld=>?_)
   · exact ⟨(World.cell?_of_block ((Below.heap_setCell _ _ _ gW hn4).trans (Below.heap_setCell _ _ _ gW hn4))).trans l0,(World.cell?_of_block ((Below.heap_setCell _ _ _ gW hn4).trans (Below.heap_setCell _ _ _ gW hn4))).trans l1⟩
   clear hK K
   try simp only [Act.put,List.setIfInBounds_toArray,List.set_cons_zero,List.set_cons_succ]
   refine step_tk 3 (h:=?_)
   refine step_alone 4 rfl (by kernel_rfl) (by rfl) (fun K hK=>?_)
   go_simp
   refine hK.out _ _ ?_ (fun hHeld=>?_)
   · exact ⟨(World.cell?_of_block ((Below.heap_setCell _ _ _ gW hn5).trans ((Below.heap_setCell _ _ _ gW hn5).trans ((Below.heap_setCell _ _ _ gW hn4).trans (Below.heap_setCell _ _ _ gW hn4))))).trans l0,(World.cell?_of_block ((Below.heap_setCell _ _ _ gW hn5).trans ((Below.heap_setCell _ _ _ gW hn5).trans ((Below.heap_setCell _ _ _ gW hn4).trans (Below.heap_setCell _ _ _ gW hn4))))).trans l1⟩
   clear hK K
   try simp only [Act.put,List.setIfInBounds_toArray,List.set_cons_zero,List.set_cons_succ]
   refine wpAnyH_done (by kernel_rfl) ?_ _
   go_wp2_with fail
   have hn45:w.heap.size≠w.heap.size+1:=by omega
   have hn54:w.heap.size+1≠w.heap.size:=by omega
   have he4:Blk ((((w3.setCell ⟨w.heap.size,0,none⟩ (.slice none 0 0)).setCell ⟨w.heap.size,1,none⟩ (.slice none 0 0)).setCell ⟨w.heap.size+1,0,none⟩ (.int .i64 (a:Int))).setCell ⟨w.heap.size+1,1,none⟩ (.int .i64 (b:Int))).drew w.heap.size 92 #[.slice none 0 0,.slice none 0 0]:=(hb43.set2 (.slice none 0 0) (.slice none 0 0)).far2 hn45 (.int .i64 (a:Int)) (.int .i64 (b:Int))
   have he6:Blk ((((w3.setCell ⟨w.heap.size,0,none⟩ (.slice none 0 0)).setCell ⟨w.heap.size,1,none⟩ (.slice none 0 0)).setCell ⟨w.heap.size+1,0,none⟩ (.int .i64 (a:Int))).setCell ⟨w.heap.size+1,1,none⟩ (.int .i64 (b:Int))).drew (w.heap.size+1) 32 #[.int .i64 (a:Int),.int .i64 (b:Int)]:=(hb63.far2 hn54 (.slice none 0 0) (.slice none 0 0)).set2 (.int .i64 (a:Int)) (.int .i64 (b:Int))
   have hxe:Below w.heap.size w ((((w3.setCell ⟨w.heap.size,0,none⟩ (.slice none 0 0)).setCell ⟨w.heap.size,1,none⟩ (.slice none 0 0)).setCell ⟨w.heap.size+1,0,none⟩ (.int .i64 (a:Int))).setCell ⟨w.heap.size+1,1,none⟩ (.int .i64 (b:Int))).drew:=below_set2 (below_set2 hx03 (Nat.le_refl _) (.slice none 0 0) (.slice none 0 0)) (Nat.le_succ _) (.int .i64 (a:Int)) (.int .i64 (b:Int)) |> fun h=>h.drew
   have hr1:RdL ((((w3.setCell ⟨w.heap.size,0,none⟩ (.slice none 0 0)).setCell ⟨w.heap.size,1,none⟩ (.slice none 0 0)).setCell ⟨w.heap.size+1,0,none⟩ (.int .i64 (a:Int))).setCell ⟨w.heap.size+1,1,none⟩ (.int .i64 (b:Int))).drew (fun b=>w.heap.size<=b) (.slice none 0 0) ([]:List Shd):=rdL_nil _ _
   have hr2:RdL ((((w3.setCell ⟨w.heap.size,0,none⟩ (.slice none 0 0)).setCell ⟨w.heap.size,1,none⟩ (.slice none 0 0)).setCell ⟨w.heap.size+1,0,none⟩ (.int .i64 (a:Int))).setCell ⟨w.heap.size+1,1,none⟩ (.int .i64 (b:Int))).drew (fun b=>w.heap.size<=b) (.slice none 0 0) ([]:List Rec):=rdL_nil _ _
   have hr3:RdL ((((w3.setCell ⟨w.heap.size,0,none⟩ (.slice none 0 0)).setCell ⟨w.heap.size,1,none⟩ (.slice none 0 0)).setCell ⟨w.heap.size+1,0,none⟩ (.int .i64 (a:Int))).setCell ⟨w.heap.size+1,1,none⟩ (.int .i64 (b:Int))).drew (fun b=>w.heap.size<=b) (.slice none 0 0) ([]:List Ans):=rdL_nil _ _
   generalize ((((w3.setCell ⟨w.heap.size,0,none⟩ (.slice none 0 0)).setCell ⟨w.heap.size,1,none⟩ (.slice none 0 0)).setCell ⟨w.heap.size+1,0,none⟩ (.int .i64 (a:Int))).setCell ⟨w.heap.size+1,1,none⟩ (.int .i64 (b:Int))).drew=W at *
   have s0:W.cell? ⟨w.heap.size,0,none⟩=some (.slice none 0 0):=he4.cell 0
   have s1:W.cell? ⟨w.heap.size,1,none⟩=some (.slice none 0 0):=he4.cell 1
   have s2:W.cell? ⟨w.heap.size+1,0,none⟩=some (.int .i64 (a:Int)):=he6.cell 0
   have s3:W.cell? ⟨w.heap.size+1,1,none⟩=some (.int .i64 (b:Int)):=he6.cell 1
   exact bodyPost_ret (v:=.tuple #[.agg #[.slice none 0 0,.slice none 0 0],.slice none 0 0,.agg #[.int .i64 (a:Int),.int .i64 (b:Int)]]) (by simp [results,Try.results74,go_sem,s0,s1,s2,s3]) rfl (by rw [HS.out];exact ⟨.slice none 0 0,.slice none 0 0,.slice none 0 0,rfl,hr1,hr2,hr3,hxe⟩)
end Go.Proofs.Ytfdibjgmbdkbcaa
