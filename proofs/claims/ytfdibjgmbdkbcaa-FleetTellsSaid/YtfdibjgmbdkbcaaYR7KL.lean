/-
  THE WALK of yearref5.Step, whatever is done. Conditions: a fleet of which all holds, its manifests not too long; what is done is read. THE WALK of yearref5.Play. Conditions: what comes in is read as windows, and as what is done.
-/
import Derived.Test.YtfdibjgmbdkbcaaYRepr
import Derived.Test.YtfdibjgmbdkbcaaYR7BC
import Derived.Test.YtfdibjgmbdkbcaaYR7DE
import Derived.Test.YtfdibjgmbdkbcaaYR7F
import Derived.Test.YtfdibjgmbdkbcaaYRw
import Derived.Test.YtfdibjgmbdkbcaaYR7H
import Derived.Test.YtfdibjgmbdkbcaaYR7IJ
namespace Go.Proofs.Ytfdibjgmbdkbcaa
open Go.RowKit Go.Lib
theorem rstep_any [Away] (w:World) (B gF gS:Nat) (f:Flt) (d:Dob) (Ae:Option Addr) (ce:Nat) (F0:Nat->Prop) (hF:RFlt w B gF gS gF f) (hBw:B<=w.heap.size) (he:Bytes w F0 (.slice Ae d.entry.length ce) d.entry) (hI:Fl.Inv f) (hM:Fl.MOk f) :
 Calls Try.prog 113 #[.pointer (some ⟨gF,0,none⟩),.agg #[.int .i64 d.kind,.int .i64 d.n,.int .i64 d.time,.slice Ae d.entry.length ce,.int .i64 d.seg,.int .i64 d.pos,bv d.turn]] w (RStepP w B gF gS (Fl.step f d)):=by
 by_cases h1:d.kind=1
 · by_cases h2:200<d.entry.length
   · exact rstep_much w B gF gS f d Ae ce F0 hF hBw he h1 h2
   · exact rstep_submit w B gF gS f d Ae ce F0 hF hBw he h1 h2 hI
 by_cases h25:d.kind<2\/5<d.kind
 · exact rstep_kind w B gF gS f d Ae ce F0 hF hBw he h1 h25
 by_cases hn:d.n<0\/(f.sh.length:Int)<=d.n
 · exact rstep_none w B gF gS f d Ae ce F0 hF hBw he h1 (by omega) (by omega) hn
 obtain ⟨k,hk⟩:∃ k:Nat,d.n=(k:Int):=⟨d.n.toNat,by omega⟩
 obtain ⟨s,hs⟩:∃ s,f.sh[k]? = some s:=⟨_,List.getElem?_eq_getElem (by omega)⟩
 rcases (show d.kind=2\/d.kind=3\/d.kind=4\/d.kind=5 by omega) with h | h | h | h
 · by_cases hst:s.st=1
   · exact rstep_freeze w B gF gS f d Ae ce F0 hF hBw he h k hk s hs hst hI
   · exact rstep_fit2 w B gF gS f d Ae ce F0 hF hBw he h k hk s hs hst
 · by_cases hst:s.st=2
   · exact rstep_lay w B gF gS f d Ae ce F0 hF hBw he h k hk s hs hst hI
   · exact rstep_fit3 w B gF gS f d Ae ce F0 hF hBw he h k hk s hs hst
 · by_cases hst:s.st=3
   · exact rstep_retire w B gF gS f d Ae ce F0 hF hBw he h k hk s hs hst hI
   · exact rstep_fit4 w B gF gS f d Ae ce F0 hF hBw he h k hk s hs hst
 · by_cases hst:s.st=3
   · exact rstep_spoil w B gF gS f d Ae ce F0 hF hBw he h k hk s hs hst hM
   · exact rstep_fit5 w B gF gS f d Ae ce F0 hF hBw he h k hk s hs hst
end Go.Proofs.Ytfdibjgmbdkbcaa
namespace Go.Proofs.Ytfdibjgmbdkbcaa
open Go.RowKit Go.Lib
def RPlayP (w:World) (r:Flt × List Ans × (Nat × Nat)) (e:Ending) (w':World):Prop :=
 ∃ vs vb va,e = .returned (.tuple #[.agg #[vs,vb],va,.agg #[.int .i64 (r.2.2.1:Int),.int .i64 (r.2.2.2:Int)]])/\RdL w' (fun b=>w.heap.size<=b) vs r.1.sh/\RdL w' (fun b=>w.heap.size<=b) vb r.1.book/\RdL w' (fun b=>w.heap.size<=b) va r.2.1/\Below w.heap.size w w'
set_option maxRecDepth 100000 in
set_option maxHeartbeats 16000000 in
theorem rplay_any (w:World) (F F2:Nat->Prop) (wv lv:Value) (ws:List (Int × Int)) (l:List Dob) (hws:RdL w F wv ws) (hl:RdL w F2 lv l) :
 Calls Try.prog 68 #[wv,lv] w (RPlayP w (Fl.play ws l)):=by
 obtain ⟨Aw,cw,hvw,hncw,hcwm⟩:=hws.form
 obtain ⟨Al,cl,hvl,hncl,hclm⟩:=hl.form
 subst hvw hvl
 unfold maxLen at hcwm hclm
 have hx0:=((Below.refl w.heap.size w).alloc (Nat.le_refl _) (.cells #[.slice none 0 0,.slice none 0 0] 92)).alloc (by simp) (.cells #[.int .i64 0,.int .i64 0] 32)
 have hb4:Blk ((w.alloc (.cells #[.slice none 0 0,.slice none 0 0] 92)).alloc (.cells #[.int .i64 0,.int .i64 0] 32)) w.heap.size 92 #[.slice none 0 0,.slice none 0 0]:=Blk.alloc (heap_alloc_new w _) _
 have hb6:Blk ((w.alloc (.cells #[.slice none 0 0,.slice none 0 0] 92)).alloc (.cells #[.int .i64 0,.int .i64 0] 32)) (w.heap.size+1) 32 #[.int .i64 0,.int .i64 0]:=by
  have:=heap_alloc_new (w.alloc (.cells #[.slice none 0 0,.slice none 0 0] 92)) (.cells #[.int .i64 0,.int .i64 0] 32)
  rw [World.size_alloc] at this
  exact this
 obtain ⟨R,HR⟩:∃ R,Hid (R=Fl.play ws l):=⟨_,Lib.hid rfl⟩
 rw [<-HR.out]
 go_enter Try.func68,Try.ntmps68
 go_upto_region 1 with (fail)
 generalize ((w.alloc (.cells #[.slice none 0 0,.slice none 0 0] 92)).alloc (.cells #[.int .i64 0,.int .i64 0] 32))=w1 at *
 obtain ⟨a,b,hab⟩:∃ a b:Nat,Fl.wrongW ws=(a,b):=⟨_,_,rfl⟩
 have hfv:fv (Fl.wrongW ws) = .agg #[.int .i64 (a:Int),.int .i64 (b:Int)]:=by rw [hab];rfl
 have HV:=Lib.hid (rwrongW_any w1 _ _ ws (hws.below hx0))
 rw [hfv] at HV
 have HAB:=Lib.hid hab
 clear hfv hab
 go_wp2_with fail
 with_reducible refine HV.out.mono ?_
 rintro e w2 ⟨rfl,hx2⟩
 go_upto_region 2 with (fail)
 have hx3:=hx2.alloc hx2.size (.cells #[.int .i64 (a:Int),.int .i64 (b:Int)] 32)
 have hbW:Blk (w2.alloc (.cells #[.int .i64 (a:Int),.int .i64 (b:Int)] 32)) w2.heap.size 32 #[.int .i64 (a:Int),.int .i64 (b:Int)]:=heap_alloc_new w2 _
 have hs2:=hx2.size
 generalize w2.alloc (.cells #[.int .i64 (a:Int),.int .i64 (b:Int)] 32)=w3 at *
 have hb43:=hb4.below hx3 hb4.lt
 have hb63:=hb6.below hx3 hb6.lt
 have hg6:w.heap.size+1<w1.heap.size:=hb6.lt
 generalize w2.heap.size=gW at *
 have hx03:=hx0.trans (hx3.mono hx0.size)
 have l0:w3.cell? ⟨gW,0,none⟩=some (.int .i64 (a:Int)):=hbW.cell 0
 have l1:w3.cell? ⟨gW,1,none⟩=some (.int .i64 (b:Int)):=hbW.cell 1
 have a0:w3.cell? ⟨w.heap.size,0,none⟩=some (.slice none 0 0):=hb43.cell 0
 have a1:w3.cell? ⟨w.heap.size,1,none⟩=some (.slice none 0 0):=hb43.cell 1
 have a2:w3.cell? ⟨w.heap.size+1,0,none⟩=some (.int .i64 0):=hb63.cell 0
 have a3:w3.cell? ⟨w.heap.size+1,1,none⟩=some (.int .i64 0):=hb63.cell 1
 have y0:=hb43.frozen 0
 have y1:=hb43.frozen 1
 have y2:=hb63.frozen 0
 have y3:=hb63.frozen 1
 by_cases ha:a=0
 · have hne:((a:Int) != 0)=false:=by rw [bne_eq_false_iff_eq];omega
   by_cases h120:120<l.length
   · have h120B:(120:Int)<(l.length:Int):=by omega
     have HS:Hid (R=(⟨[],[]⟩,[],(5,0))):=Lib.hid (by rw [HR.out];unfold Fl.play;rw [if_neg (by rw [HAB.out];simp [ha]),if_pos h120])
     go_wp2_with fail
     have hn45:w.heap.size≠w.heap.size+1:=by omega
     have hn54:w.heap.size+1≠w.heap.size:=by omega
     have he4:Blk ((((w3.setCell ⟨w.heap.size,0,none⟩ (.slice none 0 0)).setCell ⟨w.heap.size,1,none⟩ (.slice none 0 0)).setCell ⟨w.heap.size+1,0,none⟩ (.int .i64 5)).setCell ⟨w.heap.size+1,1,none⟩ (.int .i64 0)) w.heap.size 92 #[.slice none 0 0,.slice none 0 0]:=(hb43.set2 (.slice none 0 0) (.slice none 0 0)).far2 hn45 (.int .i64 5) (.int .i64 0)
     have he6:Blk ((((w3.setCell ⟨w.heap.size,0,none⟩ (.slice none 0 0)).setCell ⟨w.heap.size,1,none⟩ (.slice none 0 0)).setCell ⟨w.heap.size+1,0,none⟩ (.int .i64 5)).setCell ⟨w.heap.size+1,1,none⟩ (.int .i64 0)) (w.heap.size+1) 32 #[.int .i64 5,.int .i64 0]:=(hb63.far2 hn54 (.slice none 0 0) (.slice none 0 0)).set2 (.int .i64 5) (.int .i64 0)
     have hxe:Below w.heap.size w ((((w3.setCell ⟨w.heap.size,0,none⟩ (.slice none 0 0)).setCell ⟨w.heap.size,1,none⟩ (.slice none 0 0)).setCell ⟨w.heap.size+1,0,none⟩ (.int .i64 5)).setCell ⟨w.heap.size+1,1,none⟩ (.int .i64 0)):=below_set2 (below_set2 hx03 (Nat.le_refl _) (.slice none 0 0) (.slice none 0 0)) (Nat.le_succ _) (.int .i64 5) (.int .i64 0)
     have hr1:RdL ((((w3.setCell ⟨w.heap.size,0,none⟩ (.slice none 0 0)).setCell ⟨w.heap.size,1,none⟩ (.slice none 0 0)).setCell ⟨w.heap.size+1,0,none⟩ (.int .i64 5)).setCell ⟨w.heap.size+1,1,none⟩ (.int .i64 0)) (fun b=>w.heap.size<=b) (.slice none 0 0) ([]:List Shd):=RdL.nil_ _ _ _
     have hr2:RdL ((((w3.setCell ⟨w.heap.size,0,none⟩ (.slice none 0 0)).setCell ⟨w.heap.size,1,none⟩ (.slice none 0 0)).setCell ⟨w.heap.size+1,0,none⟩ (.int .i64 5)).setCell ⟨w.heap.size+1,1,none⟩ (.int .i64 0)) (fun b=>w.heap.size<=b) (.slice none 0 0) ([]:List Rec):=RdL.nil_ _ _ _
     have hr3:RdL ((((w3.setCell ⟨w.heap.size,0,none⟩ (.slice none 0 0)).setCell ⟨w.heap.size,1,none⟩ (.slice none 0 0)).setCell ⟨w.heap.size+1,0,none⟩ (.int .i64 5)).setCell ⟨w.heap.size+1,1,none⟩ (.int .i64 0)) (fun b=>w.heap.size<=b) (.slice none 0 0) ([]:List Ans):=RdL.nil_ _ _ _
     generalize ((((w3.setCell ⟨w.heap.size,0,none⟩ (.slice none 0 0)).setCell ⟨w.heap.size,1,none⟩ (.slice none 0 0)).setCell ⟨w.heap.size+1,0,none⟩ (.int .i64 5)).setCell ⟨w.heap.size+1,1,none⟩ (.int .i64 0))=W at *
     have s0:W.cell? ⟨w.heap.size,0,none⟩=some (.slice none 0 0):=he4.cell 0
     have s1:W.cell? ⟨w.heap.size,1,none⟩=some (.slice none 0 0):=he4.cell 1
     have s2:W.cell? ⟨w.heap.size+1,0,none⟩=some (.int .i64 5):=he6.cell 0
     have s3:W.cell? ⟨w.heap.size+1,1,none⟩=some (.int .i64 0):=he6.cell 1
     exact bodyPost_ret (v:=.tuple #[.agg #[.slice none 0 0,.slice none 0 0],.slice none 0 0,.agg #[.int .i64 5,.int .i64 0]]) (by simp [results,Try.results68,go_sem,s0,s1,s2,s3]) rfl (by rw [HS.out];exact ⟨.slice none 0 0,.slice none 0 0,.slice none 0 0,rfl,hr1,hr2,hr3,hxe⟩)
   have h120B:decide ((120:Int)<(l.length:Int))=false:=decide_eq_false (by omega)
   have HS:Hid (R=((Fl.run (Fl.start ws) l).1,(Fl.run (Fl.start ws) l).2,(0,0))):=Lib.hid (by rw [HR.out];unfold Fl.play;rw [if_neg (by rw [HAB.out];simp [ha]),if_neg h120])
   have hB46:w.heap.size+1<w3.heap.size:=hb63.lt
   have hws3:∀ z,Below w3.heap.size w3 z->RdL z F (.slice Aw ws.length cw) ws:=fun z hz=>(hws.below hx03).below hz
   have hl3:∀ z,Below w3.heap.size w3 z->RdL z (fun b=>b<w3.heap.size) (.slice Al l.length cl) l:=fun z hz=>(((hl.below hx03).weak (F':=fun b=>b<w3.heap.size) fun b hb _=>hb)).below hz
   have hx4:=(Below.refl w3.heap.size w3).alloc (Nat.le_refl _) (.cells #[.slice none 0 0,.slice none 0 0] 92)
   have hbF:Blk (w3.alloc (.cells #[.slice none 0 0,.slice none 0 0] 92)) w3.heap.size 92 #[.slice none 0 0,.slice none 0 0]:=heap_alloc_new w3 _
   have hb4z:∀ z,Below w3.heap.size w3 z->Blk z w.heap.size 92 #[.slice none 0 0,.slice none 0 0]:=fun z hz=>hb43.below hz hb43.lt
   have hb6z:∀ z,Below w3.heap.size w3 z->Blk z (w.heap.size+1) 32 #[.int .i64 0,.int .i64 0]:=fun z hz=>hb63.below hz hb63.lt
   go_upto_region 7 with (fail)
   generalize w3.alloc (.cells #[.slice none 0 0,.slice none 0 0] 92)=w4 at *
   generalize hBe:w3.heap.size=B at *
   have hF4:RF0 w4 B B none 0 (Fl.start (ws.take 0)).sh:=by rw [show (Fl.start (ws.take 0)).sh=[] by simp [Fl.start]];exact ⟨Nat.le_refl _,hbF,Own.nil_ _ _ _ _⟩
   have hlen8:ws.length<=8:=(Fl.wrongW_ok (by rw [HAB.out];exact ha)).1
   have hInv0:Fl.Inv (Fl.start ws):=Fl.Inv.start (by rw [HAB.out];exact ha)
   have HA:=Lib.hid ha
   clear ha hb4 hb6 hb43 hb63 hbW l0 l1 a0 a1 a2 a3 y0 y1 y2 y3
   go_wp2_with fail
   go_loopg [29] ws.length (fun k i wr=>∃ j:Nat,j+k=ws.length/\i = .int .i64 (j:Int)/\(∃ A cS,RF0 wr B B A cS (Fl.start (ws.take j)).sh)/\Below B w3 wr)
   case atStart=>exact ⟨0,by omega,rfl,⟨none,0,hF4⟩,hx4⟩
   case round =>
    obtain ⟨j,hj,rfl,⟨Av,cv,hFj⟩,hx⟩:=hrel
    by_cases hlt:j<ws.length
    · obtain ⟨b',off,c',hA1,_,hb1,c0,c1⟩:=win_at (hws3 wr hx) hlt
      injection hA1 with hA1 _ hA3
      subst hA1 hA3
      have hltB:(j:Int)<(ws.length:Int):=by omega
      have hj0:(0:Int)<=(j:Int):=by omega
      have hst:(Fl.start (ws.take (j+1))).sh=(Fl.start (ws.take j)).sh++[newShd ws[j].1 ws[j].2]:=by
       unfold Fl.start
       rw [List.take_succ_eq_append_getElem hlt,List.map_append]
       rfl
      have hnj:(Fl.start (ws.take j)).sh.length=j:=by simp [Fl.start];omega
      have HST:=Lib.hid hst
      clear hst
      generalize (Fl.start (ws.take j)).sh=fj at *
      generalize ws[j].1=pa at *
      generalize ws[j].2=pb at *
      go_upto_region 10 with (fail)
      have hx5:=(Below.refl wr.heap.size wr).alloc (Nat.le_refl _) (.cells #[.int .i64 pa,.int .i64 pb] 112)
      have hbX:Blk (wr.alloc (.cells #[.int .i64 pa,.int .i64 pb] 112)) wr.heap.size 112 #[.int .i64 pa,.int .i64 pb]:=heap_alloc_new wr _
      have hBr:B<=wr.heap.size:=by have:=hx.size;omega
      have hF5:=hFj.below hx5
      have hx05:=hx.trans (hx5.mono hBr)
      have hB5:B<=(wr.alloc (.cells #[.int .i64 pa,.int .i64 pb] 112)).heap.size:=Nat.le_trans hBr hx5.size
      generalize wr.alloc (.cells #[.int .i64 pa,.int .i64 pb] 112)=w5 at *
      generalize wr.heap.size=gX at *
      have pv5:w5.cell? ⟨B,0,none⟩=some (.slice Av fj.length cv):=hF5.2.1.cell 0
      have k0:w5.cell? ⟨gX,0,none⟩=some (.int .i64 pa):=hbX.cell 0
      have k1:w5.cell? ⟨gX,1,none⟩=some (.int .i64 pb):=hbX.cell 1
      have hx6:Below w5.heap.size w5 (w5.alloc (.cells #[.int .i64 pa,.int .i64 pb,.int .i64 1,.slice none 0 0,.int .i64 0,.slice none 0 0,.slice none 0 0] 156)):=(Below.refl w5.heap.size w5).alloc (Nat.le_refl _) _
      have hsrc:SlAt (w5.alloc (.cells #[.int .i64 pa,.int .i64 pb,.int .i64 1,.slice none 0 0,.int .i64 0,.slice none 0 0,.slice none 0 0] 156)) (fun b=>b=w5.heap.size) 7 (.slice (some ⟨w5.heap.size,0,none⟩) 1 1) 1 [.int .i64 pa,.int .i64 pb,.int .i64 1,.slice none 0 0,.int .i64 0,.slice none 0 0,.slice none 0 0]:=SlAt.newK w5 _ [_,_,_,_,_,_,_] 7 rfl
      have hF6:=hF5.below hx6
      have hB6:B<=(w5.alloc (.cells #[.int .i64 pa,.int .i64 pb,.int .i64 1,.slice none 0 0,.int .i64 0,.slice none 0 0,.slice none 0 0] 156)).heap.size:=Nat.le_trans hB5 hx6.size
      have hx06:=hx05.trans (hx6.mono hB5)
      have hlv:fj.length<=cv:=by
       obtain ⟨_,_,e,h,_⟩:=Own.shape hF6.2.2
       injection e with _ _ e
       omega
      obtain ⟨i0,hi,hz0,hz1,hz2⟩:=info_parts info_shd
      have hnj8:fj.length<=8:=by omega
      clear hnj hx5 hbX c0 c1 hb1 hFj hF5
      go_wp2_with (at_builtin
                   refine wpList_append_Own _ (by rfl) (.tmp 34) (.tmp 40) 90 (by rfl) B 156 i0 _ 7 104 Try.underlying90 hi hz0 hz1 hz2 (by rfl) (by omega) (.slice Av fj.length cv) fj.length (flatSh fj (fj.map fun _=>newShV)) (by rfl) hF6.2.2 _ _ 1 [.int .i64 pa,.int .i64 pb,.int .i64 1,.slice none 0 0,.int .i64 0,.slice none 0 0,.slice none 0 0] (by rfl) hsrc (by simp [Value.oneCell']) (by simp only [maxLen];omega) (by omega) hB6 ?_
                   intro v8 w8 hown8 hgr8 hat8
                   obtain ⟨A8,c8,hv8,_,_⟩:=Own.shape hown8
                   subst hv8
                   have hbF8:Blk w8 B 92 #[.slice Av fj.length cv,.slice none 0 0]:=hF6.2.1.keep (hgr8.block B hF6.2.1.lt (fun e=>Own.ne_blk hF6.2.2 hF6.2.1 (by decide) e.symm))
                   have pb8:w8.cell? ⟨B,0,none⟩=some (.slice Av fj.length cv):=hbF8.cell 0
                   have pf8:=hbF8.frozen 0)
      obtain ⟨hP9,hx9⟩:=hF6.snoc (a:=pa) (b:=pb) hB6 hgr8 hown8
      rw [<-HST.out] at hP9
      have hx09:=hx06.trans hx9
      go_roundg (gk-1)
      case measure=>omega
      case rel=>exact ⟨j+1,by omega,by go_num,⟨A8,c8,hP9⟩,hx09⟩
    · have hltB:decide ((j:Int)<(ws.length:Int))=false:=decide_eq_false (by omega)
      have hjn:ws.take j=ws:=List.take_of_length_le (by omega)
      rw [hjn] at hFj
      clear hjn
      obtain ⟨gS,hgS,HG⟩:=hFj.flt (fun s hs=>by
       obtain ⟨p,_,rfl⟩:=List.mem_map.1 (show s ∈ ws.map fun p=>(⟨p.1,p.2,1,[],Shf.zeroM⟩:Shd) from hs)
       exact ⟨rfl,rfl⟩)
      have hBr:B<=wr.heap.size:=by have:=hx.size;omega
      have hP0:POut wr B B gS (.slice none 0 0) (Fl.start ws,[]):=⟨HG _ (fun b hb=>by
       rcases hb with h | h
       · omega
       · cases h),OwnR.nil_ _ _ _ _ _,(by intro e;cases e),(by intro e;cases e)⟩
      have hMOk0:=Fl.MOk.start ws
      clear HG hFj hgS
      generalize Fl.start ws=f0 at *
      go_wp2_with fail
      go_loopg [11,46] l.length (fun k o i wr=>∃ j:Nat,j+k=l.length/\i = .int .i64 (j:Int)/\∃ (Ao:Option Addr) (co:Nat),o = .slice Ao j co/\POut wr B B gS (.slice Ao j co) (Fl.run f0 (l.take j))/\Below B w3 wr)
      case atStart=>exact ⟨0,by omega,rfl,none,0,rfl,hP0,hx⟩
      clear hP0 hx hBr
      case round =>
       obtain ⟨j,hj,rfl,Ao,co,rfl,hPj,hx⟩:=hrel
       have hBr:B<=wr.heap.size:=by have:=hx.size;omega
       by_cases hlt:j<l.length
       · obtain ⟨q,off,c',hA1,hq0,_,d0,d1,d2,⟨Ae,ce,d3,hde⟩,d4,d5,d6⟩:=do_at (hl3 wr hx) hlt hBr
         injection hA1 with hA1 _ hA3
         subst hA1 hA3
         have hltB:(j:Int)<(l.length:Int):=by omega
         have hj0:(0:Int)<=(j:Int):=by omega
         have HRN:=Lib.hid (Fl.run_next f0 l hlt)
         have hInv:=hInv0.run (l.take j)
         have hMOk:=hMOk0.run hInv0 (l.take j)
         have HLA:Hid ((Fl.run f0 (l.take j)).2.length=j):=Lib.hid (by rw [Fl.length_run,List.length_take];omega)
         generalize l[j]=d at *
         generalize Fl.run f0 (l.take j)=fa at *
         obtain ⟨fj,aj⟩:=fa
         simp only at hInv hMOk HLA HRN
         unfold bv at d6
         go_upto_region 16 with (fail)
         have hx5:=(Below.refl wr.heap.size wr).alloc (Nat.le_refl _) (.cells #[.int .i64 d.kind,.int .i64 d.n,.int .i64 d.time,.slice Ae d.entry.length ce,.int .i64 d.seg,.int .i64 d.pos,.int .u8 (d.turn.toNat:Int)] 111)
         have hbD:Blk (wr.alloc (.cells #[.int .i64 d.kind,.int .i64 d.n,.int .i64 d.time,.slice Ae d.entry.length ce,.int .i64 d.seg,.int .i64 d.pos,.int .u8 (d.turn.toNat:Int)] 111)) wr.heap.size 111 #[.int .i64 d.kind,.int .i64 d.n,.int .i64 d.time,.slice Ae d.entry.length ce,.int .i64 d.seg,.int .i64 d.pos,.int .u8 (d.turn.toNat:Int)]:=heap_alloc_new wr _
         have hP5:=hPj.below hx5
         have hde5:=Bytes.below hde hx5
         have hx05:=hx.trans (hx5.mono hBr)
         generalize wr.alloc (.cells #[.int .i64 d.kind,.int .i64 d.n,.int .i64 d.time,.slice Ae d.entry.length ce,.int .i64 d.seg,.int .i64 d.pos,.int .u8 (d.turn.toNat:Int)] 111)=w5 at *
         generalize wr.heap.size=gD at *
         have hB5:B<=w5.heap.size:=by have:=hx05.size;omega
         have HC0:=@rstep_any (awayOf B (.slice Ao j co)) w5 B B gS fj d Ae ce _ hP5.1 hB5 hde5 hInv hMOk
         unfold bv at HC0
         have HC:=Lib.hid HC0
         clear HC0
         clear d0 d1 d2 d3 d4 d5 d6 hde hx5 hPj hx
         have k0:w5.cell? ⟨gD,0,none⟩=some (.int .i64 d.kind):=hbD.cell 0
         have k1:w5.cell? ⟨gD,1,none⟩=some (.int .i64 d.n):=hbD.cell 1
         have k2:w5.cell? ⟨gD,2,none⟩=some (.int .i64 d.time):=hbD.cell 2
         have k3:w5.cell? ⟨gD,3,none⟩=some (.slice Ae d.entry.length ce):=hbD.cell 3
         have k4:w5.cell? ⟨gD,4,none⟩=some (.int .i64 d.seg):=hbD.cell 4
         have k5:w5.cell? ⟨gD,5,none⟩=some (.int .i64 d.pos):=hbD.cell 5
         have k6:w5.cell? ⟨gD,6,none⟩=some (.int .u8 (d.turn.toNat:Int)):=hbD.cell 6
         generalize Fl.step fj d=sp at *
         obtain ⟨f6,a⟩:=sp
         simp only at HRN
         go_wp2_with fail
         with_reducible refine HC.out.mono ?_
         rintro e w6 hstep
         obtain ⟨hP6,hx6,rv,he,hrv⟩:=hP5.step hstep
         subst he
         obtain ⟨Ar,cr,hrve⟩:=hrv.form
         simp only at hrve hrv hP6
         subst hrve
         have hx06:=hx05.trans hx6
         clear HC hstep hP5 hx6 k0 k1 k2 k3 k4 k5 k6
         have hB6:B<=w6.heap.size:=by have:=hx06.size;omega
         have hx7:=(Below.refl w6.heap.size w6).alloc (Nat.le_refl _) (.cells #[.int .i64 (a.err:Int),.int .i64 a.sh,.int .i64 a.pl,.int .i64 a.sz,.slice Ar a.root.length cr] 105)
         have hP7:=hP6.below hx7
         have hrv7:=Bytes.below hrv hx7
         have hx07:=hx06.trans (hx7.mono hB6)
         have hsrc:SlAt (w6.alloc (.cells #[.int .i64 (a.err:Int),.int .i64 a.sh,.int .i64 a.pl,.int .i64 a.sz,.slice Ar a.root.length cr] 105)) (fun b=>b=w6.heap.size) 5 (.slice (some ⟨w6.heap.size,0,none⟩) 1 1) 1 [.int .i64 (a.err:Int),.int .i64 a.sh,.int .i64 a.pl,.int .i64 a.sz,.slice Ar a.root.length cr]:=SlAt.newK w6 _ [_,_,_,_,_] 5 rfl
         have hB7:B<=(w6.alloc (.cells #[.int .i64 (a.err:Int),.int .i64 a.sh,.int .i64 a.pl,.int .i64 a.sz,.slice Ar a.root.length cr] 105)).heap.size:=Nat.le_trans hB6 hx7.size
         obtain ⟨hR7,⟨xs,hox,hrx⟩,hnF,hnS⟩:=hP7
         have hxl:xs.length=aj.length*5:=hox.1
         simp only at hox hrx hR7
         have hox':=hox
         rw [HLA.out] at hox'
         obtain ⟨i0,hi,hz0,hz1,hz2⟩:=info_parts info_ans
         clear hP6 hrv hx7
         go_wp2_with (at_builtin
                      refine wpList_append_Own _ (by rfl) (.tmp 50) (.tmp 53) 93 (by rfl) B 105 i0 _ 5 56 Try.underlying93 hi hz0 hz1 hz2 (by rfl) (by omega) (.slice Ao j co) j xs (by rfl) hox' _ _ 1 [.int .i64 (a.err:Int),.int .i64 a.sh,.int .i64 a.pl,.int .i64 a.sz,.slice Ar a.root.length cr] (by rfl) hsrc (by simp [Value.oneCell']) (by simp only [maxLen];omega) (by omega) hB7 ?_
                      intro v11 w11 hown11 hgr11 hat11
                      obtain ⟨A11,c11,hv11,_,_⟩:=Own.shape hown11
                      subst hv11)
         obtain ⟨hP11,hx11⟩:=POut.snoc (a:=a) hR7 hB7 hxl hox hrx hnF hnS hrv7 hgr11 (by rw [HLA.out];exact hown11) hat11
         have hx011:=hx07.trans hx11
         go_roundg (gk-1)
         case measure=>omega
         case rel=>exact ⟨j+1,by omega,by go_num,A11,c11,rfl,by rw [HRN.out];exact hP11,hx011⟩
       · have hltB:decide ((j:Int)<(l.length:Int))=false:=decide_eq_false (by omega)
         have hjn:l.take j=l:=List.take_of_length_le (by omega)
         rw [hjn] at hPj
         clear hjn
         have hInv:=hInv0.run l
         generalize Fl.run f0 l=fa at *
         obtain ⟨Ff,la⟩:=fa
         simp only at hInv HS
         obtain ⟨Av,cv,vb,hbFl,hr1,hr2,hr3⟩:=hPj.rd
         simp only at hbFl hr1 hr2 hr3
         obtain ⟨Ab,cb,hvb,_,_⟩:=hr2.form
         subst hvb
         have hb4r:=hb4z wr hx
         have hb6r:=hb6z wr hx
         have g0:wr.cell? ⟨B,0,none⟩=some (.slice Av Ff.sh.length cv):=hbFl.cell 0
         have g1:wr.cell? ⟨B,1,none⟩=some (.slice Ab Ff.book.length cb):=hbFl.cell 1
         have hwB:w.heap.size<=B:=by omega
         have hwB2:w.heap.size+1<B:=by omega
         have hx0r:Below w.heap.size w wr:=hx03.trans (hx.mono hwB)
         have a0:wr.cell? ⟨w.heap.size,0,none⟩=some (.slice none 0 0):=hb4r.cell 0
         have a1:wr.cell? ⟨w.heap.size,1,none⟩=some (.slice none 0 0):=hb4r.cell 1
         have a2:wr.cell? ⟨w.heap.size+1,0,none⟩=some (.int .i64 0):=hb6r.cell 0
         have a3:wr.cell? ⟨w.heap.size+1,1,none⟩=some (.int .i64 0):=hb6r.cell 1
         have y0:=hb4r.frozen 0
         have y1:=hb4r.frozen 1
         have y2:=hb6r.frozen 0
         have y3:=hb6r.frozen 1
         go_wp2_with fail
         have hn45:w.heap.size≠w.heap.size+1:=by omega
         have hn54:w.heap.size+1≠w.heap.size:=by omega
         have he4:Blk ((((wr.setCell ⟨w.heap.size,0,none⟩ (.slice Av Ff.sh.length cv)).setCell ⟨w.heap.size,1,none⟩ (.slice Ab Ff.book.length cb)).setCell ⟨w.heap.size+1,0,none⟩ (.int .i64 0)).setCell ⟨w.heap.size+1,1,none⟩ (.int .i64 0)) w.heap.size 92 #[.slice Av Ff.sh.length cv,.slice Ab Ff.book.length cb]:=(hb4r.set2 (.slice Av Ff.sh.length cv) (.slice Ab Ff.book.length cb)).far2 hn45 (.int .i64 0) (.int .i64 0)
         have he6:Blk ((((wr.setCell ⟨w.heap.size,0,none⟩ (.slice Av Ff.sh.length cv)).setCell ⟨w.heap.size,1,none⟩ (.slice Ab Ff.book.length cb)).setCell ⟨w.heap.size+1,0,none⟩ (.int .i64 0)).setCell ⟨w.heap.size+1,1,none⟩ (.int .i64 0)) (w.heap.size+1) 32 #[.int .i64 0,.int .i64 0]:=(hb6r.far2 hn54 (.slice Av Ff.sh.length cv) (.slice Ab Ff.book.length cb)).set2 (.int .i64 0) (.int .i64 0)
         have hxe:Below w.heap.size w ((((wr.setCell ⟨w.heap.size,0,none⟩ (.slice Av Ff.sh.length cv)).setCell ⟨w.heap.size,1,none⟩ (.slice Ab Ff.book.length cb)).setCell ⟨w.heap.size+1,0,none⟩ (.int .i64 0)).setCell ⟨w.heap.size+1,1,none⟩ (.int .i64 0)):=below_set2 (below_set2 hx0r (Nat.le_refl _) (.slice Av Ff.sh.length cv) (.slice Ab Ff.book.length cb)) (Nat.le_succ _) (.int .i64 0) (.int .i64 0)
         replace hr1:=(RdL.setCell (p:=⟨w.heap.size+1,1,none⟩) (RdL.setCell (p:=⟨w.heap.size+1,0,none⟩) (RdL.setCell (p:=⟨w.heap.size,1,none⟩) (RdL.setCell (p:=⟨w.heap.size,0,none⟩) hr1 (by show ¬ (B<=w.heap.size);omega) (.slice Av Ff.sh.length cv)) (by show ¬ (B<=w.heap.size);omega) (.slice Ab Ff.book.length cb)) (by show ¬ (B<=w.heap.size+1);omega) (.int .i64 0)) (by show ¬ (B<=w.heap.size+1);omega) (.int .i64 0)).weak (F':=fun b=>w.heap.size<=b) (fun b _ h=>Nat.le_trans hwB h)
         replace hr2:=(RdL.setCell (p:=⟨w.heap.size+1,1,none⟩) (RdL.setCell (p:=⟨w.heap.size+1,0,none⟩) (RdL.setCell (p:=⟨w.heap.size,1,none⟩) (RdL.setCell (p:=⟨w.heap.size,0,none⟩) hr2 (by show ¬ (B<=w.heap.size);omega) (.slice Av Ff.sh.length cv)) (by show ¬ (B<=w.heap.size);omega) (.slice Ab Ff.book.length cb)) (by show ¬ (B<=w.heap.size+1);omega) (.int .i64 0)) (by show ¬ (B<=w.heap.size+1);omega) (.int .i64 0)).weak (F':=fun b=>w.heap.size<=b) (fun b _ h=>Nat.le_trans hwB h)
         replace hr3:=(RdL.setCell (p:=⟨w.heap.size+1,1,none⟩) (RdL.setCell (p:=⟨w.heap.size+1,0,none⟩) (RdL.setCell (p:=⟨w.heap.size,1,none⟩) (RdL.setCell (p:=⟨w.heap.size,0,none⟩) hr3 (by show ¬ (B<=w.heap.size);omega) (.slice Av Ff.sh.length cv)) (by show ¬ (B<=w.heap.size);omega) (.slice Ab Ff.book.length cb)) (by show ¬ (B<=w.heap.size+1);omega) (.int .i64 0)) (by show ¬ (B<=w.heap.size+1);omega) (.int .i64 0)).weak (F':=fun b=>w.heap.size<=b) (fun b _ h=>Nat.le_trans hwB h)
         generalize ((((wr.setCell ⟨w.heap.size,0,none⟩ (.slice Av Ff.sh.length cv)).setCell ⟨w.heap.size,1,none⟩ (.slice Ab Ff.book.length cb)).setCell ⟨w.heap.size+1,0,none⟩ (.int .i64 0)).setCell ⟨w.heap.size+1,1,none⟩ (.int .i64 0))=W at *
         have s0:W.cell? ⟨w.heap.size,0,none⟩=some (.slice Av Ff.sh.length cv):=he4.cell 0
         have s1:W.cell? ⟨w.heap.size,1,none⟩=some (.slice Ab Ff.book.length cb):=he4.cell 1
         have s2:W.cell? ⟨w.heap.size+1,0,none⟩=some (.int .i64 0):=he6.cell 0
         have s3:W.cell? ⟨w.heap.size+1,1,none⟩=some (.int .i64 0):=he6.cell 1
         exact bodyPost_ret (v:=.tuple #[.agg #[.slice Av Ff.sh.length cv,.slice Ab Ff.book.length cb],.slice Ao j co,.agg #[.int .i64 0,.int .i64 0]]) (by simp [results,Try.results68,go_sem,s0,s1,s2,s3]) rfl (by rw [HS.out];exact ⟨.slice Av Ff.sh.length cv,.slice Ab Ff.book.length cb,.slice Ao j co,rfl,hr1,hr2,hr3,hxe⟩)
 · have hne:((a:Int) != 0)=true:=by rw [bne_iff_ne];omega
   have HS:Hid (R=(⟨[],[]⟩,[],(a,b))):=Lib.hid (by rw [HR.out];unfold Fl.play;rw [if_pos (by rw [HAB.out];exact ha),HAB.out])
   have hn4:gW≠w.heap.size:=by omega
   have hn5:gW≠w.heap.size+1:=by omega
   go_upto_region 3 with (fail)
   refine wp_region_held_drew (S:=(fun z:World=>z.cell? ⟨gW,0,none⟩=some (.int .i64 (a:Int))/\z.cell? ⟨gW,1,none⟩=some (.int .i64 (b:Int)))) (by kernel_rfl) ?_ (fun hHeld=>?_)
   · exact ⟨l0,l1⟩
   refine step_tk 0 (h:=?_)
   refine step_tk 1 (h:=?_)
   refine step_alone 2 rfl (by kernel_rfl) (by rfl) (fun K hK=>?_)
   go_simp
   refine hK.out _ _ ?_ (fun hHeld=>?_)
   · exact ⟨(World.cell?_of_block ((Below.heap_setCell _ _ _ gW hn4).trans (Below.heap_setCell _ _ _ gW hn4))).trans l0,(World.cell?_of_block ((Below.heap_setCell _ _ _ gW hn4).trans (Below.heap_setCell _ _ _ gW hn4))).trans l1⟩
   clear hK K
   try simp only [Act.put,List.setIfInBounds_toArray,List.set_cons_zero,List.set_cons_succ]
   refine step_tk 3 (h:=?_)
   refine step_alone 4 rfl (by kernel_rfl) (by rfl) (fun K hK=>?_)
   go_simp
   refine hK.out _ _ ?_ (fun hHeld=>?_)
   · exact ⟨(World.cell?_of_block ((Below.heap_setCell _ _ _ gW hn5).trans ((Below.heap_setCell _ _ _ gW hn5).trans ((Below.heap_setCell _ _ _ gW hn4).trans (Below.heap_setCell _ _ _ gW hn4))))).trans l0,(World.cell?_of_block ((Below.heap_setCell _ _ _ gW hn5).trans ((Below.heap_setCell _ _ _ gW hn5).trans ((Below.heap_setCell _ _ _ gW hn4).trans (Below.heap_setCell _ _ _ gW hn4))))).trans l1⟩
   clear hK K
   try simp only [Act.put,List.setIfInBounds_toArray,List.set_cons_zero,List.set_cons_succ]
   refine wpAnyH_done (by kernel_rfl) ?_ _
   go_wp2_with fail
   have hn45:w.heap.size≠w.heap.size+1:=by omega
   have hn54:w.heap.size+1≠w.heap.size:=by omega
   have he4:Blk ((((w3.setCell ⟨w.heap.size,0,none⟩ (.slice none 0 0)).setCell ⟨w.heap.size,1,none⟩ (.slice none 0 0)).setCell ⟨w.heap.size+1,0,none⟩ (.int .i64 (a:Int))).setCell ⟨w.heap.size+1,1,none⟩ (.int .i64 (b:Int))).drew w.heap.size 92 #[.slice none 0 0,.slice none 0 0]:=(hb43.set2 (.slice none 0 0) (.slice none 0 0)).far2 hn45 (.int .i64 (a:Int)) (.int .i64 (b:Int))
   have he6:Blk ((((w3.setCell ⟨w.heap.size,0,none⟩ (.slice none 0 0)).setCell ⟨w.heap.size,1,none⟩ (.slice none 0 0)).setCell ⟨w.heap.size+1,0,none⟩ (.int .i64 (a:Int))).setCell ⟨w.heap.size+1,1,none⟩ (.int .i64 (b:Int))).drew (w.heap.size+1) 32 #[.int .i64 (a:Int),.int .i64 (b:Int)]:=(hb63.far2 hn54 (.slice none 0 0) (.slice none 0 0)).set2 (.int .i64 (a:Int)) (.int .i64 (b:Int))
   have hxe:Below w.heap.size w ((((w3.setCell ⟨w.heap.size,0,none⟩ (.slice none 0 0)).setCell ⟨w.heap.size,1,none⟩ (.slice none 0 0)).setCell ⟨w.heap.size+1,0,none⟩ (.int .i64 (a:Int))).setCell ⟨w.heap.size+1,1,none⟩ (.int .i64 (b:Int))).drew:=below_set2 (below_set2 hx03 (Nat.le_refl _) (.slice none 0 0) (.slice none 0 0)) (Nat.le_succ _) (.int .i64 (a:Int)) (.int .i64 (b:Int)) |> fun h=>h.drew
   have hr1:RdL ((((w3.setCell ⟨w.heap.size,0,none⟩ (.slice none 0 0)).setCell ⟨w.heap.size,1,none⟩ (.slice none 0 0)).setCell ⟨w.heap.size+1,0,none⟩ (.int .i64 (a:Int))).setCell ⟨w.heap.size+1,1,none⟩ (.int .i64 (b:Int))).drew (fun b=>w.heap.size<=b) (.slice none 0 0) ([]:List Shd):=RdL.nil_ _ _ _
   have hr2:RdL ((((w3.setCell ⟨w.heap.size,0,none⟩ (.slice none 0 0)).setCell ⟨w.heap.size,1,none⟩ (.slice none 0 0)).setCell ⟨w.heap.size+1,0,none⟩ (.int .i64 (a:Int))).setCell ⟨w.heap.size+1,1,none⟩ (.int .i64 (b:Int))).drew (fun b=>w.heap.size<=b) (.slice none 0 0) ([]:List Rec):=RdL.nil_ _ _ _
   have hr3:RdL ((((w3.setCell ⟨w.heap.size,0,none⟩ (.slice none 0 0)).setCell ⟨w.heap.size,1,none⟩ (.slice none 0 0)).setCell ⟨w.heap.size+1,0,none⟩ (.int .i64 (a:Int))).setCell ⟨w.heap.size+1,1,none⟩ (.int .i64 (b:Int))).drew (fun b=>w.heap.size<=b) (.slice none 0 0) ([]:List Ans):=RdL.nil_ _ _ _
   generalize ((((w3.setCell ⟨w.heap.size,0,none⟩ (.slice none 0 0)).setCell ⟨w.heap.size,1,none⟩ (.slice none 0 0)).setCell ⟨w.heap.size+1,0,none⟩ (.int .i64 (a:Int))).setCell ⟨w.heap.size+1,1,none⟩ (.int .i64 (b:Int))).drew=W at *
   have s0:W.cell? ⟨w.heap.size,0,none⟩=some (.slice none 0 0):=he4.cell 0
   have s1:W.cell? ⟨w.heap.size,1,none⟩=some (.slice none 0 0):=he4.cell 1
   have s2:W.cell? ⟨w.heap.size+1,0,none⟩=some (.int .i64 (a:Int)):=he6.cell 0
   have s3:W.cell? ⟨w.heap.size+1,1,none⟩=some (.int .i64 (b:Int)):=he6.cell 1
   exact bodyPost_ret (v:=.tuple #[.agg #[.slice none 0 0,.slice none 0 0],.slice none 0 0,.agg #[.int .i64 (a:Int),.int .i64 (b:Int)]]) (by simp [results,Try.results68,go_sem,s0,s1,s2,s3]) rfl (by rw [HS.out];exact ⟨.slice none 0 0,.slice none 0 0,.slice none 0 0,rfl,hr1,hr2,hr3,hxe⟩)
end Go.Proofs.Ytfdibjgmbdkbcaa
