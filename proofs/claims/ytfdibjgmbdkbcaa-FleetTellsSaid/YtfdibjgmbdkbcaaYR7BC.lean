/-
  THE WALK of yearref5.Step, of what is refused ahead. Conditions: a fleet; what is done is read. THE WALK of yearref5.Step, of a shard that is not in the state that is wanted. Conditions: a fleet; what is done is read.
-/
import Derived.BigQuiet
import Derived.Deep.Cut
import Derived.Test.YtfdibjgmbdkbcaaYR7A
namespace Go.Proofs.Ytfdibjgmbdkbcaa
open Go.RowKit Go.Lib
theorem rno_any (w:World) (e:Int) :
 Calls Try.prog 133 #[.int .i64 e] w fun x w'=>x = .returned (.agg #[.int .i64 e,.int .i64 0,.int .i64 0,.int .i64 0,.slice none 0 0])/\Below w.heap.size w w':=by
 go_enter Try.func133,Try.ntmps133
 go_wp2_with fail
 refine bodyPost_ret (v:=.agg #[.int .i64 e,.int .i64 0,.int .i64 0,.int .i64 0,.slice none 0 0]) (by simp [results,Try.results133,go_sem]) rfl ⟨rfl,(Below.refl w.heap.size w).alloc (Nat.le_refl _) _⟩
set_option maxRecDepth 100000 in
set_option maxHeartbeats 8000000 in
theorem rstep_much [Away] (w:World) (B gF gS:Nat) (f:Flt) (d:Dob) (Ae:Option Addr) (ce:Nat) (F0:Nat->Prop) (hF:RFlt w B gF gS gF f) (hBw:B<=w.heap.size) (he:Bytes w F0 (.slice Ae d.entry.length ce) d.entry) (h1:d.kind=1) (h200:200<d.entry.length) :
 Calls Try.prog 113 #[.pointer (some ⟨gF,0,none⟩),.agg #[.int .i64 d.kind,.int .i64 d.n,.int .i64 d.time,.slice Ae d.entry.length ce,.int .i64 d.seg,.int .i64 d.pos,bv d.turn]] w (RStepP w B gF gS (Fl.step f d)):=by
 obtain ⟨W,hW⟩:∃ W,W=(w.alloc (.cells #[.int .i64 d.kind,.int .i64 d.n,.int .i64 d.time,.slice Ae d.entry.length ce,.int .i64 d.seg,.int .i64 d.pos,bv d.turn] 111)).alloc (.cells #[.int .i64 0,.int .i64 0,.int .i64 0,.int .i64 0,.slice none 0 0] 105):=⟨_,rfl⟩
 have hx0:Below w.heap.size w W:=by rw [hW];exact ((Below.refl _ _).alloc (Nat.le_refl _) _).alloc (by simp) _
 have hkD:Blk W w.heap.size 111 #[.int .i64 d.kind,.int .i64 d.n,.int .i64 d.time,.slice Ae d.entry.length ce,.int .i64 d.seg,.int .i64 d.pos,bv d.turn]:=by rw [hW];exact Blk.alloc (heap_alloc_new w _) _
 have hans:Blk W (w.heap.size+1) 105 #[.int .i64 0,.int .i64 0,.int .i64 0,.int .i64 0,.slice none 0 0]:=by
  rw [hW]
  have:=heap_alloc_new (w.alloc (.cells #[.int .i64 d.kind,.int .i64 d.n,.int .i64 d.time,.slice Ae d.entry.length ce,.int .i64 d.seg,.int .i64 d.pos,bv d.turn] 111)) (.cells #[.int .i64 0,.int .i64 0,.int .i64 0,.int .i64 0,.slice none 0 0] 105)
  rw [World.size_alloc] at this
  exact this
 have HW:=Lib.hid hW
 obtain ⟨SA,cS,vb,us,hP⟩:=hF
 have hPW:=(hP.third (ga:=w.heap.size+1) (Nat.le_succ _)).below hx0
 have hgF:gF<w.heap.size:=hP.2.2.2.1.lt
 have hgS:gS<w.heap.size:=hP.2.2.1
 have hansl:=hans.lt
 have hKW:KR w W B gF gS (w.heap.size+1):=KR.of_below hx0 hBw
 have heW:=SlAt.below he hx0
 obtain ⟨R,HR⟩:∃ R,Hid (R=Fl.step f d):=⟨_,Lib.hid rfl⟩
 rw [<-HR.out]
 clear hW he
 have HS:Hid (R=(f,Fl.no 4)):=Lib.hid (by rw [HR.out];unfold Fl.step Fl.submit;rw [if_pos h1,if_pos h200])
 have hk:(d.kind==1)=true:=by rw [beq_iff_eq];exact h1
 have h2B:(200:Int)<(d.entry.length:Int):=by omega
 clear h1 h200
 go_enter Try.func113,Try.ntmps113
 go_upto_region 1 with (fail)
 rw [<-HW.out]
 have d0:W.cell? ⟨w.heap.size,0,none⟩=some (.int .i64 d.kind):=hkD.cell 0
 have d3:W.cell? ⟨w.heap.size,3,none⟩=some (.slice Ae d.entry.length ce):=hkD.cell 3
 go_wp2_with fail
 clear d0 d3
 refine (rno_any W 4).mono ?_
 rintro e z1 ⟨rfl,hz1⟩
 have hP1:=hPW.below hz1
 have hK1:=hKW.trans (KR.of_below hz1 (Nat.le_trans hBw hKW.size))
 have han1:=hans.below hz1 hans.lt
 clear hPW hKW hans
 have y0_:=han1.cell 0
 have y1_:=han1.cell 1
 have y2_:=han1.cell 2
 have y3_:=han1.cell 3
 have y4_:=han1.cell 4
 have f0_:=han1.frozen 0
 have f1_:=han1.frozen 1
 have f2_:=han1.frozen 2
 have f3_:=han1.frozen 3
 have f4_:=han1.frozen 4
 go_wp2_with fail
 have hW_:set5 z1 (w.heap.size+1) (.int .i64 4) (.int .i64 0) (.int .i64 0) (.int .i64 0) (.slice none 0 0)=(((((z1.setCell ⟨w.heap.size+1,0,none⟩ (.int .i64 4)).setCell ⟨w.heap.size+1,1,none⟩ (.int .i64 0)).setCell ⟨w.heap.size+1,2,none⟩ (.int .i64 0)).setCell ⟨w.heap.size+1,3,none⟩ (.int .i64 0)).setCell ⟨w.heap.size+1,4,none⟩ (.slice none 0 0)):=rfl
 rw [<-hW_]
 have HDN:=rstep_done (r:=R) (rv:=.slice none 0 0) (Nat.le_succ _) hBw hgF hgS (by rw [HS.out];exact hP1) (by rw [HS.out];exact SlAt.nil_ _ _ _) hK1 han1
 rw [HS.out] at HDN ⊢
 obtain ⟨q0_,q1_,q2_,q3_,q4_,hend⟩:(set5 z1 (w.heap.size+1) (.int .i64 4) (.int .i64 0) (.int .i64 0) (.int .i64 0) (.slice none 0 0)).cell? ⟨w.heap.size+1,0,none⟩=some (.int .i64 4)/\(set5 z1 (w.heap.size+1) (.int .i64 4) (.int .i64 0) (.int .i64 0) (.int .i64 0) (.slice none 0 0)).cell? ⟨w.heap.size+1,1,none⟩=some (.int .i64 0)/\(set5 z1 (w.heap.size+1) (.int .i64 4) (.int .i64 0) (.int .i64 0) (.int .i64 0) (.slice none 0 0)).cell? ⟨w.heap.size+1,2,none⟩=some (.int .i64 0)/\(set5 z1 (w.heap.size+1) (.int .i64 4) (.int .i64 0) (.int .i64 0) (.int .i64 0) (.slice none 0 0)).cell? ⟨w.heap.size+1,3,none⟩=some (.int .i64 0)/\(set5 z1 (w.heap.size+1) (.int .i64 4) (.int .i64 0) (.int .i64 0) (.int .i64 0) (.slice none 0 0)).cell? ⟨w.heap.size+1,4,none⟩=some (.slice none 0 0)/\RStepP w B gF gS _ (.returned (.agg #[.int .i64 4,.int .i64 0,.int .i64 0,.int .i64 0,.slice none 0 0])) (set5 z1 (w.heap.size+1) (.int .i64 4) (.int .i64 0) (.int .i64 0) (.int .i64 0) (.slice none 0 0)):=HDN
 clear hW_
 generalize set5 z1 (w.heap.size+1) (.int .i64 4) (.int .i64 0) (.int .i64 0) (.int .i64 0) (.slice none 0 0)=W9 at *
 exact bodyPost_ret (v:=.agg #[.int .i64 4,.int .i64 0,.int .i64 0,.int .i64 0,.slice none 0 0]) (by simp [results,Try.results113,go_sem,q0_,q1_,q2_,q3_,q4_]) rfl hend
set_option maxRecDepth 100000 in
set_option maxHeartbeats 8000000 in
theorem rstep_kind [Away] (w:World) (B gF gS:Nat) (f:Flt) (d:Dob) (Ae:Option Addr) (ce:Nat) (F0:Nat->Prop) (hF:RFlt w B gF gS gF f) (hBw:B<=w.heap.size) (he:Bytes w F0 (.slice Ae d.entry.length ce) d.entry) (h1:d.kind≠1) (h25:d.kind<2\/5<d.kind) :
 Calls Try.prog 113 #[.pointer (some ⟨gF,0,none⟩),.agg #[.int .i64 d.kind,.int .i64 d.n,.int .i64 d.time,.slice Ae d.entry.length ce,.int .i64 d.seg,.int .i64 d.pos,bv d.turn]] w (RStepP w B gF gS (Fl.step f d)):=by
 obtain ⟨W,hW⟩:∃ W,W=(w.alloc (.cells #[.int .i64 d.kind,.int .i64 d.n,.int .i64 d.time,.slice Ae d.entry.length ce,.int .i64 d.seg,.int .i64 d.pos,bv d.turn] 111)).alloc (.cells #[.int .i64 0,.int .i64 0,.int .i64 0,.int .i64 0,.slice none 0 0] 105):=⟨_,rfl⟩
 have hx0:Below w.heap.size w W:=by rw [hW];exact ((Below.refl _ _).alloc (Nat.le_refl _) _).alloc (by simp) _
 have hkD:Blk W w.heap.size 111 #[.int .i64 d.kind,.int .i64 d.n,.int .i64 d.time,.slice Ae d.entry.length ce,.int .i64 d.seg,.int .i64 d.pos,bv d.turn]:=by rw [hW];exact Blk.alloc (heap_alloc_new w _) _
 have hans:Blk W (w.heap.size+1) 105 #[.int .i64 0,.int .i64 0,.int .i64 0,.int .i64 0,.slice none 0 0]:=by
  rw [hW]
  have:=heap_alloc_new (w.alloc (.cells #[.int .i64 d.kind,.int .i64 d.n,.int .i64 d.time,.slice Ae d.entry.length ce,.int .i64 d.seg,.int .i64 d.pos,bv d.turn] 111)) (.cells #[.int .i64 0,.int .i64 0,.int .i64 0,.int .i64 0,.slice none 0 0] 105)
  rw [World.size_alloc] at this
  exact this
 have HW:=Lib.hid hW
 obtain ⟨SA,cS,vb,us,hP⟩:=hF
 have hPW:=(hP.third (ga:=w.heap.size+1) (Nat.le_succ _)).below hx0
 have hgF:gF<w.heap.size:=hP.2.2.2.1.lt
 have hgS:gS<w.heap.size:=hP.2.2.1
 have hansl:=hans.lt
 have hKW:KR w W B gF gS (w.heap.size+1):=KR.of_below hx0 hBw
 have heW:=SlAt.below he hx0
 obtain ⟨R,HR⟩:∃ R,Hid (R=Fl.step f d):=⟨_,Lib.hid rfl⟩
 rw [<-HR.out]
 clear hW he
 have HS:Hid (R=(f,Fl.no 1)):=Lib.hid (by rw [HR.out];unfold Fl.step;rw [if_neg h1,if_pos h25])
 have hk:(d.kind==1)=false:=by rw [beq_eq_false_iff_ne];exact h1
 clear h1
 go_enter Try.func113,Try.ntmps113
 go_upto_region 1 with (fail)
 rw [<-HW.out]
 have d0:W.cell? ⟨w.heap.size,0,none⟩=some (.int .i64 d.kind):=hkD.cell 0
 by_cases h2:d.kind<2
 · clear h25
   go_wp2_with fail
   clear d0 h2 hk
   refine (rno_any W 1).mono ?_
   rintro e z1 ⟨rfl,hz1⟩
   have hP1:=hPW.below hz1
   have hK1:=hKW.trans (KR.of_below hz1 (Nat.le_trans hBw hKW.size))
   have han1:=hans.below hz1 hans.lt
   clear hPW hKW hans
   have y0_:=han1.cell 0
   have y1_:=han1.cell 1
   have y2_:=han1.cell 2
   have y3_:=han1.cell 3
   have y4_:=han1.cell 4
   have f0_:=han1.frozen 0
   have f1_:=han1.frozen 1
   have f2_:=han1.frozen 2
   have f3_:=han1.frozen 3
   have f4_:=han1.frozen 4
   go_wp2_with fail
   have hW_:set5 z1 (w.heap.size+1) (.int .i64 1) (.int .i64 0) (.int .i64 0) (.int .i64 0) (.slice none 0 0)=(((((z1.setCell ⟨w.heap.size+1,0,none⟩ (.int .i64 1)).setCell ⟨w.heap.size+1,1,none⟩ (.int .i64 0)).setCell ⟨w.heap.size+1,2,none⟩ (.int .i64 0)).setCell ⟨w.heap.size+1,3,none⟩ (.int .i64 0)).setCell ⟨w.heap.size+1,4,none⟩ (.slice none 0 0)):=rfl
   rw [<-hW_]
   have HDN:=rstep_done (r:=R) (rv:=.slice none 0 0) (Nat.le_succ _) hBw hgF hgS (by rw [HS.out];exact hP1) (by rw [HS.out];exact SlAt.nil_ _ _ _) hK1 han1
   rw [HS.out] at HDN ⊢
   obtain ⟨q0_,q1_,q2_,q3_,q4_,hend⟩:(set5 z1 (w.heap.size+1) (.int .i64 1) (.int .i64 0) (.int .i64 0) (.int .i64 0) (.slice none 0 0)).cell? ⟨w.heap.size+1,0,none⟩=some (.int .i64 1)/\(set5 z1 (w.heap.size+1) (.int .i64 1) (.int .i64 0) (.int .i64 0) (.int .i64 0) (.slice none 0 0)).cell? ⟨w.heap.size+1,1,none⟩=some (.int .i64 0)/\(set5 z1 (w.heap.size+1) (.int .i64 1) (.int .i64 0) (.int .i64 0) (.int .i64 0) (.slice none 0 0)).cell? ⟨w.heap.size+1,2,none⟩=some (.int .i64 0)/\(set5 z1 (w.heap.size+1) (.int .i64 1) (.int .i64 0) (.int .i64 0) (.int .i64 0) (.slice none 0 0)).cell? ⟨w.heap.size+1,3,none⟩=some (.int .i64 0)/\(set5 z1 (w.heap.size+1) (.int .i64 1) (.int .i64 0) (.int .i64 0) (.int .i64 0) (.slice none 0 0)).cell? ⟨w.heap.size+1,4,none⟩=some (.slice none 0 0)/\RStepP w B gF gS _ (.returned (.agg #[.int .i64 1,.int .i64 0,.int .i64 0,.int .i64 0,.slice none 0 0])) (set5 z1 (w.heap.size+1) (.int .i64 1) (.int .i64 0) (.int .i64 0) (.int .i64 0) (.slice none 0 0)):=HDN
   clear hW_
   generalize set5 z1 (w.heap.size+1) (.int .i64 1) (.int .i64 0) (.int .i64 0) (.int .i64 0) (.slice none 0 0)=W9 at *
   exact bodyPost_ret (v:=.agg #[.int .i64 1,.int .i64 0,.int .i64 0,.int .i64 0,.slice none 0 0]) (by simp [results,Try.results113,go_sem,q0_,q1_,q2_,q3_,q4_]) rfl hend
 · have h2B:decide (d.kind<2)=false:=decide_eq_false h2
   have h5:5<d.kind:=by omega
   clear h25 h2
   go_wp2_with fail
   clear d0 hk
   refine (rno_any W 1).mono ?_
   rintro e z1 ⟨rfl,hz1⟩
   have hP1:=hPW.below hz1
   have hK1:=hKW.trans (KR.of_below hz1 (Nat.le_trans hBw hKW.size))
   have han1:=hans.below hz1 hans.lt
   clear hPW hKW hans
   have y0_:=han1.cell 0
   have y1_:=han1.cell 1
   have y2_:=han1.cell 2
   have y3_:=han1.cell 3
   have y4_:=han1.cell 4
   have f0_:=han1.frozen 0
   have f1_:=han1.frozen 1
   have f2_:=han1.frozen 2
   have f3_:=han1.frozen 3
   have f4_:=han1.frozen 4
   go_wp2_with fail
   have hW_:set5 z1 (w.heap.size+1) (.int .i64 1) (.int .i64 0) (.int .i64 0) (.int .i64 0) (.slice none 0 0)=(((((z1.setCell ⟨w.heap.size+1,0,none⟩ (.int .i64 1)).setCell ⟨w.heap.size+1,1,none⟩ (.int .i64 0)).setCell ⟨w.heap.size+1,2,none⟩ (.int .i64 0)).setCell ⟨w.heap.size+1,3,none⟩ (.int .i64 0)).setCell ⟨w.heap.size+1,4,none⟩ (.slice none 0 0)):=rfl
   rw [<-hW_]
   have HDN:=rstep_done (r:=R) (rv:=.slice none 0 0) (Nat.le_succ _) hBw hgF hgS (by rw [HS.out];exact hP1) (by rw [HS.out];exact SlAt.nil_ _ _ _) hK1 han1
   rw [HS.out] at HDN ⊢
   obtain ⟨q0_,q1_,q2_,q3_,q4_,hend⟩:(set5 z1 (w.heap.size+1) (.int .i64 1) (.int .i64 0) (.int .i64 0) (.int .i64 0) (.slice none 0 0)).cell? ⟨w.heap.size+1,0,none⟩=some (.int .i64 1)/\(set5 z1 (w.heap.size+1) (.int .i64 1) (.int .i64 0) (.int .i64 0) (.int .i64 0) (.slice none 0 0)).cell? ⟨w.heap.size+1,1,none⟩=some (.int .i64 0)/\(set5 z1 (w.heap.size+1) (.int .i64 1) (.int .i64 0) (.int .i64 0) (.int .i64 0) (.slice none 0 0)).cell? ⟨w.heap.size+1,2,none⟩=some (.int .i64 0)/\(set5 z1 (w.heap.size+1) (.int .i64 1) (.int .i64 0) (.int .i64 0) (.int .i64 0) (.slice none 0 0)).cell? ⟨w.heap.size+1,3,none⟩=some (.int .i64 0)/\(set5 z1 (w.heap.size+1) (.int .i64 1) (.int .i64 0) (.int .i64 0) (.int .i64 0) (.slice none 0 0)).cell? ⟨w.heap.size+1,4,none⟩=some (.slice none 0 0)/\RStepP w B gF gS _ (.returned (.agg #[.int .i64 1,.int .i64 0,.int .i64 0,.int .i64 0,.slice none 0 0])) (set5 z1 (w.heap.size+1) (.int .i64 1) (.int .i64 0) (.int .i64 0) (.int .i64 0) (.slice none 0 0)):=HDN
   clear hW_
   generalize set5 z1 (w.heap.size+1) (.int .i64 1) (.int .i64 0) (.int .i64 0) (.int .i64 0) (.slice none 0 0)=W9 at *
   exact bodyPost_ret (v:=.agg #[.int .i64 1,.int .i64 0,.int .i64 0,.int .i64 0,.slice none 0 0]) (by simp [results,Try.results113,go_sem,q0_,q1_,q2_,q3_,q4_]) rfl hend
set_option maxRecDepth 100000 in
set_option maxHeartbeats 8000000 in
theorem rstep_none [Away] (w:World) (B gF gS:Nat) (f:Flt) (d:Dob) (Ae:Option Addr) (ce:Nat) (F0:Nat->Prop) (hF:RFlt w B gF gS gF f) (hBw:B<=w.heap.size) (he:Bytes w F0 (.slice Ae d.entry.length ce) d.entry) (h1:d.kind≠1) (h2:¬ d.kind<2) (h5:¬ 5<d.kind) (hn:d.n<0\/(f.sh.length:Int)<=d.n) :
 Calls Try.prog 113 #[.pointer (some ⟨gF,0,none⟩),.agg #[.int .i64 d.kind,.int .i64 d.n,.int .i64 d.time,.slice Ae d.entry.length ce,.int .i64 d.seg,.int .i64 d.pos,bv d.turn]] w (RStepP w B gF gS (Fl.step f d)):=by
 obtain ⟨W,hW⟩:∃ W,W=(w.alloc (.cells #[.int .i64 d.kind,.int .i64 d.n,.int .i64 d.time,.slice Ae d.entry.length ce,.int .i64 d.seg,.int .i64 d.pos,bv d.turn] 111)).alloc (.cells #[.int .i64 0,.int .i64 0,.int .i64 0,.int .i64 0,.slice none 0 0] 105):=⟨_,rfl⟩
 have hx0:Below w.heap.size w W:=by rw [hW];exact ((Below.refl _ _).alloc (Nat.le_refl _) _).alloc (by simp) _
 have hkD:Blk W w.heap.size 111 #[.int .i64 d.kind,.int .i64 d.n,.int .i64 d.time,.slice Ae d.entry.length ce,.int .i64 d.seg,.int .i64 d.pos,bv d.turn]:=by rw [hW];exact Blk.alloc (heap_alloc_new w _) _
 have hans:Blk W (w.heap.size+1) 105 #[.int .i64 0,.int .i64 0,.int .i64 0,.int .i64 0,.slice none 0 0]:=by
  rw [hW]
  have:=heap_alloc_new (w.alloc (.cells #[.int .i64 d.kind,.int .i64 d.n,.int .i64 d.time,.slice Ae d.entry.length ce,.int .i64 d.seg,.int .i64 d.pos,bv d.turn] 111)) (.cells #[.int .i64 0,.int .i64 0,.int .i64 0,.int .i64 0,.slice none 0 0] 105)
  rw [World.size_alloc] at this
  exact this
 have HW:=Lib.hid hW
 obtain ⟨SA,cS,vb,us,hP⟩:=hF
 have hPW:=(hP.third (ga:=w.heap.size+1) (Nat.le_succ _)).below hx0
 have hgF:gF<w.heap.size:=hP.2.2.2.1.lt
 have hgS:gS<w.heap.size:=hP.2.2.1
 have hansl:=hans.lt
 have hKW:KR w W B gF gS (w.heap.size+1):=KR.of_below hx0 hBw
 have heW:=SlAt.below he hx0
 obtain ⟨R,HR⟩:∃ R,Hid (R=Fl.step f d):=⟨_,Lib.hid rfl⟩
 rw [<-HR.out]
 clear hW he
 have HS:Hid (R=(f,Fl.no 6)):=Lib.hid (by rw [HR.out];unfold Fl.step;rw [if_neg h1,if_neg (by omega),if_pos hn])
 have hk:(d.kind==1)=false:=by rw [beq_eq_false_iff_ne];exact h1
 have h2B:decide (d.kind<2)=false:=decide_eq_false h2
 have h5B:decide (5<d.kind)=false:=decide_eq_false h5
 have hcl:f.sh.length<=cS:=by
  obtain ⟨_,_,_,_,_,h5,_⟩:=hPW
  obtain ⟨_,_,e,h,_⟩:=Own.shape h5
  injection e with _ _ e
  omega
 clear h1 h2 h5
 go_enter Try.func113,Try.ntmps113
 go_upto_region 1 with (fail)
 rw [<-HW.out]
 have d0:W.cell? ⟨w.heap.size,0,none⟩=some (.int .i64 d.kind):=hkD.cell 0
 have d1:W.cell? ⟨w.heap.size,1,none⟩=some (.int .i64 d.n):=hkD.cell 1
 have g0:W.cell? ⟨gF,0,none⟩=some (.slice SA f.sh.length cS):=hPW.2.2.2.1.cell 0
 by_cases hn0:d.n<0
 · clear hn
   go_wp2_with fail
   go_quiet (fail)
   go_wp2_with fail
   clear d0 d1 g0
   refine (rno_any (W.drewN nq) 6).mono ?_
   rintro e z1 ⟨rfl,hz1⟩
   replace hz1:=(below_drewN (Below.refl W.heap.size W) nq).trans hz1
   have hP1:=hPW.below hz1
   have hK1:=hKW.trans (KR.of_below hz1 (Nat.le_trans hBw hKW.size))
   have han1:=hans.below hz1 hans.lt
   clear hPW hKW hans
   have y0_:=han1.cell 0
   have y1_:=han1.cell 1
   have y2_:=han1.cell 2
   have y3_:=han1.cell 3
   have y4_:=han1.cell 4
   have f0_:=han1.frozen 0
   have f1_:=han1.frozen 1
   have f2_:=han1.frozen 2
   have f3_:=han1.frozen 3
   have f4_:=han1.frozen 4
   go_wp2_with fail
   have hW_:set5 z1 (w.heap.size+1) (.int .i64 6) (.int .i64 0) (.int .i64 0) (.int .i64 0) (.slice none 0 0)=(((((z1.setCell ⟨w.heap.size+1,0,none⟩ (.int .i64 6)).setCell ⟨w.heap.size+1,1,none⟩ (.int .i64 0)).setCell ⟨w.heap.size+1,2,none⟩ (.int .i64 0)).setCell ⟨w.heap.size+1,3,none⟩ (.int .i64 0)).setCell ⟨w.heap.size+1,4,none⟩ (.slice none 0 0)):=rfl
   rw [<-hW_]
   have HDN:=rstep_done (r:=R) (rv:=.slice none 0 0) (Nat.le_succ _) hBw hgF hgS (by rw [HS.out];exact hP1) (by rw [HS.out];exact SlAt.nil_ _ _ _) hK1 han1
   rw [HS.out] at HDN ⊢
   obtain ⟨q0_,q1_,q2_,q3_,q4_,hend⟩:(set5 z1 (w.heap.size+1) (.int .i64 6) (.int .i64 0) (.int .i64 0) (.int .i64 0) (.slice none 0 0)).cell? ⟨w.heap.size+1,0,none⟩=some (.int .i64 6)/\(set5 z1 (w.heap.size+1) (.int .i64 6) (.int .i64 0) (.int .i64 0) (.int .i64 0) (.slice none 0 0)).cell? ⟨w.heap.size+1,1,none⟩=some (.int .i64 0)/\(set5 z1 (w.heap.size+1) (.int .i64 6) (.int .i64 0) (.int .i64 0) (.int .i64 0) (.slice none 0 0)).cell? ⟨w.heap.size+1,2,none⟩=some (.int .i64 0)/\(set5 z1 (w.heap.size+1) (.int .i64 6) (.int .i64 0) (.int .i64 0) (.int .i64 0) (.slice none 0 0)).cell? ⟨w.heap.size+1,3,none⟩=some (.int .i64 0)/\(set5 z1 (w.heap.size+1) (.int .i64 6) (.int .i64 0) (.int .i64 0) (.int .i64 0) (.slice none 0 0)).cell? ⟨w.heap.size+1,4,none⟩=some (.slice none 0 0)/\RStepP w B gF gS _ (.returned (.agg #[.int .i64 6,.int .i64 0,.int .i64 0,.int .i64 0,.slice none 0 0])) (set5 z1 (w.heap.size+1) (.int .i64 6) (.int .i64 0) (.int .i64 0) (.int .i64 0) (.slice none 0 0)):=HDN
   clear hW_
   generalize set5 z1 (w.heap.size+1) (.int .i64 6) (.int .i64 0) (.int .i64 0) (.int .i64 0) (.slice none 0 0)=W9 at *
   exact bodyPost_ret (v:=.agg #[.int .i64 6,.int .i64 0,.int .i64 0,.int .i64 0,.slice none 0 0]) (by simp [results,Try.results113,go_sem,q0_,q1_,q2_,q3_,q4_]) rfl hend
 · have hn0B:decide (d.n<0)=false:=decide_eq_false hn0
   have hnl:(f.sh.length:Int)<=d.n:=by omega
   clear hn
   go_wp2_with fail
   go_quiet (fail)
   go_wp2_with fail
   clear d0 d1 g0
   refine (rno_any (W.drewN nq) 6).mono ?_
   rintro e z1 ⟨rfl,hz1⟩
   replace hz1:=(below_drewN (Below.refl W.heap.size W) nq).trans hz1
   have hP1:=hPW.below hz1
   have hK1:=hKW.trans (KR.of_below hz1 (Nat.le_trans hBw hKW.size))
   have han1:=hans.below hz1 hans.lt
   clear hPW hKW hans
   have y0_:=han1.cell 0
   have y1_:=han1.cell 1
   have y2_:=han1.cell 2
   have y3_:=han1.cell 3
   have y4_:=han1.cell 4
   have f0_:=han1.frozen 0
   have f1_:=han1.frozen 1
   have f2_:=han1.frozen 2
   have f3_:=han1.frozen 3
   have f4_:=han1.frozen 4
   go_wp2_with fail
   have hW_:set5 z1 (w.heap.size+1) (.int .i64 6) (.int .i64 0) (.int .i64 0) (.int .i64 0) (.slice none 0 0)=(((((z1.setCell ⟨w.heap.size+1,0,none⟩ (.int .i64 6)).setCell ⟨w.heap.size+1,1,none⟩ (.int .i64 0)).setCell ⟨w.heap.size+1,2,none⟩ (.int .i64 0)).setCell ⟨w.heap.size+1,3,none⟩ (.int .i64 0)).setCell ⟨w.heap.size+1,4,none⟩ (.slice none 0 0)):=rfl
   rw [<-hW_]
   have HDN:=rstep_done (r:=R) (rv:=.slice none 0 0) (Nat.le_succ _) hBw hgF hgS (by rw [HS.out];exact hP1) (by rw [HS.out];exact SlAt.nil_ _ _ _) hK1 han1
   rw [HS.out] at HDN ⊢
   obtain ⟨q0_,q1_,q2_,q3_,q4_,hend⟩:(set5 z1 (w.heap.size+1) (.int .i64 6) (.int .i64 0) (.int .i64 0) (.int .i64 0) (.slice none 0 0)).cell? ⟨w.heap.size+1,0,none⟩=some (.int .i64 6)/\(set5 z1 (w.heap.size+1) (.int .i64 6) (.int .i64 0) (.int .i64 0) (.int .i64 0) (.slice none 0 0)).cell? ⟨w.heap.size+1,1,none⟩=some (.int .i64 0)/\(set5 z1 (w.heap.size+1) (.int .i64 6) (.int .i64 0) (.int .i64 0) (.int .i64 0) (.slice none 0 0)).cell? ⟨w.heap.size+1,2,none⟩=some (.int .i64 0)/\(set5 z1 (w.heap.size+1) (.int .i64 6) (.int .i64 0) (.int .i64 0) (.int .i64 0) (.slice none 0 0)).cell? ⟨w.heap.size+1,3,none⟩=some (.int .i64 0)/\(set5 z1 (w.heap.size+1) (.int .i64 6) (.int .i64 0) (.int .i64 0) (.int .i64 0) (.slice none 0 0)).cell? ⟨w.heap.size+1,4,none⟩=some (.slice none 0 0)/\RStepP w B gF gS _ (.returned (.agg #[.int .i64 6,.int .i64 0,.int .i64 0,.int .i64 0,.slice none 0 0])) (set5 z1 (w.heap.size+1) (.int .i64 6) (.int .i64 0) (.int .i64 0) (.int .i64 0) (.slice none 0 0)):=HDN
   clear hW_
   generalize set5 z1 (w.heap.size+1) (.int .i64 6) (.int .i64 0) (.int .i64 0) (.int .i64 0) (.slice none 0 0)=W9 at *
   exact bodyPost_ret (v:=.agg #[.int .i64 6,.int .i64 0,.int .i64 0,.int .i64 0,.slice none 0 0]) (by simp [results,Try.results113,go_sem,q0_,q1_,q2_,q3_,q4_]) rfl hend
end Go.Proofs.Ytfdibjgmbdkbcaa
namespace Go.Proofs.Ytfdibjgmbdkbcaa
open Go.RowKit Go.Lib
set_option maxRecDepth 100000 in
set_option maxHeartbeats 8000000 in
theorem rstep_fit2 [Away] (w:World) (B gF gS:Nat) (f:Flt) (d:Dob) (Ae:Option Addr) (ce:Nat) (F0:Nat->Prop) (hF:RFlt w B gF gS gF f) (hBw:B<=w.heap.size) (he:Bytes w F0 (.slice Ae d.entry.length ce) d.entry) (hk:d.kind=2) (k:Nat) (hn:d.n=(k:Int)) (s:Shd) (hs:f.sh[k]? = some s) (hst:s.st≠1) :
 Calls Try.prog 113 #[.pointer (some ⟨gF,0,none⟩),.agg #[.int .i64 d.kind,.int .i64 d.n,.int .i64 d.time,.slice Ae d.entry.length ce,.int .i64 d.seg,.int .i64 d.pos,bv d.turn]] w (RStepP w B gF gS (Fl.step f d)):=by
 obtain ⟨W,hW⟩:∃ W,W=(w.alloc (.cells #[.int .i64 d.kind,.int .i64 d.n,.int .i64 d.time,.slice Ae d.entry.length ce,.int .i64 d.seg,.int .i64 d.pos,bv d.turn] 111)).alloc (.cells #[.int .i64 0,.int .i64 0,.int .i64 0,.int .i64 0,.slice none 0 0] 105):=⟨_,rfl⟩
 have hx0:Below w.heap.size w W:=by rw [hW];exact ((Below.refl _ _).alloc (Nat.le_refl _) _).alloc (by simp) _
 have hkD:Blk W w.heap.size 111 #[.int .i64 d.kind,.int .i64 d.n,.int .i64 d.time,.slice Ae d.entry.length ce,.int .i64 d.seg,.int .i64 d.pos,bv d.turn]:=by rw [hW];exact Blk.alloc (heap_alloc_new w _) _
 have hans:Blk W (w.heap.size+1) 105 #[.int .i64 0,.int .i64 0,.int .i64 0,.int .i64 0,.slice none 0 0]:=by
  rw [hW]
  have:=heap_alloc_new (w.alloc (.cells #[.int .i64 d.kind,.int .i64 d.n,.int .i64 d.time,.slice Ae d.entry.length ce,.int .i64 d.seg,.int .i64 d.pos,bv d.turn] 111)) (.cells #[.int .i64 0,.int .i64 0,.int .i64 0,.int .i64 0,.slice none 0 0] 105)
  rw [World.size_alloc] at this
  exact this
 have HW:=Lib.hid hW
 obtain ⟨SA,cS,vb,us,hP⟩:=hF
 have hPW:=(hP.third (ga:=w.heap.size+1) (Nat.le_succ _)).below hx0
 have hgF:gF<w.heap.size:=hP.2.2.2.1.lt
 have hgS:gS<w.heap.size:=hP.2.2.1
 have hansl:=hans.lt
 have hKW:KR w W B gF gS (w.heap.size+1):=KR.of_below hx0 hBw
 have heW:=SlAt.below he hx0
 obtain ⟨R,HR⟩:∃ R,Hid (R=Fl.step f d):=⟨_,Lib.hid rfl⟩
 rw [<-HR.out]
 clear hW he
 have HS:Hid (R=(f,Fl.no 7)):=Lib.hid (by
  rw [HR.out]
  unfold Fl.step
  rw [if_neg (by omega),if_neg (by omega),if_neg (by have:=(List.getElem?_eq_some_iff.1 hs).1;omega),show d.n.toNat=k by omega,hs]
  simp only
  rw [if_pos (by rw [hk];unfold Fl.want;simpa using hst)])
 have hkK:(d.kind==1)=false:=by rw [hk];rfl
 have HKD:=Lib.hid hk
 have HKN:=Lib.hid hn
 obtain ⟨oS,⟨ev,rv,sv⟩,hSA,hu,hnc,hcm,hkl,hne,-,hRS,-⟩:=hPW.row hs
 subst hSA
 obtain ⟨A5,c5,hev,hlc5,hcm5,_⟩:=hRS.1.shape
 obtain ⟨A6,c6,hrv⟩:=hRS.2.1.form
 obtain ⟨A7,c7,hsv,hlc7,hcm7⟩:=hRS.2.2.form
 simp only at hev hrv hsv
 subst hev hrv hsv
 have hkB:(k:Int)<(f.sh.length:Int):=by omega
 have hk0:(0:Int)<=(k:Int):=by omega
 unfold maxLen at hcm hcm5 hcm7
 clear hk hn hRS
 go_enter Try.func113,Try.ntmps113
 go_upto_region 1 with (fail)
 rw [<-HW.out]
 have d0:W.cell? ⟨w.heap.size,0,none⟩=some (.int .i64 2):=(hkD.cell 0).trans (by show some (.int .i64 d.kind:Value)=_;rw [HKD.out])
 have d1:W.cell? ⟨w.heap.size,1,none⟩=some (.int .i64 (k:Int)):=(hkD.cell 1).trans (by show some (.int .i64 d.n:Value)=_;rw [HKN.out])
 have g0_:W.cell? ⟨gF,0,none⟩=some (.slice (some ⟨gS,oS,none⟩) f.sh.length cS):=hPW.2.2.2.1.cell 0
 go_wp2_with fail
 go_quiet (fail)
 have hq1:=below_drewN (Below.refl W.heap.size W) nq
 have hP2:=hPW.below hq1
 have hK2:=hKW.trans (KR.of_below hq1 (Nat.le_trans hBw hKW.size))
 have han2:=hans.below hq1 hans.lt
 have hD2:=hkD.below hq1 hkD.lt
 have he2:=SlAt.below heW hq1
 clear hPW hKW hans hkD heW
 clear hq1
 generalize (W.drewN nq)=v1 at *
 clear d0 d1 g0_
 have d0:v1.cell? ⟨w.heap.size,0,none⟩=some (.int .i64 2):=(hD2.cell 0).trans (by show some (.int .i64 d.kind:Value)=_;rw [HKD.out])
 have d1:v1.cell? ⟨w.heap.size,1,none⟩=some (.int .i64 (k:Int)):=(hD2.cell 1).trans (by show some (.int .i64 d.n:Value)=_;rw [HKN.out])
 have g0_:v1.cell? ⟨gF,0,none⟩=some (.slice (some ⟨gS,oS,none⟩) f.sh.length cS):=hP2.2.2.2.1.cell 0
 go_wp2_with fail
 go_quiet (fail)
 have hq3:=below_drewN (Below.refl v1.heap.size v1) nq
 have hP4:=hP2.below hq3
 have hK4:=hK2.trans (KR.of_below hq3 (Nat.le_trans hBw hK2.size))
 have han4:=han2.below hq3 han2.lt
 have hD4:=hD2.below hq3 hD2.lt
 have he4:=SlAt.below he2 hq3
 clear hP2 hK2 han2 hD2 he2
 clear hq3
 generalize (v1.drewN nq)=v3 at *
 clear d0 d1 g0_
 have hq:=(Below.refl v3.heap.size v3).alloc (Nat.le_refl _) (.cells #[.int .i64 0,.int .i64 0,.int .i64 1,.int .i64 2,.int .i64 3,.int .i64 3] 3)
 have hbl:Blk (v3.alloc (.cells #[.int .i64 0,.int .i64 0,.int .i64 1,.int .i64 2,.int .i64 3,.int .i64 3] 3)) v3.heap.size 3 #[.int .i64 0,.int .i64 0,.int .i64 1,.int .i64 2,.int .i64 3,.int .i64 3]:=heap_alloc_new v3 _
 have hP5:=hP4.below hq
 have hK5:=hK4.trans (KR.of_below hq (Nat.le_trans hBw hK4.size))
 have han5:=han4.below hq han4.lt
 have hD5:=hD4.below hq hD4.lt
 have he5:=SlAt.below he4 hq
 clear hP4 hK4 han4 hD4 he4
 have d0:(v3.alloc (.cells #[.int .i64 0,.int .i64 0,.int .i64 1,.int .i64 2,.int .i64 3,.int .i64 3] 3)).cell? ⟨w.heap.size,0,none⟩=some (.int .i64 2):=(hD5.cell 0).trans (by show some (.int .i64 d.kind:Value)=_;rw [HKD.out])
 have dA:(v3.alloc (.cells #[.int .i64 0,.int .i64 0,.int .i64 1,.int .i64 2,.int .i64 3,.int .i64 3] 3)).cell? ⟨v3.heap.size,2,none⟩=some (.int .i64 1):=hbl.cell 2
 go_upto_region 30 with (fail)
 clear d0 dA hbl
 clear hq
 generalize (v3.alloc (.cells #[.int .i64 0,.int .i64 0,.int .i64 1,.int .i64 2,.int .i64 3,.int .i64 3] 3))=v9 at *
 have hstB:(s.st != 1)=true:=by rw [bne_iff_ne];exact hst
 clear hst
 have p2:v9.cell? ⟨gS,oS+k*7+2,none⟩=some (.int .i64 s.st):=hP5.cellAt (i:=2) hs hu rfl
 go_wp2_with fail
 clear p2
 refine (rno_any v9 7).mono ?_
 rintro e z1 ⟨rfl,hz1⟩
 have hP1:=hP5.below hz1
 have hK1:=hK5.trans (KR.of_below hz1 (Nat.le_trans hBw hK5.size))
 have han1:=han5.below hz1 han5.lt
 clear hP5 hK5 han5
 have y0_:=han1.cell 0
 have y1_:=han1.cell 1
 have y2_:=han1.cell 2
 have y3_:=han1.cell 3
 have y4_:=han1.cell 4
 have f0_:=han1.frozen 0
 have f1_:=han1.frozen 1
 have f2_:=han1.frozen 2
 have f3_:=han1.frozen 3
 have f4_:=han1.frozen 4
 go_wp2_with fail
 have hW_:set5 z1 (w.heap.size+1) (.int .i64 7) (.int .i64 0) (.int .i64 0) (.int .i64 0) (.slice none 0 0)=(((((z1.setCell ⟨w.heap.size+1,0,none⟩ (.int .i64 7)).setCell ⟨w.heap.size+1,1,none⟩ (.int .i64 0)).setCell ⟨w.heap.size+1,2,none⟩ (.int .i64 0)).setCell ⟨w.heap.size+1,3,none⟩ (.int .i64 0)).setCell ⟨w.heap.size+1,4,none⟩ (.slice none 0 0)):=rfl
 rw [<-hW_]
 have HDN:=rstep_done (r:=R) (rv:=.slice none 0 0) (Nat.le_succ _) hBw hgF hgS (by rw [HS.out];exact hP1) (by rw [HS.out];exact SlAt.nil_ _ _ _) hK1 han1
 rw [HS.out] at HDN ⊢
 obtain ⟨q0_,q1_,q2_,q3_,q4_,hend⟩:(set5 z1 (w.heap.size+1) (.int .i64 7) (.int .i64 0) (.int .i64 0) (.int .i64 0) (.slice none 0 0)).cell? ⟨w.heap.size+1,0,none⟩=some (.int .i64 7)/\(set5 z1 (w.heap.size+1) (.int .i64 7) (.int .i64 0) (.int .i64 0) (.int .i64 0) (.slice none 0 0)).cell? ⟨w.heap.size+1,1,none⟩=some (.int .i64 0)/\(set5 z1 (w.heap.size+1) (.int .i64 7) (.int .i64 0) (.int .i64 0) (.int .i64 0) (.slice none 0 0)).cell? ⟨w.heap.size+1,2,none⟩=some (.int .i64 0)/\(set5 z1 (w.heap.size+1) (.int .i64 7) (.int .i64 0) (.int .i64 0) (.int .i64 0) (.slice none 0 0)).cell? ⟨w.heap.size+1,3,none⟩=some (.int .i64 0)/\(set5 z1 (w.heap.size+1) (.int .i64 7) (.int .i64 0) (.int .i64 0) (.int .i64 0) (.slice none 0 0)).cell? ⟨w.heap.size+1,4,none⟩=some (.slice none 0 0)/\RStepP w B gF gS _ (.returned (.agg #[.int .i64 7,.int .i64 0,.int .i64 0,.int .i64 0,.slice none 0 0])) (set5 z1 (w.heap.size+1) (.int .i64 7) (.int .i64 0) (.int .i64 0) (.int .i64 0) (.slice none 0 0)):=HDN
 clear hW_
 generalize set5 z1 (w.heap.size+1) (.int .i64 7) (.int .i64 0) (.int .i64 0) (.int .i64 0) (.slice none 0 0)=W9 at *
 exact bodyPost_ret (v:=.agg #[.int .i64 7,.int .i64 0,.int .i64 0,.int .i64 0,.slice none 0 0]) (by simp [results,Try.results113,go_sem,q0_,q1_,q2_,q3_,q4_]) rfl hend
set_option maxRecDepth 100000 in
set_option maxHeartbeats 8000000 in
theorem rstep_fit3 [Away] (w:World) (B gF gS:Nat) (f:Flt) (d:Dob) (Ae:Option Addr) (ce:Nat) (F0:Nat->Prop) (hF:RFlt w B gF gS gF f) (hBw:B<=w.heap.size) (he:Bytes w F0 (.slice Ae d.entry.length ce) d.entry) (hk:d.kind=3) (k:Nat) (hn:d.n=(k:Int)) (s:Shd) (hs:f.sh[k]? = some s) (hst:s.st≠2) :
 Calls Try.prog 113 #[.pointer (some ⟨gF,0,none⟩),.agg #[.int .i64 d.kind,.int .i64 d.n,.int .i64 d.time,.slice Ae d.entry.length ce,.int .i64 d.seg,.int .i64 d.pos,bv d.turn]] w (RStepP w B gF gS (Fl.step f d)):=by
 obtain ⟨W,hW⟩:∃ W,W=(w.alloc (.cells #[.int .i64 d.kind,.int .i64 d.n,.int .i64 d.time,.slice Ae d.entry.length ce,.int .i64 d.seg,.int .i64 d.pos,bv d.turn] 111)).alloc (.cells #[.int .i64 0,.int .i64 0,.int .i64 0,.int .i64 0,.slice none 0 0] 105):=⟨_,rfl⟩
 have hx0:Below w.heap.size w W:=by rw [hW];exact ((Below.refl _ _).alloc (Nat.le_refl _) _).alloc (by simp) _
 have hkD:Blk W w.heap.size 111 #[.int .i64 d.kind,.int .i64 d.n,.int .i64 d.time,.slice Ae d.entry.length ce,.int .i64 d.seg,.int .i64 d.pos,bv d.turn]:=by rw [hW];exact Blk.alloc (heap_alloc_new w _) _
 have hans:Blk W (w.heap.size+1) 105 #[.int .i64 0,.int .i64 0,.int .i64 0,.int .i64 0,.slice none 0 0]:=by
  rw [hW]
  have:=heap_alloc_new (w.alloc (.cells #[.int .i64 d.kind,.int .i64 d.n,.int .i64 d.time,.slice Ae d.entry.length ce,.int .i64 d.seg,.int .i64 d.pos,bv d.turn] 111)) (.cells #[.int .i64 0,.int .i64 0,.int .i64 0,.int .i64 0,.slice none 0 0] 105)
  rw [World.size_alloc] at this
  exact this
 have HW:=Lib.hid hW
 obtain ⟨SA,cS,vb,us,hP⟩:=hF
 have hPW:=(hP.third (ga:=w.heap.size+1) (Nat.le_succ _)).below hx0
 have hgF:gF<w.heap.size:=hP.2.2.2.1.lt
 have hgS:gS<w.heap.size:=hP.2.2.1
 have hansl:=hans.lt
 have hKW:KR w W B gF gS (w.heap.size+1):=KR.of_below hx0 hBw
 have heW:=SlAt.below he hx0
 obtain ⟨R,HR⟩:∃ R,Hid (R=Fl.step f d):=⟨_,Lib.hid rfl⟩
 rw [<-HR.out]
 clear hW he
 have HS:Hid (R=(f,Fl.no 7)):=Lib.hid (by
  rw [HR.out]
  unfold Fl.step
  rw [if_neg (by omega),if_neg (by omega),if_neg (by have:=(List.getElem?_eq_some_iff.1 hs).1;omega),show d.n.toNat=k by omega,hs]
  simp only
  rw [if_pos (by rw [hk];unfold Fl.want;simpa using hst)])
 have hkK:(d.kind==1)=false:=by rw [hk];rfl
 have HKD:=Lib.hid hk
 have HKN:=Lib.hid hn
 obtain ⟨oS,⟨ev,rv,sv⟩,hSA,hu,hnc,hcm,hkl,hne,-,hRS,-⟩:=hPW.row hs
 subst hSA
 obtain ⟨A5,c5,hev,hlc5,hcm5,_⟩:=hRS.1.shape
 obtain ⟨A6,c6,hrv⟩:=hRS.2.1.form
 obtain ⟨A7,c7,hsv,hlc7,hcm7⟩:=hRS.2.2.form
 simp only at hev hrv hsv
 subst hev hrv hsv
 have hkB:(k:Int)<(f.sh.length:Int):=by omega
 have hk0:(0:Int)<=(k:Int):=by omega
 unfold maxLen at hcm hcm5 hcm7
 clear hk hn hRS
 go_enter Try.func113,Try.ntmps113
 go_upto_region 1 with (fail)
 rw [<-HW.out]
 have d0:W.cell? ⟨w.heap.size,0,none⟩=some (.int .i64 3):=(hkD.cell 0).trans (by show some (.int .i64 d.kind:Value)=_;rw [HKD.out])
 have d1:W.cell? ⟨w.heap.size,1,none⟩=some (.int .i64 (k:Int)):=(hkD.cell 1).trans (by show some (.int .i64 d.n:Value)=_;rw [HKN.out])
 have g0_:W.cell? ⟨gF,0,none⟩=some (.slice (some ⟨gS,oS,none⟩) f.sh.length cS):=hPW.2.2.2.1.cell 0
 go_wp2_with fail
 go_quiet (fail)
 have hq1:=below_drewN (Below.refl W.heap.size W) nq
 have hP2:=hPW.below hq1
 have hK2:=hKW.trans (KR.of_below hq1 (Nat.le_trans hBw hKW.size))
 have han2:=hans.below hq1 hans.lt
 have hD2:=hkD.below hq1 hkD.lt
 have he2:=SlAt.below heW hq1
 clear hPW hKW hans hkD heW
 clear hq1
 generalize (W.drewN nq)=v1 at *
 clear d0 d1 g0_
 have d0:v1.cell? ⟨w.heap.size,0,none⟩=some (.int .i64 3):=(hD2.cell 0).trans (by show some (.int .i64 d.kind:Value)=_;rw [HKD.out])
 have d1:v1.cell? ⟨w.heap.size,1,none⟩=some (.int .i64 (k:Int)):=(hD2.cell 1).trans (by show some (.int .i64 d.n:Value)=_;rw [HKN.out])
 have g0_:v1.cell? ⟨gF,0,none⟩=some (.slice (some ⟨gS,oS,none⟩) f.sh.length cS):=hP2.2.2.2.1.cell 0
 go_wp2_with fail
 go_quiet (fail)
 have hq3:=below_drewN (Below.refl v1.heap.size v1) nq
 have hP4:=hP2.below hq3
 have hK4:=hK2.trans (KR.of_below hq3 (Nat.le_trans hBw hK2.size))
 have han4:=han2.below hq3 han2.lt
 have hD4:=hD2.below hq3 hD2.lt
 have he4:=SlAt.below he2 hq3
 clear hP2 hK2 han2 hD2 he2
 clear hq3
 generalize (v1.drewN nq)=v3 at *
 clear d0 d1 g0_
 have hq:=(Below.refl v3.heap.size v3).alloc (Nat.le_refl _) (.cells #[.int .i64 0,.int .i64 0,.int .i64 1,.int .i64 2,.int .i64 3,.int .i64 3] 3)
 have hbl:Blk (v3.alloc (.cells #[.int .i64 0,.int .i64 0,.int .i64 1,.int .i64 2,.int .i64 3,.int .i64 3] 3)) v3.heap.size 3 #[.int .i64 0,.int .i64 0,.int .i64 1,.int .i64 2,.int .i64 3,.int .i64 3]:=heap_alloc_new v3 _
 have hP5:=hP4.below hq
 have hK5:=hK4.trans (KR.of_below hq (Nat.le_trans hBw hK4.size))
 have han5:=han4.below hq han4.lt
 have hD5:=hD4.below hq hD4.lt
 have he5:=SlAt.below he4 hq
 clear hP4 hK4 han4 hD4 he4
 have d0:(v3.alloc (.cells #[.int .i64 0,.int .i64 0,.int .i64 1,.int .i64 2,.int .i64 3,.int .i64 3] 3)).cell? ⟨w.heap.size,0,none⟩=some (.int .i64 3):=(hD5.cell 0).trans (by show some (.int .i64 d.kind:Value)=_;rw [HKD.out])
 have dA:(v3.alloc (.cells #[.int .i64 0,.int .i64 0,.int .i64 1,.int .i64 2,.int .i64 3,.int .i64 3] 3)).cell? ⟨v3.heap.size,3,none⟩=some (.int .i64 2):=hbl.cell 3
 go_upto_region 30 with (fail)
 clear d0 dA hbl
 clear hq
 generalize (v3.alloc (.cells #[.int .i64 0,.int .i64 0,.int .i64 1,.int .i64 2,.int .i64 3,.int .i64 3] 3))=v9 at *
 have hstB:(s.st != 2)=true:=by rw [bne_iff_ne];exact hst
 clear hst
 have p2:v9.cell? ⟨gS,oS+k*7+2,none⟩=some (.int .i64 s.st):=hP5.cellAt (i:=2) hs hu rfl
 go_wp2_with fail
 clear p2
 refine (rno_any v9 7).mono ?_
 rintro e z1 ⟨rfl,hz1⟩
 have hP1:=hP5.below hz1
 have hK1:=hK5.trans (KR.of_below hz1 (Nat.le_trans hBw hK5.size))
 have han1:=han5.below hz1 han5.lt
 clear hP5 hK5 han5
 have y0_:=han1.cell 0
 have y1_:=han1.cell 1
 have y2_:=han1.cell 2
 have y3_:=han1.cell 3
 have y4_:=han1.cell 4
 have f0_:=han1.frozen 0
 have f1_:=han1.frozen 1
 have f2_:=han1.frozen 2
 have f3_:=han1.frozen 3
 have f4_:=han1.frozen 4
 go_wp2_with fail
 have hW_:set5 z1 (w.heap.size+1) (.int .i64 7) (.int .i64 0) (.int .i64 0) (.int .i64 0) (.slice none 0 0)=(((((z1.setCell ⟨w.heap.size+1,0,none⟩ (.int .i64 7)).setCell ⟨w.heap.size+1,1,none⟩ (.int .i64 0)).setCell ⟨w.heap.size+1,2,none⟩ (.int .i64 0)).setCell ⟨w.heap.size+1,3,none⟩ (.int .i64 0)).setCell ⟨w.heap.size+1,4,none⟩ (.slice none 0 0)):=rfl
 rw [<-hW_]
 have HDN:=rstep_done (r:=R) (rv:=.slice none 0 0) (Nat.le_succ _) hBw hgF hgS (by rw [HS.out];exact hP1) (by rw [HS.out];exact SlAt.nil_ _ _ _) hK1 han1
 rw [HS.out] at HDN ⊢
 obtain ⟨q0_,q1_,q2_,q3_,q4_,hend⟩:(set5 z1 (w.heap.size+1) (.int .i64 7) (.int .i64 0) (.int .i64 0) (.int .i64 0) (.slice none 0 0)).cell? ⟨w.heap.size+1,0,none⟩=some (.int .i64 7)/\(set5 z1 (w.heap.size+1) (.int .i64 7) (.int .i64 0) (.int .i64 0) (.int .i64 0) (.slice none 0 0)).cell? ⟨w.heap.size+1,1,none⟩=some (.int .i64 0)/\(set5 z1 (w.heap.size+1) (.int .i64 7) (.int .i64 0) (.int .i64 0) (.int .i64 0) (.slice none 0 0)).cell? ⟨w.heap.size+1,2,none⟩=some (.int .i64 0)/\(set5 z1 (w.heap.size+1) (.int .i64 7) (.int .i64 0) (.int .i64 0) (.int .i64 0) (.slice none 0 0)).cell? ⟨w.heap.size+1,3,none⟩=some (.int .i64 0)/\(set5 z1 (w.heap.size+1) (.int .i64 7) (.int .i64 0) (.int .i64 0) (.int .i64 0) (.slice none 0 0)).cell? ⟨w.heap.size+1,4,none⟩=some (.slice none 0 0)/\RStepP w B gF gS _ (.returned (.agg #[.int .i64 7,.int .i64 0,.int .i64 0,.int .i64 0,.slice none 0 0])) (set5 z1 (w.heap.size+1) (.int .i64 7) (.int .i64 0) (.int .i64 0) (.int .i64 0) (.slice none 0 0)):=HDN
 clear hW_
 generalize set5 z1 (w.heap.size+1) (.int .i64 7) (.int .i64 0) (.int .i64 0) (.int .i64 0) (.slice none 0 0)=W9 at *
 exact bodyPost_ret (v:=.agg #[.int .i64 7,.int .i64 0,.int .i64 0,.int .i64 0,.slice none 0 0]) (by simp [results,Try.results113,go_sem,q0_,q1_,q2_,q3_,q4_]) rfl hend
set_option maxRecDepth 100000 in
set_option maxHeartbeats 8000000 in
theorem rstep_fit4 [Away] (w:World) (B gF gS:Nat) (f:Flt) (d:Dob) (Ae:Option Addr) (ce:Nat) (F0:Nat->Prop) (hF:RFlt w B gF gS gF f) (hBw:B<=w.heap.size) (he:Bytes w F0 (.slice Ae d.entry.length ce) d.entry) (hk:d.kind=4) (k:Nat) (hn:d.n=(k:Int)) (s:Shd) (hs:f.sh[k]? = some s) (hst:s.st≠3) :
 Calls Try.prog 113 #[.pointer (some ⟨gF,0,none⟩),.agg #[.int .i64 d.kind,.int .i64 d.n,.int .i64 d.time,.slice Ae d.entry.length ce,.int .i64 d.seg,.int .i64 d.pos,bv d.turn]] w (RStepP w B gF gS (Fl.step f d)):=by
 obtain ⟨W,hW⟩:∃ W,W=(w.alloc (.cells #[.int .i64 d.kind,.int .i64 d.n,.int .i64 d.time,.slice Ae d.entry.length ce,.int .i64 d.seg,.int .i64 d.pos,bv d.turn] 111)).alloc (.cells #[.int .i64 0,.int .i64 0,.int .i64 0,.int .i64 0,.slice none 0 0] 105):=⟨_,rfl⟩
 have hx0:Below w.heap.size w W:=by rw [hW];exact ((Below.refl _ _).alloc (Nat.le_refl _) _).alloc (by simp) _
 have hkD:Blk W w.heap.size 111 #[.int .i64 d.kind,.int .i64 d.n,.int .i64 d.time,.slice Ae d.entry.length ce,.int .i64 d.seg,.int .i64 d.pos,bv d.turn]:=by rw [hW];exact Blk.alloc (heap_alloc_new w _) _
 have hans:Blk W (w.heap.size+1) 105 #[.int .i64 0,.int .i64 0,.int .i64 0,.int .i64 0,.slice none 0 0]:=by
  rw [hW]
  have:=heap_alloc_new (w.alloc (.cells #[.int .i64 d.kind,.int .i64 d.n,.int .i64 d.time,.slice Ae d.entry.length ce,.int .i64 d.seg,.int .i64 d.pos,bv d.turn] 111)) (.cells #[.int .i64 0,.int .i64 0,.int .i64 0,.int .i64 0,.slice none 0 0] 105)
  rw [World.size_alloc] at this
  exact this
 have HW:=Lib.hid hW
 obtain ⟨SA,cS,vb,us,hP⟩:=hF
 have hPW:=(hP.third (ga:=w.heap.size+1) (Nat.le_succ _)).below hx0
 have hgF:gF<w.heap.size:=hP.2.2.2.1.lt
 have hgS:gS<w.heap.size:=hP.2.2.1
 have hansl:=hans.lt
 have hKW:KR w W B gF gS (w.heap.size+1):=KR.of_below hx0 hBw
 have heW:=SlAt.below he hx0
 obtain ⟨R,HR⟩:∃ R,Hid (R=Fl.step f d):=⟨_,Lib.hid rfl⟩
 rw [<-HR.out]
 clear hW he
 have HS:Hid (R=(f,Fl.no 7)):=Lib.hid (by
  rw [HR.out]
  unfold Fl.step
  rw [if_neg (by omega),if_neg (by omega),if_neg (by have:=(List.getElem?_eq_some_iff.1 hs).1;omega),show d.n.toNat=k by omega,hs]
  simp only
  rw [if_pos (by rw [hk];unfold Fl.want;simpa using hst)])
 have hkK:(d.kind==1)=false:=by rw [hk];rfl
 have HKD:=Lib.hid hk
 have HKN:=Lib.hid hn
 obtain ⟨oS,⟨ev,rv,sv⟩,hSA,hu,hnc,hcm,hkl,hne,-,hRS,-⟩:=hPW.row hs
 subst hSA
 obtain ⟨A5,c5,hev,hlc5,hcm5,_⟩:=hRS.1.shape
 obtain ⟨A6,c6,hrv⟩:=hRS.2.1.form
 obtain ⟨A7,c7,hsv,hlc7,hcm7⟩:=hRS.2.2.form
 simp only at hev hrv hsv
 subst hev hrv hsv
 have hkB:(k:Int)<(f.sh.length:Int):=by omega
 have hk0:(0:Int)<=(k:Int):=by omega
 unfold maxLen at hcm hcm5 hcm7
 clear hk hn hRS
 go_enter Try.func113,Try.ntmps113
 go_upto_region 1 with (fail)
 rw [<-HW.out]
 have d0:W.cell? ⟨w.heap.size,0,none⟩=some (.int .i64 4):=(hkD.cell 0).trans (by show some (.int .i64 d.kind:Value)=_;rw [HKD.out])
 have d1:W.cell? ⟨w.heap.size,1,none⟩=some (.int .i64 (k:Int)):=(hkD.cell 1).trans (by show some (.int .i64 d.n:Value)=_;rw [HKN.out])
 have g0_:W.cell? ⟨gF,0,none⟩=some (.slice (some ⟨gS,oS,none⟩) f.sh.length cS):=hPW.2.2.2.1.cell 0
 go_wp2_with fail
 go_quiet (fail)
 have hq1:=below_drewN (Below.refl W.heap.size W) nq
 have hP2:=hPW.below hq1
 have hK2:=hKW.trans (KR.of_below hq1 (Nat.le_trans hBw hKW.size))
 have han2:=hans.below hq1 hans.lt
 have hD2:=hkD.below hq1 hkD.lt
 have he2:=SlAt.below heW hq1
 clear hPW hKW hans hkD heW
 clear hq1
 generalize (W.drewN nq)=v1 at *
 clear d0 d1 g0_
 have d0:v1.cell? ⟨w.heap.size,0,none⟩=some (.int .i64 4):=(hD2.cell 0).trans (by show some (.int .i64 d.kind:Value)=_;rw [HKD.out])
 have d1:v1.cell? ⟨w.heap.size,1,none⟩=some (.int .i64 (k:Int)):=(hD2.cell 1).trans (by show some (.int .i64 d.n:Value)=_;rw [HKN.out])
 have g0_:v1.cell? ⟨gF,0,none⟩=some (.slice (some ⟨gS,oS,none⟩) f.sh.length cS):=hP2.2.2.2.1.cell 0
 go_wp2_with fail
 go_quiet (fail)
 have hq3:=below_drewN (Below.refl v1.heap.size v1) nq
 have hP4:=hP2.below hq3
 have hK4:=hK2.trans (KR.of_below hq3 (Nat.le_trans hBw hK2.size))
 have han4:=han2.below hq3 han2.lt
 have hD4:=hD2.below hq3 hD2.lt
 have he4:=SlAt.below he2 hq3
 clear hP2 hK2 han2 hD2 he2
 clear hq3
 generalize (v1.drewN nq)=v3 at *
 clear d0 d1 g0_
 have hq:=(Below.refl v3.heap.size v3).alloc (Nat.le_refl _) (.cells #[.int .i64 0,.int .i64 0,.int .i64 1,.int .i64 2,.int .i64 3,.int .i64 3] 3)
 have hbl:Blk (v3.alloc (.cells #[.int .i64 0,.int .i64 0,.int .i64 1,.int .i64 2,.int .i64 3,.int .i64 3] 3)) v3.heap.size 3 #[.int .i64 0,.int .i64 0,.int .i64 1,.int .i64 2,.int .i64 3,.int .i64 3]:=heap_alloc_new v3 _
 have hP5:=hP4.below hq
 have hK5:=hK4.trans (KR.of_below hq (Nat.le_trans hBw hK4.size))
 have han5:=han4.below hq han4.lt
 have hD5:=hD4.below hq hD4.lt
 have he5:=SlAt.below he4 hq
 clear hP4 hK4 han4 hD4 he4
 have d0:(v3.alloc (.cells #[.int .i64 0,.int .i64 0,.int .i64 1,.int .i64 2,.int .i64 3,.int .i64 3] 3)).cell? ⟨w.heap.size,0,none⟩=some (.int .i64 4):=(hD5.cell 0).trans (by show some (.int .i64 d.kind:Value)=_;rw [HKD.out])
 have dA:(v3.alloc (.cells #[.int .i64 0,.int .i64 0,.int .i64 1,.int .i64 2,.int .i64 3,.int .i64 3] 3)).cell? ⟨v3.heap.size,4,none⟩=some (.int .i64 3):=hbl.cell 4
 go_upto_region 30 with (fail)
 clear d0 dA hbl
 clear hq
 generalize (v3.alloc (.cells #[.int .i64 0,.int .i64 0,.int .i64 1,.int .i64 2,.int .i64 3,.int .i64 3] 3))=v9 at *
 have hstB:(s.st != 3)=true:=by rw [bne_iff_ne];exact hst
 clear hst
 have p2:v9.cell? ⟨gS,oS+k*7+2,none⟩=some (.int .i64 s.st):=hP5.cellAt (i:=2) hs hu rfl
 go_wp2_with fail
 clear p2
 refine (rno_any v9 7).mono ?_
 rintro e z1 ⟨rfl,hz1⟩
 have hP1:=hP5.below hz1
 have hK1:=hK5.trans (KR.of_below hz1 (Nat.le_trans hBw hK5.size))
 have han1:=han5.below hz1 han5.lt
 clear hP5 hK5 han5
 have y0_:=han1.cell 0
 have y1_:=han1.cell 1
 have y2_:=han1.cell 2
 have y3_:=han1.cell 3
 have y4_:=han1.cell 4
 have f0_:=han1.frozen 0
 have f1_:=han1.frozen 1
 have f2_:=han1.frozen 2
 have f3_:=han1.frozen 3
 have f4_:=han1.frozen 4
 go_wp2_with fail
 have hW_:set5 z1 (w.heap.size+1) (.int .i64 7) (.int .i64 0) (.int .i64 0) (.int .i64 0) (.slice none 0 0)=(((((z1.setCell ⟨w.heap.size+1,0,none⟩ (.int .i64 7)).setCell ⟨w.heap.size+1,1,none⟩ (.int .i64 0)).setCell ⟨w.heap.size+1,2,none⟩ (.int .i64 0)).setCell ⟨w.heap.size+1,3,none⟩ (.int .i64 0)).setCell ⟨w.heap.size+1,4,none⟩ (.slice none 0 0)):=rfl
 rw [<-hW_]
 have HDN:=rstep_done (r:=R) (rv:=.slice none 0 0) (Nat.le_succ _) hBw hgF hgS (by rw [HS.out];exact hP1) (by rw [HS.out];exact SlAt.nil_ _ _ _) hK1 han1
 rw [HS.out] at HDN ⊢
 obtain ⟨q0_,q1_,q2_,q3_,q4_,hend⟩:(set5 z1 (w.heap.size+1) (.int .i64 7) (.int .i64 0) (.int .i64 0) (.int .i64 0) (.slice none 0 0)).cell? ⟨w.heap.size+1,0,none⟩=some (.int .i64 7)/\(set5 z1 (w.heap.size+1) (.int .i64 7) (.int .i64 0) (.int .i64 0) (.int .i64 0) (.slice none 0 0)).cell? ⟨w.heap.size+1,1,none⟩=some (.int .i64 0)/\(set5 z1 (w.heap.size+1) (.int .i64 7) (.int .i64 0) (.int .i64 0) (.int .i64 0) (.slice none 0 0)).cell? ⟨w.heap.size+1,2,none⟩=some (.int .i64 0)/\(set5 z1 (w.heap.size+1) (.int .i64 7) (.int .i64 0) (.int .i64 0) (.int .i64 0) (.slice none 0 0)).cell? ⟨w.heap.size+1,3,none⟩=some (.int .i64 0)/\(set5 z1 (w.heap.size+1) (.int .i64 7) (.int .i64 0) (.int .i64 0) (.int .i64 0) (.slice none 0 0)).cell? ⟨w.heap.size+1,4,none⟩=some (.slice none 0 0)/\RStepP w B gF gS _ (.returned (.agg #[.int .i64 7,.int .i64 0,.int .i64 0,.int .i64 0,.slice none 0 0])) (set5 z1 (w.heap.size+1) (.int .i64 7) (.int .i64 0) (.int .i64 0) (.int .i64 0) (.slice none 0 0)):=HDN
 clear hW_
 generalize set5 z1 (w.heap.size+1) (.int .i64 7) (.int .i64 0) (.int .i64 0) (.int .i64 0) (.slice none 0 0)=W9 at *
 exact bodyPost_ret (v:=.agg #[.int .i64 7,.int .i64 0,.int .i64 0,.int .i64 0,.slice none 0 0]) (by simp [results,Try.results113,go_sem,q0_,q1_,q2_,q3_,q4_]) rfl hend
set_option maxRecDepth 100000 in
set_option maxHeartbeats 8000000 in
theorem rstep_fit5 [Away] (w:World) (B gF gS:Nat) (f:Flt) (d:Dob) (Ae:Option Addr) (ce:Nat) (F0:Nat->Prop) (hF:RFlt w B gF gS gF f) (hBw:B<=w.heap.size) (he:Bytes w F0 (.slice Ae d.entry.length ce) d.entry) (hk:d.kind=5) (k:Nat) (hn:d.n=(k:Int)) (s:Shd) (hs:f.sh[k]? = some s) (hst:s.st≠3) :
 Calls Try.prog 113 #[.pointer (some ⟨gF,0,none⟩),.agg #[.int .i64 d.kind,.int .i64 d.n,.int .i64 d.time,.slice Ae d.entry.length ce,.int .i64 d.seg,.int .i64 d.pos,bv d.turn]] w (RStepP w B gF gS (Fl.step f d)):=by
 obtain ⟨W,hW⟩:∃ W,W=(w.alloc (.cells #[.int .i64 d.kind,.int .i64 d.n,.int .i64 d.time,.slice Ae d.entry.length ce,.int .i64 d.seg,.int .i64 d.pos,bv d.turn] 111)).alloc (.cells #[.int .i64 0,.int .i64 0,.int .i64 0,.int .i64 0,.slice none 0 0] 105):=⟨_,rfl⟩
 have hx0:Below w.heap.size w W:=by rw [hW];exact ((Below.refl _ _).alloc (Nat.le_refl _) _).alloc (by simp) _
 have hkD:Blk W w.heap.size 111 #[.int .i64 d.kind,.int .i64 d.n,.int .i64 d.time,.slice Ae d.entry.length ce,.int .i64 d.seg,.int .i64 d.pos,bv d.turn]:=by rw [hW];exact Blk.alloc (heap_alloc_new w _) _
 have hans:Blk W (w.heap.size+1) 105 #[.int .i64 0,.int .i64 0,.int .i64 0,.int .i64 0,.slice none 0 0]:=by
  rw [hW]
  have:=heap_alloc_new (w.alloc (.cells #[.int .i64 d.kind,.int .i64 d.n,.int .i64 d.time,.slice Ae d.entry.length ce,.int .i64 d.seg,.int .i64 d.pos,bv d.turn] 111)) (.cells #[.int .i64 0,.int .i64 0,.int .i64 0,.int .i64 0,.slice none 0 0] 105)
  rw [World.size_alloc] at this
  exact this
 have HW:=Lib.hid hW
 obtain ⟨SA,cS,vb,us,hP⟩:=hF
 have hPW:=(hP.third (ga:=w.heap.size+1) (Nat.le_succ _)).below hx0
 have hgF:gF<w.heap.size:=hP.2.2.2.1.lt
 have hgS:gS<w.heap.size:=hP.2.2.1
 have hansl:=hans.lt
 have hKW:KR w W B gF gS (w.heap.size+1):=KR.of_below hx0 hBw
 have heW:=SlAt.below he hx0
 obtain ⟨R,HR⟩:∃ R,Hid (R=Fl.step f d):=⟨_,Lib.hid rfl⟩
 rw [<-HR.out]
 clear hW he
 have HS:Hid (R=(f,Fl.no 7)):=Lib.hid (by
  rw [HR.out]
  unfold Fl.step
  rw [if_neg (by omega),if_neg (by omega),if_neg (by have:=(List.getElem?_eq_some_iff.1 hs).1;omega),show d.n.toNat=k by omega,hs]
  simp only
  rw [if_pos (by rw [hk];unfold Fl.want;simpa using hst)])
 have hkK:(d.kind==1)=false:=by rw [hk];rfl
 have HKD:=Lib.hid hk
 have HKN:=Lib.hid hn
 obtain ⟨oS,⟨ev,rv,sv⟩,hSA,hu,hnc,hcm,hkl,hne,-,hRS,-⟩:=hPW.row hs
 subst hSA
 obtain ⟨A5,c5,hev,hlc5,hcm5,_⟩:=hRS.1.shape
 obtain ⟨A6,c6,hrv⟩:=hRS.2.1.form
 obtain ⟨A7,c7,hsv,hlc7,hcm7⟩:=hRS.2.2.form
 simp only at hev hrv hsv
 subst hev hrv hsv
 have hkB:(k:Int)<(f.sh.length:Int):=by omega
 have hk0:(0:Int)<=(k:Int):=by omega
 unfold maxLen at hcm hcm5 hcm7
 clear hk hn hRS
 go_enter Try.func113,Try.ntmps113
 go_upto_region 1 with (fail)
 rw [<-HW.out]
 have d0:W.cell? ⟨w.heap.size,0,none⟩=some (.int .i64 5):=(hkD.cell 0).trans (by show some (.int .i64 d.kind:Value)=_;rw [HKD.out])
 have d1:W.cell? ⟨w.heap.size,1,none⟩=some (.int .i64 (k:Int)):=(hkD.cell 1).trans (by show some (.int .i64 d.n:Value)=_;rw [HKN.out])
 have g0_:W.cell? ⟨gF,0,none⟩=some (.slice (some ⟨gS,oS,none⟩) f.sh.length cS):=hPW.2.2.2.1.cell 0
 go_wp2_with fail
 go_quiet (fail)
 have hq1:=below_drewN (Below.refl W.heap.size W) nq
 have hP2:=hPW.below hq1
 have hK2:=hKW.trans (KR.of_below hq1 (Nat.le_trans hBw hKW.size))
 have han2:=hans.below hq1 hans.lt
 have hD2:=hkD.below hq1 hkD.lt
 have he2:=SlAt.below heW hq1
 clear hPW hKW hans hkD heW
 clear hq1
 generalize (W.drewN nq)=v1 at *
 clear d0 d1 g0_
 have d0:v1.cell? ⟨w.heap.size,0,none⟩=some (.int .i64 5):=(hD2.cell 0).trans (by show some (.int .i64 d.kind:Value)=_;rw [HKD.out])
 have d1:v1.cell? ⟨w.heap.size,1,none⟩=some (.int .i64 (k:Int)):=(hD2.cell 1).trans (by show some (.int .i64 d.n:Value)=_;rw [HKN.out])
 have g0_:v1.cell? ⟨gF,0,none⟩=some (.slice (some ⟨gS,oS,none⟩) f.sh.length cS):=hP2.2.2.2.1.cell 0
 go_wp2_with fail
 go_quiet (fail)
 have hq3:=below_drewN (Below.refl v1.heap.size v1) nq
 have hP4:=hP2.below hq3
 have hK4:=hK2.trans (KR.of_below hq3 (Nat.le_trans hBw hK2.size))
 have han4:=han2.below hq3 han2.lt
 have hD4:=hD2.below hq3 hD2.lt
 have he4:=SlAt.below he2 hq3
 clear hP2 hK2 han2 hD2 he2
 clear hq3
 generalize (v1.drewN nq)=v3 at *
 clear d0 d1 g0_
 have hq:=(Below.refl v3.heap.size v3).alloc (Nat.le_refl _) (.cells #[.int .i64 0,.int .i64 0,.int .i64 1,.int .i64 2,.int .i64 3,.int .i64 3] 3)
 have hbl:Blk (v3.alloc (.cells #[.int .i64 0,.int .i64 0,.int .i64 1,.int .i64 2,.int .i64 3,.int .i64 3] 3)) v3.heap.size 3 #[.int .i64 0,.int .i64 0,.int .i64 1,.int .i64 2,.int .i64 3,.int .i64 3]:=heap_alloc_new v3 _
 have hP5:=hP4.below hq
 have hK5:=hK4.trans (KR.of_below hq (Nat.le_trans hBw hK4.size))
 have han5:=han4.below hq han4.lt
 have hD5:=hD4.below hq hD4.lt
 have he5:=SlAt.below he4 hq
 clear hP4 hK4 han4 hD4 he4
 have d0:(v3.alloc (.cells #[.int .i64 0,.int .i64 0,.int .i64 1,.int .i64 2,.int .i64 3,.int .i64 3] 3)).cell? ⟨w.heap.size,0,none⟩=some (.int .i64 5):=(hD5.cell 0).trans (by show some (.int .i64 d.kind:Value)=_;rw [HKD.out])
 have dA:(v3.alloc (.cells #[.int .i64 0,.int .i64 0,.int .i64 1,.int .i64 2,.int .i64 3,.int .i64 3] 3)).cell? ⟨v3.heap.size,5,none⟩=some (.int .i64 3):=hbl.cell 5
 go_upto_region 30 with (fail)
 clear d0 dA hbl
 clear hq
 generalize (v3.alloc (.cells #[.int .i64 0,.int .i64 0,.int .i64 1,.int .i64 2,.int .i64 3,.int .i64 3] 3))=v9 at *
 have hstB:(s.st != 3)=true:=by rw [bne_iff_ne];exact hst
 clear hst
 have p2:v9.cell? ⟨gS,oS+k*7+2,none⟩=some (.int .i64 s.st):=hP5.cellAt (i:=2) hs hu rfl
 go_wp2_with fail
 clear p2
 refine (rno_any v9 7).mono ?_
 rintro e z1 ⟨rfl,hz1⟩
 have hP1:=hP5.below hz1
 have hK1:=hK5.trans (KR.of_below hz1 (Nat.le_trans hBw hK5.size))
 have han1:=han5.below hz1 han5.lt
 clear hP5 hK5 han5
 have y0_:=han1.cell 0
 have y1_:=han1.cell 1
 have y2_:=han1.cell 2
 have y3_:=han1.cell 3
 have y4_:=han1.cell 4
 have f0_:=han1.frozen 0
 have f1_:=han1.frozen 1
 have f2_:=han1.frozen 2
 have f3_:=han1.frozen 3
 have f4_:=han1.frozen 4
 go_wp2_with fail
 have hW_:set5 z1 (w.heap.size+1) (.int .i64 7) (.int .i64 0) (.int .i64 0) (.int .i64 0) (.slice none 0 0)=(((((z1.setCell ⟨w.heap.size+1,0,none⟩ (.int .i64 7)).setCell ⟨w.heap.size+1,1,none⟩ (.int .i64 0)).setCell ⟨w.heap.size+1,2,none⟩ (.int .i64 0)).setCell ⟨w.heap.size+1,3,none⟩ (.int .i64 0)).setCell ⟨w.heap.size+1,4,none⟩ (.slice none 0 0)):=rfl
 rw [<-hW_]
 have HDN:=rstep_done (r:=R) (rv:=.slice none 0 0) (Nat.le_succ _) hBw hgF hgS (by rw [HS.out];exact hP1) (by rw [HS.out];exact SlAt.nil_ _ _ _) hK1 han1
 rw [HS.out] at HDN ⊢
 obtain ⟨q0_,q1_,q2_,q3_,q4_,hend⟩:(set5 z1 (w.heap.size+1) (.int .i64 7) (.int .i64 0) (.int .i64 0) (.int .i64 0) (.slice none 0 0)).cell? ⟨w.heap.size+1,0,none⟩=some (.int .i64 7)/\(set5 z1 (w.heap.size+1) (.int .i64 7) (.int .i64 0) (.int .i64 0) (.int .i64 0) (.slice none 0 0)).cell? ⟨w.heap.size+1,1,none⟩=some (.int .i64 0)/\(set5 z1 (w.heap.size+1) (.int .i64 7) (.int .i64 0) (.int .i64 0) (.int .i64 0) (.slice none 0 0)).cell? ⟨w.heap.size+1,2,none⟩=some (.int .i64 0)/\(set5 z1 (w.heap.size+1) (.int .i64 7) (.int .i64 0) (.int .i64 0) (.int .i64 0) (.slice none 0 0)).cell? ⟨w.heap.size+1,3,none⟩=some (.int .i64 0)/\(set5 z1 (w.heap.size+1) (.int .i64 7) (.int .i64 0) (.int .i64 0) (.int .i64 0) (.slice none 0 0)).cell? ⟨w.heap.size+1,4,none⟩=some (.slice none 0 0)/\RStepP w B gF gS _ (.returned (.agg #[.int .i64 7,.int .i64 0,.int .i64 0,.int .i64 0,.slice none 0 0])) (set5 z1 (w.heap.size+1) (.int .i64 7) (.int .i64 0) (.int .i64 0) (.int .i64 0) (.slice none 0 0)):=HDN
 clear hW_
 generalize set5 z1 (w.heap.size+1) (.int .i64 7) (.int .i64 0) (.int .i64 0) (.int .i64 0) (.slice none 0 0)=W9 at *
 exact bodyPost_ret (v:=.agg #[.int .i64 7,.int .i64 0,.int .i64 0,.int .i64 0,.slice none 0 0]) (by simp [results,Try.results113,go_sem,q0_,q1_,q2_,q3_,q4_]) rfl hend
end Go.Proofs.Ytfdibjgmbdkbcaa
