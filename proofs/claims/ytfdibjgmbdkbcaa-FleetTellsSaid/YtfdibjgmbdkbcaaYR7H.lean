/-
  THE WALK of yearref5.Step, of a byte that is turned. Conditions: a fleet of which all holds, its manifests not too long; what is done is read.
-/
import Derived.Test.YtfdibjgmbdkbcaaYGr
import Derived.Test.YtfdibjgmbdkbcaaYR5F
import Derived.Test.YtfdibjgmbdkbcaaYR7G
import Derived.Test.YtfdibjgmbdkbcaaYR7O
import Derived.Test.YtfdibjgmbdkbcaaYRw
namespace Go.Proofs.Ytfdibjgmbdkbcaa
open Go.RowKit Go.Lib
theorem seg_one {w:World} {F:Nat->Prop} (ecs:List Value) (r:Seg) (h:Rp.rd w F ecs r):∀ u ∈ ecs,u.oneCell'=true:=by
 obtain ⟨A,c,hcs,hr⟩:=rd_seg h
 subst hcs
 intro u hu
 simp only [List.mem_cons,List.not_mem_nil,or_false] at hu
 rcases hu with rfl | rfl | rfl<;>rfl
theorem setCell_comm (w:World) (p q:Addr) (h:p.block≠q.block) (u v:Value):(w.setCell p u).setCell q v=(w.setCell q v).setCell p u:=by
 have key:∀ (a:Array Obj) (i j:Nat) (f g:Obj->Obj),i≠j->(a.modify i f).modify j g=(a.modify j g).modify i f:=by
  intro a i j f g hij
  apply Array.ext_getElem?
  intro k
  simp only [Array.getElem?_modify]
  by_cases h1:i=k
  · by_cases h2:j=k
    · exact absurd (h1.trans h2.symm) hij
    · simp [h1,h2]
  · by_cases h2:j=k
    · simp [h1,h2]
    · simp [h1,h2]
 simp only [World.setCell]
 rw [key _ _ _ _ _ h]
theorem OwnR.seg_set {z Y:World} {F:Nat->Prop} {B j:Nat} {v x:Value} {l:List Seg} {sg sg':Seg} {raw:List Value} (hrl:raw.length=l.length*Rp.sz Seg) (hrr:∀ (i:Nat) (a:Seg),l[i]? = some a->∃ ecs,Rp.rd z F ecs a/\∀ t u,ecs[t]? = some u->raw[i*Rp.sz Seg+t]? = some u) (hz:Below z.heap.size z Y) (hj:l[j]? = some sg)
 (hY:Own Y B 152 3 v l.length (((raw.set (j*3) (.int .i64 sg'.first)).set (j*3+1) (.int .i64 sg'.count)).set (j*3+2) x)) (hx:Bytes Y F x sg'.packed):OwnR Y B 152 F v (l.set j sg'):=by
 obtain ⟨hjl,_⟩:=List.getElem?_eq_some_iff.1 hj
 have h3:Rp.sz Seg=3:=rfl
 rw [h3] at hrl
 refine ⟨_,by rw [List.length_set];exact hY,fun i a ha=>?_⟩
 by_cases e:j=i
 · subst e
   rw [List.getElem?_set_self hjl] at ha
   injection ha with ha
   subst ha
   refine ⟨[.int .i64 sg'.first,.int .i64 sg'.count,x],⟨[_],[_,_],rfl,rfl,[_],[_],rfl,rfl,_,rfl,rdL_bytes.2 hx⟩,fun t u ht=>?_⟩
   rw [h3]
   match t,ht with
   | 0,ht =>
     rw [List.getElem?_set_ne (by omega),List.getElem?_set_ne (by omega)]
     exact (List.getElem?_set_self (by omega)).trans ht
   | 1,ht=>rw [List.getElem?_set_ne (by omega),List.getElem?_set_self (by rw [List.length_set];omega)];exact ht
   | 2,ht=>rw [List.getElem?_set_self (by rw [List.length_set,List.length_set];omega)];exact ht
   | t+3,ht=>cases ht
 · rw [List.getElem?_set_ne e] at ha
   obtain ⟨ecs,h1,h2⟩:=hrr i a ha
   refine ⟨ecs,Rp.below h1 hz,fun t u ht=>?_⟩
   have hl:=Rp.len h1
   rw [h3] at hl
   obtain ⟨htl,_⟩:=List.getElem?_eq_some_iff.1 ht
   have h4:=h2 t u ht
   rw [h3] at h4 ⊢
   rw [List.getElem?_set_ne (by omega),List.getElem?_set_ne (by omega),List.getElem?_set_ne (by omega)]
   exact h4
set_option maxRecDepth 100000 in
set_option maxHeartbeats 8000000 in
theorem rstep_spoil [Away] (w:World) (B gF gS:Nat) (f:Flt) (d:Dob) (Ae:Option Addr) (ce:Nat) (F0:Nat->Prop) (hF:RFlt w B gF gS gF f) (hBw:B<=w.heap.size) (he:Bytes w F0 (.slice Ae d.entry.length ce) d.entry) (hk:d.kind=5) (k:Nat) (hn:d.n=(k:Int)) (s:Shd) (hs:f.sh[k]? = some s) (hst:s.st=3) (hM:Fl.MOk f) :
 Calls Try.prog 113 #[.pointer (some ⟨gF,0,none⟩),.agg #[.int .i64 d.kind,.int .i64 d.n,.int .i64 d.time,.slice Ae d.entry.length ce,.int .i64 d.seg,.int .i64 d.pos,bv d.turn]] w (RStepP w B gF gS (Fl.step f d)):=by
 obtain ⟨W,hW⟩:∃ W,W=(w.alloc (.cells #[.int .i64 d.kind,.int .i64 d.n,.int .i64 d.time,.slice Ae d.entry.length ce,.int .i64 d.seg,.int .i64 d.pos,bv d.turn] 111)).alloc (.cells #[.int .i64 0,.int .i64 0,.int .i64 0,.int .i64 0,.slice none 0 0] 105):=⟨_,rfl⟩
 have hx0:Below w.heap.size w W:=by rw [hW];exact ((Below.refl _ _).alloc (Nat.le_refl _) _).alloc (by simp) _
 have hkD:Blk W w.heap.size 111 #[.int .i64 d.kind,.int .i64 d.n,.int .i64 d.time,.slice Ae d.entry.length ce,.int .i64 d.seg,.int .i64 d.pos,bv d.turn]:=by rw [hW];exact Blk.alloc (heap_alloc_new w _) _
 have hans:Blk W (w.heap.size+1) 105 #[.int .i64 0,.int .i64 0,.int .i64 0,.int .i64 0,.slice none 0 0]:=by
  rw [hW]
  have:=heap_alloc_new (w.alloc (.cells #[.int .i64 d.kind,.int .i64 d.n,.int .i64 d.time,.slice Ae d.entry.length ce,.int .i64 d.seg,.int .i64 d.pos,bv d.turn] 111)) (.cells #[.int .i64 0,.int .i64 0,.int .i64 0,.int .i64 0,.slice none 0 0] 105)
  rw [World.size_alloc] at this
  exact this
 have HW:=Lib.hid hW
 obtain ⟨SA,cS,vb,us,hP⟩:=hF
 have hPW:=(hP.third (ga:=w.heap.size+1) (Nat.le_succ _)).below hx0
 have hgF:gF<w.heap.size:=hP.2.2.2.1.lt
 have hgS:gS<w.heap.size:=hP.2.2.1
 have hansl:=hans.lt
 have hKW:KR w W B gF gS (w.heap.size+1):=KR.of_below hx0 hBw
 have heW:=SlAt.below he hx0
 obtain ⟨R,HR⟩:∃ R,Hid (R=Fl.step f d):=⟨_,Lib.hid rfl⟩
 rw [<-HR.out]
 clear hW he
 have HSP:Hid (R=Fl.spoil f k s d):=Lib.hid (by
  rw [HR.out]
  unfold Fl.step
  rw [if_neg (by omega),if_neg (by omega),if_neg (by have:=(List.getElem?_eq_some_iff.1 hs).1;omega),show d.n.toNat=k by omega,hs]
  simp only
  rw [if_neg (by rw [hk];unfold Fl.want;simpa using hst),if_neg (by omega),if_neg (by omega),if_neg (by omega)])
 obtain ⟨hml,hmp⟩:=hM k s hs
 have hstB:(s.st != 3)=false:=by rw [bne_eq_false_iff_eq];exact hst
 have HST:=Lib.hid hst
 have HZ:=Lib.hid (List.getD_eq_getElem?_getD (l:=s.man.segs) (i:=d.seg.toNat) (a:=⟨0,0,[]⟩))
 obtain ⟨iu,hiu,hiu0,hiu1,hiu2⟩:=info_parts info_u8
 obtain ⟨ig,hig,hig0,hig1,hig2⟩:=info_parts info_seg
 clear hst hM
 have hkK:(d.kind==1)=false:=by rw [hk];rfl
 have HKD:=Lib.hid hk
 have HKN:=Lib.hid hn
 obtain ⟨oS,⟨ev,rv,sv⟩,hSA,hu,hnc,hcm,hkl,hne,-,hRS,-⟩:=hPW.row hs
 subst hSA
 obtain ⟨A5,c5,hev,hlc5,hcm5,_⟩:=hRS.1.shape
 obtain ⟨A6,c6,hrv⟩:=hRS.2.1.form
 obtain ⟨A7,c7,hsv,hlc7,hcm7⟩:=hRS.2.2.form
 simp only at hev hrv hsv
 subst hev hrv hsv
 have hkB:(k:Int)<(f.sh.length:Int):=by omega
 have hk0:(0:Int)<=(k:Int):=by omega
 unfold maxLen at hcm hcm5 hcm7
 clear hk hn hRS
 go_enter Try.func113,Try.ntmps113
 go_upto_region 1 with (fail)
 rw [<-HW.out]
 have d0:W.cell? ⟨w.heap.size,0,none⟩=some (.int .i64 5):=(hkD.cell 0).trans (by show some (.int .i64 d.kind:Value)=_;rw [HKD.out])
 have d1:W.cell? ⟨w.heap.size,1,none⟩=some (.int .i64 (k:Int)):=(hkD.cell 1).trans (by show some (.int .i64 d.n:Value)=_;rw [HKN.out])
 have g0_:W.cell? ⟨gF,0,none⟩=some (.slice (some ⟨gS,oS,none⟩) f.sh.length cS):=hPW.2.2.2.1.cell 0
 go_wp2_with fail
 go_quiet (fail)
 have hq1:=below_drewN (Below.refl W.heap.size W) nq
 have hP2:=hPW.below hq1
 have hK2:=hKW.trans (KR.of_below hq1 (Nat.le_trans hBw hKW.size))
 have han2:=hans.below hq1 hans.lt
 have hD2:=hkD.below hq1 hkD.lt
 have he2:=SlAt.below heW hq1
 clear hPW hKW hans hkD heW
 clear hq1
 generalize (W.drewN nq)=v1 at *
 clear d0 d1 g0_
 have d0:v1.cell? ⟨w.heap.size,0,none⟩=some (.int .i64 5):=(hD2.cell 0).trans (by show some (.int .i64 d.kind:Value)=_;rw [HKD.out])
 have d1:v1.cell? ⟨w.heap.size,1,none⟩=some (.int .i64 (k:Int)):=(hD2.cell 1).trans (by show some (.int .i64 d.n:Value)=_;rw [HKN.out])
 have g0_:v1.cell? ⟨gF,0,none⟩=some (.slice (some ⟨gS,oS,none⟩) f.sh.length cS):=hP2.2.2.2.1.cell 0
 go_wp2_with fail
 go_quiet (fail)
 have hq3:=below_drewN (Below.refl v1.heap.size v1) nq
 have hP4:=hP2.below hq3
 have hK4:=hK2.trans (KR.of_below hq3 (Nat.le_trans hBw hK2.size))
 have han4:=han2.below hq3 han2.lt
 have hD4:=hD2.below hq3 hD2.lt
 have he4:=SlAt.below he2 hq3
 clear hP2 hK2 han2 hD2 he2
 clear hq3
 generalize (v1.drewN nq)=v3 at *
 clear d0 d1 g0_
 have hq:=(Below.refl v3.heap.size v3).alloc (Nat.le_refl _) (.cells #[.int .i64 0,.int .i64 0,.int .i64 1,.int .i64 2,.int .i64 3,.int .i64 3] 3)
 have hbl:Blk (v3.alloc (.cells #[.int .i64 0,.int .i64 0,.int .i64 1,.int .i64 2,.int .i64 3,.int .i64 3] 3)) v3.heap.size 3 #[.int .i64 0,.int .i64 0,.int .i64 1,.int .i64 2,.int .i64 3,.int .i64 3]:=heap_alloc_new v3 _
 have hP5:=hP4.below hq
 have hK5:=hK4.trans (KR.of_below hq (Nat.le_trans hBw hK4.size))
 have han5:=han4.below hq han4.lt
 have hD5:=hD4.below hq hD4.lt
 have he5:=SlAt.below he4 hq
 clear hP4 hK4 han4 hD4 he4
 have d0:(v3.alloc (.cells #[.int .i64 0,.int .i64 0,.int .i64 1,.int .i64 2,.int .i64 3,.int .i64 3] 3)).cell? ⟨w.heap.size,0,none⟩=some (.int .i64 5):=(hD5.cell 0).trans (by show some (.int .i64 d.kind:Value)=_;rw [HKD.out])
 have dA:(v3.alloc (.cells #[.int .i64 0,.int .i64 0,.int .i64 1,.int .i64 2,.int .i64 3,.int .i64 3] 3)).cell? ⟨v3.heap.size,5,none⟩=some (.int .i64 3):=hbl.cell 5
 go_upto_region 30 with (fail)
 clear d0 dA hbl
 clear hq
 generalize (v3.alloc (.cells #[.int .i64 0,.int .i64 0,.int .i64 1,.int .i64 2,.int .i64 3,.int .i64 3] 3))=v9 at *
 have d0:v9.cell? ⟨w.heap.size,0,none⟩=some (.int .i64 5):=(hD5.cell 0).trans (by show some (.int .i64 d.kind:Value)=_;rw [HKD.out])
 have p2:v9.cell? ⟨gS,oS+k*7+2,none⟩=some (.int .i64 s.st):=hP5.cellAt (i:=2) hs hu rfl
 go_upto_region 50 with (fail)
 clear d0 p2
 by_cases hneg:d.seg<0
 · have hnegB:decide (d.seg<0)=true:=decide_eq_true hneg
   have HS:Hid (R=(f,Fl.no 6)):=Lib.hid (by rw [HSP.out];unfold Fl.spoil;rw [if_pos (.inl hneg)])
   clear hneg
   have d4:v9.cell? ⟨w.heap.size,4,none⟩=some (.int .i64 d.seg):=hD5.cell 4
   go_quiet (fail)
   have hq6:=below_drewN (Below.refl v9.heap.size v9) nq
   have hP7:=hP5.below hq6
   have hK7:=hK5.trans (KR.of_below hq6 (Nat.le_trans hBw hK5.size))
   have han7:=han5.below hq6 han5.lt
   have hD7:=hD5.below hq6 hD5.lt
   have he7:=SlAt.below he5 hq6
   clear hP5 hK5 han5 hD5 he5
   clear hq6
   generalize (v9.drewN nq)=v6 at *
   go_wp2_with fail
   clear d4
   refine (rno_any v6 6).mono ?_
   rintro e z1 ⟨rfl,hz1⟩
   have hP1:=hP7.below hz1
   have hK1:=hK7.trans (KR.of_below hz1 (Nat.le_trans hBw hK7.size))
   have han1:=han7.below hz1 han7.lt
   clear hP7 hK7 han7
   have y0_:=han1.cell 0
   have y1_:=han1.cell 1
   have y2_:=han1.cell 2
   have y3_:=han1.cell 3
   have y4_:=han1.cell 4
   have f0_:=han1.frozen 0
   have f1_:=han1.frozen 1
   have f2_:=han1.frozen 2
   have f3_:=han1.frozen 3
   have f4_:=han1.frozen 4
   go_wp2_with fail
   have hW_:set5 z1 (w.heap.size+1) (.int .i64 6) (.int .i64 0) (.int .i64 0) (.int .i64 0) (.slice none 0 0)=(((((z1.setCell ⟨w.heap.size+1,0,none⟩ (.int .i64 6)).setCell ⟨w.heap.size+1,1,none⟩ (.int .i64 0)).setCell ⟨w.heap.size+1,2,none⟩ (.int .i64 0)).setCell ⟨w.heap.size+1,3,none⟩ (.int .i64 0)).setCell ⟨w.heap.size+1,4,none⟩ (.slice none 0 0)):=rfl
   rw [<-hW_]
   have HDN:=rstep_done (r:=R) (rv:=.slice none 0 0) (Nat.le_succ _) hBw hgF hgS (by rw [HS.out];exact hP1) (by rw [HS.out];exact SlAt.nil_ _ _ _) hK1 han1
   rw [HS.out] at HDN ⊢
   obtain ⟨q0_,q1_,q2_,q3_,q4_,hend⟩:(set5 z1 (w.heap.size+1) (.int .i64 6) (.int .i64 0) (.int .i64 0) (.int .i64 0) (.slice none 0 0)).cell? ⟨w.heap.size+1,0,none⟩=some (.int .i64 6)/\(set5 z1 (w.heap.size+1) (.int .i64 6) (.int .i64 0) (.int .i64 0) (.int .i64 0) (.slice none 0 0)).cell? ⟨w.heap.size+1,1,none⟩=some (.int .i64 0)/\(set5 z1 (w.heap.size+1) (.int .i64 6) (.int .i64 0) (.int .i64 0) (.int .i64 0) (.slice none 0 0)).cell? ⟨w.heap.size+1,2,none⟩=some (.int .i64 0)/\(set5 z1 (w.heap.size+1) (.int .i64 6) (.int .i64 0) (.int .i64 0) (.int .i64 0) (.slice none 0 0)).cell? ⟨w.heap.size+1,3,none⟩=some (.int .i64 0)/\(set5 z1 (w.heap.size+1) (.int .i64 6) (.int .i64 0) (.int .i64 0) (.int .i64 0) (.slice none 0 0)).cell? ⟨w.heap.size+1,4,none⟩=some (.slice none 0 0)/\RStepP w B gF gS _ (.returned (.agg #[.int .i64 6,.int .i64 0,.int .i64 0,.int .i64 0,.slice none 0 0])) (set5 z1 (w.heap.size+1) (.int .i64 6) (.int .i64 0) (.int .i64 0) (.int .i64 0) (.slice none 0 0)):=HDN
   clear hW_
   generalize set5 z1 (w.heap.size+1) (.int .i64 6) (.int .i64 0) (.int .i64 0) (.int .i64 0) (.slice none 0 0)=W9 at *
   exact bodyPost_ret (v:=.agg #[.int .i64 6,.int .i64 0,.int .i64 0,.int .i64 0,.slice none 0 0]) (by simp [results,Try.results113,go_sem,q0_,q1_,q2_,q3_,q4_]) rfl hend
 have hnegB:decide (d.seg<0)=false:=decide_eq_false hneg
 by_cases hge:(s.man.segs.length:Int)<=d.seg
 · have hgeB:decide ((s.man.segs.length:Int)<=d.seg)=true:=decide_eq_true hge
   have HS:Hid (R=(f,Fl.no 6)):=Lib.hid (by rw [HSP.out];unfold Fl.spoil;rw [if_pos (.inr hge)])
   clear hge hneg
   have d4:v9.cell? ⟨w.heap.size,4,none⟩=some (.int .i64 d.seg):=hD5.cell 4
   have p6:v9.cell? ⟨gS,oS+k*7+6,none⟩=some (.slice A7 s.man.segs.length c7):=hP5.cellAt (i:=6) hs hu rfl
   go_quiet (fail)
   have hq6:=below_drewN (Below.refl v9.heap.size v9) nq
   have hP7:=hP5.below hq6
   have hK7:=hK5.trans (KR.of_below hq6 (Nat.le_trans hBw hK5.size))
   have han7:=han5.below hq6 han5.lt
   have hD7:=hD5.below hq6 hD5.lt
   have he7:=SlAt.below he5 hq6
   clear hP5 hK5 han5 hD5 he5
   clear hq6
   generalize (v9.drewN nq)=v6 at *
   go_wp2_with fail
   clear d4 p6
   refine (rno_any v6 6).mono ?_
   rintro e z1 ⟨rfl,hz1⟩
   have hP1:=hP7.below hz1
   have hK1:=hK7.trans (KR.of_below hz1 (Nat.le_trans hBw hK7.size))
   have han1:=han7.below hz1 han7.lt
   clear hP7 hK7 han7
   have y0_:=han1.cell 0
   have y1_:=han1.cell 1
   have y2_:=han1.cell 2
   have y3_:=han1.cell 3
   have y4_:=han1.cell 4
   have f0_:=han1.frozen 0
   have f1_:=han1.frozen 1
   have f2_:=han1.frozen 2
   have f3_:=han1.frozen 3
   have f4_:=han1.frozen 4
   go_wp2_with fail
   have hW_:set5 z1 (w.heap.size+1) (.int .i64 6) (.int .i64 0) (.int .i64 0) (.int .i64 0) (.slice none 0 0)=(((((z1.setCell ⟨w.heap.size+1,0,none⟩ (.int .i64 6)).setCell ⟨w.heap.size+1,1,none⟩ (.int .i64 0)).setCell ⟨w.heap.size+1,2,none⟩ (.int .i64 0)).setCell ⟨w.heap.size+1,3,none⟩ (.int .i64 0)).setCell ⟨w.heap.size+1,4,none⟩ (.slice none 0 0)):=rfl
   rw [<-hW_]
   have HDN:=rstep_done (r:=R) (rv:=.slice none 0 0) (Nat.le_succ _) hBw hgF hgS (by rw [HS.out];exact hP1) (by rw [HS.out];exact SlAt.nil_ _ _ _) hK1 han1
   rw [HS.out] at HDN ⊢
   obtain ⟨q0_,q1_,q2_,q3_,q4_,hend⟩:(set5 z1 (w.heap.size+1) (.int .i64 6) (.int .i64 0) (.int .i64 0) (.int .i64 0) (.slice none 0 0)).cell? ⟨w.heap.size+1,0,none⟩=some (.int .i64 6)/\(set5 z1 (w.heap.size+1) (.int .i64 6) (.int .i64 0) (.int .i64 0) (.int .i64 0) (.slice none 0 0)).cell? ⟨w.heap.size+1,1,none⟩=some (.int .i64 0)/\(set5 z1 (w.heap.size+1) (.int .i64 6) (.int .i64 0) (.int .i64 0) (.int .i64 0) (.slice none 0 0)).cell? ⟨w.heap.size+1,2,none⟩=some (.int .i64 0)/\(set5 z1 (w.heap.size+1) (.int .i64 6) (.int .i64 0) (.int .i64 0) (.int .i64 0) (.slice none 0 0)).cell? ⟨w.heap.size+1,3,none⟩=some (.int .i64 0)/\(set5 z1 (w.heap.size+1) (.int .i64 6) (.int .i64 0) (.int .i64 0) (.int .i64 0) (.slice none 0 0)).cell? ⟨w.heap.size+1,4,none⟩=some (.slice none 0 0)/\RStepP w B gF gS _ (.returned (.agg #[.int .i64 6,.int .i64 0,.int .i64 0,.int .i64 0,.slice none 0 0])) (set5 z1 (w.heap.size+1) (.int .i64 6) (.int .i64 0) (.int .i64 0) (.int .i64 0) (.slice none 0 0)):=HDN
   clear hW_
   generalize set5 z1 (w.heap.size+1) (.int .i64 6) (.int .i64 0) (.int .i64 0) (.int .i64 0) (.slice none 0 0)=W9 at *
   exact bodyPost_ret (v:=.agg #[.int .i64 6,.int .i64 0,.int .i64 0,.int .i64 0,.slice none 0 0]) (by simp [results,Try.results113,go_sem,q0_,q1_,q2_,q3_,q4_]) rfl hend
 have hgeB:decide ((s.man.segs.length:Int)<=d.seg)=false:=decide_eq_false hge
 obtain ⟨j,hj⟩:∃ j:Nat,d.seg=(j:Int):=⟨d.seg.toNat,by omega⟩
 have hjn:d.seg.toNat=j:=by omega
 have hjl:j<s.man.segs.length:=by omega
 obtain ⟨sg,hsg⟩:∃ sg,s.man.segs[j]? = some sg:=⟨_,List.getElem?_eq_getElem hjl⟩
 have hpl:=hmp sg (List.mem_of_getElem? hsg)
 have HSQ:Hid (R=if d.pos<0\/(sg.packed.length:Int)<=d.pos then (f,Fl.no 3) else (⟨f.sh.set k { s with man:={ s.man with segs:=s.man.segs.set j { sg with packed:=sg.packed.set d.pos.toNat (sg.packed.getD d.pos.toNat 0 ^^^ d.turn) } } },f.book⟩,⟨0,(k:Int),0,0,[]⟩)):=Lib.hid (by
  have hz:=HZ.out
  rw [hjn,hsg] at hz
  simp only [Option.getD_some] at hz
  rw [HSP.out]
  unfold Fl.spoil Fl.spoilM Fl.turned
  rw [if_neg (by omega),hjn,hz])
 have HJ:=Lib.hid hj
 have d4:v9.cell? ⟨w.heap.size,4,none⟩=some (.int .i64 d.seg):=hD5.cell 4
 have p6:v9.cell? ⟨gS,oS+k*7+6,none⟩=some (.slice A7 s.man.segs.length c7):=hP5.cellAt (i:=6) hs hu rfl
 go_quiet (fail)
 have hq6:=below_drewN (Below.refl v9.heap.size v9) nq
 have hP7:=hP5.below hq6
 have hK7:=hK5.trans (KR.of_below hq6 (Nat.le_trans hBw hK5.size))
 have han7:=han5.below hq6 han5.lt
 have hD7:=hD5.below hq6 hD5.lt
 have he7:=SlAt.below he5 hq6
 clear hP5 hK5 han5 hD5 he5
 clear hq6
 generalize (v9.drewN nq)=v6 at *
 clear d4 p6
 go_upto_region 52 with (fail)
 have hrs:=hP7.rsh hs hu
 obtain ⟨gG,oG,cG,AP,cP,hvG,hFG,hGl,q0,q1,q2,hpk⟩:=seg_at hrs.2.2 hjl
 have hsgj:s.man.segs[j]=sg:=(List.getElem?_eq_some_iff.1 hsg).2
 rw [hsgj] at q0 q1 q2 hpk
 simp only at hvG
 injection hvG with hvG _ hvc
 subst hvG hvc
 have hjB:(j:Int)<(s.man.segs.length:Int):=by omega
 have hj0:(0:Int)<=(j:Int):=by omega
 clear hgeB hge hnegB hneg hsgj hrs
 have d4:v6.cell? ⟨w.heap.size,4,none⟩=some (.int .i64 (j:Int)):=(hD7.cell 4).trans (by show some (.int .i64 d.seg:Value)=_;rw [HJ.out])
 have p6:v6.cell? ⟨gS,oS+k*7+6,none⟩=some (.slice (some ⟨gG,oG,none⟩) s.man.segs.length c7):=hP7.cellAt (i:=6) hs hu rfl
 clear hj
 refine step_region52 _ v6 _ _ _ _ _ _ _ _ _ _ _ _ _ _ _ _ _ _ _ _ _ _ _ _ _ _ _ _ _ _ _ _ _ _ _ _ _ _ _ _ _ _ _ _ _ _ _ _ _ _ _ _ _ _ _ _ _ _ _ _ _ _ _ _ _ _ _ _ _ _ _ _ _ _ _ _ _ _ _ _ _ _ _ _ _ _ _ _ _ _ _ _ _ _ _ _ _ _ _ _ _ _ _ _ _ _ _ _ _ _ _ _ _ _ _ _ _ _ _ _ _ _ _ _ _ _ _ _ _ _ _ _ _ _ _ _ _ _ _ _ _ _ _ _ _ _ _ _ _ _ _ _ _ _ _ _ _ _ _ _ _ _ _ _ _ _ _ _ _ _ _ _ _ _ _ _ _ _ _ _ _ _ _ _ _ _ _ _ _ _ _ _ _ _ _ _ _ _ _ _ _ _ _ _ _ _ _ _ _ _ _ _ _ _ _ _ _ _ _ _ _ _ _ _ _ _ _ _ _ _ _ _ _ _ _ _ _ _ _ _ _ _ _ _ _ _ _ _ _ _ _ _ _ _ _ _ _ _ _ _ _ _ _ _ _ _ _ _ _ _ _ _ _ _ _ _ _ _ _ _ _ _ _ _ _ _ _ _ _ _ _ _ _ _ _ _ _ _ _ _ _ _ _ _ _ _ _ _ _ _ _ _ _ _ _ _ _ _ _ _ _ _ _ _ _ _ _ _ _ _ _ _ _ _ _ _ _ _ _ _ _ _ _ _ _ _ w.heap.size gS (oS+k*7) gG oG j s.man.segs.length c7 sg.packed.length cP sg.first sg.count AP d4 p6 q0 q1 q2 hD7.lt hP7.2.2.1 hGl hjB (fun _ _ _ _ _ h=>h) ?_
 rintro x282 x283 x284 x285 x286 x287 x288 x289 x290
 clear d4 p6 q0 q1 q2
 have hx7:Below v6.heap.size v6 (v6.alloc (.cells #[.int .i64 sg.first,.int .i64 sg.count,.slice AP sg.packed.length cP] 152)).drew:=((Below.refl _ _).alloc (Nat.le_refl _) _).drew
 have hs7:v6.heap.size+1<=(v6.alloc (.cells #[.int .i64 sg.first,.int .i64 sg.count,.slice AP sg.packed.length cP] 152)).drew.heap.size:=by show _<=(v6.alloc (.cells #[.int .i64 sg.first,.int .i64 sg.count,.slice AP sg.packed.length cP] 152)).heap.size;simp
 have hbx:Blk (v6.alloc (.cells #[.int .i64 sg.first,.int .i64 sg.count,.slice AP sg.packed.length cP] 152)).drew v6.heap.size 152 #[.int .i64 sg.first,.int .i64 sg.count,.slice AP sg.packed.length cP]:=heap_alloc_new v6 _
 have hdl:=hD7.lt
 have hgS6:gS<v6.heap.size:=hP7.2.2.1
 have hgF6:gF<v6.heap.size:=hP7.2.2.2.1.lt
 have hga6:w.heap.size+1<v6.heap.size:=han7.lt
 generalize (v6.alloc (.cells #[.int .i64 sg.first,.int .i64 sg.count,.slice AP sg.packed.length cP] 152)).drew=z7 at *
 have hpk7:=SlAt.below hpk hx7
 have d5:z7.cell? ⟨w.heap.size,5,none⟩=some (.int .i64 d.pos):=(hD7.below hx7 hdl).cell 5
 have e2:z7.cell? ⟨v6.heap.size,2,none⟩=some (.slice AP sg.packed.length cP):=hbx.cell 2
 have hP7:=hP7.below hx7
 have hK7:=hK7.trans (KR.of_below hx7 (Nat.le_trans hBw hK7.size))
 have han7:=han7.below hx7 han7.lt
 by_cases hp0:d.pos<0
 · have hp0B:decide (d.pos<0)=true:=decide_eq_true hp0
   have HS:Hid (R=(f,Fl.no 3)):=Lib.hid (by rw [HSQ.out,if_pos (.inl hp0)])
   clear hp0
   go_wp2_with fail
   clear d5 e2
   refine (rno_any z7 3).mono ?_
   rintro e z1 ⟨rfl,hz1⟩
   have hP1:=hP7.below hz1
   have hK1:=hK7.trans (KR.of_below hz1 (Nat.le_trans hBw hK7.size))
   have han1:=han7.below hz1 han7.lt
   clear hP7 hK7 han7
   have y0_:=han1.cell 0
   have y1_:=han1.cell 1
   have y2_:=han1.cell 2
   have y3_:=han1.cell 3
   have y4_:=han1.cell 4
   have f0_:=han1.frozen 0
   have f1_:=han1.frozen 1
   have f2_:=han1.frozen 2
   have f3_:=han1.frozen 3
   have f4_:=han1.frozen 4
   go_wp2_with fail
   have hW_:set5 z1 (w.heap.size+1) (.int .i64 3) (.int .i64 0) (.int .i64 0) (.int .i64 0) (.slice none 0 0)=(((((z1.setCell ⟨w.heap.size+1,0,none⟩ (.int .i64 3)).setCell ⟨w.heap.size+1,1,none⟩ (.int .i64 0)).setCell ⟨w.heap.size+1,2,none⟩ (.int .i64 0)).setCell ⟨w.heap.size+1,3,none⟩ (.int .i64 0)).setCell ⟨w.heap.size+1,4,none⟩ (.slice none 0 0)):=rfl
   rw [<-hW_]
   have HDN:=rstep_done (r:=R) (rv:=.slice none 0 0) (Nat.le_succ _) hBw hgF hgS (by rw [HS.out];exact hP1) (by rw [HS.out];exact SlAt.nil_ _ _ _) hK1 han1
   rw [HS.out] at HDN ⊢
   obtain ⟨q0_,q1_,q2_,q3_,q4_,hend⟩:(set5 z1 (w.heap.size+1) (.int .i64 3) (.int .i64 0) (.int .i64 0) (.int .i64 0) (.slice none 0 0)).cell? ⟨w.heap.size+1,0,none⟩=some (.int .i64 3)/\(set5 z1 (w.heap.size+1) (.int .i64 3) (.int .i64 0) (.int .i64 0) (.int .i64 0) (.slice none 0 0)).cell? ⟨w.heap.size+1,1,none⟩=some (.int .i64 0)/\(set5 z1 (w.heap.size+1) (.int .i64 3) (.int .i64 0) (.int .i64 0) (.int .i64 0) (.slice none 0 0)).cell? ⟨w.heap.size+1,2,none⟩=some (.int .i64 0)/\(set5 z1 (w.heap.size+1) (.int .i64 3) (.int .i64 0) (.int .i64 0) (.int .i64 0) (.slice none 0 0)).cell? ⟨w.heap.size+1,3,none⟩=some (.int .i64 0)/\(set5 z1 (w.heap.size+1) (.int .i64 3) (.int .i64 0) (.int .i64 0) (.int .i64 0) (.slice none 0 0)).cell? ⟨w.heap.size+1,4,none⟩=some (.slice none 0 0)/\RStepP w B gF gS _ (.returned (.agg #[.int .i64 3,.int .i64 0,.int .i64 0,.int .i64 0,.slice none 0 0])) (set5 z1 (w.heap.size+1) (.int .i64 3) (.int .i64 0) (.int .i64 0) (.int .i64 0) (.slice none 0 0)):=HDN
   clear hW_
   generalize set5 z1 (w.heap.size+1) (.int .i64 3) (.int .i64 0) (.int .i64 0) (.int .i64 0) (.slice none 0 0)=W9 at *
   exact bodyPost_ret (v:=.agg #[.int .i64 3,.int .i64 0,.int .i64 0,.int .i64 0,.slice none 0 0]) (by simp [results,Try.results113,go_sem,q0_,q1_,q2_,q3_,q4_]) rfl hend
 have hp0B:decide (d.pos<0)=false:=decide_eq_false hp0
 by_cases hpn:(sg.packed.length:Int)<=d.pos
 · have hpnB:decide ((sg.packed.length:Int)<=d.pos)=true:=decide_eq_true hpn
   have HS:Hid (R=(f,Fl.no 3)):=Lib.hid (by rw [HSQ.out,if_pos (.inr hpn)])
   clear hpn hp0
   go_wp2_with fail
   clear d5 e2
   refine (rno_any z7 3).mono ?_
   rintro e z1 ⟨rfl,hz1⟩
   have hP1:=hP7.below hz1
   have hK1:=hK7.trans (KR.of_below hz1 (Nat.le_trans hBw hK7.size))
   have han1:=han7.below hz1 han7.lt
   clear hP7 hK7 han7
   have y0_:=han1.cell 0
   have y1_:=han1.cell 1
   have y2_:=han1.cell 2
   have y3_:=han1.cell 3
   have y4_:=han1.cell 4
   have f0_:=han1.frozen 0
   have f1_:=han1.frozen 1
   have f2_:=han1.frozen 2
   have f3_:=han1.frozen 3
   have f4_:=han1.frozen 4
   go_wp2_with fail
   have hW_:set5 z1 (w.heap.size+1) (.int .i64 3) (.int .i64 0) (.int .i64 0) (.int .i64 0) (.slice none 0 0)=(((((z1.setCell ⟨w.heap.size+1,0,none⟩ (.int .i64 3)).setCell ⟨w.heap.size+1,1,none⟩ (.int .i64 0)).setCell ⟨w.heap.size+1,2,none⟩ (.int .i64 0)).setCell ⟨w.heap.size+1,3,none⟩ (.int .i64 0)).setCell ⟨w.heap.size+1,4,none⟩ (.slice none 0 0)):=rfl
   rw [<-hW_]
   have HDN:=rstep_done (r:=R) (rv:=.slice none 0 0) (Nat.le_succ _) hBw hgF hgS (by rw [HS.out];exact hP1) (by rw [HS.out];exact SlAt.nil_ _ _ _) hK1 han1
   rw [HS.out] at HDN ⊢
   obtain ⟨q0_,q1_,q2_,q3_,q4_,hend⟩:(set5 z1 (w.heap.size+1) (.int .i64 3) (.int .i64 0) (.int .i64 0) (.int .i64 0) (.slice none 0 0)).cell? ⟨w.heap.size+1,0,none⟩=some (.int .i64 3)/\(set5 z1 (w.heap.size+1) (.int .i64 3) (.int .i64 0) (.int .i64 0) (.int .i64 0) (.slice none 0 0)).cell? ⟨w.heap.size+1,1,none⟩=some (.int .i64 0)/\(set5 z1 (w.heap.size+1) (.int .i64 3) (.int .i64 0) (.int .i64 0) (.int .i64 0) (.slice none 0 0)).cell? ⟨w.heap.size+1,2,none⟩=some (.int .i64 0)/\(set5 z1 (w.heap.size+1) (.int .i64 3) (.int .i64 0) (.int .i64 0) (.int .i64 0) (.slice none 0 0)).cell? ⟨w.heap.size+1,3,none⟩=some (.int .i64 0)/\(set5 z1 (w.heap.size+1) (.int .i64 3) (.int .i64 0) (.int .i64 0) (.int .i64 0) (.slice none 0 0)).cell? ⟨w.heap.size+1,4,none⟩=some (.slice none 0 0)/\RStepP w B gF gS _ (.returned (.agg #[.int .i64 3,.int .i64 0,.int .i64 0,.int .i64 0,.slice none 0 0])) (set5 z1 (w.heap.size+1) (.int .i64 3) (.int .i64 0) (.int .i64 0) (.int .i64 0) (.slice none 0 0)):=HDN
   clear hW_
   generalize set5 z1 (w.heap.size+1) (.int .i64 3) (.int .i64 0) (.int .i64 0) (.int .i64 0) (.slice none 0 0)=W9 at *
   exact bodyPost_ret (v:=.agg #[.int .i64 3,.int .i64 0,.int .i64 0,.int .i64 0,.slice none 0 0]) (by simp [results,Try.results113,go_sem,q0_,q1_,q2_,q3_,q4_]) rfl hend
 have hpnB:decide ((sg.packed.length:Int)<=d.pos)=false:=decide_eq_false hpn
 obtain ⟨i,hi⟩:∃ i:Nat,d.pos=(i:Int):=⟨d.pos.toNat,by omega⟩
 have hin:d.pos.toNat=i:=by omega
 have hil:i<sg.packed.length:=by omega
 obtain ⟨y,hy⟩:∃ y,sg.packed[i]? = some y:=⟨_,List.getElem?_eq_getElem hil⟩
 have HS:Hid (R=(⟨f.sh.set k { s with man:={ s.man with segs:=s.man.segs.set j { sg with packed:=sg.packed.set i (y ^^^ d.turn) } } },f.book⟩,⟨0,(k:Int),0,0,[]⟩)):=Lib.hid (by
  rw [HSQ.out,if_neg (by omega),hin,List.getD_eq_getElem?_getD,hy];rfl)
 have HI:=Lib.hid hi
 have hHJ:=Lib.hid HJ
 clear HJ hP7 hK7 han7 hi
 obtain ⟨hnc7,hcm7_⟩:sg.packed.length<=cP/\cP<=maxLen:=by
  obtain ⟨_,_,e,h1,h2,_⟩:=hpk7
  injection e with _ _ e
  subst e
  exact ⟨h1,h2⟩
 unfold maxLen at hcm7_
 have hE7:=Lib.hid hx7
 go_upto_region 55 with (fail)
 refine step_region55 _ z7 _ _ _ _ _ _ _ _ _ _ _ _ _ _ _ _ _ _ _ _ _ _ _ _ _ _ _ _ _ _ _ _ _ _ _ _ _ _ _ _ _ _ _ _ _ _ _ _ _ _ _ _ _ _ _ _ _ _ _ _ _ _ _ _ _ _ _ _ _ _ _ _ _ _ _ _ _ _ _ _ _ _ _ _ _ _ _ _ _ _ _ _ _ _ _ _ _ _ _ _ _ _ _ _ _ _ _ _ _ _ _ _ _ _ _ _ _ _ _ _ _ _ _ _ _ _ _ _ _ _ _ _ _ _ _ _ _ _ _ _ _ _ _ _ _ _ _ _ _ _ _ _ _ _ _ _ _ _ _ _ _ _ _ _ _ _ _ _ _ _ _ _ _ _ _ _ _ _ _ _ _ _ _ _ _ _ _ _ _ _ _ _ _ _ _ _ _ _ _ _ _ _ _ _ _ _ _ _ _ _ _ _ _ _ _ _ _ _ _ _ _ _ _ _ _ _ _ _ _ _ _ _ _ _ _ _ _ _ _ _ _ _ _ _ _ _ _ _ _ _ _ _ _ _ _ _ _ _ _ _ _ _ _ _ _ _ _ _ _ _ _ _ _ _ _ _ _ _ _ _ _ _ _ _ _ _ _ _ _ _ _ _ _ _ _ _ _ _ _ _ _ _ _ _ _ _ _ _ _ _ _ _ _ _ _ _ _ _ _ _ _ _ _ _ _ _ _ _ _ _ _ _ _ _ _ _ _ _ _ _ _ _ _ _ _ _ _ v6.heap.size cP AP sg.packed _ hpk7 hpl e2 hbx.lt (hbx.frozen 2) ?_
 rintro x304 x305 x306 x307 x308 v8 z8 hown8 hy8
 replace hown8:=hown8.mono hs7
 replace hy8:=hy8.mono hs7
 have hbx8:=hbx.below hy8 (Nat.lt_succ_self _)
 obtain ⟨g8,o8,c8,hv8,hb8,hl8,hn8,hm8,hc8⟩:=hown8.form (by omega)
 subst hv8
 clear hc8
 have hx8:Below v6.heap.size v6 z8:=hE7.out.trans (hy8.mono (Nat.le_succ _))
 have hbx9:Blk (z8.setCell ⟨v6.heap.size,2,none⟩ (.slice (some ⟨g8,o8,none⟩) sg.packed.length c8)) v6.heap.size 152 #[.int .i64 sg.first,.int .i64 sg.count,.slice (some ⟨g8,o8,none⟩) sg.packed.length c8]:=hbx8.set_ 2 _
 have hown9:Own (z8.setCell ⟨v6.heap.size,2,none⟩ (.slice (some ⟨g8,o8,none⟩) sg.packed.length c8)) (v6.heap.size+1) 5 1 (.slice (some ⟨g8,o8,none⟩) sg.packed.length c8) sg.packed.length (sg.packed.map bv):=Own.setCell (p:=⟨v6.heap.size,2,none⟩) hown8 (fun e=>by injection e with e;have e:g8=v6.heap.size:=e;omega) _
 have hx9:Below v6.heap.size v6 (z8.setCell ⟨v6.heap.size,2,none⟩ (.slice (some ⟨g8,o8,none⟩) sg.packed.length c8)):=hx8.setCell (p:=⟨v6.heap.size,2,none⟩) (Nat.le_refl _) _
 clear hown8 hbx8 hx8 hy8 e2 d5 hbx hpk7
 generalize z8.setCell ⟨v6.heap.size,2,none⟩ (.slice (some ⟨g8,o8,none⟩) sg.packed.length c8)=z9 at *
 unfold maxLen at hm8
 have hD9:=hD7.below hx9 hdl
 have d5:z9.cell? ⟨w.heap.size,5,none⟩=some (.int .i64 (i:Int)):=(hD9.cell 5).trans (by show some (.int .i64 d.pos:Value)=_;rw [HI.out])
 have d6:z9.cell? ⟨w.heap.size,6,none⟩=some (.int .u8 (d.turn.toNat:Int)):=hD9.cell 6
 have e2:z9.cell? ⟨v6.heap.size,2,none⟩=some (.slice (some ⟨g8,o8,none⟩) sg.packed.length c8):=hbx9.cell 2
 obtain ⟨hby,hbf⟩:=Own.at_ hown9 (j:=i) (u:=bv y) (by rw [List.getElem?_map,hy];rfl)
 unfold bv at hby
 have hiB:(i:Int)<(sg.packed.length:Int):=by omega
 have hi0:(0:Int)<=(i:Int):=by omega
 have hlt9:=hbx9.lt
 go_upto_region 56 with (fail)
 refine step_region56 _ z9 _ _ _ _ _ _ _ _ _ _ _ _ _ _ _ _ _ _ _ _ _ _ _ _ _ _ _ _ _ _ _ _ _ _ _ _ _ _ _ _ _ _ _ _ _ _ _ _ _ _ _ _ _ _ _ _ _ _ _ _ _ _ _ _ _ _ _ _ _ _ _ _ _ _ _ _ _ _ _ _ _ _ _ _ _ _ _ _ _ _ _ _ _ _ _ _ _ _ _ _ _ _ _ _ _ _ _ _ _ _ _ _ _ _ _ _ _ _ _ _ _ _ _ _ _ _ _ _ _ _ _ _ _ _ _ _ _ _ _ _ _ _ _ _ _ _ _ _ _ _ _ _ _ _ _ _ _ _ _ _ _ _ _ _ _ _ _ _ _ _ _ _ _ _ _ _ _ _ _ _ _ _ _ _ _ _ _ _ _ _ _ _ _ _ _ _ _ _ _ _ _ _ _ _ _ _ _ _ _ _ _ _ _ _ _ _ _ _ _ _ _ _ _ _ _ _ _ _ _ _ _ _ _ _ _ _ _ _ _ _ _ _ _ _ _ _ _ _ _ _ _ _ _ _ _ _ _ _ _ _ _ _ _ _ _ _ _ _ _ _ _ _ _ _ _ _ _ _ _ _ _ _ _ _ _ _ _ _ _ _ _ _ _ _ _ _ _ _ _ _ _ _ _ _ _ _ _ _ _ _ _ _ _ _ _ _ _ _ _ _ _ _ _ _ _ _ _ _ _ _ _ _ _ _ _ _ _ _ _ _ _ _ _ _ _ _ w.heap.size v6.heap.size g8 o8 i sg.packed.length c8 y d.turn e2 d5 d6 hby hbf hiB (by omega) (by omega) ?hQ2 ?_
 case hQ2=>exact fun _ _ _ _ _ h=>h
 rintro x309 x310 x311 x312 x313 x314 x315 x316 x317 x318 x319 x320 x321 x322
 have hown10:Own (z9.setCell ⟨g8,o8+i,none⟩ (.int .u8 ((y ^^^ d.turn).toNat:Int))).drew (v6.heap.size+1) 5 1 (.slice (some ⟨g8,o8,none⟩) sg.packed.length c8) sg.packed.length ((sg.packed.set i (y ^^^ d.turn)).map bv):=by rw [List.map_set];exact Own.drew (Own.set_ hown9 i _)
 have hbx10:Blk (z9.setCell ⟨g8,o8+i,none⟩ (.int .u8 ((y ^^^ d.turn).toNat:Int))).drew v6.heap.size 152 #[.int .i64 sg.first,.int .i64 sg.count,.slice (some ⟨g8,o8,none⟩) sg.packed.length c8]:=hbx9.far (p:=⟨g8,o8+i,none⟩) (by show v6.heap.size≠g8;omega) _
 have hx10:Below v6.heap.size v6 (z9.setCell ⟨g8,o8+i,none⟩ (.int .u8 ((y ^^^ d.turn).toNat:Int))).drew:=(hx9.setCell (p:=⟨g8,o8+i,none⟩) (by show v6.heap.size<=g8;omega) _).drew
 clear hown9 hbx9 hx9 hD9 d5 d6 e2 hby hbf
 generalize (z9.setCell ⟨g8,o8+i,none⟩ (.int .u8 ((y ^^^ d.turn).toNat:Int))).drew=z10 at *
 have hlt10:=hbx10.lt
 have hrs10:=(hP7.rsh hs hu).2.2.below hx10
 simp only at hrs10
 obtain ⟨raw,hrl,hr1,hrsl,hrr⟩:=RdL.raw hrs10 (by decide) seg_one
 have p6:z10.cell? ⟨gS,oS+k*7+6,none⟩=some (.slice (some ⟨gG,oG,none⟩) s.man.segs.length c7):=(hP7.below hx10).cellAt (i:=6) hs hu rfl
 have fz:=(hP7.below hx10).frozenAt hs (oS+k*7+6)
 have hn0:0<s.man.segs.length:=by omega
 go_upto_region 57 with (fail)
 refine step_region57 _ z10 _ _ _ _ _ _ _ _ _ _ _ _ _ _ _ _ _ _ _ _ _ _ _ _ _ _ _ _ _ _ _ _ _ _ _ _ _ _ _ _ _ _ _ _ _ _ _ _ _ _ _ _ _ _ _ _ _ _ _ _ _ _ _ _ _ _ _ _ _ _ _ _ _ _ _ _ _ _ _ _ _ _ _ _ _ _ _ _ _ _ _ _ _ _ _ _ _ _ _ _ _ _ _ _ _ _ _ _ _ _ _ _ _ _ _ _ _ _ _ _ _ _ _ _ _ _ _ _ _ _ _ _ _ _ _ _ _ _ _ _ _ _ _ _ _ _ _ _ _ _ _ _ _ _ _ _ _ _ _ _ _ _ _ _ _ _ _ _ _ _ _ _ _ _ _ _ _ _ _ _ _ _ _ _ _ _ _ _ _ _ _ _ _ _ _ _ _ _ _ _ _ _ _ _ _ _ _ _ _ _ _ _ _ _ _ _ _ _ _ _ _ _ _ _ _ _ _ _ _ _ _ _ _ _ _ _ _ _ _ _ _ _ _ _ _ _ _ _ _ _ _ _ _ _ _ _ _ _ _ _ _ _ _ _ _ _ _ _ _ _ _ _ _ _ _ _ _ _ _ _ _ _ _ _ _ _ _ _ _ _ _ _ _ _ _ _ _ _ _ _ _ _ _ _ _ _ _ _ _ _ _ _ _ _ _ _ _ _ _ _ _ _ _ _ _ _ _ _ _ _ _ _ _ _ _ _ _ _ _ _ _ _ _ _ _ _ _ gS (oS+k*7) c7 s.man.segs.length (some ⟨gG,oG,none⟩) raw _ hrsl hr1 (by omega) p6 (Nat.lt_of_lt_of_le hgS6 hx10.size) fz ?_
 rintro x323 x324 x325 x326 x327 x328 x329 x330 x331 x332 x333 v11 z11 hown11 hy11
 obtain ⟨g11,o11,c11,hv11,hb11,hl11,hn11,hm11,hc11⟩:=hown11.form hn0
 subst hv11
 unfold maxLen at hm11
 have hx11:=hx10.trans (hy11.mono (Nat.le_of_lt hlt10))
 have hbx11:=hbx10.below hy11 hlt10
 have hownb:=Own.below hown10 hy11
 have hD11:=hD7.below hx11 hdl
 have e0:(z11.setCell ⟨gS,oS+k*7+6,none⟩ (.slice (some ⟨g11,o11,none⟩) s.man.segs.length c11)).cell? ⟨v6.heap.size,0,none⟩=some (.int .i64 sg.first):=(hbx11.far (p:=⟨gS,oS+k*7+6,none⟩) (by show v6.heap.size≠gS;omega) _).cell 0
 have e1:(z11.setCell ⟨gS,oS+k*7+6,none⟩ (.slice (some ⟨g11,o11,none⟩) s.man.segs.length c11)).cell? ⟨v6.heap.size,1,none⟩=some (.int .i64 sg.count):=(hbx11.far (p:=⟨gS,oS+k*7+6,none⟩) (by show v6.heap.size≠gS;omega) _).cell 1
 have e2:(z11.setCell ⟨gS,oS+k*7+6,none⟩ (.slice (some ⟨g11,o11,none⟩) s.man.segs.length c11)).cell? ⟨v6.heap.size,2,none⟩=some (.slice (some ⟨g8,o8,none⟩) sg.packed.length c8):=(hbx11.far (p:=⟨gS,oS+k*7+6,none⟩) (by show v6.heap.size≠gS;omega) _).cell 2
 have d4:(z11.setCell ⟨gS,oS+k*7+6,none⟩ (.slice (some ⟨g11,o11,none⟩) s.man.segs.length c11)).cell? ⟨w.heap.size,4,none⟩=some (.int .i64 (j:Int)):=((hD11.far (p:=⟨gS,oS+k*7+6,none⟩) (by show w.heap.size≠gS;omega) _).cell 4).trans (by show some (.int .i64 d.seg:Value)=_;rw [hHJ.out.out])
 have p6z:=World.cell?_setCell_same z11 ⟨gS,oS+k*7+6,none⟩ (.slice (some ⟨g11,o11,none⟩) s.man.segs.length c11) ((hP7.below hx11).cellAt (i:=6) hs hu rfl)
 have fz11:∀ o,(z11.setCell ⟨gS,oS+k*7+6,none⟩ (.slice (some ⟨g11,o11,none⟩) s.man.segs.length c11)).frozen? ⟨g11,o,none⟩=false:=fun o=>by
  obtain ⟨_,cur,hcur⟩:=Own.type hown11 g11 rfl
  exact frozen_of_row _ g11 _ cur _ ((Below.heap_setCell _ _ _ g11 (by show g11≠gS;omega)).trans hcur)
 have fza:=fz11 (o11+j*3)
 have fzb:=fz11 (o11+j*3+1)
 have fzc:=fz11 (o11+j*3+2)
 obtain ⟨ecs,hec,hecj⟩:=hrr j sg hsg
 obtain ⟨As,cs_,hcs_,-⟩:=rd_seg hec
 subst hcs_
 have hg11S:g11≠gS:=by omega
 have r0:(z11.setCell ⟨gS,oS+k*7+6,none⟩ (.slice (some ⟨g11,o11,none⟩) s.man.segs.length c11)).cell? ⟨g11,o11+j*3,none⟩=some (.int .i64 sg.first):=(World.cell?_of_block (Below.heap_setCell _ _ _ g11 hg11S)).trans (hc11 (j*3) _ (hecj 0 _ rfl))
 have r1:(z11.setCell ⟨gS,oS+k*7+6,none⟩ (.slice (some ⟨g11,o11,none⟩) s.man.segs.length c11)).cell? ⟨g11,o11+j*3+1,none⟩=some (.int .i64 sg.count):=(World.cell?_of_block (Below.heap_setCell _ _ _ g11 hg11S)).trans (hc11 (j*3+1) _ (hecj 1 _ rfl))
 have r2:(z11.setCell ⟨gS,oS+k*7+6,none⟩ (.slice (some ⟨g11,o11,none⟩) s.man.segs.length c11)).cell? ⟨g11,o11+j*3+2,none⟩=some (.slice As sg.packed.length cs_):=(World.cell?_of_block (Below.heap_setCell _ _ _ g11 hg11S)).trans (hc11 (j*3+2) _ (hecj 2 _ rfl))
 clear p6 fz fz11 hc11
 obtain ⟨z12,hz12⟩:∃ z,z=z11.setCell ⟨gS,oS+k*7+6,none⟩ (.slice (some ⟨g11,o11,none⟩) s.man.segs.length c11):=⟨_,rfl⟩
 rw [<-hz12] at e0 e1 e2 d4 p6z fza fzb fzc r0 r1 r2 ⊢
 have HZ12:=Lib.hid hz12
 clear hz12
 go_upto_region 58 with (fail)
 refine step_region58 _ z12 _ _ _ _ _ _ _ _ _ _ _ _ _ _ _ _ _ _ _ _ _ _ _ _ _ _ _ _ _ _ _ _ _ _ _ _ _ _ _ _ _ _ _ _ _ _ _ _ _ _ _ _ _ _ _ _ _ _ _ _ _ _ _ _ _ _ _ _ _ _ _ _ _ _ _ _ _ _ _ _ _ _ _ _ _ _ _ _ _ _ _ _ _ _ _ _ _ _ _ _ _ _ _ _ _ _ _ _ _ _ _ _ _ _ _ _ _ _ _ _ _ _ _ _ _ _ _ _ _ _ _ _ _ _ _ _ _ _ _ _ _ _ _ _ _ _ _ _ _ _ _ _ _ _ _ _ _ _ _ _ _ _ _ _ _ _ _ _ _ _ _ _ _ _ _ _ _ _ _ _ _ _ _ _ _ _ _ _ _ _ _ _ _ _ _ _ _ _ _ _ _ _ _ _ _ _ _ _ _ _ _ _ _ _ _ _ _ _ _ _ _ _ _ _ _ _ _ _ _ _ _ _ _ _ _ _ _ _ _ _ _ _ _ _ _ _ _ _ _ _ _ _ _ _ _ _ _ _ _ _ _ _ _ _ _ _ _ _ _ _ _ _ _ _ _ _ _ _ _ _ _ _ _ _ _ _ _ _ _ _ _ _ _ _ _ _ _ _ _ _ _ _ _ _ _ _ _ _ _ _ _ _ _ _ _ _ _ _ _ _ _ _ _ _ _ _ _ _ _ _ _ _ _ _ _ _ _ _ _ _ _ _ _ _ _ w.heap.size gS (oS+k*7) v6.heap.size g11 o11 j s.man.segs.length c11 sg.first sg.count sg.first sg.count (some ⟨g8,o8,none⟩) As sg.packed.length c8 sg.packed.length cs_ e0 e1 e2 d4 p6z fza fzb fzc r0 r1 r2 hjB (by omega) (by omega) (by omega) ?hQ3 ?_
 case hQ3=>exact fun _ _ _ _ _ h=>h
 rintro x334 x335 x336 x337 x338 x339 x340 x341 x342
 have hcm:(((z12.setCell ⟨g11,o11+j*3,none⟩ (.int .i64 sg.first)).setCell ⟨g11,o11+j*3+1,none⟩ (.int .i64 sg.count)).setCell ⟨g11,o11+j*3+2,none⟩ (.slice (some ⟨g8,o8,none⟩) sg.packed.length c8))=(((z11.setCell ⟨g11,o11+j*3,none⟩ (.int .i64 sg.first)).setCell ⟨g11,o11+j*3+1,none⟩ (.int .i64 sg.count)).setCell ⟨g11,o11+j*3+2,none⟩ (.slice (some ⟨g8,o8,none⟩) sg.packed.length c8)).setCell ⟨gS,oS+k*7+6,none⟩ (.slice (some ⟨g11,o11,none⟩) s.man.segs.length c11):=by
  rw [HZ12.out,setCell_comm z11 ⟨gS,oS+k*7+6,none⟩ ⟨g11,o11+j*3,none⟩ (by show gS≠g11;omega),setCell_comm _ ⟨gS,oS+k*7+6,none⟩ ⟨g11,o11+j*3+1,none⟩ (by show gS≠g11;omega),setCell_comm _ ⟨gS,oS+k*7+6,none⟩ ⟨g11,o11+j*3+2,none⟩ (by show gS≠g11;omega)]
 rw [hcm]
 have h6g:v6.heap.size<=g11:=by omega
 have hg8:g8≠g11:=by
  have:=(hown10.lt g8 rfl).2
  omega
 have hownY:Own (((z11.setCell ⟨g11,o11+j*3,none⟩ (.int .i64 sg.first)).setCell ⟨g11,o11+j*3+1,none⟩ (.int .i64 sg.count)).setCell ⟨g11,o11+j*3+2,none⟩ (.slice (some ⟨g8,o8,none⟩) sg.packed.length c8)) z10.heap.size 152 3 (.slice (some ⟨g11,o11,none⟩) s.man.segs.length c11) s.man.segs.length (((raw.set (j*3) (.int .i64 sg.first)).set (j*3+1) (.int .i64 sg.count)).set (j*3+2) (.slice (some ⟨g8,o8,none⟩) sg.packed.length c8)):=Own.setN (Own.setN (Own.setN hown11 (j*3) _) (j*3+1) _) (j*3+2) _
 have hxY:Below v6.heap.size v6 (((z11.setCell ⟨g11,o11+j*3,none⟩ (.int .i64 sg.first)).setCell ⟨g11,o11+j*3+1,none⟩ (.int .i64 sg.count)).setCell ⟨g11,o11+j*3+2,none⟩ (.slice (some ⟨g8,o8,none⟩) sg.packed.length c8)):=((hx11.setCell (p:=⟨g11,_,none⟩) h6g _).setCell (p:=⟨g11,_,none⟩) h6g _).setCell (p:=⟨g11,_,none⟩) h6g _
 have hyY:Below z10.heap.size z10 (((z11.setCell ⟨g11,o11+j*3,none⟩ (.int .i64 sg.first)).setCell ⟨g11,o11+j*3+1,none⟩ (.int .i64 sg.count)).setCell ⟨g11,o11+j*3+2,none⟩ (.slice (some ⟨g8,o8,none⟩) sg.packed.length c8)):=((hy11.setCell (p:=⟨g11,_,none⟩) hb11 _).setCell (p:=⟨g11,_,none⟩) hb11 _).setCell (p:=⟨g11,_,none⟩) hb11 _
 have hnb:∀ o:Nat,(Value.slice (some ⟨g8,o8,none⟩) sg.packed.length c8).ownBlock≠some (⟨g11,o,none⟩:Addr).block:=fun o e=>by injection e with e;exact hg8 e
 have hbY:Bytes (((z11.setCell ⟨g11,o11+j*3,none⟩ (.int .i64 sg.first)).setCell ⟨g11,o11+j*3+1,none⟩ (.int .i64 sg.count)).setCell ⟨g11,o11+j*3+2,none⟩ (.slice (some ⟨g8,o8,none⟩) sg.packed.length c8)) (NF gF gS (w.heap.size+1)) (.slice (some ⟨g8,o8,none⟩) sg.packed.length c8) (sg.packed.set i (y ^^^ d.turn)):=by
  have h:=Own.setCell (Own.setCell (Own.setCell hownb (p:=⟨g11,o11+j*3,none⟩) (hnb _) (.int .i64 sg.first)) (p:=⟨g11,o11+j*3+1,none⟩) (hnb _) (.int .i64 sg.count)) (p:=⟨g11,o11+j*3+2,none⟩) (hnb _) (.slice (some ⟨g8,o8,none⟩) sg.packed.length c8)
  unfold Bytes
  rw [List.length_set]
  exact h.slAt fun b hb=>NF.new hP7 han7.lt (Nat.le_of_succ_le (h.lt b hb).1)
 have hOR:=OwnR.seg_set (sg':={ sg with packed:=sg.packed.set i (y ^^^ d.turn) }) hrl hrr hyY hsg hownY hbY
 have hrdY:=hOR.rd (F:=NF gF gS (w.heap.size+1)) (fun b hb=>NF.new hP7 han7.lt (Nat.le_trans (Nat.le_of_lt hlt10) (hOR.lt b hb).1))
 obtain ⟨hPz,hsz_,huz_,hKz⟩:=(hP7.below hxY).cell (s':={ s with man:={ s.man with segs:=s.man.segs.set j { sg with packed:=sg.packed.set i (y ^^^ d.turn) } } }) (u':=⟨.slice A5 s.ents.length c5,.slice A6 s.man.root.length c6,(.slice (some ⟨g11,o11,none⟩) s.man.segs.length c11)⟩) (x:=(.slice (some ⟨g11,o11,none⟩) s.man.segs.length c11)) hs hu (i:=6) (by decide) rfl (by have h:=(hP7.rsh hs hu).below hxY;exact ⟨h.1,h.2.1,hrdY⟩)
 have hPd:=hPz.drew
 have hKd:=((hK7.trans (KR.of_below hxY (Nat.le_trans hBw hK7.size))).trans hKz).drew
 have hand:Blk ((((z11.setCell ⟨g11,o11+j*3,none⟩ (.int .i64 sg.first)).setCell ⟨g11,o11+j*3+1,none⟩ (.int .i64 sg.count)).setCell ⟨g11,o11+j*3+2,none⟩ (.slice (some ⟨g8,o8,none⟩) sg.packed.length c8)).setCell ⟨gS,oS+k*7+6,none⟩ (.slice (some ⟨g11,o11,none⟩) s.man.segs.length c11)).drew (w.heap.size+1) 105 #[.int .i64 0,.int .i64 0,.int .i64 0,.int .i64 0,.slice none 0 0]:=(han7.below hxY han7.lt).far (p:=⟨gS,oS+k*7+6,none⟩) (by show w.heap.size+1≠gS;omega) _
 have hDd:Blk ((((z11.setCell ⟨g11,o11+j*3,none⟩ (.int .i64 sg.first)).setCell ⟨g11,o11+j*3+1,none⟩ (.int .i64 sg.count)).setCell ⟨g11,o11+j*3+2,none⟩ (.slice (some ⟨g8,o8,none⟩) sg.packed.length c8)).setCell ⟨gS,oS+k*7+6,none⟩ (.slice (some ⟨g11,o11,none⟩) s.man.segs.length c11)).drew w.heap.size 111 #[.int .i64 d.kind,.int .i64 d.n,.int .i64 d.time,.slice Ae d.entry.length ce,.int .i64 d.seg,.int .i64 d.pos,bv d.turn]:=(hD7.below hxY hdl).far (p:=⟨gS,oS+k*7+6,none⟩) (by show w.heap.size≠gS;omega) _
 clear hcm hownY hxY hyY hbY hOR hrdY hPz hKz e0 e1 e2 d4 p6z fza fzb fzc r0 r1 r2 HZ12
 generalize ((((z11.setCell ⟨g11,o11+j*3,none⟩ (.int .i64 sg.first)).setCell ⟨g11,o11+j*3+1,none⟩ (.int .i64 sg.count)).setCell ⟨g11,o11+j*3+2,none⟩ (.slice (some ⟨g8,o8,none⟩) sg.packed.length c8)).setCell ⟨gS,oS+k*7+6,none⟩ (.slice (some ⟨g11,o11,none⟩) s.man.segs.length c11)).drew=z13 at *
 have d1:z13.cell? ⟨w.heap.size,1,none⟩=some (.int .i64 (k:Int)):=(hDd.cell 1).trans (by show some (.int .i64 d.n:Value)=_;rw [HKN.out])
 have y0_:=hand.cell 0
 have y1_:=hand.cell 1
 have y2_:=hand.cell 2
 have y3_:=hand.cell 3
 have y4_:=hand.cell 4
 have f0_:=hand.frozen 0
 have f1_:=hand.frozen 1
 have f2_:=hand.frozen 2
 have f3_:=hand.frozen 3
 have f4_:=hand.frozen 4
 go_wp2_with fail
 have hW_:set5 z13 (w.heap.size+1) (.int .i64 0) (.int .i64 (k:Int)) (.int .i64 0) (.int .i64 0) (.slice none 0 0)=(((((z13.setCell ⟨w.heap.size+1,0,none⟩ (.int .i64 0)).setCell ⟨w.heap.size+1,1,none⟩ (.int .i64 (k:Int))).setCell ⟨w.heap.size+1,2,none⟩ (.int .i64 0)).setCell ⟨w.heap.size+1,3,none⟩ (.int .i64 0)).setCell ⟨w.heap.size+1,4,none⟩ (.slice none 0 0)):=rfl
 rw [<-hW_]
 have HDN:=rstep_done (r:=R) (rv:=.slice none 0 0) (Nat.le_succ _) hBw hgF hgS (by rw [HS.out];exact hPd) (by rw [HS.out];exact SlAt.nil_ _ _ _) hKd hand
 rw [HS.out] at HDN ⊢
 obtain ⟨q0_,q1_,q2_,q3_,q4_,hend⟩:(set5 z13 (w.heap.size+1) (.int .i64 0) (.int .i64 (k:Int)) (.int .i64 0) (.int .i64 0) (.slice none 0 0)).cell? ⟨w.heap.size+1,0,none⟩=some (.int .i64 0)/\(set5 z13 (w.heap.size+1) (.int .i64 0) (.int .i64 (k:Int)) (.int .i64 0) (.int .i64 0) (.slice none 0 0)).cell? ⟨w.heap.size+1,1,none⟩=some (.int .i64 (k:Int))/\(set5 z13 (w.heap.size+1) (.int .i64 0) (.int .i64 (k:Int)) (.int .i64 0) (.int .i64 0) (.slice none 0 0)).cell? ⟨w.heap.size+1,2,none⟩=some (.int .i64 0)/\(set5 z13 (w.heap.size+1) (.int .i64 0) (.int .i64 (k:Int)) (.int .i64 0) (.int .i64 0) (.slice none 0 0)).cell? ⟨w.heap.size+1,3,none⟩=some (.int .i64 0)/\(set5 z13 (w.heap.size+1) (.int .i64 0) (.int .i64 (k:Int)) (.int .i64 0) (.int .i64 0) (.slice none 0 0)).cell? ⟨w.heap.size+1,4,none⟩=some (.slice none 0 0)/\RStepP w B gF gS _ (.returned (.agg #[.int .i64 0,.int .i64 (k:Int),.int .i64 0,.int .i64 0,.slice none 0 0])) (set5 z13 (w.heap.size+1) (.int .i64 0) (.int .i64 (k:Int)) (.int .i64 0) (.int .i64 0) (.slice none 0 0)):=HDN
 clear hW_
 generalize set5 z13 (w.heap.size+1) (.int .i64 0) (.int .i64 (k:Int)) (.int .i64 0) (.int .i64 0) (.slice none 0 0)=W9 at *
 exact bodyPost_ret (v:=.agg #[.int .i64 0,.int .i64 (k:Int),.int .i64 0,.int .i64 0,.slice none 0 0]) (by simp [results,Try.results113,go_sem,q0_,q1_,q2_,q3_,q4_]) rfl hend
end Go.Proofs.Ytfdibjgmbdkbcaa
