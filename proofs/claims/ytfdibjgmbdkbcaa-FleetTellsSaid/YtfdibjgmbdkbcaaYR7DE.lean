/-
  THE WALK of yearref5.Step, of a shard that is retired. Conditions: a fleet of which all holds; what is done is read. THE WALK of yearref5.Step, of a shard that is laid away. Conditions: a fleet of which all holds; what is done is read.
-/
import Derived.Test.YtfdibjgmbdkbcaaYGp
import Derived.Test.YtfdibjgmbdkbcaaYR7BC
import Derived.Test.YtfdibjgmbdkbcaaYR5H
import Derived.Test.YtfdibjgmbdkbcaaYR5J
namespace Go.Proofs.Ytfdibjgmbdkbcaa
open Go.RowKit Go.Lib
theorem Fl.row_head {f:Flt} {k:Nat} {s:Shd} (hI:Fl.Inv f) (hs:f.sh[k]? = some s) (h3:s.st=3):(Fl.rowR f.book k).sz=s.man.size/\(Fl.rowR f.book k).root=s.man.root:=by
 obtain ⟨r0,hr0,hk0⟩:=(hI.sh k s hs).row (by omega)
 obtain ⟨i,hi⟩:∃ i,Fl.row f.book k=some i:=by
  cases h:Fl.row f.book k with
  | some i=>exact ⟨i,rfl⟩
  | none =>
    have:=List.findIdx?_eq_none_iff.1 h r0 hr0
    simp [hk0] at this
 obtain ⟨hil,hb,_⟩:=List.findIdx?_eq_some_iff_getElem.1 hi
 have hrr:Fl.rowR f.book k=f.book[i]:=by
  unfold Fl.rowR
  rw [hi]
  simp only
  rw [List.getD_eq_getElem?_getD,List.getElem?_eq_getElem hil]
  rfl
 have hbk:f.book[i].sh=(k:Int):=by simpa using hb
 obtain ⟨⟨k',s',e1,e2,_,_,_,_,e7⟩,_,_⟩:=hI.book _ (List.getElem_mem hil)
 have hkk:k'=k:=by rw [hbk] at e1;omega
 subst hkk
 rw [hs] at e2
 injection e2 with e2
 subst e2
 rw [hrr]
 obtain ⟨q1,q2⟩:=e7 (by omega)
 exact ⟨q1.symm,q2.symm⟩
theorem rver_all (w:World) (F F':Nat->Prop) (vr vs:Value) (m:Man) (r:(Nat × Nat) × List Bs) (he:Shf.verC m=r) (hr:Bytes w F' vr m.root) (hs:RdL w F vs m.segs) :
 Calls Try.prog 67 #[.agg #[.int .i64 m.size,vr,vs]] w fun e w'=>∃ v,e = .returned (.tuple #[v,.agg #[.int .i64 (r.1.1:Int),.int .i64 (r.1.2:Int)]])/\Below w.heap.size w w':=by
 subst he
 refine (rverify_any w F F' vr vs m hr hs).mono ?_
 rintro e w' ⟨v,rfl,_,hx⟩
 exact ⟨v,rfl,hx⟩
theorem BList.nilF (w:World) (F:Nat->Prop):BList w F (.slice none 0 0) []:=⟨[],SlAt.nil_ _ _ _,fun i b h=>by simp at h⟩
set_option maxRecDepth 100000 in
set_option maxHeartbeats 8000000 in
theorem rstep_retire [Away] (w:World) (B gF gS:Nat) (f:Flt) (d:Dob) (Ae:Option Addr) (ce:Nat) (F0:Nat->Prop) (hF:RFlt w B gF gS gF f) (hBw:B<=w.heap.size) (he:Bytes w F0 (.slice Ae d.entry.length ce) d.entry) (hk:d.kind=4) (k:Nat) (hn:d.n=(k:Int)) (s:Shd) (hs:f.sh[k]? = some s) (hst:s.st=3) (hI:Fl.Inv f) :
 Calls Try.prog 113 #[.pointer (some ⟨gF,0,none⟩),.agg #[.int .i64 d.kind,.int .i64 d.n,.int .i64 d.time,.slice Ae d.entry.length ce,.int .i64 d.seg,.int .i64 d.pos,bv d.turn]] w (RStepP w B gF gS (Fl.step f d)):=by
 obtain ⟨W,hW⟩:∃ W,W=(w.alloc (.cells #[.int .i64 d.kind,.int .i64 d.n,.int .i64 d.time,.slice Ae d.entry.length ce,.int .i64 d.seg,.int .i64 d.pos,bv d.turn] 111)).alloc (.cells #[.int .i64 0,.int .i64 0,.int .i64 0,.int .i64 0,.slice none 0 0] 105):=⟨_,rfl⟩
 have hx0:Below w.heap.size w W:=by rw [hW];exact ((Below.refl _ _).alloc (Nat.le_refl _) _).alloc (by simp) _
 have hkD:Blk W w.heap.size 111 #[.int .i64 d.kind,.int .i64 d.n,.int .i64 d.time,.slice Ae d.entry.length ce,.int .i64 d.seg,.int .i64 d.pos,bv d.turn]:=by rw [hW];exact Blk.alloc (heap_alloc_new w _) _
 have hans:Blk W (w.heap.size+1) 105 #[.int .i64 0,.int .i64 0,.int .i64 0,.int .i64 0,.slice none 0 0]:=by
  rw [hW]
  have:=heap_alloc_new (w.alloc (.cells #[.int .i64 d.kind,.int .i64 d.n,.int .i64 d.time,.slice Ae d.entry.length ce,.int .i64 d.seg,.int .i64 d.pos,bv d.turn] 111)) (.cells #[.int .i64 0,.int .i64 0,.int .i64 0,.int .i64 0,.slice none 0 0] 105)
  rw [World.size_alloc] at this
  exact this
 have HW:=Lib.hid hW
 obtain ⟨SA,cS,vb,us,hP⟩:=hF
 have hPW:=(hP.third (ga:=w.heap.size+1) (Nat.le_succ _)).below hx0
 have hgF:gF<w.heap.size:=hP.2.2.2.1.lt
 have hgS:gS<w.heap.size:=hP.2.2.1
 have hansl:=hans.lt
 have hKW:KR w W B gF gS (w.heap.size+1):=KR.of_below hx0 hBw
 have heW:=SlAt.below he hx0
 obtain ⟨R,HR⟩:∃ R,Hid (R=Fl.step f d):=⟨_,Lib.hid rfl⟩
 rw [<-HR.out]
 clear hW he
 have HS:Hid (R=Fl.retire f k s):=Lib.hid (by
  rw [HR.out]
  unfold Fl.step
  rw [if_neg (by omega),if_neg (by omega),if_neg (by have:=(List.getElem?_eq_some_iff.1 hs).1;omega),show d.n.toNat=k by omega,hs]
  simp only
  rw [if_neg (by rw [hk];unfold Fl.want;simpa using hst),if_neg (by omega),if_neg (by omega),if_pos hk])
 obtain ⟨hsz,hro⟩:=Fl.row_head hI hs hst
 have HSZ:=Lib.hid hsz
 have HRO:=Lib.hid hro
 have hstB:(s.st != 3)=false:=by rw [bne_eq_false_iff_eq];exact hst
 have HST:=Lib.hid hst
 clear hst hsz hro hI
 have hkK:(d.kind==1)=false:=by rw [hk];rfl
 have HKD:=Lib.hid hk
 have HKN:=Lib.hid hn
 obtain ⟨oS,⟨ev,rv,sv⟩,hSA,hu,hnc,hcm,hkl,hne,-,hRS,-⟩:=hPW.row hs
 subst hSA
 obtain ⟨A5,c5,hev,hlc5,hcm5,_⟩:=hRS.1.shape
 obtain ⟨A6,c6,hrv⟩:=hRS.2.1.form
 obtain ⟨A7,c7,hsv,hlc7,hcm7⟩:=hRS.2.2.form
 simp only at hev hrv hsv
 subst hev hrv hsv
 have hkB:(k:Int)<(f.sh.length:Int):=by omega
 have hk0:(0:Int)<=(k:Int):=by omega
 unfold maxLen at hcm hcm5 hcm7
 clear hk hn hRS
 go_enter Try.func113,Try.ntmps113
 go_upto_region 1 with (fail)
 rw [<-HW.out]
 have d0:W.cell? ⟨w.heap.size,0,none⟩=some (.int .i64 4):=(hkD.cell 0).trans (by show some (.int .i64 d.kind:Value)=_;rw [HKD.out])
 have d1:W.cell? ⟨w.heap.size,1,none⟩=some (.int .i64 (k:Int)):=(hkD.cell 1).trans (by show some (.int .i64 d.n:Value)=_;rw [HKN.out])
 have g0_:W.cell? ⟨gF,0,none⟩=some (.slice (some ⟨gS,oS,none⟩) f.sh.length cS):=hPW.2.2.2.1.cell 0
 go_wp2_with fail
 go_quiet (fail)
 have hq1:=below_drewN (Below.refl W.heap.size W) nq
 have hP2:=hPW.below hq1
 have hK2:=hKW.trans (KR.of_below hq1 (Nat.le_trans hBw hKW.size))
 have han2:=hans.below hq1 hans.lt
 have hD2:=hkD.below hq1 hkD.lt
 have he2:=SlAt.below heW hq1
 clear hPW hKW hans hkD heW
 clear hq1
 generalize (W.drewN nq)=v1 at *
 clear d0 d1 g0_
 have d0:v1.cell? ⟨w.heap.size,0,none⟩=some (.int .i64 4):=(hD2.cell 0).trans (by show some (.int .i64 d.kind:Value)=_;rw [HKD.out])
 have d1:v1.cell? ⟨w.heap.size,1,none⟩=some (.int .i64 (k:Int)):=(hD2.cell 1).trans (by show some (.int .i64 d.n:Value)=_;rw [HKN.out])
 have g0_:v1.cell? ⟨gF,0,none⟩=some (.slice (some ⟨gS,oS,none⟩) f.sh.length cS):=hP2.2.2.2.1.cell 0
 go_wp2_with fail
 go_quiet (fail)
 have hq3:=below_drewN (Below.refl v1.heap.size v1) nq
 have hP4:=hP2.below hq3
 have hK4:=hK2.trans (KR.of_below hq3 (Nat.le_trans hBw hK2.size))
 have han4:=han2.below hq3 han2.lt
 have hD4:=hD2.below hq3 hD2.lt
 have he4:=SlAt.below he2 hq3
 clear hP2 hK2 han2 hD2 he2
 clear hq3
 generalize (v1.drewN nq)=v3 at *
 clear d0 d1 g0_
 have hq:=(Below.refl v3.heap.size v3).alloc (Nat.le_refl _) (.cells #[.int .i64 0,.int .i64 0,.int .i64 1,.int .i64 2,.int .i64 3,.int .i64 3] 3)
 have hbl:Blk (v3.alloc (.cells #[.int .i64 0,.int .i64 0,.int .i64 1,.int .i64 2,.int .i64 3,.int .i64 3] 3)) v3.heap.size 3 #[.int .i64 0,.int .i64 0,.int .i64 1,.int .i64 2,.int .i64 3,.int .i64 3]:=heap_alloc_new v3 _
 have hP5:=hP4.below hq
 have hK5:=hK4.trans (KR.of_below hq (Nat.le_trans hBw hK4.size))
 have han5:=han4.below hq han4.lt
 have hD5:=hD4.below hq hD4.lt
 have he5:=SlAt.below he4 hq
 clear hP4 hK4 han4 hD4 he4
 have d0:(v3.alloc (.cells #[.int .i64 0,.int .i64 0,.int .i64 1,.int .i64 2,.int .i64 3,.int .i64 3] 3)).cell? ⟨w.heap.size,0,none⟩=some (.int .i64 4):=(hD5.cell 0).trans (by show some (.int .i64 d.kind:Value)=_;rw [HKD.out])
 have dA:(v3.alloc (.cells #[.int .i64 0,.int .i64 0,.int .i64 1,.int .i64 2,.int .i64 3,.int .i64 3] 3)).cell? ⟨v3.heap.size,4,none⟩=some (.int .i64 3):=hbl.cell 4
 go_upto_region 30 with (fail)
 clear d0 dA hbl
 clear hq
 generalize (v3.alloc (.cells #[.int .i64 0,.int .i64 0,.int .i64 1,.int .i64 2,.int .i64 3,.int .i64 3] 3))=v9 at *
 obtain ⟨⟨⟨va,vc⟩,vl⟩,hV⟩:∃ x,Shf.verC s.man=x:=⟨_,rfl⟩
 have HV:=Lib.hid hV
 clear hV
 have d0:v9.cell? ⟨w.heap.size,0,none⟩=some (.int .i64 4):=(hD5.cell 0).trans (by show some (.int .i64 d.kind:Value)=_;rw [HKD.out])
 have p2:v9.cell? ⟨gS,oS+k*7+2,none⟩=some (.int .i64 s.st):=hP5.cellAt (i:=2) hs hu rfl
 have p4:v9.cell? ⟨gS,oS+k*7+4,none⟩=some (.int .i64 s.man.size):=hP5.cellAt (i:=4) hs hu rfl
 have p5:v9.cell? ⟨gS,oS+k*7+5,none⟩=some (.slice A6 s.man.root.length c6):=hP5.cellAt (i:=5) hs hu rfl
 have p6:v9.cell? ⟨gS,oS+k*7+6,none⟩=some (.slice A7 s.man.segs.length c7):=hP5.cellAt (i:=6) hs hu rfl
 go_wp2_with fail
 clear d0 p2 p4 p5 p6
 have hrs:=hP5.rsh hs hu
 refine (rver_all v9 _ _ _ _ s.man _ HV.out hrs.2.1 hrs.2.2).mono ?_
 rintro e z2 ⟨vv,rfl,hz2⟩
 clear hrs
 have hP6:=hP5.below hz2
 have hK6:=hK5.trans (KR.of_below hz2 (Nat.le_trans hBw hK5.size))
 have han6:=han5.below hz2 han5.lt
 have hD6:=hD5.below hz2 hD5.lt
 have he6:=SlAt.below he5 hz2
 clear hP5 hK5 han5 hD5 he5
 go_upto_region 46 with (fail)
 have hq:=(Below.refl z2.heap.size z2).alloc (Nat.le_refl _) (.cells #[.int .i64 (va:Int),.int .i64 (vc:Int)] 32)
 have hbW:Blk (z2.alloc (.cells #[.int .i64 (va:Int),.int .i64 (vc:Int)] 32)) z2.heap.size 32 #[.int .i64 (va:Int),.int .i64 (vc:Int)]:=heap_alloc_new z2 _
 have hP7:=hP6.below hq
 have hK7:=hK6.trans (KR.of_below hq (Nat.le_trans hBw hK6.size))
 have han7:=han6.below hq han6.lt
 have hD7:=hD6.below hq hD6.lt
 have he7:=SlAt.below he6 hq
 clear hP6 hK6 han6 hD6 he6
 generalize z2.alloc (.cells #[.int .i64 (va:Int),.int .i64 (vc:Int)] 32)=z3 at *
 generalize z2.heap.size=gW at *
 clear hz2 hq
 have l0:z3.cell? ⟨gW,0,none⟩=some (.int .i64 (va:Int)):=hbW.cell 0
 by_cases hva:va=0
 · have hvaB:((va:Int) != 0)=false:=by rw [bne_eq_false_iff_eq];omega
   have HRV:Hid (R=(⟨f.sh.set k { s with st:=4,ents:=[] },f.book⟩,⟨0,(k:Int),0,s.man.size,s.man.root⟩)):=Lib.hid (by rw [HS.out];unfold Fl.retire;rw [if_pos (by rw [HV.out];exact hva),HSZ.out,HRO.out])
   clear hva
   have p2:z3.cell? ⟨gS,oS+k*7+2,none⟩=some (.int .i64 s.st):=hP7.cellAt (i:=2) hs hu rfl
   have p3:z3.cell? ⟨gS,oS+k*7+3,none⟩=some (.slice A5 s.ents.length c5):=hP7.cellAt (i:=3) hs hu rfl
   have fz2:=hP7.frozenAt hs (oS+k*7+2)
   have fz3:=hP7.frozenAt hs (oS+k*7+3)
   go_upto_region 49 with (fail)
   clear p2 p3 fz2 fz3 l0 hbW
   obtain ⟨hPa,hsa,hua,hKa⟩:=hP7.cell (s':={ s with st:=4 }) (u':=⟨.slice A5 s.ents.length c5,.slice A6 s.man.root.length c6,.slice A7 s.man.segs.length c7⟩) (x:=.int .i64 4) hs hu (i:=2) (by decide) rfl (by have h:=hP7.rsh hs hu;exact h)
   obtain ⟨hPb,hsb,hub,hKb⟩:=hPa.cell (s':={ s with st:=4,ents:=[] }) (u':=⟨.slice none 0 0,.slice A6 s.man.root.length c6,.slice A7 s.man.segs.length c7⟩) (x:=.slice none 0 0) hsa hua (i:=3) (by decide) rfl (by have h:=hPa.rsh hsa hua;exact ⟨BList.nilF _ _,h.2.1,h.2.2⟩)
   have hKab:=hKa.trans hKb
   have hKz:=hK7.trans hKab
   have hane:Blk ((z3.setCell ⟨gS,oS+k*7+2,none⟩ (.int .i64 4)).setCell ⟨gS,oS+k*7+3,none⟩ (.slice none 0 0)) (w.heap.size+1) 105 #[.int .i64 0,.int .i64 0,.int .i64 0,.int .i64 0,.slice none 0 0]:=(han7.far (p:=⟨gS,oS+k*7+2,none⟩) (by show w.heap.size+1≠gS;omega) _).far (p:=⟨gS,oS+k*7+3,none⟩) (by show w.heap.size+1≠gS;omega) _
   have hDe:Blk ((z3.setCell ⟨gS,oS+k*7+2,none⟩ (.int .i64 4)).setCell ⟨gS,oS+k*7+3,none⟩ (.slice none 0 0)) w.heap.size 111 #[.int .i64 d.kind,.int .i64 d.n,.int .i64 d.time,.slice Ae d.entry.length ce,.int .i64 d.seg,.int .i64 d.pos,bv d.turn]:=(hD7.far (p:=⟨gS,oS+k*7+2,none⟩) (by show w.heap.size≠gS;omega) _).far (p:=⟨gS,oS+k*7+3,none⟩) (by show w.heap.size≠gS;omega) _
   simp only [List.set_set] at hPb hsb hub
   clear hPa hsa hua hKa hKb hKab hP7 hK7 han7 hD7 he7
   generalize ((z3.setCell ⟨gS,oS+k*7+2,none⟩ (.int .i64 4)).setCell ⟨gS,oS+k*7+3,none⟩ (.slice none 0 0))=z5 at *
   have d1:z5.cell? ⟨w.heap.size,1,none⟩=some (.int .i64 (k:Int)):=(hDe.cell 1).trans (by show some (.int .i64 d.n:Value)=_;rw [HKN.out])
   have p4:z5.cell? ⟨gS,oS+k*7+4,none⟩=some (.int .i64 s.man.size):=hPb.cellAt (i:=4) hsb hub rfl
   have p5:z5.cell? ⟨gS,oS+k*7+5,none⟩=some (.slice A6 s.man.root.length c6):=hPb.cellAt (i:=5) hsb hub rfl
   have y0_:=hane.cell 0
   have y1_:=hane.cell 1
   have y2_:=hane.cell 2
   have y3_:=hane.cell 3
   have y4_:=hane.cell 4
   have f0_:=hane.frozen 0
   have f1_:=hane.frozen 1
   have f2_:=hane.frozen 2
   have f3_:=hane.frozen 3
   have f4_:=hane.frozen 4
   go_region
   go_wp2_with fail
   have hW_:set5 z5 (w.heap.size+1) (.int .i64 0) (.int .i64 (k:Int)) (.int .i64 0) (.int .i64 s.man.size) (.slice A6 s.man.root.length c6)=(((((z5.setCell ⟨w.heap.size+1,0,none⟩ (.int .i64 0)).setCell ⟨w.heap.size+1,1,none⟩ (.int .i64 (k:Int))).setCell ⟨w.heap.size+1,2,none⟩ (.int .i64 0)).setCell ⟨w.heap.size+1,3,none⟩ (.int .i64 s.man.size)).setCell ⟨w.heap.size+1,4,none⟩ (.slice A6 s.man.root.length c6)):=rfl
   rw [<-hW_]
   have HDN:=rstep_done (r:=R) (rv:=.slice A6 s.man.root.length c6) (Nat.le_succ _) hBw hgF hgS (by rw [HRV.out];exact hPb) (by rw [HRV.out];exact (hPb.rsh hsb hub).2.1) hKz hane
   rw [HRV.out] at HDN ⊢
   obtain ⟨q0_,q1_,q2_,q3_,q4_,hend⟩:(set5 z5 (w.heap.size+1) (.int .i64 0) (.int .i64 (k:Int)) (.int .i64 0) (.int .i64 s.man.size) (.slice A6 s.man.root.length c6)).cell? ⟨w.heap.size+1,0,none⟩=some (.int .i64 0)/\(set5 z5 (w.heap.size+1) (.int .i64 0) (.int .i64 (k:Int)) (.int .i64 0) (.int .i64 s.man.size) (.slice A6 s.man.root.length c6)).cell? ⟨w.heap.size+1,1,none⟩=some (.int .i64 (k:Int))/\(set5 z5 (w.heap.size+1) (.int .i64 0) (.int .i64 (k:Int)) (.int .i64 0) (.int .i64 s.man.size) (.slice A6 s.man.root.length c6)).cell? ⟨w.heap.size+1,2,none⟩=some (.int .i64 0)/\(set5 z5 (w.heap.size+1) (.int .i64 0) (.int .i64 (k:Int)) (.int .i64 0) (.int .i64 s.man.size) (.slice A6 s.man.root.length c6)).cell? ⟨w.heap.size+1,3,none⟩=some (.int .i64 s.man.size)/\(set5 z5 (w.heap.size+1) (.int .i64 0) (.int .i64 (k:Int)) (.int .i64 0) (.int .i64 s.man.size) (.slice A6 s.man.root.length c6)).cell? ⟨w.heap.size+1,4,none⟩=some (.slice A6 s.man.root.length c6)/\RStepP w B gF gS _ (.returned (.agg #[.int .i64 0,.int .i64 (k:Int),.int .i64 0,.int .i64 s.man.size,.slice A6 s.man.root.length c6])) (set5 z5 (w.heap.size+1) (.int .i64 0) (.int .i64 (k:Int)) (.int .i64 0) (.int .i64 s.man.size) (.slice A6 s.man.root.length c6)):=HDN
   clear hW_
   generalize set5 z5 (w.heap.size+1) (.int .i64 0) (.int .i64 (k:Int)) (.int .i64 0) (.int .i64 s.man.size) (.slice A6 s.man.root.length c6)=W9 at *
   exact bodyPost_ret (v:=.agg #[.int .i64 0,.int .i64 (k:Int),.int .i64 0,.int .i64 s.man.size,.slice A6 s.man.root.length c6]) (by simp [results,Try.results113,go_sem,q0_,q1_,q2_,q3_,q4_]) rfl hend.drew
 · skip
   have hvaB:((va:Int) != 0)=true:=by rw [bne_iff_ne];omega
   have HRV:Hid (R=(f,Fl.no va)):=Lib.hid (by rw [HS.out];unfold Fl.retire;rw [if_neg (by rw [HV.out];exact hva),HV.out])
   clear hva
   go_wp2_with fail
   clear l0 hbW
   refine (rno_any z3 (va:Int)).mono ?_
   rintro e z1 ⟨rfl,hz1⟩
   have hP1:=hP7.below hz1
   have hK1:=hK7.trans (KR.of_below hz1 (Nat.le_trans hBw hK7.size))
   have han1:=han7.below hz1 han7.lt
   clear hP7 hK7 han7
   have y0_:=han1.cell 0
   have y1_:=han1.cell 1
   have y2_:=han1.cell 2
   have y3_:=han1.cell 3
   have y4_:=han1.cell 4
   have f0_:=han1.frozen 0
   have f1_:=han1.frozen 1
   have f2_:=han1.frozen 2
   have f3_:=han1.frozen 3
   have f4_:=han1.frozen 4
   go_wp2_with fail
   have hW_:set5 z1 (w.heap.size+1) (.int .i64 (va:Int)) (.int .i64 0) (.int .i64 0) (.int .i64 0) (.slice none 0 0)=(((((z1.setCell ⟨w.heap.size+1,0,none⟩ (.int .i64 (va:Int))).setCell ⟨w.heap.size+1,1,none⟩ (.int .i64 0)).setCell ⟨w.heap.size+1,2,none⟩ (.int .i64 0)).setCell ⟨w.heap.size+1,3,none⟩ (.int .i64 0)).setCell ⟨w.heap.size+1,4,none⟩ (.slice none 0 0)):=rfl
   rw [<-hW_]
   have HDN:=rstep_done (r:=R) (rv:=.slice none 0 0) (Nat.le_succ _) hBw hgF hgS (by rw [HRV.out];exact hP1) (by rw [HRV.out];exact SlAt.nil_ _ _ _) hK1 han1
   rw [HRV.out] at HDN ⊢
   obtain ⟨q0_,q1_,q2_,q3_,q4_,hend⟩:(set5 z1 (w.heap.size+1) (.int .i64 (va:Int)) (.int .i64 0) (.int .i64 0) (.int .i64 0) (.slice none 0 0)).cell? ⟨w.heap.size+1,0,none⟩=some (.int .i64 (va:Int))/\(set5 z1 (w.heap.size+1) (.int .i64 (va:Int)) (.int .i64 0) (.int .i64 0) (.int .i64 0) (.slice none 0 0)).cell? ⟨w.heap.size+1,1,none⟩=some (.int .i64 0)/\(set5 z1 (w.heap.size+1) (.int .i64 (va:Int)) (.int .i64 0) (.int .i64 0) (.int .i64 0) (.slice none 0 0)).cell? ⟨w.heap.size+1,2,none⟩=some (.int .i64 0)/\(set5 z1 (w.heap.size+1) (.int .i64 (va:Int)) (.int .i64 0) (.int .i64 0) (.int .i64 0) (.slice none 0 0)).cell? ⟨w.heap.size+1,3,none⟩=some (.int .i64 0)/\(set5 z1 (w.heap.size+1) (.int .i64 (va:Int)) (.int .i64 0) (.int .i64 0) (.int .i64 0) (.slice none 0 0)).cell? ⟨w.heap.size+1,4,none⟩=some (.slice none 0 0)/\RStepP w B gF gS _ (.returned (.agg #[.int .i64 (va:Int),.int .i64 0,.int .i64 0,.int .i64 0,.slice none 0 0])) (set5 z1 (w.heap.size+1) (.int .i64 (va:Int)) (.int .i64 0) (.int .i64 0) (.int .i64 0) (.slice none 0 0)):=HDN
   clear hW_
   generalize set5 z1 (w.heap.size+1) (.int .i64 (va:Int)) (.int .i64 0) (.int .i64 0) (.int .i64 0) (.slice none 0 0)=W9 at *
   exact bodyPost_ret (v:=.agg #[.int .i64 (va:Int),.int .i64 0,.int .i64 0,.int .i64 0,.slice none 0 0]) (by simp [results,Try.results113,go_sem,q0_,q1_,q2_,q3_,q4_]) rfl hend
end Go.Proofs.Ytfdibjgmbdkbcaa
namespace Go.Proofs.Ytfdibjgmbdkbcaa
open Go.RowKit Go.Lib
set_option maxRecDepth 100000 in
set_option maxHeartbeats 8000000 in
theorem rstep_lay [Away] (w:World) (B gF gS:Nat) (f:Flt) (d:Dob) (Ae:Option Addr) (ce:Nat) (F0:Nat->Prop) (hF:RFlt w B gF gS gF f) (hBw:B<=w.heap.size) (he:Bytes w F0 (.slice Ae d.entry.length ce) d.entry) (hk:d.kind=3) (k:Nat) (hn:d.n=(k:Int)) (s:Shd) (hs:f.sh[k]? = some s) (hst:s.st=2) (hI:Fl.Inv f) :
 Calls Try.prog 113 #[.pointer (some ⟨gF,0,none⟩),.agg #[.int .i64 d.kind,.int .i64 d.n,.int .i64 d.time,.slice Ae d.entry.length ce,.int .i64 d.seg,.int .i64 d.pos,bv d.turn]] w (RStepP w B gF gS (Fl.step f d)):=by
 obtain ⟨W,hW⟩:∃ W,W=(w.alloc (.cells #[.int .i64 d.kind,.int .i64 d.n,.int .i64 d.time,.slice Ae d.entry.length ce,.int .i64 d.seg,.int .i64 d.pos,bv d.turn] 111)).alloc (.cells #[.int .i64 0,.int .i64 0,.int .i64 0,.int .i64 0,.slice none 0 0] 105):=⟨_,rfl⟩
 have hx0:Below w.heap.size w W:=by rw [hW];exact ((Below.refl _ _).alloc (Nat.le_refl _) _).alloc (by simp) _
 have hkD:Blk W w.heap.size 111 #[.int .i64 d.kind,.int .i64 d.n,.int .i64 d.time,.slice Ae d.entry.length ce,.int .i64 d.seg,.int .i64 d.pos,bv d.turn]:=by rw [hW];exact Blk.alloc (heap_alloc_new w _) _
 have hans:Blk W (w.heap.size+1) 105 #[.int .i64 0,.int .i64 0,.int .i64 0,.int .i64 0,.slice none 0 0]:=by
  rw [hW]
  have:=heap_alloc_new (w.alloc (.cells #[.int .i64 d.kind,.int .i64 d.n,.int .i64 d.time,.slice Ae d.entry.length ce,.int .i64 d.seg,.int .i64 d.pos,bv d.turn] 111)) (.cells #[.int .i64 0,.int .i64 0,.int .i64 0,.int .i64 0,.slice none 0 0] 105)
  rw [World.size_alloc] at this
  exact this
 have HW:=Lib.hid hW
 obtain ⟨SA,cS,vb,us,hP⟩:=hF
 have hPW:=(hP.third (ga:=w.heap.size+1) (Nat.le_succ _)).below hx0
 have hgF:gF<w.heap.size:=hP.2.2.2.1.lt
 have hgS:gS<w.heap.size:=hP.2.2.1
 have hansl:=hans.lt
 have hKW:KR w W B gF gS (w.heap.size+1):=KR.of_below hx0 hBw
 have heW:=SlAt.below he hx0
 obtain ⟨R,HR⟩:∃ R,Hid (R=Fl.step f d):=⟨_,Lib.hid rfl⟩
 rw [<-HR.out]
 clear hW he
 have hfine:=(hI.sh k s hs).fine
 obtain ⟨RT,hRT⟩:∃ x,Tr.rootL s.ents=x:=⟨_,rfl⟩
 obtain ⟨SG,hSG⟩:∃ x,Shf.segsOf s.ents=x:=⟨_,rfl⟩
 have HRV:Hid (R=(⟨f.sh.set k { s with st:=3,man:=⟨(s.ents.length:Int),RT,SG⟩ },f.book⟩,⟨0,(k:Int),0,(s.ents.length:Int),RT⟩)):=Lib.hid (by
  rw [HR.out]
  unfold Fl.step
  rw [if_neg (by omega),if_neg (by omega),if_neg (by have:=(List.getElem?_eq_some_iff.1 hs).1;omega),show d.n.toNat=k by omega,hs]
  simp only
  rw [if_neg (by rw [hk];unfold Fl.want;simpa using hst),if_neg (by omega),if_pos hk]
  unfold Fl.lay Shf.manOf
  rw [hRT,hSG])
 have HRT:=Lib.hid hRT
 have HSG:=Lib.hid hSG
 have hstB:(s.st != 2)=false:=by rw [bne_eq_false_iff_eq];exact hst
 have HST:=Lib.hid hst
 clear hst hI hRT hSG
 have hkK:(d.kind==1)=false:=by rw [hk];rfl
 have HKD:=Lib.hid hk
 have HKN:=Lib.hid hn
 obtain ⟨oS,⟨ev,rv,sv⟩,hSA,hu,hnc,hcm,hkl,hne,-,hRS,-⟩:=hPW.row hs
 subst hSA
 obtain ⟨A5,c5,hev,hlc5,hcm5,_⟩:=hRS.1.shape
 obtain ⟨A6,c6,hrv⟩:=hRS.2.1.form
 obtain ⟨A7,c7,hsv,hlc7,hcm7⟩:=hRS.2.2.form
 simp only at hev hrv hsv
 subst hev hrv hsv
 have hkB:(k:Int)<(f.sh.length:Int):=by omega
 have hk0:(0:Int)<=(k:Int):=by omega
 unfold maxLen at hcm hcm5 hcm7
 clear hk hn hRS
 go_enter Try.func113,Try.ntmps113
 go_upto_region 1 with (fail)
 rw [<-HW.out]
 have d0:W.cell? ⟨w.heap.size,0,none⟩=some (.int .i64 3):=(hkD.cell 0).trans (by show some (.int .i64 d.kind:Value)=_;rw [HKD.out])
 have d1:W.cell? ⟨w.heap.size,1,none⟩=some (.int .i64 (k:Int)):=(hkD.cell 1).trans (by show some (.int .i64 d.n:Value)=_;rw [HKN.out])
 have g0_:W.cell? ⟨gF,0,none⟩=some (.slice (some ⟨gS,oS,none⟩) f.sh.length cS):=hPW.2.2.2.1.cell 0
 go_wp2_with fail
 go_quiet (fail)
 have hq1:=below_drewN (Below.refl W.heap.size W) nq
 have hP2:=hPW.below hq1
 have hK2:=hKW.trans (KR.of_below hq1 (Nat.le_trans hBw hKW.size))
 have han2:=hans.below hq1 hans.lt
 have hD2:=hkD.below hq1 hkD.lt
 have he2:=SlAt.below heW hq1
 clear hPW hKW hans hkD heW
 clear hq1
 generalize (W.drewN nq)=v1 at *
 clear d0 d1 g0_
 have d0:v1.cell? ⟨w.heap.size,0,none⟩=some (.int .i64 3):=(hD2.cell 0).trans (by show some (.int .i64 d.kind:Value)=_;rw [HKD.out])
 have d1:v1.cell? ⟨w.heap.size,1,none⟩=some (.int .i64 (k:Int)):=(hD2.cell 1).trans (by show some (.int .i64 d.n:Value)=_;rw [HKN.out])
 have g0_:v1.cell? ⟨gF,0,none⟩=some (.slice (some ⟨gS,oS,none⟩) f.sh.length cS):=hP2.2.2.2.1.cell 0
 go_wp2_with fail
 go_quiet (fail)
 have hq3:=below_drewN (Below.refl v1.heap.size v1) nq
 have hP4:=hP2.below hq3
 have hK4:=hK2.trans (KR.of_below hq3 (Nat.le_trans hBw hK2.size))
 have han4:=han2.below hq3 han2.lt
 have hD4:=hD2.below hq3 hD2.lt
 have he4:=SlAt.below he2 hq3
 clear hP2 hK2 han2 hD2 he2
 clear hq3
 generalize (v1.drewN nq)=v3 at *
 clear d0 d1 g0_
 have hq:=(Below.refl v3.heap.size v3).alloc (Nat.le_refl _) (.cells #[.int .i64 0,.int .i64 0,.int .i64 1,.int .i64 2,.int .i64 3,.int .i64 3] 3)
 have hbl:Blk (v3.alloc (.cells #[.int .i64 0,.int .i64 0,.int .i64 1,.int .i64 2,.int .i64 3,.int .i64 3] 3)) v3.heap.size 3 #[.int .i64 0,.int .i64 0,.int .i64 1,.int .i64 2,.int .i64 3,.int .i64 3]:=heap_alloc_new v3 _
 have hP5:=hP4.below hq
 have hK5:=hK4.trans (KR.of_below hq (Nat.le_trans hBw hK4.size))
 have han5:=han4.below hq han4.lt
 have hD5:=hD4.below hq hD4.lt
 have he5:=SlAt.below he4 hq
 clear hP4 hK4 han4 hD4 he4
 have d0:(v3.alloc (.cells #[.int .i64 0,.int .i64 0,.int .i64 1,.int .i64 2,.int .i64 3,.int .i64 3] 3)).cell? ⟨w.heap.size,0,none⟩=some (.int .i64 3):=(hD5.cell 0).trans (by show some (.int .i64 d.kind:Value)=_;rw [HKD.out])
 have dA:(v3.alloc (.cells #[.int .i64 0,.int .i64 0,.int .i64 1,.int .i64 2,.int .i64 3,.int .i64 3] 3)).cell? ⟨v3.heap.size,3,none⟩=some (.int .i64 2):=hbl.cell 3
 go_upto_region 30 with (fail)
 clear d0 dA hbl
 clear hq
 generalize (v3.alloc (.cells #[.int .i64 0,.int .i64 0,.int .i64 1,.int .i64 2,.int .i64 3,.int .i64 3] 3))=v9 at *
 have d0:v9.cell? ⟨w.heap.size,0,none⟩=some (.int .i64 3):=(hD5.cell 0).trans (by show some (.int .i64 d.kind:Value)=_;rw [HKD.out])
 have p2:v9.cell? ⟨gS,oS+k*7+2,none⟩=some (.int .i64 s.st):=hP5.cellAt (i:=2) hs hu rfl
 have p3:v9.cell? ⟨gS,oS+k*7+3,none⟩=some (.slice A5 s.ents.length c5):=hP5.cellAt (i:=3) hs hu rfl
 go_wp2_with fail
 clear d0 p2 p3
 have hrs:=hP5.rsh hs hu
 refine (rexport_fine v9 _ _ s.ents hrs.1 hfine).mono ?_
 rintro e z2 ⟨vr,vq,rfl,ho,hg,hz2⟩
 clear hrs
 rw [HRT.out] at ho
 rw [HSG.out] at hg
 have hnew:∀ b,v9.heap.size<=b->NF gF gS (w.heap.size+1) b:=fun b hb=>NF.new hP5 (by exact han5.lt) hb
 have hbr:Bytes z2 (NF gF gS (w.heap.size+1)) vr RT:=SlAt.weak (OwnB.bytes ho) (fun b _ hb=>hnew b hb.1)
 have hsg:RdL z2 (NF gF gS (w.heap.size+1)) vq SG:=hg.rd.weak (fun b _ hb=>hnew b hb)
 obtain ⟨Ar,cr,hvr⟩:=hbr.form
 obtain ⟨Aq,cq,hvq,_,_⟩:=hsg.form
 subst hvr hvq
 clear ho hg hnew
 have hP6:=hP5.below hz2
 have hK6:=hK5.trans (KR.of_below hz2 (Nat.le_trans hBw hK5.size))
 have han6:=han5.below hz2 han5.lt
 have hD6:=hD5.below hz2 hD5.lt
 have he6:=SlAt.below he5 hz2
 clear hP5 hK5 han5 hD5 he5
 have hq:=((Below.refl z2.heap.size z2).alloc (Nat.le_refl _) (.cells #[.int .i64 (s.ents.length:Int),.slice Ar RT.length cr,.slice Aq SG.length cq] 77)).alloc (by simp) (.cells #[.int .i64 0,.int .i64 0] 32)
 have hbM:Blk ((z2.alloc (.cells #[.int .i64 (s.ents.length:Int),.slice Ar RT.length cr,.slice Aq SG.length cq] 77)).alloc (.cells #[.int .i64 0,.int .i64 0] 32)) z2.heap.size 77 #[.int .i64 (s.ents.length:Int),.slice Ar RT.length cr,.slice Aq SG.length cq]:=Blk.alloc (heap_alloc_new z2 _) _
 have hbW:Blk ((z2.alloc (.cells #[.int .i64 (s.ents.length:Int),.slice Ar RT.length cr,.slice Aq SG.length cq] 77)).alloc (.cells #[.int .i64 0,.int .i64 0] 32)) (z2.heap.size+1) 32 #[.int .i64 0,.int .i64 0]:=by
  have:=heap_alloc_new (z2.alloc (.cells #[.int .i64 (s.ents.length:Int),.slice Ar RT.length cr,.slice Aq SG.length cq] 77)) (.cells #[.int .i64 0,.int .i64 0] 32)
  rw [World.size_alloc] at this
  exact this
 have hgM:w.heap.size+1<z2.heap.size:=han6.lt
 go_upto_region 40 with (fail)
 have hP7:=hP6.below hq
 have hK7:=hK6.trans (KR.of_below hq (Nat.le_trans hBw hK6.size))
 have han7:=han6.below hq han6.lt
 have hD7:=hD6.below hq hD6.lt
 have he7:=SlAt.below he6 hq
 have hd7_0:=SlAt.below hbr hq
 have hd7_1:=hsg.below hq
 clear hP6 hK6 han6 hD6 he6 hbr hsg
 generalize (z2.alloc (.cells #[.int .i64 (s.ents.length:Int),.slice Ar RT.length cr,.slice Aq SG.length cq] 77)).alloc (.cells #[.int .i64 0,.int .i64 0] 32)=z3 at *
 generalize z2.heap.size=gM at *
 clear hz2 hq
 have l0:z3.cell? ⟨gM+1,0,none⟩=some (.int .i64 0):=hbW.cell 0
 have p2:z3.cell? ⟨gS,oS+k*7+2,none⟩=some (.int .i64 s.st):=hP7.cellAt (i:=2) hs hu rfl
 have p4:z3.cell? ⟨gS,oS+k*7+4,none⟩=some (.int .i64 s.man.size):=hP7.cellAt (i:=4) hs hu rfl
 have p5:z3.cell? ⟨gS,oS+k*7+5,none⟩=some (.slice A6 s.man.root.length c6):=hP7.cellAt (i:=5) hs hu rfl
 have p6:z3.cell? ⟨gS,oS+k*7+6,none⟩=some (.slice A7 s.man.segs.length c7):=hP7.cellAt (i:=6) hs hu rfl
 have m0:z3.cell? ⟨gM,0,none⟩=some (.int .i64 (s.ents.length:Int)):=hbM.cell 0
 have m1:z3.cell? ⟨gM,1,none⟩=some (.slice Ar RT.length cr):=hbM.cell 1
 have m2:z3.cell? ⟨gM,2,none⟩=some (.slice Aq SG.length cq):=hbM.cell 2
 have fz2:=hP7.frozenAt hs (oS+k*7+2)
 have fz4:=hP7.frozenAt hs (oS+k*7+4)
 have fz5:=hP7.frozenAt hs (oS+k*7+5)
 have fz6:=hP7.frozenAt hs (oS+k*7+6)
 go_upto_region 42 with (fail)
 go_region
 go_upto_region 43 with (fail)
 clear p2 p4 p5 p6 m0 m1 m2 fz2 fz4 fz5 fz6 l0 hbW
 obtain ⟨hP1_,hs1_,hu1_,hK1_⟩:=hP7.cell (s':={ s with st:=3 }) (u':=⟨.slice A5 s.ents.length c5,.slice A6 s.man.root.length c6,.slice A7 s.man.segs.length c7⟩) (x:=.int .i64 3) hs hu (i:=2) (by decide) rfl (by have h:=hP7.rsh hs hu;exact h)
 obtain ⟨hP2_,hs2_,hu2_,hK2_⟩:=hP1_.cell (s':={ s with st:=3,man:=⟨(s.ents.length:Int),s.man.root,s.man.segs⟩ }) (u':=⟨.slice A5 s.ents.length c5,.slice A6 s.man.root.length c6,.slice A7 s.man.segs.length c7⟩) (x:=.int .i64 (s.ents.length:Int)) hs1_ hu1_ (i:=4) (by decide) rfl (by have h:=hP1_.rsh hs1_ hu1_;exact h)
 obtain ⟨hP3_,hs3_,hu3_,hK3_⟩:=hP2_.cell (s':={ s with st:=3,man:=⟨(s.ents.length:Int),RT,s.man.segs⟩ }) (u':=⟨.slice A5 s.ents.length c5,.slice Ar RT.length cr,.slice A7 s.man.segs.length c7⟩) (x:=.slice Ar RT.length cr) hs2_ hu2_ (i:=5) (by decide) rfl (by have h:=hP2_.rsh hs2_ hu2_;exact ⟨h.1,(hK1_.trans hK2_).slAt hd7_0,h.2.2⟩)
 obtain ⟨hP4_,hs4_,hu4_,hK4_⟩:=hP3_.cell (s':={ s with st:=3,man:=⟨(s.ents.length:Int),RT,SG⟩ }) (u':=⟨.slice A5 s.ents.length c5,.slice Ar RT.length cr,.slice Aq SG.length cq⟩) (x:=.slice Aq SG.length cq) hs3_ hu3_ (i:=6) (by decide) rfl (by have h:=hP3_.rsh hs3_ hu3_;exact ⟨h.1,h.2.1,(hK1_.trans (hK2_.trans hK3_)).rdL hd7_1⟩)
 replace hP4_:RFlP ((((z3.setCell ⟨gS,oS+k*7+2,none⟩ (.int .i64 3)).setCell ⟨gS,oS+k*7+4,none⟩ (.int .i64 (s.ents.length:Int))).setCell ⟨gS,oS+k*7+4+1,none⟩ (.slice Ar RT.length cr)).setCell ⟨gS,oS+k*7+4+2,none⟩ (.slice Aq SG.length cq)).drew B gF gS (w.heap.size+1) _ cS vb _ _:=hP4_.drew
 simp only [List.set_set] at hP4_ hs4_ hu4_
 have hKz:KR w ((((z3.setCell ⟨gS,oS+k*7+2,none⟩ (.int .i64 3)).setCell ⟨gS,oS+k*7+4,none⟩ (.int .i64 (s.ents.length:Int))).setCell ⟨gS,oS+k*7+4+1,none⟩ (.slice Ar RT.length cr)).setCell ⟨gS,oS+k*7+4+2,none⟩ (.slice Aq SG.length cq)).drew B gF gS (w.heap.size+1):=(hK7.trans (hK1_.trans (hK2_.trans (hK3_.trans hK4_)))).drew
 have hane:Blk ((((z3.setCell ⟨gS,oS+k*7+2,none⟩ (.int .i64 3)).setCell ⟨gS,oS+k*7+4,none⟩ (.int .i64 (s.ents.length:Int))).setCell ⟨gS,oS+k*7+4+1,none⟩ (.slice Ar RT.length cr)).setCell ⟨gS,oS+k*7+4+2,none⟩ (.slice Aq SG.length cq)).drew (w.heap.size+1) 105 #[.int .i64 0,.int .i64 0,.int .i64 0,.int .i64 0,.slice none 0 0]:=((((han7.far (p:=⟨gS,oS+k*7+2,none⟩) (by show _≠gS;omega) _).far (p:=⟨gS,oS+k*7+4,none⟩) (by show _≠gS;omega) _).far (p:=⟨gS,oS+k*7+5,none⟩) (by show _≠gS;omega) _).far (p:=⟨gS,oS+k*7+6,none⟩) (by show _≠gS;omega) _)
 have hDe:Blk ((((z3.setCell ⟨gS,oS+k*7+2,none⟩ (.int .i64 3)).setCell ⟨gS,oS+k*7+4,none⟩ (.int .i64 (s.ents.length:Int))).setCell ⟨gS,oS+k*7+4+1,none⟩ (.slice Ar RT.length cr)).setCell ⟨gS,oS+k*7+4+2,none⟩ (.slice Aq SG.length cq)).drew w.heap.size 111 #[.int .i64 d.kind,.int .i64 d.n,.int .i64 d.time,.slice Ae d.entry.length ce,.int .i64 d.seg,.int .i64 d.pos,bv d.turn]:=((((hD7.far (p:=⟨gS,oS+k*7+2,none⟩) (by show _≠gS;omega) _).far (p:=⟨gS,oS+k*7+4,none⟩) (by show _≠gS;omega) _).far (p:=⟨gS,oS+k*7+5,none⟩) (by show _≠gS;omega) _).far (p:=⟨gS,oS+k*7+6,none⟩) (by show _≠gS;omega) _)
 have hMe:Blk ((((z3.setCell ⟨gS,oS+k*7+2,none⟩ (.int .i64 3)).setCell ⟨gS,oS+k*7+4,none⟩ (.int .i64 (s.ents.length:Int))).setCell ⟨gS,oS+k*7+4+1,none⟩ (.slice Ar RT.length cr)).setCell ⟨gS,oS+k*7+4+2,none⟩ (.slice Aq SG.length cq)).drew gM 77 #[.int .i64 (s.ents.length:Int),.slice Ar RT.length cr,.slice Aq SG.length cq]:=((((hbM.far (p:=⟨gS,oS+k*7+2,none⟩) (by show _≠gS;omega) _).far (p:=⟨gS,oS+k*7+4,none⟩) (by show _≠gS;omega) _).far (p:=⟨gS,oS+k*7+5,none⟩) (by show _≠gS;omega) _).far (p:=⟨gS,oS+k*7+6,none⟩) (by show _≠gS;omega) _)
 clear hP1_ hs1_ hu1_ hK1_ hP2_ hs2_ hu2_ hK2_ hP3_ hs3_ hu3_ hK3_ hK4_ hbM hP7 hK7 han7 hD7 he7 hd7_0 hd7_1
 generalize ((((z3.setCell ⟨gS,oS+k*7+2,none⟩ (.int .i64 3)).setCell ⟨gS,oS+k*7+4,none⟩ (.int .i64 (s.ents.length:Int))).setCell ⟨gS,oS+k*7+4+1,none⟩ (.slice Ar RT.length cr)).setCell ⟨gS,oS+k*7+4+2,none⟩ (.slice Aq SG.length cq)).drew=z5 at *
 have d1:z5.cell? ⟨w.heap.size,1,none⟩=some (.int .i64 (k:Int)):=(hDe.cell 1).trans (by show some (.int .i64 d.n:Value)=_;rw [HKN.out])
 have m0:z5.cell? ⟨gM,0,none⟩=some (.int .i64 (s.ents.length:Int)):=hMe.cell 0
 have m1:z5.cell? ⟨gM,1,none⟩=some (.slice Ar RT.length cr):=hMe.cell 1
 have y0_:=hane.cell 0
 have y1_:=hane.cell 1
 have y2_:=hane.cell 2
 have y3_:=hane.cell 3
 have y4_:=hane.cell 4
 have f0_:=hane.frozen 0
 have f1_:=hane.frozen 1
 have f2_:=hane.frozen 2
 have f3_:=hane.frozen 3
 have f4_:=hane.frozen 4
 go_wp2_with fail
 have hW_:set5 z5 (w.heap.size+1) (.int .i64 0) (.int .i64 (k:Int)) (.int .i64 0) (.int .i64 (s.ents.length:Int)) (.slice Ar RT.length cr)=(((((z5.setCell ⟨w.heap.size+1,0,none⟩ (.int .i64 0)).setCell ⟨w.heap.size+1,1,none⟩ (.int .i64 (k:Int))).setCell ⟨w.heap.size+1,2,none⟩ (.int .i64 0)).setCell ⟨w.heap.size+1,3,none⟩ (.int .i64 (s.ents.length:Int))).setCell ⟨w.heap.size+1,4,none⟩ (.slice Ar RT.length cr)):=rfl
 rw [<-hW_]
 have HDN:=rstep_done (r:=R) (rv:=.slice Ar RT.length cr) (Nat.le_succ _) hBw hgF hgS (by rw [HRV.out];exact hP4_) (by rw [HRV.out];exact (hP4_.rsh hs4_ hu4_).2.1) hKz hane
 rw [HRV.out] at HDN ⊢
 obtain ⟨q0_,q1_,q2_,q3_,q4_,hend⟩:(set5 z5 (w.heap.size+1) (.int .i64 0) (.int .i64 (k:Int)) (.int .i64 0) (.int .i64 (s.ents.length:Int)) (.slice Ar RT.length cr)).cell? ⟨w.heap.size+1,0,none⟩=some (.int .i64 0)/\(set5 z5 (w.heap.size+1) (.int .i64 0) (.int .i64 (k:Int)) (.int .i64 0) (.int .i64 (s.ents.length:Int)) (.slice Ar RT.length cr)).cell? ⟨w.heap.size+1,1,none⟩=some (.int .i64 (k:Int))/\(set5 z5 (w.heap.size+1) (.int .i64 0) (.int .i64 (k:Int)) (.int .i64 0) (.int .i64 (s.ents.length:Int)) (.slice Ar RT.length cr)).cell? ⟨w.heap.size+1,2,none⟩=some (.int .i64 0)/\(set5 z5 (w.heap.size+1) (.int .i64 0) (.int .i64 (k:Int)) (.int .i64 0) (.int .i64 (s.ents.length:Int)) (.slice Ar RT.length cr)).cell? ⟨w.heap.size+1,3,none⟩=some (.int .i64 (s.ents.length:Int))/\(set5 z5 (w.heap.size+1) (.int .i64 0) (.int .i64 (k:Int)) (.int .i64 0) (.int .i64 (s.ents.length:Int)) (.slice Ar RT.length cr)).cell? ⟨w.heap.size+1,4,none⟩=some (.slice Ar RT.length cr)/\RStepP w B gF gS _ (.returned (.agg #[.int .i64 0,.int .i64 (k:Int),.int .i64 0,.int .i64 (s.ents.length:Int),.slice Ar RT.length cr])) (set5 z5 (w.heap.size+1) (.int .i64 0) (.int .i64 (k:Int)) (.int .i64 0) (.int .i64 (s.ents.length:Int)) (.slice Ar RT.length cr)):=HDN
 clear hW_
 generalize set5 z5 (w.heap.size+1) (.int .i64 0) (.int .i64 (k:Int)) (.int .i64 0) (.int .i64 (s.ents.length:Int)) (.slice Ar RT.length cr)=W9 at *
 exact bodyPost_ret (v:=.agg #[.int .i64 0,.int .i64 (k:Int),.int .i64 0,.int .i64 (s.ents.length:Int),.slice Ar RT.length cr]) (by simp [results,Try.results113,go_sem,q0_,q1_,q2_,q3_,q4_]) rfl hend
end Go.Proofs.Ytfdibjgmbdkbcaa
