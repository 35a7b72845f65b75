/-
  THE WALK of yearref5.Step, of a shard that is frozen. Conditions: a fleet of which all holds; what is done is read.
-/
import Derived.Test.YtfdibjgmbdkbcaaYR2B
import Derived.Test.YtfdibjgmbdkbcaaYR7DE
import Derived.Test.YtfdibjgmbdkbcaaYR7G
namespace Go.Proofs.Ytfdibjgmbdkbcaa
open Go.RowKit Go.Lib
set_option maxRecDepth 100000 in
set_option maxHeartbeats 8000000 in
theorem rstep_freeze [Away] (w:World) (B gF gS:Nat) (f:Flt) (d:Dob) (Ae:Option Addr) (ce:Nat) (F0:Nat->Prop) (hF:RFlt w B gF gS gF f) (hBw:B<=w.heap.size) (he:Bytes w F0 (.slice Ae d.entry.length ce) d.entry) (hk:d.kind=2) (k:Nat) (hn:d.n=(k:Int)) (s:Shd) (hs:f.sh[k]? = some s) (hst:s.st=1) (hI:Fl.Inv f) :
 Calls Try.prog 113 #[.pointer (some ⟨gF,0,none⟩),.agg #[.int .i64 d.kind,.int .i64 d.n,.int .i64 d.time,.slice Ae d.entry.length ce,.int .i64 d.seg,.int .i64 d.pos,bv d.turn]] w (RStepP w B gF gS (Fl.step f d)):=by
 obtain ⟨W,hW⟩:∃ W,W=(w.alloc (.cells #[.int .i64 d.kind,.int .i64 d.n,.int .i64 d.time,.slice Ae d.entry.length ce,.int .i64 d.seg,.int .i64 d.pos,bv d.turn] 111)).alloc (.cells #[.int .i64 0,.int .i64 0,.int .i64 0,.int .i64 0,.slice none 0 0] 105):=⟨_,rfl⟩
 have hx0:Below w.heap.size w W:=by rw [hW];exact ((Below.refl _ _).alloc (Nat.le_refl _) _).alloc (by simp) _
 have hkD:Blk W w.heap.size 111 #[.int .i64 d.kind,.int .i64 d.n,.int .i64 d.time,.slice Ae d.entry.length ce,.int .i64 d.seg,.int .i64 d.pos,bv d.turn]:=by rw [hW];exact Blk.alloc (heap_alloc_new w _) _
 have hans:Blk W (w.heap.size+1) 105 #[.int .i64 0,.int .i64 0,.int .i64 0,.int .i64 0,.slice none 0 0]:=by
  rw [hW]
  have:=heap_alloc_new (w.alloc (.cells #[.int .i64 d.kind,.int .i64 d.n,.int .i64 d.time,.slice Ae d.entry.length ce,.int .i64 d.seg,.int .i64 d.pos,bv d.turn] 111)) (.cells #[.int .i64 0,.int .i64 0,.int .i64 0,.int .i64 0,.slice none 0 0] 105)
  rw [World.size_alloc] at this
  exact this
 have HW:=Lib.hid hW
 obtain ⟨SA,cS,vb,us,hP⟩:=hF
 have hPW:=(hP.third (ga:=w.heap.size+1) (Nat.le_succ _)).below hx0
 have hgF:gF<w.heap.size:=hP.2.2.2.1.lt
 have hgS:gS<w.heap.size:=hP.2.2.1
 have hansl:=hans.lt
 have hKW:KR w W B gF gS (w.heap.size+1):=KR.of_below hx0 hBw
 have heW:=SlAt.below he hx0
 obtain ⟨R,HR⟩:∃ R,Hid (R=Fl.step f d):=⟨_,Lib.hid rfl⟩
 rw [<-HR.out]
 clear hW he
 have hfine:=(hI.sh k s hs).fine
 have hbook8:=hI.book_len
 obtain ⟨RT,hRT⟩:∃ x,Tr.rootL s.ents=x:=⟨_,rfl⟩
 have HRV:Hid (R=(⟨f.sh.set k { s with st:=2 },f.book++[⟨(k:Int),s.fr,s.til,(s.ents.length:Int),RT⟩]⟩,⟨0,(k:Int),0,(s.ents.length:Int),RT⟩)):=Lib.hid (by
  rw [HR.out]
  unfold Fl.step
  rw [if_neg (by omega),if_neg (by omega),if_neg (by have:=(List.getElem?_eq_some_iff.1 hs).1;omega),show d.n.toNat=k by omega,hs]
  simp only
  rw [if_neg (by rw [hk];unfold Fl.want;simpa using hst),if_pos hk]
  unfold Fl.freeze
  rw [hRT])
 have HRT:=Lib.hid hRT
 have hstB:(s.st != 1)=false:=by rw [bne_eq_false_iff_eq];exact hst
 have HST:=Lib.hid hst
 have hsh:=hfine.short
 have hlen100:=hfine.1
 clear hst hI hRT
 have hkK:(d.kind==1)=false:=by rw [hk];rfl
 have HKD:=Lib.hid hk
 have HKN:=Lib.hid hn
 obtain ⟨oS,⟨ev,rv,sv⟩,hSA,hu,hnc,hcm,hkl,hne,-,hRS,-⟩:=hPW.row hs
 subst hSA
 obtain ⟨A5,c5,hev,hlc5,hcm5,_⟩:=hRS.1.shape
 obtain ⟨A6,c6,hrv⟩:=hRS.2.1.form
 obtain ⟨A7,c7,hsv,hlc7,hcm7⟩:=hRS.2.2.form
 simp only at hev hrv hsv
 subst hev hrv hsv
 have hkB:(k:Int)<(f.sh.length:Int):=by omega
 have hk0:(0:Int)<=(k:Int):=by omega
 unfold maxLen at hcm hcm5 hcm7
 clear hk hn hRS
 go_enter Try.func113,Try.ntmps113
 go_upto_region 1 with (fail)
 rw [<-HW.out]
 have d0:W.cell? ⟨w.heap.size,0,none⟩=some (.int .i64 2):=(hkD.cell 0).trans (by show some (.int .i64 d.kind:Value)=_;rw [HKD.out])
 have d1:W.cell? ⟨w.heap.size,1,none⟩=some (.int .i64 (k:Int)):=(hkD.cell 1).trans (by show some (.int .i64 d.n:Value)=_;rw [HKN.out])
 have g0_:W.cell? ⟨gF,0,none⟩=some (.slice (some ⟨gS,oS,none⟩) f.sh.length cS):=hPW.2.2.2.1.cell 0
 go_wp2_with fail
 go_quiet (fail)
 have hq1:=below_drewN (Below.refl W.heap.size W) nq
 have hP2:=hPW.below hq1
 have hK2:=hKW.trans (KR.of_below hq1 (Nat.le_trans hBw hKW.size))
 have han2:=hans.below hq1 hans.lt
 have hD2:=hkD.below hq1 hkD.lt
 have he2:=SlAt.below heW hq1
 clear hPW hKW hans hkD heW
 clear hq1
 generalize (W.drewN nq)=v1 at *
 clear d0 d1 g0_
 have d0:v1.cell? ⟨w.heap.size,0,none⟩=some (.int .i64 2):=(hD2.cell 0).trans (by show some (.int .i64 d.kind:Value)=_;rw [HKD.out])
 have d1:v1.cell? ⟨w.heap.size,1,none⟩=some (.int .i64 (k:Int)):=(hD2.cell 1).trans (by show some (.int .i64 d.n:Value)=_;rw [HKN.out])
 have g0_:v1.cell? ⟨gF,0,none⟩=some (.slice (some ⟨gS,oS,none⟩) f.sh.length cS):=hP2.2.2.2.1.cell 0
 go_wp2_with fail
 go_quiet (fail)
 have hq3:=below_drewN (Below.refl v1.heap.size v1) nq
 have hP4:=hP2.below hq3
 have hK4:=hK2.trans (KR.of_below hq3 (Nat.le_trans hBw hK2.size))
 have han4:=han2.below hq3 han2.lt
 have hD4:=hD2.below hq3 hD2.lt
 have he4:=SlAt.below he2 hq3
 clear hP2 hK2 han2 hD2 he2
 clear hq3
 generalize (v1.drewN nq)=v3 at *
 clear d0 d1 g0_
 have hq:=(Below.refl v3.heap.size v3).alloc (Nat.le_refl _) (.cells #[.int .i64 0,.int .i64 0,.int .i64 1,.int .i64 2,.int .i64 3,.int .i64 3] 3)
 have hbl:Blk (v3.alloc (.cells #[.int .i64 0,.int .i64 0,.int .i64 1,.int .i64 2,.int .i64 3,.int .i64 3] 3)) v3.heap.size 3 #[.int .i64 0,.int .i64 0,.int .i64 1,.int .i64 2,.int .i64 3,.int .i64 3]:=heap_alloc_new v3 _
 have hP5:=hP4.below hq
 have hK5:=hK4.trans (KR.of_below hq (Nat.le_trans hBw hK4.size))
 have han5:=han4.below hq han4.lt
 have hD5:=hD4.below hq hD4.lt
 have he5:=SlAt.below he4 hq
 clear hP4 hK4 han4 hD4 he4
 have d0:(v3.alloc (.cells #[.int .i64 0,.int .i64 0,.int .i64 1,.int .i64 2,.int .i64 3,.int .i64 3] 3)).cell? ⟨w.heap.size,0,none⟩=some (.int .i64 2):=(hD5.cell 0).trans (by show some (.int .i64 d.kind:Value)=_;rw [HKD.out])
 have dA:(v3.alloc (.cells #[.int .i64 0,.int .i64 0,.int .i64 1,.int .i64 2,.int .i64 3,.int .i64 3] 3)).cell? ⟨v3.heap.size,2,none⟩=some (.int .i64 1):=hbl.cell 2
 go_upto_region 30 with (fail)
 clear d0 dA hbl
 clear hq
 generalize (v3.alloc (.cells #[.int .i64 0,.int .i64 0,.int .i64 1,.int .i64 2,.int .i64 3,.int .i64 3] 3))=v9 at *
 have d0:v9.cell? ⟨w.heap.size,0,none⟩=some (.int .i64 2):=(hD5.cell 0).trans (by show some (.int .i64 d.kind:Value)=_;rw [HKD.out])
 have p2:v9.cell? ⟨gS,oS+k*7+2,none⟩=some (.int .i64 s.st):=hP5.cellAt (i:=2) hs hu rfl
 have fz2:=hP5.frozenAt hs (oS+k*7+2)
 go_upto_region 35 with (fail)
 clear d0 p2 fz2
 obtain ⟨hP1_,hs1_,hu1_,hK1_⟩:=hP5.cell (s':={ s with st:=2 }) (u':=⟨.slice A5 s.ents.length c5,.slice A6 s.man.root.length c6,.slice A7 s.man.segs.length c7⟩) (x:=.int .i64 2) hs hu (i:=2) (by decide) rfl (by have h:=hP5.rsh hs hu;exact h)
 have hKz:KR w (v9.setCell ⟨gS,oS+k*7+2,none⟩ (.int .i64 2)) B gF gS (w.heap.size+1):=hK5.trans hK1_
 have hane:Blk (v9.setCell ⟨gS,oS+k*7+2,none⟩ (.int .i64 2)) (w.heap.size+1) 105 #[.int .i64 0,.int .i64 0,.int .i64 0,.int .i64 0,.slice none 0 0]:=han5.far (p:=⟨gS,oS+k*7+2,none⟩) (by show _≠gS;omega) _
 have hDe:Blk (v9.setCell ⟨gS,oS+k*7+2,none⟩ (.int .i64 2)) w.heap.size 111 #[.int .i64 d.kind,.int .i64 d.n,.int .i64 d.time,.slice Ae d.entry.length ce,.int .i64 d.seg,.int .i64 d.pos,bv d.turn]:=hD5.far (p:=⟨gS,oS+k*7+2,none⟩) (by show _≠gS;omega) _
 clear hK1_ hP5 hK5 han5 hD5 he5
 generalize (v9.setCell ⟨gS,oS+k*7+2,none⟩ (.int .i64 2))=z4 at *
 have hrs:=hP1_.rsh hs1_ hu1_
 have hel:BList z4 (NF gF gS (w.heap.size+1)) (.slice A5 s.ents.length c5) s.ents:=hrs.1
 have hanl:=hane.lt
 have hzs:w.heap.size<=z4.heap.size:=by omega
 have HM:=Lib.hid (fun (z:World) (hz:Below z4.heap.size z4 z)=>root_ref s.ents.length z _ _ s.ents (hel.below hz) rfl (by omega) hsh)
 have p3:z4.cell? ⟨gS,oS+k*7+3,none⟩=some (.slice A5 s.ents.length c5):=hP1_.cellAt (i:=3) hs1_ hu1_ rfl
 have hgS4:gS<z4.heap.size:=hP1_.2.2.1
 have HSS:=Lib.hid (fun (z:World) (hz:Below z4.heap.size z4 z)=>(⟨(hz.cell (p:=⟨gS,_,none⟩) hgS4).trans p3,hz⟩:z.cell? ⟨gS,oS+k*7+3,none⟩=some (.slice A5 s.ents.length c5)/\Below z4.heap.size z4 z))
 clear hrs p3
 go_cut [12] (fun u12 wq=>∃ (gH:Nat) (A:Option Addr) (c:Nat),u12 = .pointer (some ⟨gH,0,none⟩)/\Blk wq gH 39 #[.int .i64 (s.ents.length:Int),.slice A RT.length c]/\Bytes wq (fun b=>z4.heap.size<=b) (.slice A RT.length c) RT/\z4.heap.size<=gH/\Below z4.heap.size z4 wq)
 case first =>
  have hs0:=HSS.out z4.drew (Below.refl _ _).drew
  have hA0:Below z4.heap.size z4 (z4.alloc (.cells #[.int .i64 0,.slice none 0 0] 39)).drew:=((Below.refl z4.heap.size z4).alloc (Nat.le_refl _) _).drew
  have hsA:=HSS.out _ hA0
  have hbH0:Blk (z4.alloc (.cells #[.int .i64 0,.slice none 0 0] 39)).drew z4.heap.size 39 #[.int .i64 0,.slice none 0 0]:=heap_alloc_new z4 _
  go_region_held3 (fun z:World=>z.cell? ⟨gS,oS+k*7+3,none⟩=some (.slice A5 s.ents.length c5)/\Below z4.heap.size z4 z) (first | assumption | exact hs0 | exact hsA)
   (first
     | ((with_reducible refine (HM.out z4.drew (Below.refl _ _).drew).mono ?_)
        rintro e y1 ⟨mv,rfl,hmo,hy1⟩
        rw [show Tr.root (s.ents.map Tr.leafH)=RT from HRT.out] at hmo
        obtain ⟨Am,cm,hmv,-,-⟩:=Own.shape hmo
        subst hmv
        have hz1:Below z4.heap.size z4 y1:=(Below.refl z4.heap.size z4).drew.trans hy1
        have hs1:=HSS.out y1 hz1
        have hsB:=HSS.out (y1.alloc (.cells #[.int .i64 0,.slice none 0 0] 39)) (hz1.alloc hz1.size _)
        have hsC:=HSS.out (y1.alloc (.cells #[.int .i64 (s.ents.length:Int),.slice Am RT.length cm] 39)) (hz1.alloc hz1.size _))
     | ((with_reducible refine (HM.out (z4.alloc (.cells #[.int .i64 0,.slice none 0 0] 39)).drew hA0).mono ?_)
        rintro e y1 ⟨mv,rfl,hmo,hy1⟩
        rw [show Tr.root (s.ents.map Tr.leafH)=RT from HRT.out] at hmo
        obtain ⟨Am,cm,hmv,-,-⟩:=Own.shape hmo
        subst hmv
        have hz1:Below z4.heap.size z4 y1:=hA0.trans (hy1.mono hA0.size)
        have hs1:=HSS.out y1 hz1
        have hbH:=hbH0.below hy1 hbH0.lt
        have e0_:y1.cell? ⟨z4.heap.size,0,none⟩=some (.int .i64 0):=hbH.cell 0
        have e1_:y1.cell? ⟨z4.heap.size,1,none⟩=some (.slice none 0 0):=hbH.cell 1
        have g0_:=hbH.frozen 0
        have g1_:=hbH.frozen 1
        have hsC:=HSS.out ((y1.setCell ⟨z4.heap.size,0,none⟩ (.int .i64 (s.ents.length:Int))).setCell ⟨z4.heap.size,1,none⟩ (.slice Am RT.length cm)) (below_set2 hz1 (Nat.le_refl _) _ _)))
  · rename_i J K2 hJ hK2 _hH
    (first | refine hK2 _ _ (Met.intro (hJ _ _ ?_)) | refine Met.intro (hJ _ _ ?_))
    (repeat apply Exists.intro)
    refine ⟨?_,rfl⟩
    exact ⟨_,_,_,rfl,heap_alloc_new y1 _,SlAt.alloc (SlAt.weak (OwnB.bytes hmo) (fun b _ hb=>hb.1)) _,hz1.size,hz1.alloc hz1.size _⟩
  · rename_i J K2 hJ hK2 _hH
    (first | refine hK2 _ _ (Met.intro (hJ _ _ ?_)) | refine Met.intro (hJ _ _ ?_))
    (repeat apply Exists.intro)
    refine ⟨?_,rfl⟩
    have hmb:Bytes y1 (fun b=>z4.heap.size+1<=b) (.slice Am RT.length cm) RT:=SlAt.weak (OwnB.bytes hmo) (fun b _ hb=>by have h:(z4.alloc (.cells #[.int .i64 0,.slice none 0 0] 39)).drew.heap.size<=b:=hb.1;have e:(z4.alloc (.cells #[.int .i64 0,.slice none 0 0] 39)).drew.heap.size=z4.heap.size+1:=World.size_alloc _ _;omega)
    exact ⟨_,_,_,rfl,hbH.set2 _ _,SlAt.weak (SlAt.setCell (p:=⟨z4.heap.size,1,none⟩) (SlAt.setCell (p:=⟨z4.heap.size,0,none⟩) hmb (by show ¬ (z4.heap.size+1<=z4.heap.size);omega) _) (by show ¬ (z4.heap.size+1<=z4.heap.size);omega) _) (fun b _ hb=>Nat.le_of_succ_le hb),Nat.le_refl _,below_set2 hz1 (Nat.le_refl _) _ _⟩
 case rest =>
  obtain ⟨gH,AH,cH,rfl,hbH,hRTb,hgH,hzc⟩:=hcut
  have hRN:Bytes wc (NF gF gS (w.heap.size+1)) (.slice AH RT.length cH) RT:=SlAt.weak hRTb (fun b _ hb=>NF.new hP1_ hanl hb)
  clear hRTb HM HSS hel
  have he50_:True:=trivial
  have hP50:=hP1_.below hzc
  have hK50:=hKz.trans (KR.of_below hzc (Nat.le_trans hBw hKz.size))
  have han50:=hane.below hzc hane.lt
  have hD50:=hDe.below hzc hDe.lt
  have hgHF:gH≠gF:=by omega
  have hgHS:gH≠gS:=by omega
  have hgHA:gH≠w.heap.size+1:=by omega
  clear hP1_ hKz hane hDe
  have hbk:=hP50.2.2.2.2.2.2.2.2.1
  obtain ⟨Ab,cb,hvb,hnb,hcb⟩:=hbk.form
  subst hvb
  have c0:wc.cell? ⟨gF,1,none⟩=some (.slice Ab f.book.length cb):=hP50.2.2.2.1.cell 1
  have d1:wc.cell? ⟨w.heap.size,1,none⟩=some (.int .i64 (k:Int)):=(hD50.cell 1).trans (by show some (.int .i64 d.n:Value)=_;rw [HKN.out])
  have p0:wc.cell? ⟨gS,oS+k*7,none⟩=some (.int .i64 s.fr):=hP50.cellAt (i:=0) hs1_ hu1_ rfl
  have p1:wc.cell? ⟨gS,oS+k*7+1,none⟩=some (.int .i64 s.til):=hP50.cellAt (i:=1) hs1_ hu1_ rfl
  have c4:wc.cell? ⟨gH,0,none⟩=some (.int .i64 (s.ents.length:Int)):=hbH.cell 0
  have c5:wc.cell? ⟨gH,1,none⟩=some (.slice AH RT.length cH):=hbH.cell 1
  go_wp2_with fail
  refine step_region36 _ wc _ _ _ _ _ _ _ _ _ _ _ _ _ _ _ _ _ _ _ _ _ _ _ _ _ _ _ _ _ _ _ _ _ _ _ _ _ _ _ _ _ _ _ _ _ _ _ _ _ _ _ _ _ _ _ _ _ _ _ _ _ _ _ _ _ _ _ _ _ _ _ _ _ _ _ _ _ _ _ _ _ _ _ _ _ _ _ _ _ _ _ _ _ _ _ _ _ _ _ _ _ _ _ _ _ _ _ _ _ _ _ _ _ _ _ _ _ _ _ _ _ _ _ _ _ _ _ _ _ _ _ _ _ _ _ _ _ _ _ _ _ _ _ _ _ _ _ _ _ _ _ _ _ _ _ _ _ _ _ _ _ _ _ _ _ _ _ _ _ _ _ _ _ _ _ _ _ _ _ _ _ _ _ _ _ _ _ _ _ _ _ _ _ _ _ _ _ _ _ _ _ _ _ _ _ _ _ _ _ _ _ _ _ _ _ _ _ _ _ _ _ _ _ _ _ _ _ _ _ _ _ _ _ _ _ _ _ _ _ _ _ _ _ _ _ _ _ _ _ _ _ _ _ _ _ _ _ _ _ _ _ _ _ _ _ _ _ _ _ _ _ _ _ _ _ _ _ _ _ _ _ _ _ _ _ _ _ _ _ _ _ _ _ _ _ _ _ _ _ _ _ _ _ _ _ _ _ _ _ _ _ _ _ _ _ _ _ _ _ _ _ _ _ _ _ _ _ _ _ _ _ _ _ _ _ _ _ _ _ _ _ _ _ _ gF w.heap.size gS (oS+k*7) gH k s.ents.length RT.length s.fr s.til AH Ab cH cb f.book _ hbk hbook8 c0 d1 p0 p1 c4 c5 hP50.2.2.2.1.lt hD50.lt hP50.2.2.1 hbH.lt (hP50.2.2.2.1.frozen 1) (by omega) (fun e=>hne e.symm) hgHF ?hQ ?_
  case hQ=>exact fun _ _ _ _ _ h=>h
  rintro x179 x180 x181 x182 x183 x184 x185 x186 x187 x188 x189 x190 x191 x192 x193 x194 x195 x196 x197 x198 x199 x200 x201 raw z6 hrl hrr hown hz6
  clear c0 c4 c5 d1 p0 p1
  have hOR:OwnR z6 wc.heap.size 61 (NF gF gS (w.heap.size+1)) x199 (f.book++[⟨(k:Int),s.fr,s.til,(s.ents.length:Int),RT⟩]):=by
   refine OwnR.snoc (xs:=raw) (ecs:=[.int .i64 (k:Int),.int .i64 s.fr,.int .i64 s.til,.int .i64 (s.ents.length:Int),.slice AH RT.length cH]) (fun i a ha=>?_) hrl ?_ hown
   · obtain ⟨ecs,he,hj⟩:=hrr i a ha
     exact ⟨ecs,Rp.below he hz6,hj⟩
   · exact ⟨[_],[_,_,_,_],rfl,rfl,[_],[_,_,_],rfl,rfl,[_],[_,_],rfl,rfl,[_],[_],rfl,rfl,_,rfl,rdL_bytes.2 (SlAt.below hRN hz6)⟩
  have hrd6:=hOR.rd (fun b hb=>NF.new hP50 han50.lt (hOR.lt b hb).1)
  clear hOR hrr hown
  obtain ⟨hP7,hK7⟩:=(hP50.below hz6).setBook hrd6
  have hK8:=(hK50.trans (KR.of_below hz6 (Nat.le_trans hBw hK50.size))).trans hK7
  have han8:Blk (z6.setCell ⟨gF,1,none⟩ x199) (w.heap.size+1) 105 #[.int .i64 0,.int .i64 0,.int .i64 0,.int .i64 0,.slice none 0 0]:=(han50.below hz6 han50.lt).far (p:=⟨gF,1,none⟩) (by show _≠gF;omega) _
  have hD8:Blk (z6.setCell ⟨gF,1,none⟩ x199) w.heap.size 111 #[.int .i64 d.kind,.int .i64 d.n,.int .i64 d.time,.slice Ae d.entry.length ce,.int .i64 d.seg,.int .i64 d.pos,bv d.turn]:=(hD50.below hz6 hD50.lt).far (p:=⟨gF,1,none⟩) (by show _≠gF;omega) _
  have hH8:Blk (z6.setCell ⟨gF,1,none⟩ x199) gH 39 #[.int .i64 (s.ents.length:Int),.slice AH RT.length cH]:=(hbH.below hz6 hbH.lt).far (p:=⟨gF,1,none⟩) hgHF _
  have hRN8:Bytes (z6.setCell ⟨gF,1,none⟩ x199) (NF gF gS (w.heap.size+1)) (.slice AH RT.length cH) RT:=SlAt.setCell (p:=⟨gF,1,none⟩) (SlAt.below hRN hz6) (fun h=>h.1 rfl) _
  clear hP50 hK50 han50 hD50 hbk hbH hRN hrd6 hK7 hz6
  generalize z6.setCell ⟨gF,1,none⟩ x199=z8 at *
  have d1:z8.cell? ⟨w.heap.size,1,none⟩=some (.int .i64 (k:Int)):=(hD8.cell 1).trans (by show some (.int .i64 d.n:Value)=_;rw [HKN.out])
  have c4:z8.cell? ⟨gH,0,none⟩=some (.int .i64 (s.ents.length:Int)):=hH8.cell 0
  have c5:z8.cell? ⟨gH,1,none⟩=some (.slice AH RT.length cH):=hH8.cell 1
  have y0_:=han8.cell 0
  have y1_:=han8.cell 1
  have y2_:=han8.cell 2
  have y3_:=han8.cell 3
  have y4_:=han8.cell 4
  have f0_:=han8.frozen 0
  have f1_:=han8.frozen 1
  have f2_:=han8.frozen 2
  have f3_:=han8.frozen 3
  have f4_:=han8.frozen 4
  go_wp2_with fail
  have hW_:set5 z8 (w.heap.size+1) (.int .i64 0) (.int .i64 (k:Int)) (.int .i64 0) (.int .i64 (s.ents.length:Int)) (.slice AH RT.length cH)=(((((z8.setCell ⟨w.heap.size+1,0,none⟩ (.int .i64 0)).setCell ⟨w.heap.size+1,1,none⟩ (.int .i64 (k:Int))).setCell ⟨w.heap.size+1,2,none⟩ (.int .i64 0)).setCell ⟨w.heap.size+1,3,none⟩ (.int .i64 (s.ents.length:Int))).setCell ⟨w.heap.size+1,4,none⟩ (.slice AH RT.length cH)):=rfl
  rw [<-hW_]
  have HDN:=rstep_done (r:=R) (rv:=.slice AH RT.length cH) (Nat.le_succ _) hBw hgF hgS (by rw [HRV.out];exact hP7) (by rw [HRV.out];exact hRN8) hK8 han8
  rw [HRV.out] at HDN ⊢
  obtain ⟨q0_,q1_,q2_,q3_,q4_,hend⟩:(set5 z8 (w.heap.size+1) (.int .i64 0) (.int .i64 (k:Int)) (.int .i64 0) (.int .i64 (s.ents.length:Int)) (.slice AH RT.length cH)).cell? ⟨w.heap.size+1,0,none⟩=some (.int .i64 0)/\(set5 z8 (w.heap.size+1) (.int .i64 0) (.int .i64 (k:Int)) (.int .i64 0) (.int .i64 (s.ents.length:Int)) (.slice AH RT.length cH)).cell? ⟨w.heap.size+1,1,none⟩=some (.int .i64 (k:Int))/\(set5 z8 (w.heap.size+1) (.int .i64 0) (.int .i64 (k:Int)) (.int .i64 0) (.int .i64 (s.ents.length:Int)) (.slice AH RT.length cH)).cell? ⟨w.heap.size+1,2,none⟩=some (.int .i64 0)/\(set5 z8 (w.heap.size+1) (.int .i64 0) (.int .i64 (k:Int)) (.int .i64 0) (.int .i64 (s.ents.length:Int)) (.slice AH RT.length cH)).cell? ⟨w.heap.size+1,3,none⟩=some (.int .i64 (s.ents.length:Int))/\(set5 z8 (w.heap.size+1) (.int .i64 0) (.int .i64 (k:Int)) (.int .i64 0) (.int .i64 (s.ents.length:Int)) (.slice AH RT.length cH)).cell? ⟨w.heap.size+1,4,none⟩=some (.slice AH RT.length cH)/\RStepP w B gF gS _ (.returned (.agg #[.int .i64 0,.int .i64 (k:Int),.int .i64 0,.int .i64 (s.ents.length:Int),.slice AH RT.length cH])) (set5 z8 (w.heap.size+1) (.int .i64 0) (.int .i64 (k:Int)) (.int .i64 0) (.int .i64 (s.ents.length:Int)) (.slice AH RT.length cH)):=HDN
  clear hW_
  generalize set5 z8 (w.heap.size+1) (.int .i64 0) (.int .i64 (k:Int)) (.int .i64 0) (.int .i64 (s.ents.length:Int)) (.slice AH RT.length cH)=W9 at *
  exact bodyPost_ret (v:=.agg #[.int .i64 0,.int .i64 (k:Int),.int .i64 0,.int .i64 (s.ents.length:Int),.slice AH RT.length cH]) (by simp [results,Try.results113,go_sem,q0_,q1_,q2_,q3_,q4_]) rfl hend
end Go.Proofs.Ytfdibjgmbdkbcaa
