/-
  THE WALK of what is done to a fleet: a shard is laid away. Conditions: a fleet of which all holds; what is done is read. THE WALK of whatever is done to a fleet. Conditions: a fleet of which all holds; what is done is read.
-/
import Derived.Test.YtfdibjgmbdkbcaaYFX
import Derived.Test.YtfdibjgmbdkbcaaYFleetT
namespace Go.Proofs.Ytfdibjgmbdkbcaa
open Go.RowKit Go.Lib
set_option maxRecDepth 100000 in
set_option maxHeartbeats 4000000 in
theorem do3_any (w:World) (B gF q o:Nat) (tag:Tag) (f:Flt) (d:Dob) (hF:FltAt w B gF tag f) (hT:TagOk w B tag) (hI:Fl.Inv f) (hd:DoAt w B q o d) (hk:d.kind=3) :
 Calls Try.prog 117 #[.pointer (some ⟨gF,0,none⟩),.pointer (some ⟨q,o,none⟩)] w (StepP w B gF tag (Fl.step f d)):=by
 have hBw:B<=w.heap.size:=hd.2.1
 have hxw1:=(Below.refl w.heap.size w).alloc (Nat.le_refl _) (.cells #[.int .i64 0,.int .i64 0,.int .i64 0,.int .i64 0,.slice none 0 0] 105)
 have hans1:Blk (w.alloc (.cells #[.int .i64 0,.int .i64 0,.int .i64 0,.int .i64 0,.slice none 0 0] 105)) w.heap.size 105 #[.int .i64 0,.int .i64 0,.int .i64 0,.int .i64 0,.slice none 0 0]:=heap_alloc_new w _
 obtain ⟨R,HR⟩:∃ R,Hid (R=Fl.step f d):=⟨_,Lib.hid rfl⟩
 rw [<-HR.out]
 have HSTEP:Hid (R=if d.n<0\/(f.sh.length:Int)<=d.n then (f,Fl.no 6) else match f.sh[d.n.toNat]? with
  | none=>(f,Fl.no 6)
  | some s=>if s.st≠2 then (f,Fl.no 7) else Fl.lay f d.n.toNat s):=Lib.hid (by rw [HR.out];unfold Fl.step;rw [hk];rfl)
 have hlen8:=hI.len
 obtain ⟨vs,vb,us,ws,hP⟩:=hF.parts
 have hP1:=hP.below hxw1
 have hd1:=hd.below (hxw1.mono hBw)
 have HK:=Lib.hid hk
 obtain ⟨hq0,hB0,d0,d1,d2,⟨Ae,ce,d3,hde⟩,d4,d5,d6⟩:=id hd1
 rw [hk] at d0
 clear hk
 obtain ⟨Av,cv,hvs,hncv,hcvm⟩:=Own.shape hP1.2.2.2.1
 unfold maxLen at hcvm
 subst hvs
 have hvsz:(f.sh.length:Int)<=8:=by omega
 go_enter Try.func117,Try.ntmps117
 go_upto_region 1 with (fail)
 generalize (w.alloc (.cells #[.int .i64 0,.int .i64 0,.int .i64 0,.int .i64 0,.slice none 0 0] 105))=w1 at *
 have g0:w1.cell? ⟨gF,0,none⟩=some (.slice Av f.sh.length cv):=hP1.2.1.cell 0
 go_upto_region 9 with (fail)
 by_cases hneg:d.n<0
 · have hnegB:decide (d.n<0)=true:=decide_eq_true hneg
   have HS:Hid (R=(f,Fl.no 6)):=Lib.hid (by rw [HSTEP.out,if_pos (.inl hneg)])
   go_quiet (fail)
   go_upto_region 10 with (fail)
   have hx2:=below_drewN (Below.refl w1.heap.size w1) nq
   generalize w1.drewN nq=w2 at *
   have hP2:=hP1.below hx2
   have hans2:=hans1.below hx2 hans1.lt
   have hd2:=hd1.below (hx2.mono (Nat.le_trans hBw hxw1.size))
   have hxw2:=hxw1.trans (hx2.mono hxw1.size)
   obtain ⟨hq0,hB0,d0,d1,d2,⟨Ae,ce,d3,hde⟩,d4,d5,d6⟩:=id hd2
   rw [HK.out] at d0
   have a90:w2.cell? ⟨w.heap.size,0,none⟩=some (.int .i64 0):=hans2.cell 0
   have f90:=hans2.frozen 0
   have a91:w2.cell? ⟨w.heap.size,1,none⟩=some (.int .i64 0):=hans2.cell 1
   have f91:=hans2.frozen 1
   have a92:w2.cell? ⟨w.heap.size,2,none⟩=some (.int .i64 0):=hans2.cell 2
   have f92:=hans2.frozen 2
   have a93:w2.cell? ⟨w.heap.size,3,none⟩=some (.int .i64 0):=hans2.cell 3
   have f93:=hans2.frozen 3
   have a94:w2.cell? ⟨w.heap.size,4,none⟩=some (.slice none 0 0):=hans2.cell 4
   have f94:=hans2.frozen 4
   go_wp2_with fail
   have hW:set5 w2 w.heap.size (.int .i64 6) (.int .i64 0) (.int .i64 0) (.int .i64 0) (.slice none 0 0)=(((((w2.setCell ⟨w.heap.size,0,none⟩ (.int .i64 6)).setCell ⟨w.heap.size,1,none⟩ (.int .i64 0)).setCell ⟨w.heap.size,2,none⟩ (.int .i64 0)).setCell ⟨w.heap.size,3,none⟩ (.int .i64 0)).setCell ⟨w.heap.size,4,none⟩ (.slice none 0 0)):=rfl
   rw [<-hW]
   have hb5:=set5_blk (a:=.int .i64 6) (b:=.int .i64 0) (c:=.int .i64 0) (d:=.int .i64 0) (e:=.slice none 0 0) hans2
   have hxe:Below w.heap.size w (set5 w2 w.heap.size (.int .i64 6) (.int .i64 0) (.int .i64 0) (.int .i64 0) (.slice none 0 0)):=set5_below hxw2 (Nat.le_refl _)
   clear hW
   generalize set5 w2 w.heap.size (.int .i64 6) (.int .i64 0) (.int .i64 0) (.int .i64 0) (.slice none 0 0)=W at *
   have s0:W.cell? ⟨w.heap.size,0,none⟩=some (.int .i64 6):=hb5.cell 0
   have s1:W.cell? ⟨w.heap.size,1,none⟩=some (.int .i64 0):=hb5.cell 1
   have s2:W.cell? ⟨w.heap.size,2,none⟩=some (.int .i64 0):=hb5.cell 2
   have s3:W.cell? ⟨w.heap.size,3,none⟩=some (.int .i64 0):=hb5.cell 3
   have s4:W.cell? ⟨w.heap.size,4,none⟩=some (.slice none 0 0):=hb5.cell 4
   exact bodyPost_ret (v:=.agg #[.int .i64 6,.int .i64 0,.int .i64 0,.int .i64 0,.slice none 0 0]) (by simp [results,Try.results117,go_sem,s0,s1,s2,s3,s4]) rfl (by rw [HS.out];exact StepP.same hF hT hBw hxe rfl rfl)
 have hnegB:decide (d.n<0)=false:=decide_eq_false hneg
 by_cases hge:(f.sh.length:Int)<=d.n
 · have hgeB:decide ((f.sh.length:Int)<=d.n)=true:=decide_eq_true hge
   have HS:Hid (R=(f,Fl.no 6)):=Lib.hid (by rw [HSTEP.out,if_pos (.inr hge)])
   go_quiet (fail)
   go_upto_region 10 with (fail)
   have hx2:=below_drewN (Below.refl w1.heap.size w1) nq
   generalize w1.drewN nq=w2 at *
   have hP2:=hP1.below hx2
   have hans2:=hans1.below hx2 hans1.lt
   have hd2:=hd1.below (hx2.mono (Nat.le_trans hBw hxw1.size))
   have hxw2:=hxw1.trans (hx2.mono hxw1.size)
   obtain ⟨hq0,hB0,d0,d1,d2,⟨Ae,ce,d3,hde⟩,d4,d5,d6⟩:=id hd2
   rw [HK.out] at d0
   have a90:w2.cell? ⟨w.heap.size,0,none⟩=some (.int .i64 0):=hans2.cell 0
   have f90:=hans2.frozen 0
   have a91:w2.cell? ⟨w.heap.size,1,none⟩=some (.int .i64 0):=hans2.cell 1
   have f91:=hans2.frozen 1
   have a92:w2.cell? ⟨w.heap.size,2,none⟩=some (.int .i64 0):=hans2.cell 2
   have f92:=hans2.frozen 2
   have a93:w2.cell? ⟨w.heap.size,3,none⟩=some (.int .i64 0):=hans2.cell 3
   have f93:=hans2.frozen 3
   have a94:w2.cell? ⟨w.heap.size,4,none⟩=some (.slice none 0 0):=hans2.cell 4
   have f94:=hans2.frozen 4
   go_wp2_with fail
   have hW:set5 w2 w.heap.size (.int .i64 6) (.int .i64 0) (.int .i64 0) (.int .i64 0) (.slice none 0 0)=(((((w2.setCell ⟨w.heap.size,0,none⟩ (.int .i64 6)).setCell ⟨w.heap.size,1,none⟩ (.int .i64 0)).setCell ⟨w.heap.size,2,none⟩ (.int .i64 0)).setCell ⟨w.heap.size,3,none⟩ (.int .i64 0)).setCell ⟨w.heap.size,4,none⟩ (.slice none 0 0)):=rfl
   rw [<-hW]
   have hb5:=set5_blk (a:=.int .i64 6) (b:=.int .i64 0) (c:=.int .i64 0) (d:=.int .i64 0) (e:=.slice none 0 0) hans2
   have hxe:Below w.heap.size w (set5 w2 w.heap.size (.int .i64 6) (.int .i64 0) (.int .i64 0) (.int .i64 0) (.slice none 0 0)):=set5_below hxw2 (Nat.le_refl _)
   clear hW
   generalize set5 w2 w.heap.size (.int .i64 6) (.int .i64 0) (.int .i64 0) (.int .i64 0) (.slice none 0 0)=W at *
   have s0:W.cell? ⟨w.heap.size,0,none⟩=some (.int .i64 6):=hb5.cell 0
   have s1:W.cell? ⟨w.heap.size,1,none⟩=some (.int .i64 0):=hb5.cell 1
   have s2:W.cell? ⟨w.heap.size,2,none⟩=some (.int .i64 0):=hb5.cell 2
   have s3:W.cell? ⟨w.heap.size,3,none⟩=some (.int .i64 0):=hb5.cell 3
   have s4:W.cell? ⟨w.heap.size,4,none⟩=some (.slice none 0 0):=hb5.cell 4
   exact bodyPost_ret (v:=.agg #[.int .i64 6,.int .i64 0,.int .i64 0,.int .i64 0,.slice none 0 0]) (by simp [results,Try.results117,go_sem,s0,s1,s2,s3,s4]) rfl (by rw [HS.out];exact StepP.same hF hT hBw hxe rfl rfl)
 have hgeB:decide ((f.sh.length:Int)<=d.n)=false:=decide_eq_false hge
 obtain ⟨k,hkn⟩:∃ k:Nat,d.n=(k:Int):=⟨d.n.toNat,by omega⟩
 have hkk:d.n.toNat=k:=by omega
 have hltk:k<f.sh.length:=by omega
 obtain ⟨s,hs⟩:∃ s,f.sh[k]? = some s:=⟨_,List.getElem?_eq_getElem hltk⟩
 have HSP:Hid (R=if s.st≠2 then (f,Fl.no 7) else Fl.lay f k s):=Lib.hid (by rw [HSTEP.out,if_neg (by omega),hkk,hs])
 go_quiet (fail)
 go_upto_region 11 with (fail)
 have hx2:=below_drewN (Below.refl w1.heap.size w1) nq
 generalize w1.drewN nq=w2 at *
 have hP2:=hP1.below hx2
 have hans2:=hans1.below hx2 hans1.lt
 have hd2:=hd1.below (hx2.mono (Nat.le_trans hBw hxw1.size))
 have hxw2:=hxw1.trans (hx2.mono hxw1.size)
 obtain ⟨hq0,hB0,d0,d1,d2,⟨Ae,ce,d3,hde⟩,d4,d5,d6⟩:=id hd2
 rw [HK.out] at d0
 rw [hkn] at d1
 have HKN:=Lib.hid hkn
 clear hkn hnegB hgeB hneg hge hkk
 obtain ⟨gS,oS,cS,u,hvs,hu,hgSB,hgSlt,_,_,_,⟨curS,hcurS⟩,_,_⟩:=hP2.row hs
 injection hvs with hvs _ hvc
 subst hvs hvc
 have hkB:(k:Int)<(f.sh.length:Int):=by omega
 have hk0:(0:Int)<=(k:Int):=by omega
 have g02:w2.cell? ⟨gF,0,none⟩=some (.slice (some ⟨gS,oS,none⟩) f.sh.length cv):=hP2.2.1.cell 0
 go_quiet (fail)
 go_upto_region 12 with (fail)
 have hx3:=below_drewN (Below.refl w2.heap.size w2) nq
 generalize w2.drewN nq=w3 at *
 have hP3:=hP2.below hx3
 have hans3:=hans2.below hx3 hans2.lt
 have hd3:=hd2.below (hx3.mono (Nat.le_trans hBw hxw2.size))
 have hxw3:=hxw2.trans (hx3.mono hxw2.size)
 obtain ⟨hq0,hB0,d0,d1,d2,⟨Ae,ce,d3,hde⟩,d4,d5,d6⟩:=id hd3
 rw [HK.out] at d0
 have hq3:q<w3.heap.size:=by have:=hxw3.size;omega
 have hgS3:=hP3.blk.2.1
 have p2:w3.cell? ⟨gS,oS+k*7+2,none⟩=some (.int .i64 s.st):=hP3.cells hs hu (i:=2) rfl
 have hSm:∀ z,Below w3.heap.size w3 z->z.cell? ⟨gS,oS+k*7+2,none⟩=some (.int .i64 s.st)/\z.cell? ⟨q,o,none⟩=some (.int .i64 3):=fun z hz=>⟨(hz.cell (p:=⟨gS,oS+k*7+2,none⟩) hgS3).trans p2,(hz.cell (p:=⟨q,o,none⟩) hq3).trans d0⟩
 refine wp_region_held_drew (S:=(fun z:World=>z.cell? ⟨gS,oS+k*7+2,none⟩=some (.int .i64 s.st)/\z.cell? ⟨q,o,none⟩=some (.int .i64 3))) (by kernel_rfl) ?_ (fun hHeld=>?_)
 · exact ⟨p2,d0⟩
 refine step_tk 0 (h:=?_)
 refine step_tk 1 (h:=?_)
 refine step_tk 2 (h:=?_)
 refine step_tk 3 (h:=?_)
 refine step_tk 10 (h:=?_)
 refine step_tk 11 (h:=?_)
 refine step_tk 12 (h:=?_)
 refine step_tk 13 (h:=?_)
 refine step_alone 4 rfl (by kernel_rfl) (by rfl) (fun K hK=>?_)
 go_simp
 refine hK.out _ _ ?_ (fun hHeld=>?_)
 · exact hSm _ ((Below.refl _ w3).alloc (Nat.le_refl _) _).drew
 clear hK K
 try simp only [Act.put,List.setIfInBounds_toArray,List.set_cons_zero,List.set_cons_succ]
 refine step_four (fuel:=3) 5 6 7 8 (fun a b c e=>#[true,true,true,true,true,a,b,c,e,false,true,true,true,true,false,false]) (fun a b c e z=>MapT w3.drew w3.heap.size a b c e z) rfl rfl rfl rfl (fun _ _ _=>rfl) (fun _ _ _=>rfl) (fun _ _ _=>rfl) (fun _ _ _=>rfl) (by intro a b c e h;cases a<;>cases b<;>cases c<;>cases e<;>first | exact absurd h (by decide) | kernel_rfl) (by rfl) (by rfl) (by rfl) (by rfl) (fun b c e z K hT hK=>ins_wp (.tmp 56) 2 1 (by rfl) (by rfl) (by rfl) (by decide) (by decide) hT.1 (by unfold maxLen;cases b<;>cases c<;>cases e<;>decide) (put_a b c e) hT.2 (fun z' h1 h2=>hK z' ⟨h1.mono (by cases b<;>cases c<;>cases e<;>decide),h2⟩)) (fun a c e z K hT hK=>ins_wp (.tmp 56) 3 2 (by rfl) (by rfl) (by rfl) (by decide) (by decide) hT.1 (by unfold maxLen;cases a<;>cases c<;>cases e<;>decide) (put_b a c e) hT.2 (fun z' h1 h2=>hK z' ⟨h1.mono (by cases a<;>cases c<;>cases e<;>decide),h2⟩)) (fun a b e z K hT hK=>ins_wp (.tmp 56) 4 3 (by rfl) (by rfl) (by rfl) (by decide) (by decide) hT.1 (by unfold maxLen;cases a<;>cases b<;>cases e<;>decide) (put_c a b e) hT.2 (fun z' h1 h2=>hK z' ⟨h1.mono (by cases a<;>cases b<;>cases e<;>decide),h2⟩)) (fun a b c z K hT hK=>ins_wp (.tmp 56) 5 3 (by rfl) (by rfl) (by rfl) (by decide) (by decide) hT.1 (by unfold maxLen;cases a<;>cases b<;>cases c<;>decide) (put_d a b c) hT.2 (fun z' h1 h2=>hK z' ⟨h1.mono (by cases a<;>cases b<;>cases c<;>decide),h2⟩)) (fun _ _ _ _ z hz=>hSm z (Below.trans ((Below.refl _ w3).drew) hz.2)) (MapT.made w3.drew) ?_
 intro w4 hT4
 have hS4:=hSm w4 (Below.trans ((Below.refl _ w3).drew) hT4.2)
 refine step_tk 9 (h:=?_)
 refine step_alone 14 rfl (by kernel_rfl) (by rfl) (fun K hK=>?_)
 refine look_wp (.tmp 57) (.tmp 61) 3 2 (by rfl) (by rfl) (by rfl) (by decide) hT4.1 (by rfl) ?_
 refine hK.out _ _ ?_ (fun hHeld=>?_)
 · exact hS4
 clear hK K
 try simp only [Act.put,List.setIfInBounds_toArray,List.set_cons_zero,List.set_cons_succ]
 refine step_tk 15 (h:=?_)
 refine wpAnyH_done (by kernel_rfl) ?_ _
 have hx4:Below w3.heap.size w3 w4:=Below.trans ((Below.refl w3.heap.size w3).drew) hT4.2
 clear hT4
 have hP4:=hP3.below hx4
 have hans4:=hans3.below hx4 hans3.lt
 have hd4:=hd3.below (hx4.mono (Nat.le_trans hBw hxw3.size))
 have hxw4:=hxw3.trans (hx4.mono hxw3.size)
 obtain ⟨hq0,hB0,d0,d1,d2,⟨Ae,ce,d3,hde⟩,d4,d5,d6⟩:=id hd4
 rw [HK.out] at d0
 rw [HKN.out] at d1
 by_cases hst:s.st=2
 · have hstB:(s.st != 2)=false:=by rw [bne_eq_false_iff_eq];exact hst
   have HS:Hid (R=Fl.lay f k s):=Lib.hid (by rw [HSP.out,if_neg (by rw [hst];simp)])
   have HST:=Lib.hid hst
   clear hst
   have hfine:=(hI.sh k s hs).fine
   have hTS4:=hP4.2.2.2.2.1 k s u hs hu
   obtain ⟨es,hes,_,_⟩:=hTS4.1
   obtain ⟨A5,c5,hev,_,hcm5⟩:=hes.shape
   have p3:w4.cell? ⟨gS,oS+k*7+3,none⟩=some u.ev:=hP4.cells hs hu (i:=3) rfl
   have hEL:BList w4 (fun b=>B<=b/\b<w4.heap.size) u.ev s.ents:=hTS4.1.ownL.blist
   rw [hev] at p3 hEL
   have HEV:=Lib.hid hev
   clear hev
   go_wp2_with fail
   with_reducible refine (export_own w4 _ _ s.ents hEL hfine).mono ?_
   rintro e w5 ⟨rv,sv,rfl,hor,⟨m,hm,hrm,hos⟩,hx5⟩
   obtain ⟨A2,c2,hrv,_,_⟩:=Own.shape hor
   obtain ⟨A3,c3,hsv,_,_⟩:=hos.shape
   obtain ⟨n2,hn2⟩:∃ n,(Tr.rootL s.ents).length=n:=⟨_,rfl⟩
   obtain ⟨n3,hn3⟩:∃ n,(Shf.segsOf s.ents).length=n:=⟨_,rfl⟩
   rw [hn2] at hrv
   rw [hn3] at hsv
   subst hrv hsv
   have HN2:=Lib.hid hn2
   clear hn2 hn3
   have hman6:Blk ((w5.alloc (.cells #[.int .i64 (s.ents.length:Int),.slice A2 n2 c2,.slice A3 n3 c3] 77)).alloc (.cells #[.int .i64 0,.int .i64 0] 32)) w5.heap.size 77 #[.int .i64 (s.ents.length:Int),.slice A2 n2 c2,.slice A3 n3 c3]:=Blk.alloc (heap_alloc_new w5 _) _
   have hflt6:Blk ((w5.alloc (.cells #[.int .i64 (s.ents.length:Int),.slice A2 n2 c2,.slice A3 n3 c3] 77)).alloc (.cells #[.int .i64 0,.int .i64 0] 32)) (w5.heap.size+1) 32 #[.int .i64 0,.int .i64 0]:=by
    have:=heap_alloc_new (w5.alloc (.cells #[.int .i64 (s.ents.length:Int),.slice A2 n2 c2,.slice A3 n3 c3] 77)) (.cells #[.int .i64 0,.int .i64 0] 32)
    rw [World.size_alloc] at this
    exact this
   have hx6:=(hx5.alloc hx5.size (.cells #[.int .i64 (s.ents.length:Int),.slice A2 n2 c2,.slice A3 n3 c3] 77)).alloc (by simp;have:=hx5.size;omega) (.cells #[.int .i64 0,.int .i64 0] 32)
   have hor7:=((OwnB.alloc hor (.cells #[.int .i64 (s.ents.length:Int),.slice A2 n2 c2,.slice A3 n3 c3] 77)).alloc (.cells #[.int .i64 0,.int .i64 0] 32))
   have hos7:=(hos.alloc (.cells #[.int .i64 (s.ents.length:Int),.slice A2 n2 c2,.slice A3 n3 c3] 77)).alloc (.cells #[.int .i64 0,.int .i64 0] 32)
   go_upto_region 22 with (fail)
   generalize ((w5.alloc (.cells #[.int .i64 (s.ents.length:Int),.slice A2 n2 c2,.slice A3 n3 c3] 77)).alloc (.cells #[.int .i64 0,.int .i64 0] 32))=w7 at *
   generalize w5.heap.size=gM at *
   have l0:w7.cell? ⟨gM+1,0,none⟩=some (.int .i64 0):=hflt6.cell 0
   have l1:w7.cell? ⟨gM+1,1,none⟩=some (.int .i64 0):=hflt6.cell 1
   have hB4:B<=w4.heap.size:=Nat.le_trans hBw hxw4.size
   obtain ⟨tag',hP7,hT7,hK47,hrt7,hsg7⟩:=hP4.laid (k:=k) (hT.size hxw4.size) hB4 hx6 hor7 hm hrm hos7
   have hK7:=(Kept.of_below hxw4 hBw).trans hK47 hBw
   have hans7:=hans4.below hx6 hans4.lt
   have hd7:=hd4.below (hx6.mono hB4)
   have d17:w7.cell? ⟨q,o+1,none⟩=some (.int .i64 (k:Int)):=by have h:=hd7.2.2.2.1;rw [HKN.out] at h;exact h
   have hB7:B<=w7.heap.size:=Nat.le_trans hB4 hx6.size
   have hq7:q<w7.heap.size:=by omega
   have hman7:=hman6
   obtain ⟨cur7,hcur7⟩:=hP7.blk.2.2
   have hneM:gM≠gS:=Blk.ne hman7 hcur7 (by decide)
   have hneA:w.heap.size≠gS:=Blk.ne hans7 hcur7 (by decide)
   have hqS:q≠gS:=by have:=hP7.blk.1;omega
   have hnq:q≠w.heap.size:=by omega
   have hSM:∀ z:World,Blk z gM 77 #[.int .i64 (s.ents.length:Int),.slice A2 n2 c2,.slice A3 n3 c3]->z.cell? ⟨gM,0,none⟩=some (.int .i64 (s.ents.length:Int))/\z.cell? ⟨gM,1,none⟩=some (.slice A2 n2 c2)/\z.cell? ⟨gM,2,none⟩=some (.slice A3 n3 c3):=fun z hz=>⟨hz.cell 0,hz.cell 1,hz.cell 2⟩
   have t2:w7.cell? ⟨gS,oS+k*7+2,none⟩=some (.int .i64 s.st):=hP7.cells hs hu (i:=2) rfl
   have z2:=hP7.frz (oS+k*7+2)
   go_upto_region 24 with (fail)
   refine wp_region_held_drew (S:=(fun z:World=>z.cell? ⟨gM,0,none⟩=some (.int .i64 (s.ents.length:Int))/\z.cell? ⟨gM,1,none⟩=some (.slice A2 n2 c2)/\z.cell? ⟨gM,2,none⟩=some (.slice A3 n3 c3))) (by kernel_rfl) ?_ (fun hHeld=>?_)
   · exact hSM _ hman7
   refine step_tk 0 (h:=?_)
   refine step_tk 1 (h:=?_)
   refine step_tk 2 (h:=?_)
   refine step_tk 3 (h:=?_)
   refine step_tk 4 (h:=?_)
   refine step_alone 5 rfl (by kernel_rfl) (by rfl) (fun K hK=>?_)
   go_simp
   obtain ⟨hP8,hs8,hu8,hK8⟩:=hP7.drew.cell (s':={ s with st:=3 }) (u':=u) (x:=.int .i64 3) hs hu (i:=2) (by decide) rfl (hP7.2.2.2.2.1 k s u hs hu)
   have hman8:Blk (w7.setCell ⟨gS,oS+k*7+2,none⟩ (.int .i64 3)).drew gM 77 #[.int .i64 (s.ents.length:Int),.slice A2 n2 c2,.slice A3 n3 c3]:=hman7.far (p:=⟨gS,oS+k*7+2,none⟩) hneM _
   have hans8:Blk (w7.setCell ⟨gS,oS+k*7+2,none⟩ (.int .i64 3)).drew w.heap.size 105 #[.int .i64 0,.int .i64 0,.int .i64 0,.int .i64 0,.slice none 0 0]:=hans7.far (p:=⟨gS,oS+k*7+2,none⟩) hneA _
   have hfar8:∀ b,b≠gS->(w7.setCell ⟨gS,oS+k*7+2,none⟩ (.int .i64 3)).drew.heap[b]? = w7.heap[b]?:=fun b hb=>Below.heap_setCell _ _ _ b hb
   have hP8:FltP (w7.setCell ⟨gS,oS+k*7+2,none⟩ (.int .i64 3)).drew B gF tag' _ _ _ _ _:=hP8
   have hK8:Kept w7.drew (w7.setCell ⟨gS,oS+k*7+2,none⟩ (.int .i64 3)).drew B tag' tag':=hK8
   have hsz8:(w7.setCell ⟨gS,oS+k*7+2,none⟩ (.int .i64 3)).drew.heap.size=w7.heap.size:=by simp
   generalize hw8:(w7.setCell ⟨gS,oS+k*7+2,none⟩ (.int .i64 3)).drew=w8 at *
   clear hw8
   have r4:w8.cell? ⟨gS,oS+k*7+4,none⟩=some (.int .i64 s.man.size):=hP8.cells hs8 hu8 (i:=4) rfl
   have r5:w8.cell? ⟨gS,oS+k*7+4+1,none⟩=some u.rv:=hP8.cells hs8 hu8 (i:=5) rfl
   have r6:w8.cell? ⟨gS,oS+k*7+4+2,none⟩=some u.sv:=hP8.cells hs8 hu8 (i:=6) rfl
   have z4:=hP8.frz (oS+k*7+4)
   have z5:=hP8.frz (oS+k*7+4+1)
   have z6:=hP8.frz (oS+k*7+4+2)
   refine hK.out _ _ ?_ (fun hHeld=>?_)
   · exact hSM _ hman8
   clear hK K
   try simp only [Act.put,List.setIfInBounds_toArray,List.set_cons_zero,List.set_cons_succ]
   refine step_tk 6 (h:=?_)
   refine step_tk 7 (h:=?_)
   refine step_alone 8 rfl (by kernel_rfl) (by rfl) (fun K hK=>?_)
   go_simp
   refine hK.out _ _ ?_ (fun hHeld=>?_)
   · exact hSM _ (((hman8.far (p:=⟨gS,oS+k*7+4,none⟩) hneM _).far (p:=⟨gS,oS+k*7+4+1,none⟩) hneM _).far (p:=⟨gS,oS+k*7+4+2,none⟩) hneM _)
   clear hK K
   try simp only [Act.put,List.setIfInBounds_toArray,List.set_cons_zero,List.set_cons_succ]
   refine wpAnyH_done (by kernel_rfl) ?_ _
   have hTS8:=hP8.2.2.2.2.1 k _ u hs8 hu8
   have hK8':Kept w7 w8 B tag' tag':=(Kept.of_below ((Below.refl _ w7).drew) hB7).trans hK8 hB7
   obtain ⟨hPa,hsa,hua,hKa⟩:=hP8.cell (s':={ s with st:=3,man:={ s.man with size:=(s.ents.length:Int) } }) (u':=u) (x:=.int .i64 (s.ents.length:Int)) hs8 hu8 (i:=4) (by decide) rfl hTS8
   have hTSa:=hPa.2.2.2.2.1 k _ u hsa hua
   have hrt8:TB w8 B tag' none (.slice A2 n2 c2) (Tr.rootL s.ents):=⟨Own.keep hrt7.1 (fun b hb _ _=>hfar8 b (fun e=>Own.ne_blk hrt7.1 hcur7 (by decide) (by rw [<-e];exact hb))),hrt7.2⟩
   have hbl8:∃ cur,Blk w8 gS 156 cur:=hP8.blk.2.2
   obtain ⟨cur8,hcur8⟩:=hbl8
   have hrta:TB (w8.setCell ⟨gS,oS+k*7+4,none⟩ (.int .i64 (s.ents.length:Int))) B tag' none (.slice A2 n2 c2) (Tr.rootL s.ents):=⟨Own.setCell (p:=⟨gS,oS+k*7+4,none⟩) hrt8.1 (Own.ne_blk hrt8.1 hcur8 (by decide)) _,hrt8.2⟩
   obtain ⟨hPb,hsb,hub,hKb⟩:=hPa.cell (s':={ s with st:=3,man:={ s.man with size:=(s.ents.length:Int),root:=Tr.rootL s.ents } }) (u':={ u with rv:=.slice A2 n2 c2 }) (x:=.slice A2 n2 c2) hsa hua (i:=5) (by decide) rfl ⟨hTSa.1,hrta,hTSa.2.2⟩
   have hTSb:=hPb.2.2.2.2.1 k _ _ hsb hub
   have hsg8:TS w8 B tag' k (.slice A3 n3 c3) (Shf.segsOf s.ents):=by
    obtain ⟨ps,j1,j2,j3,j4⟩:=hsg7
    exact ⟨ps,j1,Own.keep j2 (fun b hb _ _=>hfar8 b (fun e=>Own.ne_blk j2 hcur7 (by decide) (by rw [<-e];exact hb))),j3,fun j t p ht hp=>⟨Own.keep (j4 j t p ht hp).1 (fun b hb _ _=>hfar8 b (fun e=>Own.ne_blk (j4 j t p ht hp).1 hcur7 (by decide) (by rw [<-e];exact hb))),(j4 j t p ht hp).2⟩⟩
   have hsgb:TS ((w8.setCell ⟨gS,oS+k*7+4,none⟩ (.int .i64 (s.ents.length:Int))).setCell ⟨gS,oS+k*7+4+1,none⟩ (.slice A2 n2 c2)) B tag' k (.slice A3 n3 c3) (Shf.segsOf s.ents):=by
    have hfar:∀ b,b≠gS->((w8.setCell ⟨gS,oS+k*7+4,none⟩ (.int .i64 (s.ents.length:Int))).setCell ⟨gS,oS+k*7+4+1,none⟩ (.slice A2 n2 c2)).heap[b]? = w8.heap[b]?:=fun b hb=>by rw [Below.heap_setCell _ _ _ b hb,Below.heap_setCell _ _ _ b hb]
    obtain ⟨ps,j1,j2,j3,j4⟩:=hsg8
    exact ⟨ps,j1,Own.keep j2 (fun b hb _ _=>hfar b (fun e=>Own.ne_blk j2 hcur8 (by decide) (by rw [<-e];exact hb))),j3,fun j t p ht hp=>⟨Own.keep (j4 j t p ht hp).1 (fun b hb _ _=>hfar b (fun e=>Own.ne_blk (j4 j t p ht hp).1 hcur8 (by decide) (by rw [<-e];exact hb))),(j4 j t p ht hp).2⟩⟩
   obtain ⟨hPc,hsc,huc,hKc⟩:=hPb.cell (s':={ s with st:=3,man:=Shf.manOf s.ents }) (u':={ u with rv:=.slice A2 n2 c2,sv:=.slice A3 n3 c3 }) (x:=.slice A3 n3 c3) hsb hub (i:=6) (by decide) rfl ⟨hTSb.1,hTSb.2.1,hsgb⟩
   have hF9:=hPc.at_
   simp only [List.set_set] at hF9
   have hans9:Blk (((w8.setCell ⟨gS,oS+k*7+4,none⟩ (.int .i64 (s.ents.length:Int))).setCell ⟨gS,oS+k*7+4+1,none⟩ (.slice A2 n2 c2)).setCell ⟨gS,oS+k*7+4+2,none⟩ (.slice A3 n3 c3)) w.heap.size 105 #[.int .i64 0,.int .i64 0,.int .i64 0,.int .i64 0,.slice none 0 0]:=((hans8.far (p:=⟨gS,oS+k*7+4,none⟩) hneA _).far (p:=⟨gS,oS+k*7+4+1,none⟩) hneA _).far (p:=⟨gS,oS+k*7+4+2,none⟩) hneA _
   have hman9:Blk (((w8.setCell ⟨gS,oS+k*7+4,none⟩ (.int .i64 (s.ents.length:Int))).setCell ⟨gS,oS+k*7+4+1,none⟩ (.slice A2 n2 c2)).setCell ⟨gS,oS+k*7+4+2,none⟩ (.slice A3 n3 c3)) gM 77 #[.int .i64 (s.ents.length:Int),.slice A2 n2 c2,.slice A3 n3 c3]:=((hman8.far (p:=⟨gS,oS+k*7+4,none⟩) hneM _).far (p:=⟨gS,oS+k*7+4+1,none⟩) hneM _).far (p:=⟨gS,oS+k*7+4+2,none⟩) hneM _
   have hrb9:OwnB (((w8.setCell ⟨gS,oS+k*7+4,none⟩ (.int .i64 (s.ents.length:Int))).setCell ⟨gS,oS+k*7+4+1,none⟩ (.slice A2 n2 c2)).setCell ⟨gS,oS+k*7+4+2,none⟩ (.slice A3 n3 c3)) B (.slice A2 n2 c2) (Tr.rootL s.ents):=Own.setCell (p:=⟨gS,oS+k*7+4+2,none⟩) (Own.setCell (p:=⟨gS,oS+k*7+4+1,none⟩) hrta.1 (Own.ne_blk hrt8.1 hcur8 (by decide)) _) (Own.ne_blk hrt8.1 hcur8 (by decide)) _
   have hfar9:∀ b,b≠gS->(((w8.setCell ⟨gS,oS+k*7+4,none⟩ (.int .i64 (s.ents.length:Int))).setCell ⟨gS,oS+k*7+4+1,none⟩ (.slice A2 n2 c2)).setCell ⟨gS,oS+k*7+4+2,none⟩ (.slice A3 n3 c3)).heap[b]? = w7.heap[b]?:=fun b hb=>by rw [Below.heap_setCell _ _ _ b hb,Below.heap_setCell _ _ _ b hb,Below.heap_setCell _ _ _ b hb];exact hfar8 b hb
   have hsz9:(((w8.setCell ⟨gS,oS+k*7+4,none⟩ (.int .i64 (s.ents.length:Int))).setCell ⟨gS,oS+k*7+4+1,none⟩ (.slice A2 n2 c2)).setCell ⟨gS,oS+k*7+4+2,none⟩ (.slice A3 n3 c3)).heap.size=w7.heap.size:=by simpa using hsz8
   have hT9:TagOk (((w8.setCell ⟨gS,oS+k*7+4,none⟩ (.int .i64 (s.ents.length:Int))).setCell ⟨gS,oS+k*7+4+1,none⟩ (.slice A2 n2 c2)).setCell ⟨gS,oS+k*7+4+2,none⟩ (.slice A3 n3 c3)) B tag':=hT7.size (by rw [hsz9];exact Nat.le_refl _)
   have hK9:Kept w (((w8.setCell ⟨gS,oS+k*7+4,none⟩ (.int .i64 (s.ents.length:Int))).setCell ⟨gS,oS+k*7+4+1,none⟩ (.slice A2 n2 c2)).setCell ⟨gS,oS+k*7+4+2,none⟩ (.slice A3 n3 c3)) B tag tag':=((((hK7.trans hK8' hBw).trans hKa hBw).trans hKb hBw).trans hKc hBw)
   clear hPa hPb hPc hKa hKb hKc hK8 hsgb hsg8
   generalize (((w8.setCell ⟨gS,oS+k*7+4,none⟩ (.int .i64 (s.ents.length:Int))).setCell ⟨gS,oS+k*7+4+1,none⟩ (.slice A2 n2 c2)).setCell ⟨gS,oS+k*7+4+2,none⟩ (.slice A3 n3 c3))=w9 at *
   have hB9:B<=w9.heap.size:=by rw [hsz9];exact hB7
   have hd19:w9.cell? ⟨q,o+1,none⟩=some (.int .i64 (k:Int)):=(World.cell?_of_block (hfar9 q hqS)).trans d17
   have hm90:w9.cell? ⟨gM,0,none⟩=some (.int .i64 (s.ents.length:Int)):=hman9.cell 0
   have hm91:w9.cell? ⟨gM,1,none⟩=some (.slice A2 n2 c2):=hman9.cell 1
   have hq9:q<w9.heap.size:=by rw [hsz9];exact hq7
   have hS9:∀ z,Below w9.heap.size w9 z->z.cell? ⟨q,o+1,none⟩=some (.int .i64 (k:Int))/\z.cell? ⟨gM,0,none⟩=some (.int .i64 (s.ents.length:Int))/\z.cell? ⟨gM,1,none⟩=some (.slice A2 n2 c2):=fun z hz=>⟨(hz.cell (p:=⟨q,o+1,none⟩) hq9).trans hd19,(hz.cell (p:=⟨gM,0,none⟩) hman9.lt).trans hm90,(hz.cell (p:=⟨gM,1,none⟩) hman9.lt).trans hm91⟩
   have hnM:gM≠w.heap.size:=Blk.ne hman9 hans9 (by decide)
   go_upto_region 25 with (fail)
   refine wp_region_held_drew (S:=(fun z:World=>z.cell? ⟨q,o+1,none⟩=some (.int .i64 (k:Int))/\z.cell? ⟨gM,0,none⟩=some (.int .i64 (s.ents.length:Int))/\z.cell? ⟨gM,1,none⟩=some (.slice A2 n2 c2))) (by kernel_rfl) ?_ (fun hHeld=>?_)
   · exact hS9 _ ((Below.refl _ _).drew)
   refine step_tk 0 (h:=?_)
   refine step_tk 1 (h:=?_)
   refine step_tk 2 (h:=?_)
   refine step_tk 3 (h:=?_)
   refine step_tk 4 (h:=?_)
   refine step_tk 5 (h:=?_)
   refine step_tk 6 (h:=?_)
   refine step_tk 7 (h:=?_)
   refine step_tk 8 (h:=?_)
   refine step_tk 9 (h:=?_)
   refine step_alone 10 rfl (by kernel_rfl) (by rfl) (fun K hK=>?_)
   go_simp
   refine (clone_any w9.drew _ (.slice A2 n2 c2) (Tr.rootL s.ents) (OwnB.bytes (hrb9.drew)) (by rw [Tr.length_rootL];decide)).mono ?_
   rintro e w10 ⟨v10,rfl,ho10,hx10⟩
   have hx10':Below w9.heap.size w9 w10:=Below.trans ((Below.refl w9.heap.size w9).drew) hx10
   have hans10:=hans9.below hx10' hans9.lt
   have hS10:=hS9 w10 hx10'
   obtain ⟨A10,c10,hv10,_,_⟩:=Own.shape ho10
   subst hv10
   have a100:w10.cell? ⟨w.heap.size,0,none⟩=some (.int .i64 0):=hans10.cell 0
   have f100:=hans10.frozen 0
   have a101:w10.cell? ⟨w.heap.size,1,none⟩=some (.int .i64 0):=hans10.cell 1
   have f101:=hans10.frozen 1
   have a102:w10.cell? ⟨w.heap.size,2,none⟩=some (.int .i64 0):=hans10.cell 2
   have f102:=hans10.frozen 2
   have a103:w10.cell? ⟨w.heap.size,3,none⟩=some (.int .i64 0):=hans10.cell 3
   have f103:=hans10.frozen 3
   have a104:w10.cell? ⟨w.heap.size,4,none⟩=some (.slice none 0 0):=hans10.cell 4
   have f104:=hans10.frozen 4
   go_simp
   refine hK.out _ _ ?_ (fun hHeld=>?_)
   · exact hS10
   clear hK K
   try simp only [Act.put,List.setIfInBounds_toArray,List.set_cons_zero,List.set_cons_succ]
   refine step_tk 11 (h:=?_)
   refine step_tk 12 (h:=?_)
   refine step_alone 13 rfl (by kernel_rfl) (by rfl) (fun K hK=>?_)
   go_simp
   have hW:set5 w10 w.heap.size (.int .i64 0) (.int .i64 (k:Int)) (.int .i64 0) (.int .i64 (s.ents.length:Int)) (.slice A10 (Tr.rootL s.ents).length c10)=(((((w10.setCell ⟨w.heap.size,0,none⟩ (.int .i64 0)).setCell ⟨w.heap.size,1,none⟩ (.int .i64 (k:Int))).setCell ⟨w.heap.size,2,none⟩ (.int .i64 0)).setCell ⟨w.heap.size,3,none⟩ (.int .i64 (s.ents.length:Int))).setCell ⟨w.heap.size,4,none⟩ (.slice A10 (Tr.rootL s.ents).length c10)):=rfl
   rw [<-hW]
   clear hW
   refine hK.out _ _ ?_ (fun hHeld=>?_)
   · exact ⟨(World.cell?_of_block (set5_far hnq)).trans hS10.1,(World.cell?_of_block (set5_far hnM)).trans hS10.2.1,(World.cell?_of_block (set5_far hnM)).trans hS10.2.2⟩
   clear hK K
   try simp only [Act.put,List.setIfInBounds_toArray,List.set_cons_zero,List.set_cons_succ]
   refine wpAnyH_done (by kernel_rfl) ?_ _
   have hxe:Below B w9 (set5 w10 w.heap.size (.int .i64 0) (.int .i64 (k:Int)) (.int .i64 0) (.int .i64 (s.ents.length:Int)) (.slice A10 (Tr.rootL s.ents).length c10)):=set5_below (hx10'.mono hB9) hBw
   have hb5:=set5_blk (a:=.int .i64 0) (b:=.int .i64 (k:Int)) (c:=.int .i64 0) (d:=.int .i64 (s.ents.length:Int)) (e:=.slice A10 (Tr.rootL s.ents).length c10) hans10
   have hF11:=(hF9.below hx10').set5 (a:=.int .i64 0) (b:=.int .i64 (k:Int)) (c:=.int .i64 0) (d:=.int .i64 (s.ents.length:Int)) (e:=.slice A10 (Tr.rootL s.ents).length c10) hans10
   have hT11:TagOk (set5 w10 w.heap.size (.int .i64 0) (.int .i64 (k:Int)) (.int .i64 0) (.int .i64 (s.ents.length:Int)) (.slice A10 (Tr.rootL s.ents).length c10)) B tag':=(hT9.size hx10'.size).size (by rw [set5_size];exact Nat.le_refl _)
   have hK11:Kept w (set5 w10 w.heap.size (.int .i64 0) (.int .i64 (k:Int)) (.int .i64 0) (.int .i64 (s.ents.length:Int)) (.slice A10 (Tr.rootL s.ents).length c10)) B tag tag':=(hK9.trans (Kept.of_below hx10' hB9) hBw).set5 (Nat.le_refl _) hBw
   have hb11:OwnB (set5 w10 w.heap.size (.int .i64 0) (.int .i64 (k:Int)) (.int .i64 0) (.int .i64 (s.ents.length:Int)) (.slice A10 (Tr.rootL s.ents).length c10)) B (.slice A10 (Tr.rootL s.ents).length c10) (Tr.rootL s.ents):=OwnB.mono (Own.set5 ho10 hans10 (by decide)) hB9
   clear hxe
   generalize set5 w10 w.heap.size (.int .i64 0) (.int .i64 (k:Int)) (.int .i64 0) (.int .i64 (s.ents.length:Int)) (.slice A10 (Tr.rootL s.ents).length c10)=W at *
   have s0:W.cell? ⟨w.heap.size,0,none⟩=some (.int .i64 0):=hb5.cell 0
   have s1:W.cell? ⟨w.heap.size,1,none⟩=some (.int .i64 (k:Int)):=hb5.cell 1
   have s2:W.cell? ⟨w.heap.size,2,none⟩=some (.int .i64 0):=hb5.cell 2
   have s3:W.cell? ⟨w.heap.size,3,none⟩=some (.int .i64 (s.ents.length:Int)):=hb5.cell 3
   have s4:W.cell? ⟨w.heap.size,4,none⟩=some (.slice A10 (Tr.rootL s.ents).length c10):=hb5.cell 4
   go_wp2_with fail
   exact bodyPost_ret (v:=.agg #[.int .i64 0,.int .i64 (k:Int),.int .i64 0,.int .i64 (s.ents.length:Int),.slice A10 (Tr.rootL s.ents).length c10]) (by simp [results,Try.results117,go_sem,s0,s1,s2,s3,s4]) rfl (by rw [HS.out];exact ⟨.slice A10 (Tr.rootL s.ents).length c10,tag',rfl,hF11,hT11,hK11,hb11⟩)
 · have hstB:(s.st != 2)=true:=by rw [bne_iff_ne];exact hst
   have HS:Hid (R=(f,Fl.no 7)):=Lib.hid (by rw [HSP.out,if_pos hst])
   clear hst
   have a90:w4.cell? ⟨w.heap.size,0,none⟩=some (.int .i64 0):=hans4.cell 0
   have f90:=hans4.frozen 0
   have a91:w4.cell? ⟨w.heap.size,1,none⟩=some (.int .i64 0):=hans4.cell 1
   have f91:=hans4.frozen 1
   have a92:w4.cell? ⟨w.heap.size,2,none⟩=some (.int .i64 0):=hans4.cell 2
   have f92:=hans4.frozen 2
   have a93:w4.cell? ⟨w.heap.size,3,none⟩=some (.int .i64 0):=hans4.cell 3
   have f93:=hans4.frozen 3
   have a94:w4.cell? ⟨w.heap.size,4,none⟩=some (.slice none 0 0):=hans4.cell 4
   have f94:=hans4.frozen 4
   go_wp2_with fail
   have hW:set5 w4 w.heap.size (.int .i64 7) (.int .i64 0) (.int .i64 0) (.int .i64 0) (.slice none 0 0)=(((((w4.setCell ⟨w.heap.size,0,none⟩ (.int .i64 7)).setCell ⟨w.heap.size,1,none⟩ (.int .i64 0)).setCell ⟨w.heap.size,2,none⟩ (.int .i64 0)).setCell ⟨w.heap.size,3,none⟩ (.int .i64 0)).setCell ⟨w.heap.size,4,none⟩ (.slice none 0 0)):=rfl
   rw [<-hW]
   have hb5:=set5_blk (a:=.int .i64 7) (b:=.int .i64 0) (c:=.int .i64 0) (d:=.int .i64 0) (e:=.slice none 0 0) hans4
   have hxe:Below w.heap.size w (set5 w4 w.heap.size (.int .i64 7) (.int .i64 0) (.int .i64 0) (.int .i64 0) (.slice none 0 0)):=set5_below hxw4 (Nat.le_refl _)
   clear hW
   generalize set5 w4 w.heap.size (.int .i64 7) (.int .i64 0) (.int .i64 0) (.int .i64 0) (.slice none 0 0)=W at *
   have s0:W.cell? ⟨w.heap.size,0,none⟩=some (.int .i64 7):=hb5.cell 0
   have s1:W.cell? ⟨w.heap.size,1,none⟩=some (.int .i64 0):=hb5.cell 1
   have s2:W.cell? ⟨w.heap.size,2,none⟩=some (.int .i64 0):=hb5.cell 2
   have s3:W.cell? ⟨w.heap.size,3,none⟩=some (.int .i64 0):=hb5.cell 3
   have s4:W.cell? ⟨w.heap.size,4,none⟩=some (.slice none 0 0):=hb5.cell 4
   exact bodyPost_ret (v:=.agg #[.int .i64 7,.int .i64 0,.int .i64 0,.int .i64 0,.slice none 0 0]) (by simp [results,Try.results117,go_sem,s0,s1,s2,s3,s4]) rfl (by rw [HS.out];exact StepP.same hF hT hBw hxe rfl rfl)
end Go.Proofs.Ytfdibjgmbdkbcaa
namespace Go.Proofs.Ytfdibjgmbdkbcaa
open Go.RowKit Go.Lib
set_option maxRecDepth 100000 in
set_option maxHeartbeats 4000000 in
theorem do_any (w:World) (B gF q o:Nat) (tag:Tag) (f:Flt) (d:Dob) (hF:FltAt w B gF tag f) (hT:TagOk w B tag) (hI:Fl.Inv f) (hd:DoAt w B q o d) :
 Calls Try.prog 117 #[.pointer (some ⟨gF,0,none⟩),.pointer (some ⟨q,o,none⟩)] w (StepP w B gF tag (Fl.step f d)):=by
 by_cases k2:d.kind=2
 · exact do2_any w B gF q o tag f d hF hT hI hd k2
 by_cases k3:d.kind=3
 · exact do3_any w B gF q o tag f d hF hT hI hd k3
 by_cases k4:d.kind=4
 · exact do4_any w B gF q o tag f d hF hT hI hd k4
 by_cases k5:d.kind=5
 · exact do5_any w B gF q o tag f d hF hT hI hd k5
 have hBw:B<=w.heap.size:=hd.2.1
 have hxw4:=(Below.refl w.heap.size w).alloc (Nat.le_refl _) (.cells #[.int .i64 0,.int .i64 0,.int .i64 0,.int .i64 0,.slice none 0 0] 105)
 have hans4:Blk (w.alloc (.cells #[.int .i64 0,.int .i64 0,.int .i64 0,.int .i64 0,.slice none 0 0] 105)) w.heap.size 105 #[.int .i64 0,.int .i64 0,.int .i64 0,.int .i64 0,.slice none 0 0]:=heap_alloc_new w _
 have hd1:=hd.below (hxw4.mono hBw)
 have hF1:=hF.below hxw4
 obtain ⟨R,HR⟩:∃ R,Hid (R=Fl.step f d):=⟨_,Lib.hid rfl⟩
 rw [<-HR.out]
 obtain ⟨hq0,hB0,d0,_⟩:=id hd1
 by_cases k1:d.kind=1
 · have HS:Hid (R=Fl.submit f d):=Lib.hid (by rw [HR.out];unfold Fl.step;rw [if_pos k1])
   rw [k1] at d0
   clear k1 k2 k3 k4 k5
   go_enter Try.func117,Try.ntmps117
   go_upto_region 1 with (fail)
   generalize (w.alloc (.cells #[.int .i64 0,.int .i64 0,.int .i64 0,.int .i64 0,.slice none 0 0] 105))=w4 at *
   have HC:=Lib.hid (submit_any w4 B gF q o tag f d hF1 (hT.size hxw4.size) hI hd1)
   rw [<-HS.out] at HC
   go_wp2_with fail
   with_reducible refine HC.out.mono ?_
   rintro e w6 hst6
   obtain ⟨A6,c6,rfl,hans6,hst⟩:=hst6.up hT hBw hxw4 hans4
   clear hst6 HC
   generalize (R.2.err:Int)=v0 at *
   generalize R.2.sh=v1 at *
   generalize R.2.pl=v2 at *
   generalize R.2.sz=v3 at *
   generalize R.2.root.length=v4 at *
   have a90:w6.cell? ⟨w.heap.size,0,none⟩=some (.int .i64 0):=hans6.cell 0
   have f90:=hans6.frozen 0
   have a91:w6.cell? ⟨w.heap.size,1,none⟩=some (.int .i64 0):=hans6.cell 1
   have f91:=hans6.frozen 1
   have a92:w6.cell? ⟨w.heap.size,2,none⟩=some (.int .i64 0):=hans6.cell 2
   have f92:=hans6.frozen 2
   have a93:w6.cell? ⟨w.heap.size,3,none⟩=some (.int .i64 0):=hans6.cell 3
   have f93:=hans6.frozen 3
   have a94:w6.cell? ⟨w.heap.size,4,none⟩=some (.slice none 0 0):=hans6.cell 4
   have f94:=hans6.frozen 4
   go_wp2_with fail
   have hW:set5 w6 w.heap.size (.int .i64 v0) (.int .i64 v1) (.int .i64 v2) (.int .i64 v3) (.slice A6 v4 c6)=(((((w6.setCell ⟨w.heap.size,0,none⟩ (.int .i64 v0)).setCell ⟨w.heap.size,1,none⟩ (.int .i64 v1)).setCell ⟨w.heap.size,2,none⟩ (.int .i64 v2)).setCell ⟨w.heap.size,3,none⟩ (.int .i64 v3)).setCell ⟨w.heap.size,4,none⟩ (.slice A6 v4 c6)):=rfl
   rw [<-hW]
   have hb5:=set5_blk (a:=.int .i64 v0) (b:=.int .i64 v1) (c:=.int .i64 v2) (d:=.int .i64 v3) (e:=.slice A6 v4 c6) hans6
   clear hW
   generalize set5 w6 w.heap.size (.int .i64 v0) (.int .i64 v1) (.int .i64 v2) (.int .i64 v3) (.slice A6 v4 c6)=W at *
   have s0:W.cell? ⟨w.heap.size,0,none⟩=some (.int .i64 v0):=hb5.cell 0
   have s1:W.cell? ⟨w.heap.size,1,none⟩=some (.int .i64 v1):=hb5.cell 1
   have s2:W.cell? ⟨w.heap.size,2,none⟩=some (.int .i64 v2):=hb5.cell 2
   have s3:W.cell? ⟨w.heap.size,3,none⟩=some (.int .i64 v3):=hb5.cell 3
   have s4:W.cell? ⟨w.heap.size,4,none⟩=some (.slice A6 v4 c6):=hb5.cell 4
   exact bodyPost_ret (v:=.agg #[.int .i64 v0,.int .i64 v1,.int .i64 v2,.int .i64 v3,.slice A6 v4 c6]) (by simp [results,Try.results117,go_sem,s0,s1,s2,s3,s4]) rfl (hst)
 · have HS:Hid (R=(f,Fl.no 1)):=Lib.hid (by rw [HR.out];unfold Fl.step;rw [if_neg k1,if_pos (by omega)])
   have b1:(d.kind==1)=false:=by rw [beq_eq_false_iff_ne];exact k1
   have b2:(d.kind==2)=false:=by rw [beq_eq_false_iff_ne];exact k2
   have b3:(d.kind==3)=false:=by rw [beq_eq_false_iff_ne];exact k3
   have b4:(d.kind==4)=false:=by rw [beq_eq_false_iff_ne];exact k4
   have b5:(d.kind==5)=false:=by rw [beq_eq_false_iff_ne];exact k5
   clear k1 k2 k3 k4 k5
   go_enter Try.func117,Try.ntmps117
   go_upto_region 1 with (fail)
   generalize (w.alloc (.cells #[.int .i64 0,.int .i64 0,.int .i64 0,.int .i64 0,.slice none 0 0] 105))=w4 at *
   have a90:w4.cell? ⟨w.heap.size,0,none⟩=some (.int .i64 0):=hans4.cell 0
   have f90:=hans4.frozen 0
   have a91:w4.cell? ⟨w.heap.size,1,none⟩=some (.int .i64 0):=hans4.cell 1
   have f91:=hans4.frozen 1
   have a92:w4.cell? ⟨w.heap.size,2,none⟩=some (.int .i64 0):=hans4.cell 2
   have f92:=hans4.frozen 2
   have a93:w4.cell? ⟨w.heap.size,3,none⟩=some (.int .i64 0):=hans4.cell 3
   have f93:=hans4.frozen 3
   have a94:w4.cell? ⟨w.heap.size,4,none⟩=some (.slice none 0 0):=hans4.cell 4
   have f94:=hans4.frozen 4
   go_wp2_with fail
   have hW:set5 w4 w.heap.size (.int .i64 1) (.int .i64 0) (.int .i64 0) (.int .i64 0) (.slice none 0 0)=(((((w4.setCell ⟨w.heap.size,0,none⟩ (.int .i64 1)).setCell ⟨w.heap.size,1,none⟩ (.int .i64 0)).setCell ⟨w.heap.size,2,none⟩ (.int .i64 0)).setCell ⟨w.heap.size,3,none⟩ (.int .i64 0)).setCell ⟨w.heap.size,4,none⟩ (.slice none 0 0)):=rfl
   rw [<-hW]
   have hb5:=set5_blk (a:=.int .i64 1) (b:=.int .i64 0) (c:=.int .i64 0) (d:=.int .i64 0) (e:=.slice none 0 0) hans4
   have hxe:Below w.heap.size w (set5 w4 w.heap.size (.int .i64 1) (.int .i64 0) (.int .i64 0) (.int .i64 0) (.slice none 0 0)):=set5_below hxw4 (Nat.le_refl _)
   clear hW
   generalize set5 w4 w.heap.size (.int .i64 1) (.int .i64 0) (.int .i64 0) (.int .i64 0) (.slice none 0 0)=W at *
   have s0:W.cell? ⟨w.heap.size,0,none⟩=some (.int .i64 1):=hb5.cell 0
   have s1:W.cell? ⟨w.heap.size,1,none⟩=some (.int .i64 0):=hb5.cell 1
   have s2:W.cell? ⟨w.heap.size,2,none⟩=some (.int .i64 0):=hb5.cell 2
   have s3:W.cell? ⟨w.heap.size,3,none⟩=some (.int .i64 0):=hb5.cell 3
   have s4:W.cell? ⟨w.heap.size,4,none⟩=some (.slice none 0 0):=hb5.cell 4
   exact bodyPost_ret (v:=.agg #[.int .i64 1,.int .i64 0,.int .i64 0,.int .i64 0,.slice none 0 0]) (by simp [results,Try.results117,go_sem,s0,s1,s2,s3,s4]) rfl (by rw [HS.out];exact StepP.same hF hT hBw hxe rfl rfl)
end Go.Proofs.Ytfdibjgmbdkbcaa
