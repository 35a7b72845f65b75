/-
  THE WALK of what is done to a fleet: all but a submit. Conditions: a fleet of which all holds; what is done is read.
-/
import Derived.Test.YtfdibjgmbdkbcaaYGi
import Derived.Test.YtfdibjgmbdkbcaaYGr
import Derived.Test.YtfdibjgmbdkbcaaYFX
import Derived.Test.YtfdibjgmbdkbcaaYFleetF
namespace Go.Proofs.Ytfdibjgmbdkbcaa
open Go.RowKit Go.Lib
theorem StepP.up {w w5 w6:World} {B gF:Nat} {tag:Tag} {r:Flt × Ans} {e:Ending} (hT:TagOk w B tag) (hBw:B<=w.heap.size) (hx:Below w.heap.size w w5) (hans:Blk w5 w.heap.size 105 #[.int .i64 0,.int .i64 0,.int .i64 0,.int .i64 0,.slice none 0 0]) (h:StepP w5 B gF tag r e w6) :
 ∃ A c,e = .returned (.agg #[.int .i64 (r.2.err:Int),.int .i64 r.2.sh,.int .i64 r.2.pl,.int .i64 r.2.sz,.slice A r.2.root.length c])/\Blk w6 w.heap.size 105 #[.int .i64 0,.int .i64 0,.int .i64 0,.int .i64 0,.slice none 0 0] ∧
  StepP w B gF tag r e (set5 w6 w.heap.size (.int .i64 (r.2.err:Int)) (.int .i64 r.2.sh) (.int .i64 r.2.pl) (.int .i64 r.2.sz) (.slice A r.2.root.length c)):=by
 obtain ⟨rv,tag',rfl,h1,h2,h3,h4⟩:=h
 obtain ⟨A,c,rfl,_,_⟩:=Own.shape h4
 have ht:=hT.2 w.heap.size (Nat.le_refl _)
 have hans6:=h3.2.2 _ _ _ hans ans_alien.1 ht
 exact ⟨A,c,rfl,hans6,_,tag',rfl,h1.set5 hans6,h2.size (by rw [set5_size];exact Nat.le_refl _),((Kept.of_below hx hBw).trans h3 hBw).set5 (Nat.le_refl _) hBw,Own.set5 h4 hans6 (by decide)⟩
set_option maxRecDepth 100000 in
set_option maxHeartbeats 4000000 in
theorem do2_any (w:World) (B gF q o:Nat) (tag:Tag) (f:Flt) (d:Dob) (hF:FltAt w B gF tag f) (hT:TagOk w B tag) (hI:Fl.Inv f) (hd:DoAt w B q o d) (hk:d.kind=2) :
 Calls Try.prog 117 #[.pointer (some ⟨gF,0,none⟩),.pointer (some ⟨q,o,none⟩)] w (StepP w B gF tag (Fl.step f d)):=by
 have hBw:B<=w.heap.size:=hd.2.1
 have hxw1:=(Below.refl w.heap.size w).alloc (Nat.le_refl _) (.cells #[.int .i64 0,.int .i64 0,.int .i64 0,.int .i64 0,.slice none 0 0] 105)
 have hans1:Blk (w.alloc (.cells #[.int .i64 0,.int .i64 0,.int .i64 0,.int .i64 0,.slice none 0 0] 105)) w.heap.size 105 #[.int .i64 0,.int .i64 0,.int .i64 0,.int .i64 0,.slice none 0 0]:=heap_alloc_new w _
 obtain ⟨R,HR⟩:∃ R,Hid (R=Fl.step f d):=⟨_,Lib.hid rfl⟩
 rw [<-HR.out]
 have HSTEP:Hid (R=if d.n<0\/(f.sh.length:Int)<=d.n then (f,Fl.no 6) else match f.sh[d.n.toNat]? with
  | none=>(f,Fl.no 6)
  | some s=>if s.st≠1 then (f,Fl.no 7) else Fl.freeze f d.n.toNat s):=Lib.hid (by rw [HR.out];unfold Fl.step;rw [hk];rfl)
 have hlen8:=hI.len
 obtain ⟨vs,vb,us,ws,hP⟩:=hF.parts
 have hP1:=hP.below hxw1
 have hd1:=hd.below (hxw1.mono hBw)
 have HK:=Lib.hid hk
 obtain ⟨hq0,hB0,d0,d1,d2,⟨Ae,ce,d3,hde⟩,d4,d5,d6⟩:=id hd1
 rw [hk] at d0
 clear hk
 obtain ⟨Av,cv,hvs,hncv,hcvm⟩:=Own.shape hP1.2.2.2.1
 unfold maxLen at hcvm
 subst hvs
 have hvsz:(f.sh.length:Int)<=8:=by omega
 go_enter Try.func117,Try.ntmps117
 go_upto_region 1 with (fail)
 generalize (w.alloc (.cells #[.int .i64 0,.int .i64 0,.int .i64 0,.int .i64 0,.slice none 0 0] 105))=w1 at *
 have g0:w1.cell? ⟨gF,0,none⟩=some (.slice Av f.sh.length cv):=hP1.2.1.cell 0
 go_upto_region 9 with (fail)
 by_cases hneg:d.n<0
 · have hnegB:decide (d.n<0)=true:=decide_eq_true hneg
   have HS:Hid (R=(f,Fl.no 6)):=Lib.hid (by rw [HSTEP.out,if_pos (.inl hneg)])
   go_quiet (fail)
   go_upto_region 10 with (fail)
   have hx2:=below_drewN (Below.refl w1.heap.size w1) nq
   generalize w1.drewN nq=w2 at *
   have hP2:=hP1.below hx2
   have hans2:=hans1.below hx2 hans1.lt
   have hd2:=hd1.below (hx2.mono (Nat.le_trans hBw hxw1.size))
   have hxw2:=hxw1.trans (hx2.mono hxw1.size)
   obtain ⟨hq0,hB0,d0,d1,d2,⟨Ae,ce,d3,hde⟩,d4,d5,d6⟩:=id hd2
   rw [HK.out] at d0
   have a90:w2.cell? ⟨w.heap.size,0,none⟩=some (.int .i64 0):=hans2.cell 0
   have f90:=hans2.frozen 0
   have a91:w2.cell? ⟨w.heap.size,1,none⟩=some (.int .i64 0):=hans2.cell 1
   have f91:=hans2.frozen 1
   have a92:w2.cell? ⟨w.heap.size,2,none⟩=some (.int .i64 0):=hans2.cell 2
   have f92:=hans2.frozen 2
   have a93:w2.cell? ⟨w.heap.size,3,none⟩=some (.int .i64 0):=hans2.cell 3
   have f93:=hans2.frozen 3
   have a94:w2.cell? ⟨w.heap.size,4,none⟩=some (.slice none 0 0):=hans2.cell 4
   have f94:=hans2.frozen 4
   go_wp2_with fail
   have hW:set5 w2 w.heap.size (.int .i64 6) (.int .i64 0) (.int .i64 0) (.int .i64 0) (.slice none 0 0)=(((((w2.setCell ⟨w.heap.size,0,none⟩ (.int .i64 6)).setCell ⟨w.heap.size,1,none⟩ (.int .i64 0)).setCell ⟨w.heap.size,2,none⟩ (.int .i64 0)).setCell ⟨w.heap.size,3,none⟩ (.int .i64 0)).setCell ⟨w.heap.size,4,none⟩ (.slice none 0 0)):=rfl
   rw [<-hW]
   have hb5:=set5_blk (a:=.int .i64 6) (b:=.int .i64 0) (c:=.int .i64 0) (d:=.int .i64 0) (e:=.slice none 0 0) hans2
   have hxe:Below w.heap.size w (set5 w2 w.heap.size (.int .i64 6) (.int .i64 0) (.int .i64 0) (.int .i64 0) (.slice none 0 0)):=set5_below hxw2 (Nat.le_refl _)
   clear hW
   generalize set5 w2 w.heap.size (.int .i64 6) (.int .i64 0) (.int .i64 0) (.int .i64 0) (.slice none 0 0)=W at *
   have s0:W.cell? ⟨w.heap.size,0,none⟩=some (.int .i64 6):=hb5.cell 0
   have s1:W.cell? ⟨w.heap.size,1,none⟩=some (.int .i64 0):=hb5.cell 1
   have s2:W.cell? ⟨w.heap.size,2,none⟩=some (.int .i64 0):=hb5.cell 2
   have s3:W.cell? ⟨w.heap.size,3,none⟩=some (.int .i64 0):=hb5.cell 3
   have s4:W.cell? ⟨w.heap.size,4,none⟩=some (.slice none 0 0):=hb5.cell 4
   exact bodyPost_ret (v:=.agg #[.int .i64 6,.int .i64 0,.int .i64 0,.int .i64 0,.slice none 0 0]) (by simp [results,Try.results117,go_sem,s0,s1,s2,s3,s4]) rfl (by rw [HS.out];exact StepP.same hF hT hBw hxe rfl rfl)
 have hnegB:decide (d.n<0)=false:=decide_eq_false hneg
 by_cases hge:(f.sh.length:Int)<=d.n
 · have hgeB:decide ((f.sh.length:Int)<=d.n)=true:=decide_eq_true hge
   have HS:Hid (R=(f,Fl.no 6)):=Lib.hid (by rw [HSTEP.out,if_pos (.inr hge)])
   go_quiet (fail)
   go_upto_region 10 with (fail)
   have hx2:=below_drewN (Below.refl w1.heap.size w1) nq
   generalize w1.drewN nq=w2 at *
   have hP2:=hP1.below hx2
   have hans2:=hans1.below hx2 hans1.lt
   have hd2:=hd1.below (hx2.mono (Nat.le_trans hBw hxw1.size))
   have hxw2:=hxw1.trans (hx2.mono hxw1.size)
   obtain ⟨hq0,hB0,d0,d1,d2,⟨Ae,ce,d3,hde⟩,d4,d5,d6⟩:=id hd2
   rw [HK.out] at d0
   have a90:w2.cell? ⟨w.heap.size,0,none⟩=some (.int .i64 0):=hans2.cell 0
   have f90:=hans2.frozen 0
   have a91:w2.cell? ⟨w.heap.size,1,none⟩=some (.int .i64 0):=hans2.cell 1
   have f91:=hans2.frozen 1
   have a92:w2.cell? ⟨w.heap.size,2,none⟩=some (.int .i64 0):=hans2.cell 2
   have f92:=hans2.frozen 2
   have a93:w2.cell? ⟨w.heap.size,3,none⟩=some (.int .i64 0):=hans2.cell 3
   have f93:=hans2.frozen 3
   have a94:w2.cell? ⟨w.heap.size,4,none⟩=some (.slice none 0 0):=hans2.cell 4
   have f94:=hans2.frozen 4
   go_wp2_with fail
   have hW:set5 w2 w.heap.size (.int .i64 6) (.int .i64 0) (.int .i64 0) (.int .i64 0) (.slice none 0 0)=(((((w2.setCell ⟨w.heap.size,0,none⟩ (.int .i64 6)).setCell ⟨w.heap.size,1,none⟩ (.int .i64 0)).setCell ⟨w.heap.size,2,none⟩ (.int .i64 0)).setCell ⟨w.heap.size,3,none⟩ (.int .i64 0)).setCell ⟨w.heap.size,4,none⟩ (.slice none 0 0)):=rfl
   rw [<-hW]
   have hb5:=set5_blk (a:=.int .i64 6) (b:=.int .i64 0) (c:=.int .i64 0) (d:=.int .i64 0) (e:=.slice none 0 0) hans2
   have hxe:Below w.heap.size w (set5 w2 w.heap.size (.int .i64 6) (.int .i64 0) (.int .i64 0) (.int .i64 0) (.slice none 0 0)):=set5_below hxw2 (Nat.le_refl _)
   clear hW
   generalize set5 w2 w.heap.size (.int .i64 6) (.int .i64 0) (.int .i64 0) (.int .i64 0) (.slice none 0 0)=W at *
   have s0:W.cell? ⟨w.heap.size,0,none⟩=some (.int .i64 6):=hb5.cell 0
   have s1:W.cell? ⟨w.heap.size,1,none⟩=some (.int .i64 0):=hb5.cell 1
   have s2:W.cell? ⟨w.heap.size,2,none⟩=some (.int .i64 0):=hb5.cell 2
   have s3:W.cell? ⟨w.heap.size,3,none⟩=some (.int .i64 0):=hb5.cell 3
   have s4:W.cell? ⟨w.heap.size,4,none⟩=some (.slice none 0 0):=hb5.cell 4
   exact bodyPost_ret (v:=.agg #[.int .i64 6,.int .i64 0,.int .i64 0,.int .i64 0,.slice none 0 0]) (by simp [results,Try.results117,go_sem,s0,s1,s2,s3,s4]) rfl (by rw [HS.out];exact StepP.same hF hT hBw hxe rfl rfl)
 have hgeB:decide ((f.sh.length:Int)<=d.n)=false:=decide_eq_false hge
 obtain ⟨k,hkn⟩:∃ k:Nat,d.n=(k:Int):=⟨d.n.toNat,by omega⟩
 have hkk:d.n.toNat=k:=by omega
 have hltk:k<f.sh.length:=by omega
 obtain ⟨s,hs⟩:∃ s,f.sh[k]? = some s:=⟨_,List.getElem?_eq_getElem hltk⟩
 have HSP:Hid (R=if s.st≠1 then (f,Fl.no 7) else Fl.freeze f k s):=Lib.hid (by rw [HSTEP.out,if_neg (by omega),hkk,hs])
 go_quiet (fail)
 go_upto_region 11 with (fail)
 have hx2:=below_drewN (Below.refl w1.heap.size w1) nq
 generalize w1.drewN nq=w2 at *
 have hP2:=hP1.below hx2
 have hans2:=hans1.below hx2 hans1.lt
 have hd2:=hd1.below (hx2.mono (Nat.le_trans hBw hxw1.size))
 have hxw2:=hxw1.trans (hx2.mono hxw1.size)
 obtain ⟨hq0,hB0,d0,d1,d2,⟨Ae,ce,d3,hde⟩,d4,d5,d6⟩:=id hd2
 rw [HK.out] at d0
 rw [hkn] at d1
 have HKN:=Lib.hid hkn
 clear hkn hnegB hgeB hneg hge hkk
 obtain ⟨gS,oS,cS,u,hvs,hu,hgSB,hgSlt,_,_,_,⟨curS,hcurS⟩,_,_⟩:=hP2.row hs
 injection hvs with hvs _ hvc
 subst hvs hvc
 have hkB:(k:Int)<(f.sh.length:Int):=by omega
 have hk0:(0:Int)<=(k:Int):=by omega
 have g02:w2.cell? ⟨gF,0,none⟩=some (.slice (some ⟨gS,oS,none⟩) f.sh.length cv):=hP2.2.1.cell 0
 go_quiet (fail)
 go_upto_region 12 with (fail)
 have hx3:=below_drewN (Below.refl w2.heap.size w2) nq
 generalize w2.drewN nq=w3 at *
 have hP3:=hP2.below hx3
 have hans3:=hans2.below hx3 hans2.lt
 have hd3:=hd2.below (hx3.mono (Nat.le_trans hBw hxw2.size))
 have hxw3:=hxw2.trans (hx3.mono hxw2.size)
 obtain ⟨hq0,hB0,d0,d1,d2,⟨Ae,ce,d3,hde⟩,d4,d5,d6⟩:=id hd3
 rw [HK.out] at d0
 have hq3:q<w3.heap.size:=by have:=hxw3.size;omega
 have hgS3:=hP3.blk.2.1
 have p2:w3.cell? ⟨gS,oS+k*7+2,none⟩=some (.int .i64 s.st):=hP3.cells hs hu (i:=2) rfl
 have hSm:∀ z,Below w3.heap.size w3 z->z.cell? ⟨gS,oS+k*7+2,none⟩=some (.int .i64 s.st)/\z.cell? ⟨q,o,none⟩=some (.int .i64 2):=fun z hz=>⟨(hz.cell (p:=⟨gS,oS+k*7+2,none⟩) hgS3).trans p2,(hz.cell (p:=⟨q,o,none⟩) hq3).trans d0⟩
 refine wp_region_held_drew (S:=(fun z:World=>z.cell? ⟨gS,oS+k*7+2,none⟩=some (.int .i64 s.st)/\z.cell? ⟨q,o,none⟩=some (.int .i64 2))) (by kernel_rfl) ?_ (fun hHeld=>?_)
 · exact ⟨p2,d0⟩
 refine step_tk 0 (h:=?_)
 refine step_tk 1 (h:=?_)
 refine step_tk 2 (h:=?_)
 refine step_tk 3 (h:=?_)
 refine step_tk 10 (h:=?_)
 refine step_tk 11 (h:=?_)
 refine step_tk 12 (h:=?_)
 refine step_tk 13 (h:=?_)
 refine step_alone 4 rfl (by kernel_rfl) (by rfl) (fun K hK=>?_)
 go_simp
 refine hK.out _ _ ?_ (fun hHeld=>?_)
 · exact hSm _ ((Below.refl _ w3).alloc (Nat.le_refl _) _).drew
 clear hK K
 try simp only [Act.put,List.setIfInBounds_toArray,List.set_cons_zero,List.set_cons_succ]
 refine step_four (fuel:=3) 5 6 7 8 (fun a b c e=>#[true,true,true,true,true,a,b,c,e,false,true,true,true,true,false,false]) (fun a b c e z=>MapT w3.drew w3.heap.size a b c e z) rfl rfl rfl rfl (fun _ _ _=>rfl) (fun _ _ _=>rfl) (fun _ _ _=>rfl) (fun _ _ _=>rfl) (by intro a b c e h;cases a<;>cases b<;>cases c<;>cases e<;>first | exact absurd h (by decide) | kernel_rfl) (by rfl) (by rfl) (by rfl) (by rfl) (fun b c e z K hT hK=>ins_wp (.tmp 56) 2 1 (by rfl) (by rfl) (by rfl) (by decide) (by decide) hT.1 (by unfold maxLen;cases b<;>cases c<;>cases e<;>decide) (put_a b c e) hT.2 (fun z' h1 h2=>hK z' ⟨h1.mono (by cases b<;>cases c<;>cases e<;>decide),h2⟩)) (fun a c e z K hT hK=>ins_wp (.tmp 56) 3 2 (by rfl) (by rfl) (by rfl) (by decide) (by decide) hT.1 (by unfold maxLen;cases a<;>cases c<;>cases e<;>decide) (put_b a c e) hT.2 (fun z' h1 h2=>hK z' ⟨h1.mono (by cases a<;>cases c<;>cases e<;>decide),h2⟩)) (fun a b e z K hT hK=>ins_wp (.tmp 56) 4 3 (by rfl) (by rfl) (by rfl) (by decide) (by decide) hT.1 (by unfold maxLen;cases a<;>cases b<;>cases e<;>decide) (put_c a b e) hT.2 (fun z' h1 h2=>hK z' ⟨h1.mono (by cases a<;>cases b<;>cases e<;>decide),h2⟩)) (fun a b c z K hT hK=>ins_wp (.tmp 56) 5 3 (by rfl) (by rfl) (by rfl) (by decide) (by decide) hT.1 (by unfold maxLen;cases a<;>cases b<;>cases c<;>decide) (put_d a b c) hT.2 (fun z' h1 h2=>hK z' ⟨h1.mono (by cases a<;>cases b<;>cases c<;>decide),h2⟩)) (fun _ _ _ _ z hz=>hSm z (Below.trans ((Below.refl _ w3).drew) hz.2)) (MapT.made w3.drew) ?_
 intro w4 hT4
 have hS4:=hSm w4 (Below.trans ((Below.refl _ w3).drew) hT4.2)
 refine step_tk 9 (h:=?_)
 refine step_alone 14 rfl (by kernel_rfl) (by rfl) (fun K hK=>?_)
 refine look_wp (.tmp 57) (.tmp 61) 2 1 (by rfl) (by rfl) (by rfl) (by decide) hT4.1 (by rfl) ?_
 refine hK.out _ _ ?_ (fun hHeld=>?_)
 · exact hS4
 clear hK K
 try simp only [Act.put,List.setIfInBounds_toArray,List.set_cons_zero,List.set_cons_succ]
 refine step_tk 15 (h:=?_)
 refine wpAnyH_done (by kernel_rfl) ?_ _
 have hx4:Below w3.heap.size w3 w4:=Below.trans ((Below.refl w3.heap.size w3).drew) hT4.2
 clear hT4
 have hP4:=hP3.below hx4
 have hans4:=hans3.below hx4 hans3.lt
 have hd4:=hd3.below (hx4.mono (Nat.le_trans hBw hxw3.size))
 have hxw4:=hxw3.trans (hx4.mono hxw3.size)
 obtain ⟨hq0,hB0,d0,d1,d2,⟨Ae,ce,d3,hde⟩,d4,d5,d6⟩:=id hd4
 rw [HK.out] at d0
 rw [HKN.out] at d1
 by_cases hst:s.st=1
 · have hstB:(s.st != 1)=false:=by rw [bne_eq_false_iff_eq];exact hst
   have HS:Hid (R=Fl.freeze f k s):=Lib.hid (by rw [HSP.out,if_neg (by rw [hst];simp)])
   have HST:=Lib.hid hst
   clear hst
   have HC:=Lib.hid (freeze_any w4 B gF k tag f s hP4.at_ (hT.size hxw4.size) hI (Nat.le_trans hBw hxw4.size) hs)
   rw [<-HS.out] at HC
   go_wp2_with fail
   with_reducible refine HC.out.mono ?_
   rintro e w6 hst6
   obtain ⟨A6,c6,rfl,hans6,hst⟩:=hst6.up hT hBw hxw4 hans4
   clear hst6 HC
   generalize (R.2.err:Int)=v0 at *
   generalize R.2.sh=v1 at *
   generalize R.2.pl=v2 at *
   generalize R.2.sz=v3 at *
   generalize R.2.root.length=v4 at *
   have a90:w6.cell? ⟨w.heap.size,0,none⟩=some (.int .i64 0):=hans6.cell 0
   have f90:=hans6.frozen 0
   have a91:w6.cell? ⟨w.heap.size,1,none⟩=some (.int .i64 0):=hans6.cell 1
   have f91:=hans6.frozen 1
   have a92:w6.cell? ⟨w.heap.size,2,none⟩=some (.int .i64 0):=hans6.cell 2
   have f92:=hans6.frozen 2
   have a93:w6.cell? ⟨w.heap.size,3,none⟩=some (.int .i64 0):=hans6.cell 3
   have f93:=hans6.frozen 3
   have a94:w6.cell? ⟨w.heap.size,4,none⟩=some (.slice none 0 0):=hans6.cell 4
   have f94:=hans6.frozen 4
   go_wp2_with fail
   have hW:set5 w6 w.heap.size (.int .i64 v0) (.int .i64 v1) (.int .i64 v2) (.int .i64 v3) (.slice A6 v4 c6)=(((((w6.setCell ⟨w.heap.size,0,none⟩ (.int .i64 v0)).setCell ⟨w.heap.size,1,none⟩ (.int .i64 v1)).setCell ⟨w.heap.size,2,none⟩ (.int .i64 v2)).setCell ⟨w.heap.size,3,none⟩ (.int .i64 v3)).setCell ⟨w.heap.size,4,none⟩ (.slice A6 v4 c6)):=rfl
   rw [<-hW]
   have hb5:=set5_blk (a:=.int .i64 v0) (b:=.int .i64 v1) (c:=.int .i64 v2) (d:=.int .i64 v3) (e:=.slice A6 v4 c6) hans6
   clear hW
   generalize set5 w6 w.heap.size (.int .i64 v0) (.int .i64 v1) (.int .i64 v2) (.int .i64 v3) (.slice A6 v4 c6)=W at *
   have s0:W.cell? ⟨w.heap.size,0,none⟩=some (.int .i64 v0):=hb5.cell 0
   have s1:W.cell? ⟨w.heap.size,1,none⟩=some (.int .i64 v1):=hb5.cell 1
   have s2:W.cell? ⟨w.heap.size,2,none⟩=some (.int .i64 v2):=hb5.cell 2
   have s3:W.cell? ⟨w.heap.size,3,none⟩=some (.int .i64 v3):=hb5.cell 3
   have s4:W.cell? ⟨w.heap.size,4,none⟩=some (.slice A6 v4 c6):=hb5.cell 4
   exact bodyPost_ret (v:=.agg #[.int .i64 v0,.int .i64 v1,.int .i64 v2,.int .i64 v3,.slice A6 v4 c6]) (by simp [results,Try.results117,go_sem,s0,s1,s2,s3,s4]) rfl (hst)
 · have hstB:(s.st != 1)=true:=by rw [bne_iff_ne];exact hst
   have HS:Hid (R=(f,Fl.no 7)):=Lib.hid (by rw [HSP.out,if_pos hst])
   clear hst
   have a90:w4.cell? ⟨w.heap.size,0,none⟩=some (.int .i64 0):=hans4.cell 0
   have f90:=hans4.frozen 0
   have a91:w4.cell? ⟨w.heap.size,1,none⟩=some (.int .i64 0):=hans4.cell 1
   have f91:=hans4.frozen 1
   have a92:w4.cell? ⟨w.heap.size,2,none⟩=some (.int .i64 0):=hans4.cell 2
   have f92:=hans4.frozen 2
   have a93:w4.cell? ⟨w.heap.size,3,none⟩=some (.int .i64 0):=hans4.cell 3
   have f93:=hans4.frozen 3
   have a94:w4.cell? ⟨w.heap.size,4,none⟩=some (.slice none 0 0):=hans4.cell 4
   have f94:=hans4.frozen 4
   go_wp2_with fail
   have hW:set5 w4 w.heap.size (.int .i64 7) (.int .i64 0) (.int .i64 0) (.int .i64 0) (.slice none 0 0)=(((((w4.setCell ⟨w.heap.size,0,none⟩ (.int .i64 7)).setCell ⟨w.heap.size,1,none⟩ (.int .i64 0)).setCell ⟨w.heap.size,2,none⟩ (.int .i64 0)).setCell ⟨w.heap.size,3,none⟩ (.int .i64 0)).setCell ⟨w.heap.size,4,none⟩ (.slice none 0 0)):=rfl
   rw [<-hW]
   have hb5:=set5_blk (a:=.int .i64 7) (b:=.int .i64 0) (c:=.int .i64 0) (d:=.int .i64 0) (e:=.slice none 0 0) hans4
   have hxe:Below w.heap.size w (set5 w4 w.heap.size (.int .i64 7) (.int .i64 0) (.int .i64 0) (.int .i64 0) (.slice none 0 0)):=set5_below hxw4 (Nat.le_refl _)
   clear hW
   generalize set5 w4 w.heap.size (.int .i64 7) (.int .i64 0) (.int .i64 0) (.int .i64 0) (.slice none 0 0)=W at *
   have s0:W.cell? ⟨w.heap.size,0,none⟩=some (.int .i64 7):=hb5.cell 0
   have s1:W.cell? ⟨w.heap.size,1,none⟩=some (.int .i64 0):=hb5.cell 1
   have s2:W.cell? ⟨w.heap.size,2,none⟩=some (.int .i64 0):=hb5.cell 2
   have s3:W.cell? ⟨w.heap.size,3,none⟩=some (.int .i64 0):=hb5.cell 3
   have s4:W.cell? ⟨w.heap.size,4,none⟩=some (.slice none 0 0):=hb5.cell 4
   exact bodyPost_ret (v:=.agg #[.int .i64 7,.int .i64 0,.int .i64 0,.int .i64 0,.slice none 0 0]) (by simp [results,Try.results117,go_sem,s0,s1,s2,s3,s4]) rfl (by rw [HS.out];exact StepP.same hF hT hBw hxe rfl rfl)
set_option maxRecDepth 100000 in
set_option maxHeartbeats 4000000 in
theorem do4_any (w:World) (B gF q o:Nat) (tag:Tag) (f:Flt) (d:Dob) (hF:FltAt w B gF tag f) (hT:TagOk w B tag) (hI:Fl.Inv f) (hd:DoAt w B q o d) (hk:d.kind=4) :
 Calls Try.prog 117 #[.pointer (some ⟨gF,0,none⟩),.pointer (some ⟨q,o,none⟩)] w (StepP w B gF tag (Fl.step f d)):=by
 have hBw:B<=w.heap.size:=hd.2.1
 have hxw1:=(Below.refl w.heap.size w).alloc (Nat.le_refl _) (.cells #[.int .i64 0,.int .i64 0,.int .i64 0,.int .i64 0,.slice none 0 0] 105)
 have hans1:Blk (w.alloc (.cells #[.int .i64 0,.int .i64 0,.int .i64 0,.int .i64 0,.slice none 0 0] 105)) w.heap.size 105 #[.int .i64 0,.int .i64 0,.int .i64 0,.int .i64 0,.slice none 0 0]:=heap_alloc_new w _
 obtain ⟨R,HR⟩:∃ R,Hid (R=Fl.step f d):=⟨_,Lib.hid rfl⟩
 rw [<-HR.out]
 have HSTEP:Hid (R=if d.n<0\/(f.sh.length:Int)<=d.n then (f,Fl.no 6) else match f.sh[d.n.toNat]? with
  | none=>(f,Fl.no 6)
  | some s=>if s.st≠3 then (f,Fl.no 7) else Fl.retire f d.n.toNat s):=Lib.hid (by rw [HR.out];unfold Fl.step;rw [hk];rfl)
 have hlen8:=hI.len
 obtain ⟨vs,vb,us,ws,hP⟩:=hF.parts
 have hP1:=hP.below hxw1
 have hd1:=hd.below (hxw1.mono hBw)
 have HK:=Lib.hid hk
 obtain ⟨hq0,hB0,d0,d1,d2,⟨Ae,ce,d3,hde⟩,d4,d5,d6⟩:=id hd1
 rw [hk] at d0
 clear hk
 obtain ⟨Av,cv,hvs,hncv,hcvm⟩:=Own.shape hP1.2.2.2.1
 unfold maxLen at hcvm
 subst hvs
 have hvsz:(f.sh.length:Int)<=8:=by omega
 go_enter Try.func117,Try.ntmps117
 go_upto_region 1 with (fail)
 generalize (w.alloc (.cells #[.int .i64 0,.int .i64 0,.int .i64 0,.int .i64 0,.slice none 0 0] 105))=w1 at *
 have g0:w1.cell? ⟨gF,0,none⟩=some (.slice Av f.sh.length cv):=hP1.2.1.cell 0
 go_upto_region 9 with (fail)
 by_cases hneg:d.n<0
 · have hnegB:decide (d.n<0)=true:=decide_eq_true hneg
   have HS:Hid (R=(f,Fl.no 6)):=Lib.hid (by rw [HSTEP.out,if_pos (.inl hneg)])
   go_quiet (fail)
   go_upto_region 10 with (fail)
   have hx2:=below_drewN (Below.refl w1.heap.size w1) nq
   generalize w1.drewN nq=w2 at *
   have hP2:=hP1.below hx2
   have hans2:=hans1.below hx2 hans1.lt
   have hd2:=hd1.below (hx2.mono (Nat.le_trans hBw hxw1.size))
   have hxw2:=hxw1.trans (hx2.mono hxw1.size)
   obtain ⟨hq0,hB0,d0,d1,d2,⟨Ae,ce,d3,hde⟩,d4,d5,d6⟩:=id hd2
   rw [HK.out] at d0
   have a90:w2.cell? ⟨w.heap.size,0,none⟩=some (.int .i64 0):=hans2.cell 0
   have f90:=hans2.frozen 0
   have a91:w2.cell? ⟨w.heap.size,1,none⟩=some (.int .i64 0):=hans2.cell 1
   have f91:=hans2.frozen 1
   have a92:w2.cell? ⟨w.heap.size,2,none⟩=some (.int .i64 0):=hans2.cell 2
   have f92:=hans2.frozen 2
   have a93:w2.cell? ⟨w.heap.size,3,none⟩=some (.int .i64 0):=hans2.cell 3
   have f93:=hans2.frozen 3
   have a94:w2.cell? ⟨w.heap.size,4,none⟩=some (.slice none 0 0):=hans2.cell 4
   have f94:=hans2.frozen 4
   go_wp2_with fail
   have hW:set5 w2 w.heap.size (.int .i64 6) (.int .i64 0) (.int .i64 0) (.int .i64 0) (.slice none 0 0)=(((((w2.setCell ⟨w.heap.size,0,none⟩ (.int .i64 6)).setCell ⟨w.heap.size,1,none⟩ (.int .i64 0)).setCell ⟨w.heap.size,2,none⟩ (.int .i64 0)).setCell ⟨w.heap.size,3,none⟩ (.int .i64 0)).setCell ⟨w.heap.size,4,none⟩ (.slice none 0 0)):=rfl
   rw [<-hW]
   have hb5:=set5_blk (a:=.int .i64 6) (b:=.int .i64 0) (c:=.int .i64 0) (d:=.int .i64 0) (e:=.slice none 0 0) hans2
   have hxe:Below w.heap.size w (set5 w2 w.heap.size (.int .i64 6) (.int .i64 0) (.int .i64 0) (.int .i64 0) (.slice none 0 0)):=set5_below hxw2 (Nat.le_refl _)
   clear hW
   generalize set5 w2 w.heap.size (.int .i64 6) (.int .i64 0) (.int .i64 0) (.int .i64 0) (.slice none 0 0)=W at *
   have s0:W.cell? ⟨w.heap.size,0,none⟩=some (.int .i64 6):=hb5.cell 0
   have s1:W.cell? ⟨w.heap.size,1,none⟩=some (.int .i64 0):=hb5.cell 1
   have s2:W.cell? ⟨w.heap.size,2,none⟩=some (.int .i64 0):=hb5.cell 2
   have s3:W.cell? ⟨w.heap.size,3,none⟩=some (.int .i64 0):=hb5.cell 3
   have s4:W.cell? ⟨w.heap.size,4,none⟩=some (.slice none 0 0):=hb5.cell 4
   exact bodyPost_ret (v:=.agg #[.int .i64 6,.int .i64 0,.int .i64 0,.int .i64 0,.slice none 0 0]) (by simp [results,Try.results117,go_sem,s0,s1,s2,s3,s4]) rfl (by rw [HS.out];exact StepP.same hF hT hBw hxe rfl rfl)
 have hnegB:decide (d.n<0)=false:=decide_eq_false hneg
 by_cases hge:(f.sh.length:Int)<=d.n
 · have hgeB:decide ((f.sh.length:Int)<=d.n)=true:=decide_eq_true hge
   have HS:Hid (R=(f,Fl.no 6)):=Lib.hid (by rw [HSTEP.out,if_pos (.inr hge)])
   go_quiet (fail)
   go_upto_region 10 with (fail)
   have hx2:=below_drewN (Below.refl w1.heap.size w1) nq
   generalize w1.drewN nq=w2 at *
   have hP2:=hP1.below hx2
   have hans2:=hans1.below hx2 hans1.lt
   have hd2:=hd1.below (hx2.mono (Nat.le_trans hBw hxw1.size))
   have hxw2:=hxw1.trans (hx2.mono hxw1.size)
   obtain ⟨hq0,hB0,d0,d1,d2,⟨Ae,ce,d3,hde⟩,d4,d5,d6⟩:=id hd2
   rw [HK.out] at d0
   have a90:w2.cell? ⟨w.heap.size,0,none⟩=some (.int .i64 0):=hans2.cell 0
   have f90:=hans2.frozen 0
   have a91:w2.cell? ⟨w.heap.size,1,none⟩=some (.int .i64 0):=hans2.cell 1
   have f91:=hans2.frozen 1
   have a92:w2.cell? ⟨w.heap.size,2,none⟩=some (.int .i64 0):=hans2.cell 2
   have f92:=hans2.frozen 2
   have a93:w2.cell? ⟨w.heap.size,3,none⟩=some (.int .i64 0):=hans2.cell 3
   have f93:=hans2.frozen 3
   have a94:w2.cell? ⟨w.heap.size,4,none⟩=some (.slice none 0 0):=hans2.cell 4
   have f94:=hans2.frozen 4
   go_wp2_with fail
   have hW:set5 w2 w.heap.size (.int .i64 6) (.int .i64 0) (.int .i64 0) (.int .i64 0) (.slice none 0 0)=(((((w2.setCell ⟨w.heap.size,0,none⟩ (.int .i64 6)).setCell ⟨w.heap.size,1,none⟩ (.int .i64 0)).setCell ⟨w.heap.size,2,none⟩ (.int .i64 0)).setCell ⟨w.heap.size,3,none⟩ (.int .i64 0)).setCell ⟨w.heap.size,4,none⟩ (.slice none 0 0)):=rfl
   rw [<-hW]
   have hb5:=set5_blk (a:=.int .i64 6) (b:=.int .i64 0) (c:=.int .i64 0) (d:=.int .i64 0) (e:=.slice none 0 0) hans2
   have hxe:Below w.heap.size w (set5 w2 w.heap.size (.int .i64 6) (.int .i64 0) (.int .i64 0) (.int .i64 0) (.slice none 0 0)):=set5_below hxw2 (Nat.le_refl _)
   clear hW
   generalize set5 w2 w.heap.size (.int .i64 6) (.int .i64 0) (.int .i64 0) (.int .i64 0) (.slice none 0 0)=W at *
   have s0:W.cell? ⟨w.heap.size,0,none⟩=some (.int .i64 6):=hb5.cell 0
   have s1:W.cell? ⟨w.heap.size,1,none⟩=some (.int .i64 0):=hb5.cell 1
   have s2:W.cell? ⟨w.heap.size,2,none⟩=some (.int .i64 0):=hb5.cell 2
   have s3:W.cell? ⟨w.heap.size,3,none⟩=some (.int .i64 0):=hb5.cell 3
   have s4:W.cell? ⟨w.heap.size,4,none⟩=some (.slice none 0 0):=hb5.cell 4
   exact bodyPost_ret (v:=.agg #[.int .i64 6,.int .i64 0,.int .i64 0,.int .i64 0,.slice none 0 0]) (by simp [results,Try.results117,go_sem,s0,s1,s2,s3,s4]) rfl (by rw [HS.out];exact StepP.same hF hT hBw hxe rfl rfl)
 have hgeB:decide ((f.sh.length:Int)<=d.n)=false:=decide_eq_false hge
 obtain ⟨k,hkn⟩:∃ k:Nat,d.n=(k:Int):=⟨d.n.toNat,by omega⟩
 have hkk:d.n.toNat=k:=by omega
 have hltk:k<f.sh.length:=by omega
 obtain ⟨s,hs⟩:∃ s,f.sh[k]? = some s:=⟨_,List.getElem?_eq_getElem hltk⟩
 have HSP:Hid (R=if s.st≠3 then (f,Fl.no 7) else Fl.retire f k s):=Lib.hid (by rw [HSTEP.out,if_neg (by omega),hkk,hs])
 go_quiet (fail)
 go_upto_region 11 with (fail)
 have hx2:=below_drewN (Below.refl w1.heap.size w1) nq
 generalize w1.drewN nq=w2 at *
 have hP2:=hP1.below hx2
 have hans2:=hans1.below hx2 hans1.lt
 have hd2:=hd1.below (hx2.mono (Nat.le_trans hBw hxw1.size))
 have hxw2:=hxw1.trans (hx2.mono hxw1.size)
 obtain ⟨hq0,hB0,d0,d1,d2,⟨Ae,ce,d3,hde⟩,d4,d5,d6⟩:=id hd2
 rw [HK.out] at d0
 rw [hkn] at d1
 have HKN:=Lib.hid hkn
 clear hkn hnegB hgeB hneg hge hkk
 obtain ⟨gS,oS,cS,u,hvs,hu,hgSB,hgSlt,_,_,_,⟨curS,hcurS⟩,_,_⟩:=hP2.row hs
 injection hvs with hvs _ hvc
 subst hvs hvc
 have hkB:(k:Int)<(f.sh.length:Int):=by omega
 have hk0:(0:Int)<=(k:Int):=by omega
 have g02:w2.cell? ⟨gF,0,none⟩=some (.slice (some ⟨gS,oS,none⟩) f.sh.length cv):=hP2.2.1.cell 0
 go_quiet (fail)
 go_upto_region 12 with (fail)
 have hx3:=below_drewN (Below.refl w2.heap.size w2) nq
 generalize w2.drewN nq=w3 at *
 have hP3:=hP2.below hx3
 have hans3:=hans2.below hx3 hans2.lt
 have hd3:=hd2.below (hx3.mono (Nat.le_trans hBw hxw2.size))
 have hxw3:=hxw2.trans (hx3.mono hxw2.size)
 obtain ⟨hq0,hB0,d0,d1,d2,⟨Ae,ce,d3,hde⟩,d4,d5,d6⟩:=id hd3
 rw [HK.out] at d0
 have hq3:q<w3.heap.size:=by have:=hxw3.size;omega
 have hgS3:=hP3.blk.2.1
 have p2:w3.cell? ⟨gS,oS+k*7+2,none⟩=some (.int .i64 s.st):=hP3.cells hs hu (i:=2) rfl
 have hSm:∀ z,Below w3.heap.size w3 z->z.cell? ⟨gS,oS+k*7+2,none⟩=some (.int .i64 s.st)/\z.cell? ⟨q,o,none⟩=some (.int .i64 4):=fun z hz=>⟨(hz.cell (p:=⟨gS,oS+k*7+2,none⟩) hgS3).trans p2,(hz.cell (p:=⟨q,o,none⟩) hq3).trans d0⟩
 refine wp_region_held_drew (S:=(fun z:World=>z.cell? ⟨gS,oS+k*7+2,none⟩=some (.int .i64 s.st)/\z.cell? ⟨q,o,none⟩=some (.int .i64 4))) (by kernel_rfl) ?_ (fun hHeld=>?_)
 · exact ⟨p2,d0⟩
 refine step_tk 0 (h:=?_)
 refine step_tk 1 (h:=?_)
 refine step_tk 2 (h:=?_)
 refine step_tk 3 (h:=?_)
 refine step_tk 10 (h:=?_)
 refine step_tk 11 (h:=?_)
 refine step_tk 12 (h:=?_)
 refine step_tk 13 (h:=?_)
 refine step_alone 4 rfl (by kernel_rfl) (by rfl) (fun K hK=>?_)
 go_simp
 refine hK.out _ _ ?_ (fun hHeld=>?_)
 · exact hSm _ ((Below.refl _ w3).alloc (Nat.le_refl _) _).drew
 clear hK K
 try simp only [Act.put,List.setIfInBounds_toArray,List.set_cons_zero,List.set_cons_succ]
 refine step_four (fuel:=3) 5 6 7 8 (fun a b c e=>#[true,true,true,true,true,a,b,c,e,false,true,true,true,true,false,false]) (fun a b c e z=>MapT w3.drew w3.heap.size a b c e z) rfl rfl rfl rfl (fun _ _ _=>rfl) (fun _ _ _=>rfl) (fun _ _ _=>rfl) (fun _ _ _=>rfl) (by intro a b c e h;cases a<;>cases b<;>cases c<;>cases e<;>first | exact absurd h (by decide) | kernel_rfl) (by rfl) (by rfl) (by rfl) (by rfl) (fun b c e z K hT hK=>ins_wp (.tmp 56) 2 1 (by rfl) (by rfl) (by rfl) (by decide) (by decide) hT.1 (by unfold maxLen;cases b<;>cases c<;>cases e<;>decide) (put_a b c e) hT.2 (fun z' h1 h2=>hK z' ⟨h1.mono (by cases b<;>cases c<;>cases e<;>decide),h2⟩)) (fun a c e z K hT hK=>ins_wp (.tmp 56) 3 2 (by rfl) (by rfl) (by rfl) (by decide) (by decide) hT.1 (by unfold maxLen;cases a<;>cases c<;>cases e<;>decide) (put_b a c e) hT.2 (fun z' h1 h2=>hK z' ⟨h1.mono (by cases a<;>cases c<;>cases e<;>decide),h2⟩)) (fun a b e z K hT hK=>ins_wp (.tmp 56) 4 3 (by rfl) (by rfl) (by rfl) (by decide) (by decide) hT.1 (by unfold maxLen;cases a<;>cases b<;>cases e<;>decide) (put_c a b e) hT.2 (fun z' h1 h2=>hK z' ⟨h1.mono (by cases a<;>cases b<;>cases e<;>decide),h2⟩)) (fun a b c z K hT hK=>ins_wp (.tmp 56) 5 3 (by rfl) (by rfl) (by rfl) (by decide) (by decide) hT.1 (by unfold maxLen;cases a<;>cases b<;>cases c<;>decide) (put_d a b c) hT.2 (fun z' h1 h2=>hK z' ⟨h1.mono (by cases a<;>cases b<;>cases c<;>decide),h2⟩)) (fun _ _ _ _ z hz=>hSm z (Below.trans ((Below.refl _ w3).drew) hz.2)) (MapT.made w3.drew) ?_
 intro w4 hT4
 have hS4:=hSm w4 (Below.trans ((Below.refl _ w3).drew) hT4.2)
 refine step_tk 9 (h:=?_)
 refine step_alone 14 rfl (by kernel_rfl) (by rfl) (fun K hK=>?_)
 refine look_wp (.tmp 57) (.tmp 61) 4 3 (by rfl) (by rfl) (by rfl) (by decide) hT4.1 (by rfl) ?_
 refine hK.out _ _ ?_ (fun hHeld=>?_)
 · exact hS4
 clear hK K
 try simp only [Act.put,List.setIfInBounds_toArray,List.set_cons_zero,List.set_cons_succ]
 refine step_tk 15 (h:=?_)
 refine wpAnyH_done (by kernel_rfl) ?_ _
 have hx4:Below w3.heap.size w3 w4:=Below.trans ((Below.refl w3.heap.size w3).drew) hT4.2
 clear hT4
 have hP4:=hP3.below hx4
 have hans4:=hans3.below hx4 hans3.lt
 have hd4:=hd3.below (hx4.mono (Nat.le_trans hBw hxw3.size))
 have hxw4:=hxw3.trans (hx4.mono hxw3.size)
 obtain ⟨hq0,hB0,d0,d1,d2,⟨Ae,ce,d3,hde⟩,d4,d5,d6⟩:=id hd4
 rw [HK.out] at d0
 rw [HKN.out] at d1
 by_cases hst:s.st=3
 · have hstB:(s.st != 3)=false:=by rw [bne_eq_false_iff_eq];exact hst
   have HS:Hid (R=Fl.retire f k s):=Lib.hid (by rw [HSP.out,if_neg (by rw [hst];simp)])
   have HST:=Lib.hid hst
   clear hst
   have HC:=Lib.hid (retire_any w4 B gF k tag f s hP4.at_ (hT.size hxw4.size) hI (Nat.le_trans hBw hxw4.size) hs (by have:=HST.out;omega))
   rw [<-HS.out] at HC
   go_wp2_with fail
   with_reducible refine HC.out.mono ?_
   rintro e w6 hst6
   obtain ⟨A6,c6,rfl,hans6,hst⟩:=hst6.up hT hBw hxw4 hans4
   clear hst6 HC
   generalize (R.2.err:Int)=v0 at *
   generalize R.2.sh=v1 at *
   generalize R.2.pl=v2 at *
   generalize R.2.sz=v3 at *
   generalize R.2.root.length=v4 at *
   have a90:w6.cell? ⟨w.heap.size,0,none⟩=some (.int .i64 0):=hans6.cell 0
   have f90:=hans6.frozen 0
   have a91:w6.cell? ⟨w.heap.size,1,none⟩=some (.int .i64 0):=hans6.cell 1
   have f91:=hans6.frozen 1
   have a92:w6.cell? ⟨w.heap.size,2,none⟩=some (.int .i64 0):=hans6.cell 2
   have f92:=hans6.frozen 2
   have a93:w6.cell? ⟨w.heap.size,3,none⟩=some (.int .i64 0):=hans6.cell 3
   have f93:=hans6.frozen 3
   have a94:w6.cell? ⟨w.heap.size,4,none⟩=some (.slice none 0 0):=hans6.cell 4
   have f94:=hans6.frozen 4
   go_wp2_with fail
   have hW:set5 w6 w.heap.size (.int .i64 v0) (.int .i64 v1) (.int .i64 v2) (.int .i64 v3) (.slice A6 v4 c6)=(((((w6.setCell ⟨w.heap.size,0,none⟩ (.int .i64 v0)).setCell ⟨w.heap.size,1,none⟩ (.int .i64 v1)).setCell ⟨w.heap.size,2,none⟩ (.int .i64 v2)).setCell ⟨w.heap.size,3,none⟩ (.int .i64 v3)).setCell ⟨w.heap.size,4,none⟩ (.slice A6 v4 c6)):=rfl
   rw [<-hW]
   have hb5:=set5_blk (a:=.int .i64 v0) (b:=.int .i64 v1) (c:=.int .i64 v2) (d:=.int .i64 v3) (e:=.slice A6 v4 c6) hans6
   clear hW
   generalize set5 w6 w.heap.size (.int .i64 v0) (.int .i64 v1) (.int .i64 v2) (.int .i64 v3) (.slice A6 v4 c6)=W at *
   have s0:W.cell? ⟨w.heap.size,0,none⟩=some (.int .i64 v0):=hb5.cell 0
   have s1:W.cell? ⟨w.heap.size,1,none⟩=some (.int .i64 v1):=hb5.cell 1
   have s2:W.cell? ⟨w.heap.size,2,none⟩=some (.int .i64 v2):=hb5.cell 2
   have s3:W.cell? ⟨w.heap.size,3,none⟩=some (.int .i64 v3):=hb5.cell 3
   have s4:W.cell? ⟨w.heap.size,4,none⟩=some (.slice A6 v4 c6):=hb5.cell 4
   exact bodyPost_ret (v:=.agg #[.int .i64 v0,.int .i64 v1,.int .i64 v2,.int .i64 v3,.slice A6 v4 c6]) (by simp [results,Try.results117,go_sem,s0,s1,s2,s3,s4]) rfl (hst)
 · have hstB:(s.st != 3)=true:=by rw [bne_iff_ne];exact hst
   have HS:Hid (R=(f,Fl.no 7)):=Lib.hid (by rw [HSP.out,if_pos hst])
   clear hst
   have a90:w4.cell? ⟨w.heap.size,0,none⟩=some (.int .i64 0):=hans4.cell 0
   have f90:=hans4.frozen 0
   have a91:w4.cell? ⟨w.heap.size,1,none⟩=some (.int .i64 0):=hans4.cell 1
   have f91:=hans4.frozen 1
   have a92:w4.cell? ⟨w.heap.size,2,none⟩=some (.int .i64 0):=hans4.cell 2
   have f92:=hans4.frozen 2
   have a93:w4.cell? ⟨w.heap.size,3,none⟩=some (.int .i64 0):=hans4.cell 3
   have f93:=hans4.frozen 3
   have a94:w4.cell? ⟨w.heap.size,4,none⟩=some (.slice none 0 0):=hans4.cell 4
   have f94:=hans4.frozen 4
   go_wp2_with fail
   have hW:set5 w4 w.heap.size (.int .i64 7) (.int .i64 0) (.int .i64 0) (.int .i64 0) (.slice none 0 0)=(((((w4.setCell ⟨w.heap.size,0,none⟩ (.int .i64 7)).setCell ⟨w.heap.size,1,none⟩ (.int .i64 0)).setCell ⟨w.heap.size,2,none⟩ (.int .i64 0)).setCell ⟨w.heap.size,3,none⟩ (.int .i64 0)).setCell ⟨w.heap.size,4,none⟩ (.slice none 0 0)):=rfl
   rw [<-hW]
   have hb5:=set5_blk (a:=.int .i64 7) (b:=.int .i64 0) (c:=.int .i64 0) (d:=.int .i64 0) (e:=.slice none 0 0) hans4
   have hxe:Below w.heap.size w (set5 w4 w.heap.size (.int .i64 7) (.int .i64 0) (.int .i64 0) (.int .i64 0) (.slice none 0 0)):=set5_below hxw4 (Nat.le_refl _)
   clear hW
   generalize set5 w4 w.heap.size (.int .i64 7) (.int .i64 0) (.int .i64 0) (.int .i64 0) (.slice none 0 0)=W at *
   have s0:W.cell? ⟨w.heap.size,0,none⟩=some (.int .i64 7):=hb5.cell 0
   have s1:W.cell? ⟨w.heap.size,1,none⟩=some (.int .i64 0):=hb5.cell 1
   have s2:W.cell? ⟨w.heap.size,2,none⟩=some (.int .i64 0):=hb5.cell 2
   have s3:W.cell? ⟨w.heap.size,3,none⟩=some (.int .i64 0):=hb5.cell 3
   have s4:W.cell? ⟨w.heap.size,4,none⟩=some (.slice none 0 0):=hb5.cell 4
   exact bodyPost_ret (v:=.agg #[.int .i64 7,.int .i64 0,.int .i64 0,.int .i64 0,.slice none 0 0]) (by simp [results,Try.results117,go_sem,s0,s1,s2,s3,s4]) rfl (by rw [HS.out];exact StepP.same hF hT hBw hxe rfl rfl)
set_option maxRecDepth 100000 in
set_option maxHeartbeats 4000000 in
theorem do5_any (w:World) (B gF q o:Nat) (tag:Tag) (f:Flt) (d:Dob) (hF:FltAt w B gF tag f) (hT:TagOk w B tag) (hI:Fl.Inv f) (hd:DoAt w B q o d) (hk:d.kind=5) :
 Calls Try.prog 117 #[.pointer (some ⟨gF,0,none⟩),.pointer (some ⟨q,o,none⟩)] w (StepP w B gF tag (Fl.step f d)):=by
 have hBw:B<=w.heap.size:=hd.2.1
 have hxw1:=(Below.refl w.heap.size w).alloc (Nat.le_refl _) (.cells #[.int .i64 0,.int .i64 0,.int .i64 0,.int .i64 0,.slice none 0 0] 105)
 have hans1:Blk (w.alloc (.cells #[.int .i64 0,.int .i64 0,.int .i64 0,.int .i64 0,.slice none 0 0] 105)) w.heap.size 105 #[.int .i64 0,.int .i64 0,.int .i64 0,.int .i64 0,.slice none 0 0]:=heap_alloc_new w _
 obtain ⟨R,HR⟩:∃ R,Hid (R=Fl.step f d):=⟨_,Lib.hid rfl⟩
 rw [<-HR.out]
 have HSTEP:Hid (R=if d.n<0\/(f.sh.length:Int)<=d.n then (f,Fl.no 6) else match f.sh[d.n.toNat]? with
  | none=>(f,Fl.no 6)
  | some s=>if s.st≠3 then (f,Fl.no 7) else Fl.spoil f d.n.toNat s d):=Lib.hid (by rw [HR.out];unfold Fl.step;rw [hk];rfl)
 have hlen8:=hI.len
 obtain ⟨vs,vb,us,ws,hP⟩:=hF.parts
 have hP1:=hP.below hxw1
 have hd1:=hd.below (hxw1.mono hBw)
 have HK:=Lib.hid hk
 obtain ⟨hq0,hB0,d0,d1,d2,⟨Ae,ce,d3,hde⟩,d4,d5,d6⟩:=id hd1
 rw [hk] at d0
 clear hk
 obtain ⟨Av,cv,hvs,hncv,hcvm⟩:=Own.shape hP1.2.2.2.1
 unfold maxLen at hcvm
 subst hvs
 have hvsz:(f.sh.length:Int)<=8:=by omega
 go_enter Try.func117,Try.ntmps117
 go_upto_region 1 with (fail)
 generalize (w.alloc (.cells #[.int .i64 0,.int .i64 0,.int .i64 0,.int .i64 0,.slice none 0 0] 105))=w1 at *
 have g0:w1.cell? ⟨gF,0,none⟩=some (.slice Av f.sh.length cv):=hP1.2.1.cell 0
 go_upto_region 9 with (fail)
 by_cases hneg:d.n<0
 · have hnegB:decide (d.n<0)=true:=decide_eq_true hneg
   have HS:Hid (R=(f,Fl.no 6)):=Lib.hid (by rw [HSTEP.out,if_pos (.inl hneg)])
   go_quiet (fail)
   go_upto_region 10 with (fail)
   have hx2:=below_drewN (Below.refl w1.heap.size w1) nq
   generalize w1.drewN nq=w2 at *
   have hP2:=hP1.below hx2
   have hans2:=hans1.below hx2 hans1.lt
   have hd2:=hd1.below (hx2.mono (Nat.le_trans hBw hxw1.size))
   have hxw2:=hxw1.trans (hx2.mono hxw1.size)
   obtain ⟨hq0,hB0,d0,d1,d2,⟨Ae,ce,d3,hde⟩,d4,d5,d6⟩:=id hd2
   rw [HK.out] at d0
   have a90:w2.cell? ⟨w.heap.size,0,none⟩=some (.int .i64 0):=hans2.cell 0
   have f90:=hans2.frozen 0
   have a91:w2.cell? ⟨w.heap.size,1,none⟩=some (.int .i64 0):=hans2.cell 1
   have f91:=hans2.frozen 1
   have a92:w2.cell? ⟨w.heap.size,2,none⟩=some (.int .i64 0):=hans2.cell 2
   have f92:=hans2.frozen 2
   have a93:w2.cell? ⟨w.heap.size,3,none⟩=some (.int .i64 0):=hans2.cell 3
   have f93:=hans2.frozen 3
   have a94:w2.cell? ⟨w.heap.size,4,none⟩=some (.slice none 0 0):=hans2.cell 4
   have f94:=hans2.frozen 4
   go_wp2_with fail
   have hW:set5 w2 w.heap.size (.int .i64 6) (.int .i64 0) (.int .i64 0) (.int .i64 0) (.slice none 0 0)=(((((w2.setCell ⟨w.heap.size,0,none⟩ (.int .i64 6)).setCell ⟨w.heap.size,1,none⟩ (.int .i64 0)).setCell ⟨w.heap.size,2,none⟩ (.int .i64 0)).setCell ⟨w.heap.size,3,none⟩ (.int .i64 0)).setCell ⟨w.heap.size,4,none⟩ (.slice none 0 0)):=rfl
   rw [<-hW]
   have hb5:=set5_blk (a:=.int .i64 6) (b:=.int .i64 0) (c:=.int .i64 0) (d:=.int .i64 0) (e:=.slice none 0 0) hans2
   have hxe:Below w.heap.size w (set5 w2 w.heap.size (.int .i64 6) (.int .i64 0) (.int .i64 0) (.int .i64 0) (.slice none 0 0)):=set5_below hxw2 (Nat.le_refl _)
   clear hW
   generalize set5 w2 w.heap.size (.int .i64 6) (.int .i64 0) (.int .i64 0) (.int .i64 0) (.slice none 0 0)=W at *
   have s0:W.cell? ⟨w.heap.size,0,none⟩=some (.int .i64 6):=hb5.cell 0
   have s1:W.cell? ⟨w.heap.size,1,none⟩=some (.int .i64 0):=hb5.cell 1
   have s2:W.cell? ⟨w.heap.size,2,none⟩=some (.int .i64 0):=hb5.cell 2
   have s3:W.cell? ⟨w.heap.size,3,none⟩=some (.int .i64 0):=hb5.cell 3
   have s4:W.cell? ⟨w.heap.size,4,none⟩=some (.slice none 0 0):=hb5.cell 4
   exact bodyPost_ret (v:=.agg #[.int .i64 6,.int .i64 0,.int .i64 0,.int .i64 0,.slice none 0 0]) (by simp [results,Try.results117,go_sem,s0,s1,s2,s3,s4]) rfl (by rw [HS.out];exact StepP.same hF hT hBw hxe rfl rfl)
 have hnegB:decide (d.n<0)=false:=decide_eq_false hneg
 by_cases hge:(f.sh.length:Int)<=d.n
 · have hgeB:decide ((f.sh.length:Int)<=d.n)=true:=decide_eq_true hge
   have HS:Hid (R=(f,Fl.no 6)):=Lib.hid (by rw [HSTEP.out,if_pos (.inr hge)])
   go_quiet (fail)
   go_upto_region 10 with (fail)
   have hx2:=below_drewN (Below.refl w1.heap.size w1) nq
   generalize w1.drewN nq=w2 at *
   have hP2:=hP1.below hx2
   have hans2:=hans1.below hx2 hans1.lt
   have hd2:=hd1.below (hx2.mono (Nat.le_trans hBw hxw1.size))
   have hxw2:=hxw1.trans (hx2.mono hxw1.size)
   obtain ⟨hq0,hB0,d0,d1,d2,⟨Ae,ce,d3,hde⟩,d4,d5,d6⟩:=id hd2
   rw [HK.out] at d0
   have a90:w2.cell? ⟨w.heap.size,0,none⟩=some (.int .i64 0):=hans2.cell 0
   have f90:=hans2.frozen 0
   have a91:w2.cell? ⟨w.heap.size,1,none⟩=some (.int .i64 0):=hans2.cell 1
   have f91:=hans2.frozen 1
   have a92:w2.cell? ⟨w.heap.size,2,none⟩=some (.int .i64 0):=hans2.cell 2
   have f92:=hans2.frozen 2
   have a93:w2.cell? ⟨w.heap.size,3,none⟩=some (.int .i64 0):=hans2.cell 3
   have f93:=hans2.frozen 3
   have a94:w2.cell? ⟨w.heap.size,4,none⟩=some (.slice none 0 0):=hans2.cell 4
   have f94:=hans2.frozen 4
   go_wp2_with fail
   have hW:set5 w2 w.heap.size (.int .i64 6) (.int .i64 0) (.int .i64 0) (.int .i64 0) (.slice none 0 0)=(((((w2.setCell ⟨w.heap.size,0,none⟩ (.int .i64 6)).setCell ⟨w.heap.size,1,none⟩ (.int .i64 0)).setCell ⟨w.heap.size,2,none⟩ (.int .i64 0)).setCell ⟨w.heap.size,3,none⟩ (.int .i64 0)).setCell ⟨w.heap.size,4,none⟩ (.slice none 0 0)):=rfl
   rw [<-hW]
   have hb5:=set5_blk (a:=.int .i64 6) (b:=.int .i64 0) (c:=.int .i64 0) (d:=.int .i64 0) (e:=.slice none 0 0) hans2
   have hxe:Below w.heap.size w (set5 w2 w.heap.size (.int .i64 6) (.int .i64 0) (.int .i64 0) (.int .i64 0) (.slice none 0 0)):=set5_below hxw2 (Nat.le_refl _)
   clear hW
   generalize set5 w2 w.heap.size (.int .i64 6) (.int .i64 0) (.int .i64 0) (.int .i64 0) (.slice none 0 0)=W at *
   have s0:W.cell? ⟨w.heap.size,0,none⟩=some (.int .i64 6):=hb5.cell 0
   have s1:W.cell? ⟨w.heap.size,1,none⟩=some (.int .i64 0):=hb5.cell 1
   have s2:W.cell? ⟨w.heap.size,2,none⟩=some (.int .i64 0):=hb5.cell 2
   have s3:W.cell? ⟨w.heap.size,3,none⟩=some (.int .i64 0):=hb5.cell 3
   have s4:W.cell? ⟨w.heap.size,4,none⟩=some (.slice none 0 0):=hb5.cell 4
   exact bodyPost_ret (v:=.agg #[.int .i64 6,.int .i64 0,.int .i64 0,.int .i64 0,.slice none 0 0]) (by simp [results,Try.results117,go_sem,s0,s1,s2,s3,s4]) rfl (by rw [HS.out];exact StepP.same hF hT hBw hxe rfl rfl)
 have hgeB:decide ((f.sh.length:Int)<=d.n)=false:=decide_eq_false hge
 obtain ⟨k,hkn⟩:∃ k:Nat,d.n=(k:Int):=⟨d.n.toNat,by omega⟩
 have hkk:d.n.toNat=k:=by omega
 have hltk:k<f.sh.length:=by omega
 obtain ⟨s,hs⟩:∃ s,f.sh[k]? = some s:=⟨_,List.getElem?_eq_getElem hltk⟩
 have HSP:Hid (R=if s.st≠3 then (f,Fl.no 7) else Fl.spoil f k s d):=Lib.hid (by rw [HSTEP.out,if_neg (by omega),hkk,hs])
 go_quiet (fail)
 go_upto_region 11 with (fail)
 have hx2:=below_drewN (Below.refl w1.heap.size w1) nq
 generalize w1.drewN nq=w2 at *
 have hP2:=hP1.below hx2
 have hans2:=hans1.below hx2 hans1.lt
 have hd2:=hd1.below (hx2.mono (Nat.le_trans hBw hxw1.size))
 have hxw2:=hxw1.trans (hx2.mono hxw1.size)
 obtain ⟨hq0,hB0,d0,d1,d2,⟨Ae,ce,d3,hde⟩,d4,d5,d6⟩:=id hd2
 rw [HK.out] at d0
 rw [hkn] at d1
 have HKN:=Lib.hid hkn
 clear hkn hnegB hgeB hneg hge hkk
 obtain ⟨gS,oS,cS,u,hvs,hu,hgSB,hgSlt,_,_,_,⟨curS,hcurS⟩,_,_⟩:=hP2.row hs
 injection hvs with hvs _ hvc
 subst hvs hvc
 have hkB:(k:Int)<(f.sh.length:Int):=by omega
 have hk0:(0:Int)<=(k:Int):=by omega
 have g02:w2.cell? ⟨gF,0,none⟩=some (.slice (some ⟨gS,oS,none⟩) f.sh.length cv):=hP2.2.1.cell 0
 go_quiet (fail)
 go_upto_region 12 with (fail)
 have hx3:=below_drewN (Below.refl w2.heap.size w2) nq
 generalize w2.drewN nq=w3 at *
 have hP3:=hP2.below hx3
 have hans3:=hans2.below hx3 hans2.lt
 have hd3:=hd2.below (hx3.mono (Nat.le_trans hBw hxw2.size))
 have hxw3:=hxw2.trans (hx3.mono hxw2.size)
 obtain ⟨hq0,hB0,d0,d1,d2,⟨Ae,ce,d3,hde⟩,d4,d5,d6⟩:=id hd3
 rw [HK.out] at d0
 have hq3:q<w3.heap.size:=by have:=hxw3.size;omega
 have hgS3:=hP3.blk.2.1
 have p2:w3.cell? ⟨gS,oS+k*7+2,none⟩=some (.int .i64 s.st):=hP3.cells hs hu (i:=2) rfl
 have hSm:∀ z,Below w3.heap.size w3 z->z.cell? ⟨gS,oS+k*7+2,none⟩=some (.int .i64 s.st)/\z.cell? ⟨q,o,none⟩=some (.int .i64 5):=fun z hz=>⟨(hz.cell (p:=⟨gS,oS+k*7+2,none⟩) hgS3).trans p2,(hz.cell (p:=⟨q,o,none⟩) hq3).trans d0⟩
 refine wp_region_held_drew (S:=(fun z:World=>z.cell? ⟨gS,oS+k*7+2,none⟩=some (.int .i64 s.st)/\z.cell? ⟨q,o,none⟩=some (.int .i64 5))) (by kernel_rfl) ?_ (fun hHeld=>?_)
 · exact ⟨p2,d0⟩
 refine step_tk 0 (h:=?_)
 refine step_tk 1 (h:=?_)
 refine step_tk 2 (h:=?_)
 refine step_tk 3 (h:=?_)
 refine step_tk 10 (h:=?_)
 refine step_tk 11 (h:=?_)
 refine step_tk 12 (h:=?_)
 refine step_tk 13 (h:=?_)
 refine step_alone 4 rfl (by kernel_rfl) (by rfl) (fun K hK=>?_)
 go_simp
 refine hK.out _ _ ?_ (fun hHeld=>?_)
 · exact hSm _ ((Below.refl _ w3).alloc (Nat.le_refl _) _).drew
 clear hK K
 try simp only [Act.put,List.setIfInBounds_toArray,List.set_cons_zero,List.set_cons_succ]
 refine step_four (fuel:=3) 5 6 7 8 (fun a b c e=>#[true,true,true,true,true,a,b,c,e,false,true,true,true,true,false,false]) (fun a b c e z=>MapT w3.drew w3.heap.size a b c e z) rfl rfl rfl rfl (fun _ _ _=>rfl) (fun _ _ _=>rfl) (fun _ _ _=>rfl) (fun _ _ _=>rfl) (by intro a b c e h;cases a<;>cases b<;>cases c<;>cases e<;>first | exact absurd h (by decide) | kernel_rfl) (by rfl) (by rfl) (by rfl) (by rfl) (fun b c e z K hT hK=>ins_wp (.tmp 56) 2 1 (by rfl) (by rfl) (by rfl) (by decide) (by decide) hT.1 (by unfold maxLen;cases b<;>cases c<;>cases e<;>decide) (put_a b c e) hT.2 (fun z' h1 h2=>hK z' ⟨h1.mono (by cases b<;>cases c<;>cases e<;>decide),h2⟩)) (fun a c e z K hT hK=>ins_wp (.tmp 56) 3 2 (by rfl) (by rfl) (by rfl) (by decide) (by decide) hT.1 (by unfold maxLen;cases a<;>cases c<;>cases e<;>decide) (put_b a c e) hT.2 (fun z' h1 h2=>hK z' ⟨h1.mono (by cases a<;>cases c<;>cases e<;>decide),h2⟩)) (fun a b e z K hT hK=>ins_wp (.tmp 56) 4 3 (by rfl) (by rfl) (by rfl) (by decide) (by decide) hT.1 (by unfold maxLen;cases a<;>cases b<;>cases e<;>decide) (put_c a b e) hT.2 (fun z' h1 h2=>hK z' ⟨h1.mono (by cases a<;>cases b<;>cases e<;>decide),h2⟩)) (fun a b c z K hT hK=>ins_wp (.tmp 56) 5 3 (by rfl) (by rfl) (by rfl) (by decide) (by decide) hT.1 (by unfold maxLen;cases a<;>cases b<;>cases c<;>decide) (put_d a b c) hT.2 (fun z' h1 h2=>hK z' ⟨h1.mono (by cases a<;>cases b<;>cases c<;>decide),h2⟩)) (fun _ _ _ _ z hz=>hSm z (Below.trans ((Below.refl _ w3).drew) hz.2)) (MapT.made w3.drew) ?_
 intro w4 hT4
 have hS4:=hSm w4 (Below.trans ((Below.refl _ w3).drew) hT4.2)
 refine step_tk 9 (h:=?_)
 refine step_alone 14 rfl (by kernel_rfl) (by rfl) (fun K hK=>?_)
 refine look_wp (.tmp 57) (.tmp 61) 5 3 (by rfl) (by rfl) (by rfl) (by decide) hT4.1 (by rfl) ?_
 refine hK.out _ _ ?_ (fun hHeld=>?_)
 · exact hS4
 clear hK K
 try simp only [Act.put,List.setIfInBounds_toArray,List.set_cons_zero,List.set_cons_succ]
 refine step_tk 15 (h:=?_)
 refine wpAnyH_done (by kernel_rfl) ?_ _
 have hx4:Below w3.heap.size w3 w4:=Below.trans ((Below.refl w3.heap.size w3).drew) hT4.2
 clear hT4
 have hP4:=hP3.below hx4
 have hans4:=hans3.below hx4 hans3.lt
 have hd4:=hd3.below (hx4.mono (Nat.le_trans hBw hxw3.size))
 have hxw4:=hxw3.trans (hx4.mono hxw3.size)
 obtain ⟨hq0,hB0,d0,d1,d2,⟨Ae,ce,d3,hde⟩,d4,d5,d6⟩:=id hd4
 rw [HK.out] at d0
 rw [HKN.out] at d1
 by_cases hst:s.st=3
 · have hstB:(s.st != 3)=false:=by rw [bne_eq_false_iff_eq];exact hst
   have HS:Hid (R=Fl.spoil f k s d):=Lib.hid (by rw [HSP.out,if_neg (by rw [hst];simp)])
   have HST:=Lib.hid hst
   clear hst
   have HC:=Lib.hid (spoil_any w4 B gF q o k tag f s d hP4.at_ (hT.size hxw4.size) hI hd4 HKN.out hs)
   rw [<-HS.out] at HC
   go_wp2_with fail
   with_reducible refine HC.out.mono ?_
   rintro e w6 hst6
   obtain ⟨A6,c6,rfl,hans6,hst⟩:=hst6.up hT hBw hxw4 hans4
   clear hst6 HC
   generalize (R.2.err:Int)=v0 at *
   generalize R.2.sh=v1 at *
   generalize R.2.pl=v2 at *
   generalize R.2.sz=v3 at *
   generalize R.2.root.length=v4 at *
   have a90:w6.cell? ⟨w.heap.size,0,none⟩=some (.int .i64 0):=hans6.cell 0
   have f90:=hans6.frozen 0
   have a91:w6.cell? ⟨w.heap.size,1,none⟩=some (.int .i64 0):=hans6.cell 1
   have f91:=hans6.frozen 1
   have a92:w6.cell? ⟨w.heap.size,2,none⟩=some (.int .i64 0):=hans6.cell 2
   have f92:=hans6.frozen 2
   have a93:w6.cell? ⟨w.heap.size,3,none⟩=some (.int .i64 0):=hans6.cell 3
   have f93:=hans6.frozen 3
   have a94:w6.cell? ⟨w.heap.size,4,none⟩=some (.slice none 0 0):=hans6.cell 4
   have f94:=hans6.frozen 4
   go_wp2_with fail
   have hW:set5 w6 w.heap.size (.int .i64 v0) (.int .i64 v1) (.int .i64 v2) (.int .i64 v3) (.slice A6 v4 c6)=(((((w6.setCell ⟨w.heap.size,0,none⟩ (.int .i64 v0)).setCell ⟨w.heap.size,1,none⟩ (.int .i64 v1)).setCell ⟨w.heap.size,2,none⟩ (.int .i64 v2)).setCell ⟨w.heap.size,3,none⟩ (.int .i64 v3)).setCell ⟨w.heap.size,4,none⟩ (.slice A6 v4 c6)):=rfl
   rw [<-hW]
   have hb5:=set5_blk (a:=.int .i64 v0) (b:=.int .i64 v1) (c:=.int .i64 v2) (d:=.int .i64 v3) (e:=.slice A6 v4 c6) hans6
   clear hW
   generalize set5 w6 w.heap.size (.int .i64 v0) (.int .i64 v1) (.int .i64 v2) (.int .i64 v3) (.slice A6 v4 c6)=W at *
   have s0:W.cell? ⟨w.heap.size,0,none⟩=some (.int .i64 v0):=hb5.cell 0
   have s1:W.cell? ⟨w.heap.size,1,none⟩=some (.int .i64 v1):=hb5.cell 1
   have s2:W.cell? ⟨w.heap.size,2,none⟩=some (.int .i64 v2):=hb5.cell 2
   have s3:W.cell? ⟨w.heap.size,3,none⟩=some (.int .i64 v3):=hb5.cell 3
   have s4:W.cell? ⟨w.heap.size,4,none⟩=some (.slice A6 v4 c6):=hb5.cell 4
   exact bodyPost_ret (v:=.agg #[.int .i64 v0,.int .i64 v1,.int .i64 v2,.int .i64 v3,.slice A6 v4 c6]) (by simp [results,Try.results117,go_sem,s0,s1,s2,s3,s4]) rfl (hst)
 · have hstB:(s.st != 3)=true:=by rw [bne_iff_ne];exact hst
   have HS:Hid (R=(f,Fl.no 7)):=Lib.hid (by rw [HSP.out,if_pos hst])
   clear hst
   have a90:w4.cell? ⟨w.heap.size,0,none⟩=some (.int .i64 0):=hans4.cell 0
   have f90:=hans4.frozen 0
   have a91:w4.cell? ⟨w.heap.size,1,none⟩=some (.int .i64 0):=hans4.cell 1
   have f91:=hans4.frozen 1
   have a92:w4.cell? ⟨w.heap.size,2,none⟩=some (.int .i64 0):=hans4.cell 2
   have f92:=hans4.frozen 2
   have a93:w4.cell? ⟨w.heap.size,3,none⟩=some (.int .i64 0):=hans4.cell 3
   have f93:=hans4.frozen 3
   have a94:w4.cell? ⟨w.heap.size,4,none⟩=some (.slice none 0 0):=hans4.cell 4
   have f94:=hans4.frozen 4
   go_wp2_with fail
   have hW:set5 w4 w.heap.size (.int .i64 7) (.int .i64 0) (.int .i64 0) (.int .i64 0) (.slice none 0 0)=(((((w4.setCell ⟨w.heap.size,0,none⟩ (.int .i64 7)).setCell ⟨w.heap.size,1,none⟩ (.int .i64 0)).setCell ⟨w.heap.size,2,none⟩ (.int .i64 0)).setCell ⟨w.heap.size,3,none⟩ (.int .i64 0)).setCell ⟨w.heap.size,4,none⟩ (.slice none 0 0)):=rfl
   rw [<-hW]
   have hb5:=set5_blk (a:=.int .i64 7) (b:=.int .i64 0) (c:=.int .i64 0) (d:=.int .i64 0) (e:=.slice none 0 0) hans4
   have hxe:Below w.heap.size w (set5 w4 w.heap.size (.int .i64 7) (.int .i64 0) (.int .i64 0) (.int .i64 0) (.slice none 0 0)):=set5_below hxw4 (Nat.le_refl _)
   clear hW
   generalize set5 w4 w.heap.size (.int .i64 7) (.int .i64 0) (.int .i64 0) (.int .i64 0) (.slice none 0 0)=W at *
   have s0:W.cell? ⟨w.heap.size,0,none⟩=some (.int .i64 7):=hb5.cell 0
   have s1:W.cell? ⟨w.heap.size,1,none⟩=some (.int .i64 0):=hb5.cell 1
   have s2:W.cell? ⟨w.heap.size,2,none⟩=some (.int .i64 0):=hb5.cell 2
   have s3:W.cell? ⟨w.heap.size,3,none⟩=some (.int .i64 0):=hb5.cell 3
   have s4:W.cell? ⟨w.heap.size,4,none⟩=some (.slice none 0 0):=hb5.cell 4
   exact bodyPost_ret (v:=.agg #[.int .i64 7,.int .i64 0,.int .i64 0,.int .i64 0,.slice none 0 0]) (by simp [results,Try.results117,go_sem,s0,s1,s2,s3,s4]) rfl (by rw [HS.out];exact StepP.same hF hT hBw hxe rfl rfl)
end Go.Proofs.Ytfdibjgmbdkbcaa
