/-
  THE WALK of the closed fact that the fleet's laws ask first. No conditions. THE WALK of FleetTells. Conditions: what comes in is read.
-/
import Derived.Test.YtfdibjgmbdkbcaaYRepr
import Derived.Test.YtfdibjgmbdkbcaaYGf
import Derived.Test.YtfdibjgmbdkbcaaYBD
import Derived.Test.YtfdibjgmbdkbcaaYGh
import Derived.Test.YtfdibjgmbdkbcaaYGp
import Derived.Test.YtfdibjgmbdkbcaaYGq
import Derived.Test.YtfdibjgmbdkbcaaYFleetP
import Derived.Test.YtfdibjgmbdkbcaaYGw
import Derived.Test.YtfdibjgmbdkbcaaYR7KL
namespace Go.Proofs.Ytfdibjgmbdkbcaa
open Go.RowKit Go.Lib
theorem ans_at {w:World} {F:Nat->Prop} {v:Value} {l:List Ans} (h:RdL w F v l) {j:Nat} (hj:j<l.length):∃ b off c u,v = .slice (some ⟨b,off,none⟩) l.length c/\F b/\b<w.heap.size ∧
 w.cell? ⟨b,off+j*5,none⟩=some (.int .i64 (l[j].err:Int))/\w.cell? ⟨b,off+j*5+1,none⟩=some (.int .i64 l[j].sh)/\w.cell? ⟨b,off+j*5+2,none⟩=some (.int .i64 l[j].pl)/\w.cell? ⟨b,off+j*5+3,none⟩=some (.int .i64 l[j].sz) ∧
 w.cell? ⟨b,off+j*5+4,none⟩=some u/\Bytes w F u l[j].root:=by
 obtain ⟨b,off,c,hv,hF,hb,ecs,hr,hc⟩:=h.at_ hj
 obtain ⟨c1,c1',rfl,h1,c2,c2',rfl,h2,c3,c3',rfl,h3,c4,c5,rfl,h4,u,h5',h5⟩:=hr
 have e1:c1=[.int .i64 (l[j].err:Int)]:=h1
 have e2:c2=[.int .i64 l[j].sh]:=h2
 have e3:c3=[.int .i64 l[j].pl]:=h3
 have e4:c4=[.int .i64 l[j].sz]:=h4
 subst e1 e2 e3 e4 h5'
 exact ⟨b,off,c,u,hv,hF,hb,hc 0 _ rfl,hc 1 _ rfl,hc 2 _ rfl,hc 3 _ rfl,hc 4 _ rfl,rdL_bytes.1 h5⟩
end Go.Proofs.Ytfdibjgmbdkbcaa
namespace Go.Proofs.Ytfdibjgmbdkbcaa
open Go.RowKit Go.Lib
set_option maxRecDepth 100000 in
set_option maxHeartbeats 8000000 in
theorem fleetTells_walk (w:World) (v0:Value) (l0:List (Int × Int)) (h0:RdL w (fun _=>True) v0 l0) (v1:Value) (l1:List Dob) (h1:RdL w (fun _=>True) v1 l1) :
 Calls Try.prog 10 #[v0,v1] w fun e w'=>e = .returned (.bool true)/\Below w.heap.size w w':=by
 obtain ⟨A0,c0,hv0,hn0,hm0⟩:=h0.form
 obtain ⟨A1,c1,hv1,hn1,hm1⟩:=h1.form
 subst hv0 hv1
 unfold maxLen at hm0 hm1
 go_enter Try.func10,Try.ntmps10
 obtain ⟨fx,lax,ax,bx,hpl⟩:∃ f_ la_ a_ b_,Fl.play l0 l1=(f_,la_,(a_,b_)):=⟨_,_,_,_,rfl⟩
 have HP:=Lib.hid (play_any w _ _ _ _ l0 l1 h0 h1)
 rw [hpl] at HP
 have HPLx:=Lib.hid hpl
 clear hpl
 go_wp2_with fail
 refine HP.out.mono ?_
 rintro e w2 ⟨vs,vb,va,rfl,qsx,qbx,qax,hxpx⟩
 simp only at qsx qbx qax ⊢
 replace qsx:=qsx.weak (F':=fun b=>b<w2.heap.size) fun b hb _=>hb
 replace qbx:=qbx.weak (F':=fun b=>b<w2.heap.size) fun b hb _=>hb
 replace qax:=qax.weak (F':=fun b=>b<w2.heap.size) fun b hb _=>hb
 obtain ⟨Asx,csx,hvs,hlsx,hcsx⟩:=qsx.form
 obtain ⟨Abx,cbx,hvb,hlbx,hcbx⟩:=qbx.form
 obtain ⟨Aax,cax,hva,hlax,hcax⟩:=qax.form
 unfold maxLen at hcsx hcbx hcax
 subst hvs hvb hva
 clear HP
 go_upto_region 2 with (fail)
 have hxqx:=((Below.refl w2.heap.size w2).alloc (Nat.le_refl _) (.cells #[.slice Asx fx.sh.length csx,.slice Abx fx.book.length cbx] 92)).alloc (by simp) (.cells #[.int .i64 (ax:Int),.int .i64 (bx:Int)] 32)
 have hbFx:Blk ((w2.alloc (.cells #[.slice Asx fx.sh.length csx,.slice Abx fx.book.length cbx] 92)).alloc (.cells #[.int .i64 (ax:Int),.int .i64 (bx:Int)] 32)) w2.heap.size 92 #[.slice Asx fx.sh.length csx,.slice Abx fx.book.length cbx]:=Blk.alloc (heap_alloc_new w2 _) _
 have hbWx:Blk ((w2.alloc (.cells #[.slice Asx fx.sh.length csx,.slice Abx fx.book.length cbx] 92)).alloc (.cells #[.int .i64 (ax:Int),.int .i64 (bx:Int)] 32)) (w2.heap.size+1) 32 #[.int .i64 (ax:Int),.int .i64 (bx:Int)]:=by
  have:=heap_alloc_new (w2.alloc (.cells #[.slice Asx fx.sh.length csx,.slice Abx fx.book.length cbx] 92)) (.cells #[.int .i64 (ax:Int),.int .i64 (bx:Int)] 32)
  rw [World.size_alloc] at this
  exact this
 generalize ((w2.alloc (.cells #[.slice Asx fx.sh.length csx,.slice Abx fx.book.length cbx] 92)).alloc (.cells #[.int .i64 (ax:Int),.int .i64 (bx:Int)] 32))=w3 at *
 have hxsx:=hxpx.trans (hxqx.mono hxpx.size)
 have hxxB:=(Below.refl w.heap.size w).trans (hxsx.mono (Below.refl w.heap.size w).size)
 replace qsx:=qsx.below hxqx
 replace qbx:=qbx.below hxqx
 replace qax:=qax.below hxqx
 have hgwx:w.heap.size<=w2.heap.size:=hxpx.size
 clear hxpx hxqx
 generalize w2.heap.size=gx at *
 obtain ⟨fq,laq,aq,bq,hpl⟩:∃ f_ la_ a_ b_,Fl.play l0 l1=(f_,la_,(a_,b_)):=⟨_,_,_,_,rfl⟩
 have HP:=Lib.hid (rplay_any w3 _ _ _ _ l0 l1 (h0.below hxxB) (h1.below hxxB))
 rw [hpl] at HP
 have HPLq:=Lib.hid hpl
 clear hpl
 go_wp2_with fail
 refine HP.out.mono ?_
 rintro e w4 ⟨vs,vb,va,rfl,qsq,qbq,qaq,hxpq⟩
 simp only at qsq qbq qaq ⊢
 replace qsq:=qsq.weak (F':=fun b=>b<w4.heap.size) fun b hb _=>hb
 replace qbq:=qbq.weak (F':=fun b=>b<w4.heap.size) fun b hb _=>hb
 replace qaq:=qaq.weak (F':=fun b=>b<w4.heap.size) fun b hb _=>hb
 obtain ⟨Asq,csq,hvs,hlsq,hcsq⟩:=qsq.form
 obtain ⟨Abq,cbq,hvb,hlbq,hcbq⟩:=qbq.form
 obtain ⟨Aaq,caq,hva,hlaq,hcaq⟩:=qaq.form
 unfold maxLen at hcsq hcbq hcaq
 subst hvs hvb hva
 clear HP
 go_upto_region 3 with (fail)
 have hxqq:=((Below.refl w4.heap.size w4).alloc (Nat.le_refl _) (.cells #[.slice Asq fq.sh.length csq,.slice Abq fq.book.length cbq] 92)).alloc (by simp) (.cells #[.int .i64 (aq:Int),.int .i64 (bq:Int)] 32)
 have hbFq:Blk ((w4.alloc (.cells #[.slice Asq fq.sh.length csq,.slice Abq fq.book.length cbq] 92)).alloc (.cells #[.int .i64 (aq:Int),.int .i64 (bq:Int)] 32)) w4.heap.size 92 #[.slice Asq fq.sh.length csq,.slice Abq fq.book.length cbq]:=Blk.alloc (heap_alloc_new w4 _) _
 have hbWq:Blk ((w4.alloc (.cells #[.slice Asq fq.sh.length csq,.slice Abq fq.book.length cbq] 92)).alloc (.cells #[.int .i64 (aq:Int),.int .i64 (bq:Int)] 32)) (w4.heap.size+1) 32 #[.int .i64 (aq:Int),.int .i64 (bq:Int)]:=by
  have:=heap_alloc_new (w4.alloc (.cells #[.slice Asq fq.sh.length csq,.slice Abq fq.book.length cbq] 92)) (.cells #[.int .i64 (aq:Int),.int .i64 (bq:Int)] 32)
  rw [World.size_alloc] at this
  exact this
 generalize ((w4.alloc (.cells #[.slice Asq fq.sh.length csq,.slice Abq fq.book.length cbq] 92)).alloc (.cells #[.int .i64 (aq:Int),.int .i64 (bq:Int)] 32))=w5 at *
 have hxsq:=hxpq.trans (hxqq.mono hxpq.size)
 have hxqB:=hxxB.trans (hxsq.mono hxxB.size)
 replace qsq:=qsq.below hxqq
 replace qbq:=qbq.below hxqq
 replace qaq:=qaq.below hxqq
 have hgwq:w3.heap.size<=w4.heap.size:=hxpq.size
 clear hxpq hxqq
 generalize w4.heap.size=gq at *
 have hq:=HPLx.out.symm.trans HPLq.out
 simp only [Prod.mk.injEq] at hq
 obtain ⟨rfl,rfl,rfl,rfl⟩:=hq
 clear HPLx HPLq
 have qsx5:=qsx.below hxsq
 have qbx5:=qbx.below hxsq
 have qax5:=qax.below hxsq
 have hbF5:=hbFx.below hxsq hbFx.lt
 have hbW5:=hbWx.below hxsq hbWx.lt
 obtain ⟨p,r,hpr⟩:∃ p r:Nat,Fl.wrongW l0=(p,r):=⟨_,_,rfl⟩
 have hfv:fv (Fl.wrongW l0) = .agg #[.int .i64 (p:Int),.int .i64 (r:Int)]:=by rw [hpr];rfl
 have hW1:=wrongW_any w5 _ _ l0 (h0.below hxqB)
 rw [hfv] at hW1
 have HW1:=Lib.hid hW1
 have HFV:=Lib.hid hfv
 clear hW1 hfv hpr qsx qbx qax hbFx hbWx
 go_wp2_with fail
 refine HW1.out.mono ?_
 rintro e w6 ⟨rfl,hx6⟩
 have hW2:=rwrongW_any w6 _ _ l0 ((h0.below hxqB).below hx6)
 rw [HFV.out] at hW2
 have HW2:=Lib.hid hW2
 clear hW2 HW1
 go_wp2_with fail
 refine HW2.out.mono ?_
 rintro e w7 ⟨rfl,hx7⟩
 clear HW2
 have hx67:=hx6.trans (hx7.mono hx6.size)
 have e0:w7.cell? ⟨gx,0,none⟩=some (.slice Asx fx.sh.length csx):=(hbF5.below hx67 hbF5.lt).cell 0
 have e1:w7.cell? ⟨gx,1,none⟩=some (.slice Abx fx.book.length cbx):=(hbF5.below hx67 hbF5.lt).cell 1
 have e2:w7.cell? ⟨gx+1,0,none⟩=some (.int .i64 (ax:Int)):=(hbW5.below hx67 hbW5.lt).cell 0
 have e3:w7.cell? ⟨gx+1,1,none⟩=some (.int .i64 (bx:Int)):=(hbW5.below hx67 hbW5.lt).cell 1
 have e4:w7.cell? ⟨gq,0,none⟩=some (.slice Asq fx.sh.length csq):=(hbFq.below hx67 hbFq.lt).cell 0
 have e5:w7.cell? ⟨gq,1,none⟩=some (.slice Abq fx.book.length cbq):=(hbFq.below hx67 hbFq.lt).cell 1
 have e6:w7.cell? ⟨gq+1,0,none⟩=some (.int .i64 (ax:Int)):=(hbWq.below hx67 hbWq.lt).cell 0
 have e7:w7.cell? ⟨gq+1,1,none⟩=some (.int .i64 (bx:Int)):=(hbWq.below hx67 hbWq.lt).cell 1
 have HSF:=Lib.hid (sameFleet_yes w7 _ _ _ _ _ _ _ _ fx (qsx5.below hx67) (qsq.below hx67) (qbx5.below hx67) (qbq.below hx67))
 clear hbF5 hbW5 hbFq hbWq
 go_wp2_with fail
 refine HSF.out.mono ?_
 rintro e w8 ⟨rfl,hx8⟩
 clear HSF e0 e1 e2 e3 e4 e5 e6 e7
 have hx58:=hx67.trans (hx8.mono hx67.size)
 clear hx6 hx7 hx67 hx8
 go_wp2_with fail
 go_loopg [51] lax.length (fun m i wr=>∃ j:Nat,j+m=lax.length/\i = .int .i64 (j:Int)/\Below w5.heap.size w5 wr)
 case atStart=>exact ⟨0,by omega,rfl,hx58⟩
 clear hx58
 case round =>
  obtain ⟨j,hj,rfl,hx⟩:=hrel
  have hxr:=hxqB.trans (hx.mono hxqB.size)
  by_cases hlt:j<lax.length
  · obtain ⟨g1,o1,k1,u1,hA1,_,hg1,a0,a1,a2,a3,a4,hu1⟩:=ans_at (qax5.below hx) hlt
    obtain ⟨g2,o2,k2,u2,hA2,_,hg2,d0,d1,d2,d3,d4,hu2⟩:=ans_at (qaq.below hx) hlt
    injection hA1 with hA1 _ hA3
    subst hA1 hA3
    injection hA2 with hA2 _ hA3
    subst hA2 hA3
    have hltB:(j:Int)<(lax.length:Int):=by omega
    have hj0:(0:Int)<=(j:Int):=by omega
    generalize lax[j]=r at *
    obtain ⟨re,rs,rp,rz,rr⟩:=r
    simp only at a0 a1 a2 a3 a4 d0 d1 d2 d3 d4 hu1 hu2
    have hSS:∀ z:World,(∀ k,k<wr.heap.size->z.heap[k]? = wr.heap[k]?)->Below w.heap.size w z->(z.cell? ⟨g1,o1+j*5,none⟩=some (.int .i64 (re:Int))/\z.cell? ⟨g1,o1+j*5+1,none⟩=some (.int .i64 rs)/\z.cell? ⟨g1,o1+j*5+2,none⟩=some (.int .i64 rp)/\z.cell? ⟨g1,o1+j*5+3,none⟩=some (.int .i64 rz)/\z.cell? ⟨g1,o1+j*5+4,none⟩=some (u1)/\z.cell? ⟨g2,o2+j*5,none⟩=some (.int .i64 (re:Int))/\z.cell? ⟨g2,o2+j*5+1,none⟩=some (.int .i64 rs)/\z.cell? ⟨g2,o2+j*5+2,none⟩=some (.int .i64 rp)/\z.cell? ⟨g2,o2+j*5+3,none⟩=some (.int .i64 rz)/\z.cell? ⟨g2,o2+j*5+4,none⟩=some (u2)/\Below w.heap.size w z):=fun z hz hzw=>⟨(World.cell?_of_block (hz _ hg1)).trans a0,(World.cell?_of_block (hz _ hg1)).trans a1,(World.cell?_of_block (hz _ hg1)).trans a2,(World.cell?_of_block (hz _ hg1)).trans a3,(World.cell?_of_block (hz _ hg1)).trans a4,(World.cell?_of_block (hz _ hg2)).trans d0,(World.cell?_of_block (hz _ hg2)).trans d1,(World.cell?_of_block (hz _ hg2)).trans d2,(World.cell?_of_block (hz _ hg2)).trans d3,(World.cell?_of_block (hz _ hg2)).trans d4,hzw⟩
    go_upto_region 8 with (fail)
    refine wp_region_held_drew (S:=(fun z:World=>z.cell? ⟨g1,o1+j*5,none⟩=some (.int .i64 (re:Int))/\z.cell? ⟨g1,o1+j*5+1,none⟩=some (.int .i64 rs)/\z.cell? ⟨g1,o1+j*5+2,none⟩=some (.int .i64 rp)/\z.cell? ⟨g1,o1+j*5+3,none⟩=some (.int .i64 rz)/\z.cell? ⟨g1,o1+j*5+4,none⟩=some (u1)/\z.cell? ⟨g2,o2+j*5,none⟩=some (.int .i64 (re:Int))/\z.cell? ⟨g2,o2+j*5+1,none⟩=some (.int .i64 rs)/\z.cell? ⟨g2,o2+j*5+2,none⟩=some (.int .i64 rp)/\z.cell? ⟨g2,o2+j*5+3,none⟩=some (.int .i64 rz)/\z.cell? ⟨g2,o2+j*5+4,none⟩=some (u2)/\Below w.heap.size w z)) (by kernel_rfl) ?_ (fun hHeld=>?_)
    · exact hSS wr.drew (fun _ _=>rfl) hxr.drew
    refine step_tk 0 (h:=?_)
    refine step_tk 1 (h:=?_)
    refine step_tk 2 (h:=?_)
    refine step_tk 3 (h:=?_)
    refine step_tk 4 (h:=?_)
    refine step_tk 5 (h:=?_)
    refine step_tk 6 (h:=?_)
    refine step_tk 7 (h:=?_)
    refine step_alone 8 rfl (by kernel_rfl) (by rfl) (fun K hK=>?_)
    go_simp
    refine (sameAns_yes wr.drew _ _ (re:Int) rs rp rz u1 u2 rr (hu1.drewN 1) (hu2.drewN 1)).mono ?_
    rintro e w6 ⟨rfl,hx6⟩
    have hx6r:=hx.drew.trans (hx6.mono hx.drew.size)
    have hS6:=hSS w6 (fun k hk=>hx6.block k hk) (hxr.drew.trans (hx6.mono hxr.drew.size))
    go_simp
    refine hK.out _ _ ?_ (fun hHeld=>?_)
    · exact hS6
    clear hK K
    try simp only [Act.put,List.setIfInBounds_toArray,List.set_cons_zero,List.set_cons_succ]
    refine step_tk 9 (h:=?_)
    refine wpAnyH_done (by kernel_rfl) ?_ _
    go_wp2_with fail
    go_roundg (gk-1)
    case measure=>omega
    case rel=>exact ⟨j+1,by omega,by go_num,hx6r⟩
  · have hltB:decide ((j:Int)<(lax.length:Int))=false:=decide_eq_false (by omega)
    go_wp2_with fail
    go_ret
    exact ⟨rfl,hxr⟩
end Go.Proofs.Ytfdibjgmbdkbcaa
