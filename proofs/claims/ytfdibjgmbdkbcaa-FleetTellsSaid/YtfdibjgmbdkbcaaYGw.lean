/-
  THE WALKS of yearref5.SameHead, SameRecord, SameAnswer, SameBook, SameManifest, SameFleet, of what is the same. Conditions: what is read. THE WALKS of yearref5.SameHead, SameRecord, SameAnswer, SameBook, SameManifest, SameFleet, of what is the same. Conditions: what is read. THE WALKS of yearref5.SameHead, SameRecord, SameAnswer, SameBook, SameManifest, SameFleet, of what is the same. Conditions: what is read.
-/
import Derived.Test.YtfdibjgmbdkbcaaYSt
import Derived.Test.YtfdibjgmbdkbcaaYBD
import Derived.Test.YtfdibjgmbdkbcaaYGh
import Derived.Test.YtfdibjgmbdkbcaaYGq
import Derived.Test.YtfdibjgmbdkbcaaYGv
namespace Go.Proofs.Ytfdibjgmbdkbcaa
open Go.RowKit Go.Lib
set_option maxRecDepth 100000 in
set_option maxHeartbeats 1000000 in
theorem sameHead_yes (w:World) (F F':Nat->Prop) (n:Int) (va vb:Value) (l:Bs) (ha:Bytes w F va l) (hb:Bytes w F' vb l) :
 Calls Try.prog 58 #[.agg #[.int .i64 n,va],.agg #[.int .i64 n,vb]] w fun e w'=>e = .returned (.bool true)/\Below w.heap.size w w':=by
 obtain ⟨A,c,rfl⟩:=ha.form
 obtain ⟨A',c',rfl⟩:=hb.form
 have hx:=((Below.refl w.heap.size w).alloc (Nat.le_refl _) (.cells #[.int .i64 n,.slice A l.length c] 39)).alloc (by simp) (.cells #[.int .i64 n,.slice A' l.length c'] 39)
 have ha2:=(ha.alloc (.cells #[.int .i64 n,.slice A l.length c] 39)).alloc (.cells #[.int .i64 n,.slice A' l.length c'] 39)
 have hb2:=(hb.alloc (.cells #[.int .i64 n,.slice A l.length c] 39)).alloc (.cells #[.int .i64 n,.slice A' l.length c'] 39)
 go_enter Try.func58,Try.ntmps58
 go_wp2_with fail
 refine (same_any _ _ _ _ _ l l ha2 hb2).mono ?_
 rintro e w1 ⟨rfl,n1,hw⟩
 rw [beq_self_eq_true]
 have hx1:=below_drewN hx n1
 rw [<-hw] at hx1
 clear hw
 go_wp2_with fail
 go_ret
 exact ⟨rfl,hx1⟩
set_option maxRecDepth 100000 in
set_option maxHeartbeats 1000000 in
theorem sameRec_yes (w:World) (F F':Nat->Prop) (sh fr tt sz:Int) (va vb:Value) (l:Bs) (ha:Bytes w F va l) (hb:Bytes w F' vb l) :
 Calls Try.prog 53 #[.agg #[.int .i64 sh,.int .i64 fr,.int .i64 tt,.int .i64 sz,va],.agg #[.int .i64 sh,.int .i64 fr,.int .i64 tt,.int .i64 sz,vb]] w fun e w'=>e = .returned (.bool true)/\Below w.heap.size w w':=by
 obtain ⟨A,c,rfl⟩:=ha.form
 obtain ⟨A',c',rfl⟩:=hb.form
 have hx:=((Below.refl w.heap.size w).alloc (Nat.le_refl _) (.cells #[.int .i64 sh,.int .i64 fr,.int .i64 tt,.int .i64 sz,.slice A l.length c] 61)).alloc (by simp) (.cells #[.int .i64 sh,.int .i64 fr,.int .i64 tt,.int .i64 sz,.slice A' l.length c'] 61)
 have ha2:=(ha.alloc (.cells #[.int .i64 sh,.int .i64 fr,.int .i64 tt,.int .i64 sz,.slice A l.length c] 61)).alloc (.cells #[.int .i64 sh,.int .i64 fr,.int .i64 tt,.int .i64 sz,.slice A' l.length c'] 61)
 have hb2:=(hb.alloc (.cells #[.int .i64 sh,.int .i64 fr,.int .i64 tt,.int .i64 sz,.slice A l.length c] 61)).alloc (.cells #[.int .i64 sh,.int .i64 fr,.int .i64 tt,.int .i64 sz,.slice A' l.length c'] 61)
 go_enter Try.func53,Try.ntmps53
 go_wp2_with fail
 refine (sameHead_yes _ _ _ sz _ _ l ha2 hb2).mono ?_
 rintro e w1 ⟨rfl,hx1⟩
 go_wp2_with fail
 go_ret
 exact ⟨rfl,hx.trans (hx1.mono hx.size)⟩
set_option maxRecDepth 100000 in
set_option maxHeartbeats 1000000 in
theorem sameAns_yes (w:World) (F F':Nat->Prop) (sh fr tt sz:Int) (va vb:Value) (l:Bs) (ha:Bytes w F va l) (hb:Bytes w F' vb l) :
 Calls Try.prog 78 #[.agg #[.int .i64 sh,.int .i64 fr,.int .i64 tt,.int .i64 sz,va],.agg #[.int .i64 sh,.int .i64 fr,.int .i64 tt,.int .i64 sz,vb]] w fun e w'=>e = .returned (.bool true)/\Below w.heap.size w w':=by
 obtain ⟨A,c,rfl⟩:=ha.form
 obtain ⟨A',c',rfl⟩:=hb.form
 have hx:=((Below.refl w.heap.size w).alloc (Nat.le_refl _) (.cells #[.int .i64 sh,.int .i64 fr,.int .i64 tt,.int .i64 sz,.slice A l.length c] 105)).alloc (by simp) (.cells #[.int .i64 sh,.int .i64 fr,.int .i64 tt,.int .i64 sz,.slice A' l.length c'] 105)
 have ha2:=(ha.alloc (.cells #[.int .i64 sh,.int .i64 fr,.int .i64 tt,.int .i64 sz,.slice A l.length c] 105)).alloc (.cells #[.int .i64 sh,.int .i64 fr,.int .i64 tt,.int .i64 sz,.slice A' l.length c'] 105)
 have hb2:=(hb.alloc (.cells #[.int .i64 sh,.int .i64 fr,.int .i64 tt,.int .i64 sz,.slice A l.length c] 105)).alloc (.cells #[.int .i64 sh,.int .i64 fr,.int .i64 tt,.int .i64 sz,.slice A' l.length c'] 105)
 go_enter Try.func78,Try.ntmps78
 go_wp2_with fail
 refine (sameHead_yes _ _ _ sz _ _ l ha2 hb2).mono ?_
 rintro e w1 ⟨rfl,hx1⟩
 go_wp2_with fail
 go_ret
 exact ⟨rfl,hx.trans (hx1.mono hx.size)⟩
set_option maxRecDepth 100000 in
set_option maxHeartbeats 2000000 in
theorem sameBook_yes (w:World) (F F':Nat->Prop) (va vb:Value) (l:List Rec) (ha:RdL w F va l) (hb:RdL w F' vb l) :
 Calls Try.prog 118 #[va,vb] w fun e w'=>e = .returned (.bool true)/\Below w.heap.size w w':=by
 obtain ⟨A,c,hva,hac,hcm⟩:=ha.form
 obtain ⟨A',c',hvb,hac',hcm'⟩:=hb.form
 subst hva hvb
 unfold maxLen at hcm hcm'
 have hn:((l.length:Int) != (l.length:Int))=false:=by simp
 go_enter Try.func118,Try.ntmps118
 go_wp2_with fail
 go_loopg [13] l.length (fun k i wr=>∃ j:Nat,j+k=l.length/\i = .int .i64 (j:Int)/\Below w.heap.size w wr)
 case atStart=>exact ⟨0,by omega,rfl,Below.refl _ _⟩
 case round =>
  obtain ⟨j,hj,rfl,hx⟩:=hrel
  by_cases hlt:j<l.length
  · obtain ⟨b1,o1,c1,A1,k1,hA1,_,hg1,a0,a1,a2,a3,a4,hu1⟩:=rec_at (ha.below hx) hlt
    obtain ⟨b2,o2,c2,A2,k2,hA2,_,hg2,d0,d1,d2,d3,d4,hu2⟩:=rec_at (hb.below hx) hlt
    injection hA1 with hA1 _ hA3
    subst hA1 hA3
    injection hA2 with hA2 _ hA3
    subst hA2 hA3
    have hltB:(j:Int)<(l.length:Int):=by omega
    have hj0:(0:Int)<=(j:Int):=by omega
    generalize l[j]=r at *
    obtain ⟨rs,rf,rt,rz,rr⟩:=r
    simp only at a0 a1 a2 a3 a4 d0 d1 d2 d3 d4 hu1 hu2
    have hSS:∀ z:World,(∀ k,k<wr.heap.size->z.heap[k]? = wr.heap[k]?)->Below w.heap.size w z->(z.cell? ⟨b1,o1+j*5,none⟩=some (.int .i64 rs)/\z.cell? ⟨b1,o1+j*5+1,none⟩=some (.int .i64 rf)/\z.cell? ⟨b1,o1+j*5+2,none⟩=some (.int .i64 rt)/\z.cell? ⟨b1,o1+j*5+3,none⟩=some (.int .i64 rz)/\z.cell? ⟨b1,o1+j*5+4,none⟩=some (.slice A1 rr.length k1)/\z.cell? ⟨b2,o2+j*5,none⟩=some (.int .i64 rs)/\z.cell? ⟨b2,o2+j*5+1,none⟩=some (.int .i64 rf)/\z.cell? ⟨b2,o2+j*5+2,none⟩=some (.int .i64 rt)/\z.cell? ⟨b2,o2+j*5+3,none⟩=some (.int .i64 rz)/\z.cell? ⟨b2,o2+j*5+4,none⟩=some (.slice A2 rr.length k2)/\Below w.heap.size w z):=fun z hz hzw=>⟨(World.cell?_of_block (hz _ hg1)).trans a0,(World.cell?_of_block (hz _ hg1)).trans a1,(World.cell?_of_block (hz _ hg1)).trans a2,(World.cell?_of_block (hz _ hg1)).trans a3,(World.cell?_of_block (hz _ hg1)).trans a4,(World.cell?_of_block (hz _ hg2)).trans d0,(World.cell?_of_block (hz _ hg2)).trans d1,(World.cell?_of_block (hz _ hg2)).trans d2,(World.cell?_of_block (hz _ hg2)).trans d3,(World.cell?_of_block (hz _ hg2)).trans d4,hzw⟩
    go_upto_region 6 with (fail)
    refine wp_region_held_drew (S:=(fun z:World=>z.cell? ⟨b1,o1+j*5,none⟩=some (.int .i64 rs)/\z.cell? ⟨b1,o1+j*5+1,none⟩=some (.int .i64 rf)/\z.cell? ⟨b1,o1+j*5+2,none⟩=some (.int .i64 rt)/\z.cell? ⟨b1,o1+j*5+3,none⟩=some (.int .i64 rz)/\z.cell? ⟨b1,o1+j*5+4,none⟩=some (.slice A1 rr.length k1)/\z.cell? ⟨b2,o2+j*5,none⟩=some (.int .i64 rs)/\z.cell? ⟨b2,o2+j*5+1,none⟩=some (.int .i64 rf)/\z.cell? ⟨b2,o2+j*5+2,none⟩=some (.int .i64 rt)/\z.cell? ⟨b2,o2+j*5+3,none⟩=some (.int .i64 rz)/\z.cell? ⟨b2,o2+j*5+4,none⟩=some (.slice A2 rr.length k2)/\Below w.heap.size w z)) (by kernel_rfl) ?_ (fun hHeld=>?_)
    · exact ⟨a0,a1,a2,a3,a4,d0,d1,d2,d3,d4,hx.drew⟩
    refine step_tk 0 (h:=?_)
    refine step_tk 1 (h:=?_)
    refine step_tk 2 (h:=?_)
    refine step_tk 3 (h:=?_)
    refine step_tk 4 (h:=?_)
    refine step_tk 5 (h:=?_)
    refine step_tk 6 (h:=?_)
    refine step_tk 7 (h:=?_)
    refine step_alone 8 rfl (by kernel_rfl) (by rfl) (fun K hK=>?_)
    go_simp
    refine (sameRec_yes wr.drew F F' rs rf rt rz _ _ rr (hu1.drewN 1) (hu2.drewN 1)).mono ?_
    rintro e w3 ⟨rfl,hx3⟩
    have hx3w:=hx.drew.trans (hx3.mono hx.drew.size)
    have hS3:=hSS w3 (fun k hk=>hx3.block k hk) hx3w
    go_simp
    refine hK.out _ _ ?_ (fun hHeld=>?_)
    · exact hS3
    clear hK K
    try simp only [Act.put,List.setIfInBounds_toArray,List.set_cons_zero,List.set_cons_succ]
    refine step_tk 9 (h:=?_)
    refine wpAnyH_done (by kernel_rfl) ?_ _
    go_wp2_with fail
    go_roundg (gk-1)
    case measure=>omega
    case rel=>exact ⟨j+1,by omega,by go_num,hx3w⟩
  · have hltB:decide ((j:Int)<(l.length:Int))=false:=decide_eq_false (by omega)
    go_wp2_with fail
    go_ret
    exact ⟨rfl,hx⟩
end Go.Proofs.Ytfdibjgmbdkbcaa
namespace Go.Proofs.Ytfdibjgmbdkbcaa
open Go.RowKit Go.Lib
set_option maxRecDepth 100000 in
set_option maxHeartbeats 2000000 in
theorem sameMan_yes (w:World) (F F':Nat->Prop) (n:Int) (r1 r2 s1 s2:Value) (root:Bs) (l:List Seg) (hr1:Bytes w F r1 root) (hr2:Bytes w F' r2 root) (ha:RdL w F s1 l) (hb:RdL w F' s2 l) :
 Calls Try.prog 61 #[.agg #[.int .i64 n,r1,s1],.agg #[.int .i64 n,r2,s2]] w fun e w'=>e = .returned (.bool true)/\Below w.heap.size w w':=by
 obtain ⟨A,c,hva,hac,hcm⟩:=ha.form
 obtain ⟨A',c',hvb,hac',hcm'⟩:=hb.form
 obtain ⟨R1,q1,hq1⟩:=hr1.form
 obtain ⟨R2,q2,hq2⟩:=hr2.form
 subst hva hvb hq1 hq2
 unfold maxLen at hcm hcm'
 have hn:((l.length:Int) != (l.length:Int))=false:=by simp
 have hx0:=((Below.refl w.heap.size w).alloc (Nat.le_refl _) (.cells #[.int .i64 n,.slice R1 root.length q1,.slice A l.length c] 77)).alloc (by simp) (.cells #[.int .i64 n,.slice R2 root.length q2,.slice A' l.length c'] 77)
 have hb1:Blk ((w.alloc (.cells #[.int .i64 n,.slice R1 root.length q1,.slice A l.length c] 77)).alloc (.cells #[.int .i64 n,.slice R2 root.length q2,.slice A' l.length c'] 77)) w.heap.size 77 #[.int .i64 n,.slice R1 root.length q1,.slice A l.length c]:=Blk.alloc (heap_alloc_new w _) _
 have hb2:Blk ((w.alloc (.cells #[.int .i64 n,.slice R1 root.length q1,.slice A l.length c] 77)).alloc (.cells #[.int .i64 n,.slice R2 root.length q2,.slice A' l.length c'] 77)) (w.heap.size+1) 77 #[.int .i64 n,.slice R2 root.length q2,.slice A' l.length c']:=by
  have:=heap_alloc_new (w.alloc (.cells #[.int .i64 n,.slice R1 root.length q1,.slice A l.length c] 77)) (.cells #[.int .i64 n,.slice R2 root.length q2,.slice A' l.length c'] 77)
  rw [World.size_alloc] at this
  exact this
 go_enter Try.func61,Try.ntmps61
 go_upto_region 1 with (fail)
 generalize ((w.alloc (.cells #[.int .i64 n,.slice R1 root.length q1,.slice A l.length c] 77)).alloc (.cells #[.int .i64 n,.slice R2 root.length q2,.slice A' l.length c'] 77))=w1 at *
 have h10:w1.cell? ⟨w.heap.size,0,none⟩=some (.int .i64 n):=hb1.cell 0
 have h11:w1.cell? ⟨w.heap.size,1,none⟩=some (.slice R1 root.length q1):=hb1.cell 1
 have h12:w1.cell? ⟨w.heap.size,2,none⟩=some (.slice A l.length c):=hb1.cell 2
 have h20:w1.cell? ⟨w.heap.size+1,0,none⟩=some (.int .i64 n):=hb2.cell 0
 have h21:w1.cell? ⟨w.heap.size+1,1,none⟩=some (.slice R2 root.length q2):=hb2.cell 1
 have h22:w1.cell? ⟨w.heap.size+1,2,none⟩=some (.slice A' l.length c'):=hb2.cell 2
 go_wp2_with fail
 with_reducible refine (sameHead_yes w1 F F' n _ _ root (hr1.below hx0) (hr2.below hx0)).mono ?_
 rintro e w2 ⟨rfl,hx2⟩
 have hx02:=hx0.trans (hx2.mono hx0.size)
 have hb12:=hb1.below hx2 hb1.lt
 have hb22:=hb2.below hx2 hb2.lt
 have j12:w2.cell? ⟨w.heap.size,2,none⟩=some (.slice A l.length c):=hb12.cell 2
 have j22:w2.cell? ⟨w.heap.size+1,2,none⟩=some (.slice A' l.length c'):=hb22.cell 2
 go_wp2_with fail
 go_loopg [26] l.length (fun k i wr=>∃ j:Nat,j+k=l.length/\i = .int .i64 (j:Int)/\Below w2.heap.size w2 wr)
 case atStart=>exact ⟨0,by omega,rfl,Below.refl _ _⟩
 case round =>
  obtain ⟨j,hj,rfl,hx⟩:=hrel
  have hxr:=hx02.trans (hx.mono hx02.size)
  have k12:wr.cell? ⟨w.heap.size,2,none⟩=some (.slice A l.length c):=(hb12.below hx hb12.lt).cell 2
  have k22:wr.cell? ⟨w.heap.size+1,2,none⟩=some (.slice A' l.length c'):=(hb22.below hx hb22.lt).cell 2
  by_cases hlt:j<l.length
  · obtain ⟨b1,o1,c1,A1,k1,hA1,_,hg1,a0,a1,a2,hu1⟩:=seg_at (ha.below hxr) hlt
    obtain ⟨b2,o2,c2,A2,k2,hA2,_,hg2,d0,d1,d2,hu2⟩:=seg_at (hb.below hxr) hlt
    injection hA1 with hA1 _ hA3
    subst hA1 hA3
    injection hA2 with hA2 _ hA3
    subst hA2 hA3
    have hltB:(j:Int)<(l.length:Int):=by omega
    have hj0:(0:Int)<=(j:Int):=by omega
    generalize l[j]=r at *
    obtain ⟨rs,rf,rr⟩:=r
    simp only at a0 a1 a2 d0 d1 d2 hu1 hu2
    go_upto_region 6 with (fail)
    have hgw:w.heap.size+1<wr.heap.size:=(hb22.below hx hb22.lt).lt
    clear hb1 hb2 hb12 hb22 h10 h11 h12 h20 h21 h22 j12 j22
    have hAL1:∀ o:Obj,Below wr.heap.size wr (wr.alloc o):=fun o=>(Below.refl _ _).alloc (Nat.le_refl _) o
    have hAL2:∀ o o':Obj,Below wr.heap.size wr ((wr.alloc o).alloc o'):=fun o o'=>(hAL1 o).alloc (hAL1 o).size o'
    have a0_1:=fun o:Obj=>((hAL1 o).cell (p:=⟨b1,o1+j*3,none⟩) hg1).trans a0
    have a0_2:=fun o o':Obj=>((hAL2 o o').cell (p:=⟨b1,o1+j*3,none⟩) hg1).trans a0
    have a1_1:=fun o:Obj=>((hAL1 o).cell (p:=⟨b1,o1+j*3+1,none⟩) hg1).trans a1
    have a1_2:=fun o o':Obj=>((hAL2 o o').cell (p:=⟨b1,o1+j*3+1,none⟩) hg1).trans a1
    have a2_1:=fun o:Obj=>((hAL1 o).cell (p:=⟨b1,o1+j*3+2,none⟩) hg1).trans a2
    have a2_2:=fun o o':Obj=>((hAL2 o o').cell (p:=⟨b1,o1+j*3+2,none⟩) hg1).trans a2
    have d0_1:=fun o:Obj=>((hAL1 o).cell (p:=⟨b2,o2+j*3,none⟩) hg2).trans d0
    have d0_2:=fun o o':Obj=>((hAL2 o o').cell (p:=⟨b2,o2+j*3,none⟩) hg2).trans d0
    have d1_1:=fun o:Obj=>((hAL1 o).cell (p:=⟨b2,o2+j*3+1,none⟩) hg2).trans d1
    have d1_2:=fun o o':Obj=>((hAL2 o o').cell (p:=⟨b2,o2+j*3+1,none⟩) hg2).trans d1
    have d2_1:=fun o:Obj=>((hAL1 o).cell (p:=⟨b2,o2+j*3+2,none⟩) hg2).trans d2
    have d2_2:=fun o o':Obj=>((hAL2 o o').cell (p:=⟨b2,o2+j*3+2,none⟩) hg2).trans d2
    have k12_1:=fun o:Obj=>((hAL1 o).cell (p:=⟨w.heap.size,2,none⟩) (Nat.lt_of_succ_lt hgw)).trans k12
    have k12_2:=fun o o':Obj=>((hAL2 o o').cell (p:=⟨w.heap.size,2,none⟩) (Nat.lt_of_succ_lt hgw)).trans k12
    have k22_1:=fun o:Obj=>((hAL1 o).cell (p:=⟨w.heap.size+1,2,none⟩) hgw).trans k22
    have k22_2:=fun o o':Obj=>((hAL2 o o').cell (p:=⟨w.heap.size+1,2,none⟩) hgw).trans k22
    clear hAL1 hAL2
    go_region
    · have hx5:Below wr.heap.size wr ((wr.alloc (.cells #[.int .i64 rs,.int .i64 rf,.slice A1 rr.length k1] 152)).alloc (.cells #[.int .i64 rs,.int .i64 rf,.slice A2 rr.length k2] 152)).drew:=(((Below.refl wr.heap.size wr).alloc (Nat.le_refl _) (.cells #[.int .i64 rs,.int .i64 rf,.slice A1 rr.length k1] 152)).alloc (by simp) (.cells #[.int .i64 rs,.int .i64 rf,.slice A2 rr.length k2] 152)).drew
      have hbA:Blk ((wr.alloc (.cells #[.int .i64 rs,.int .i64 rf,.slice A1 rr.length k1] 152)).alloc (.cells #[.int .i64 rs,.int .i64 rf,.slice A2 rr.length k2] 152)).drew wr.heap.size 152 #[.int .i64 rs,.int .i64 rf,.slice A1 rr.length k1]:=Blk.alloc (heap_alloc_new wr _) _
      have hbB:Blk ((wr.alloc (.cells #[.int .i64 rs,.int .i64 rf,.slice A1 rr.length k1] 152)).alloc (.cells #[.int .i64 rs,.int .i64 rf,.slice A2 rr.length k2] 152)).drew (wr.heap.size+1) 152 #[.int .i64 rs,.int .i64 rf,.slice A2 rr.length k2]:=by
       have:=heap_alloc_new (wr.alloc (.cells #[.int .i64 rs,.int .i64 rf,.slice A1 rr.length k1] 152)) (.cells #[.int .i64 rs,.int .i64 rf,.slice A2 rr.length k2] 152)
       rw [World.size_alloc] at this
       exact this
      generalize ((wr.alloc (.cells #[.int .i64 rs,.int .i64 rf,.slice A1 rr.length k1] 152)).alloc (.cells #[.int .i64 rs,.int .i64 rf,.slice A2 rr.length k2] 152)).drew=w5 at *
      have e60:w5.cell? ⟨wr.heap.size,0,none⟩=some (.int .i64 rs):=hbA.cell 0
      have e61:w5.cell? ⟨wr.heap.size,1,none⟩=some (.int .i64 rf):=hbA.cell 1
      have e62:w5.cell? ⟨wr.heap.size,2,none⟩=some (.slice A1 rr.length k1):=hbA.cell 2
      have e70:w5.cell? ⟨(wr.heap.size+1),0,none⟩=some (.int .i64 rs):=hbB.cell 0
      have e71:w5.cell? ⟨(wr.heap.size+1),1,none⟩=some (.int .i64 rf):=hbB.cell 1
      have e72:w5.cell? ⟨(wr.heap.size+1),2,none⟩=some (.slice A2 rr.length k2):=hbB.cell 2
      have hnf:(rs != rs)=false:=by simp
      have hnf2:(rf != rf)=false:=by simp
      have HSM:=Lib.hid (same_any w5 F F' _ _ rr rr (hu1.below hx5) (hu2.below hx5))
      rw [beq_self_eq_true] at HSM
      clear hbA hbB
      go_wp2_with fail
      refine HSM.out.mono ?_
      rintro e w6 ⟨rfl,n6,hw6⟩
      have hx6:=below_drewN hx5 n6
      rw [<-hw6] at hx6
      clear hw6
      go_wp2_with fail
      go_roundg (gk-1)
      case measure=>omega
      case rel=>exact ⟨j+1,by omega,by go_num,hx.trans (hx6.mono hx.size)⟩
    · have hx5:Below wr.heap.size wr ((wr.alloc (.cells #[.int .i64 rs,.int .i64 rf,.slice A2 rr.length k2] 152)).alloc (.cells #[.int .i64 rs,.int .i64 rf,.slice A1 rr.length k1] 152)).drew:=(((Below.refl wr.heap.size wr).alloc (Nat.le_refl _) (.cells #[.int .i64 rs,.int .i64 rf,.slice A2 rr.length k2] 152)).alloc (by simp) (.cells #[.int .i64 rs,.int .i64 rf,.slice A1 rr.length k1] 152)).drew
      have hbA:Blk ((wr.alloc (.cells #[.int .i64 rs,.int .i64 rf,.slice A2 rr.length k2] 152)).alloc (.cells #[.int .i64 rs,.int .i64 rf,.slice A1 rr.length k1] 152)).drew wr.heap.size 152 #[.int .i64 rs,.int .i64 rf,.slice A2 rr.length k2]:=Blk.alloc (heap_alloc_new wr _) _
      have hbB:Blk ((wr.alloc (.cells #[.int .i64 rs,.int .i64 rf,.slice A2 rr.length k2] 152)).alloc (.cells #[.int .i64 rs,.int .i64 rf,.slice A1 rr.length k1] 152)).drew (wr.heap.size+1) 152 #[.int .i64 rs,.int .i64 rf,.slice A1 rr.length k1]:=by
       have:=heap_alloc_new (wr.alloc (.cells #[.int .i64 rs,.int .i64 rf,.slice A2 rr.length k2] 152)) (.cells #[.int .i64 rs,.int .i64 rf,.slice A1 rr.length k1] 152)
       rw [World.size_alloc] at this
       exact this
      generalize ((wr.alloc (.cells #[.int .i64 rs,.int .i64 rf,.slice A2 rr.length k2] 152)).alloc (.cells #[.int .i64 rs,.int .i64 rf,.slice A1 rr.length k1] 152)).drew=w5 at *
      have e60:w5.cell? ⟨(wr.heap.size+1),0,none⟩=some (.int .i64 rs):=hbB.cell 0
      have e61:w5.cell? ⟨(wr.heap.size+1),1,none⟩=some (.int .i64 rf):=hbB.cell 1
      have e62:w5.cell? ⟨(wr.heap.size+1),2,none⟩=some (.slice A1 rr.length k1):=hbB.cell 2
      have e70:w5.cell? ⟨wr.heap.size,0,none⟩=some (.int .i64 rs):=hbA.cell 0
      have e71:w5.cell? ⟨wr.heap.size,1,none⟩=some (.int .i64 rf):=hbA.cell 1
      have e72:w5.cell? ⟨wr.heap.size,2,none⟩=some (.slice A2 rr.length k2):=hbA.cell 2
      have hnf:(rs != rs)=false:=by simp
      have hnf2:(rf != rf)=false:=by simp
      have HSM:=Lib.hid (same_any w5 F F' _ _ rr rr (hu1.below hx5) (hu2.below hx5))
      rw [beq_self_eq_true] at HSM
      clear hbA hbB
      go_wp2_with fail
      refine HSM.out.mono ?_
      rintro e w6 ⟨rfl,n6,hw6⟩
      have hx6:=below_drewN hx5 n6
      rw [<-hw6] at hx6
      clear hw6
      go_wp2_with fail
      go_roundg (gk-1)
      case measure=>omega
      case rel=>exact ⟨j+1,by omega,by go_num,hx.trans (hx6.mono hx.size)⟩
  · have hltB:decide ((j:Int)<(l.length:Int))=false:=decide_eq_false (by omega)
    go_wp2_with fail
    go_ret
    exact ⟨rfl,hxr⟩
end Go.Proofs.Ytfdibjgmbdkbcaa
namespace Go.Proofs.Ytfdibjgmbdkbcaa
open Go.RowKit Go.Lib
set_option maxRecDepth 100000 in
set_option maxHeartbeats 4000000 in
theorem sameFleet_yes (w:World) (F1 F2 G1 G2:Nat->Prop) (sx sy:Value) (bx by_:Value) (f:Flt) (hs1:RdL w F1 sx f.sh) (hs2:RdL w F2 sy f.sh) (hk1:RdL w G1 bx f.book) (hk2:RdL w G2 by_ f.book) :
 Calls Try.prog 77 #[.agg #[sx,bx],.agg #[sy,by_]] w fun e w'=>e = .returned (.bool true)/\Below w.heap.size w w':=by
 obtain ⟨Ax,cx,e1,_,m1⟩:=hs1.form
 obtain ⟨Ay,cy,e2,_,m2⟩:=hs2.form
 obtain ⟨Bx,dx,e3,_,m3⟩:=hk1.form
 obtain ⟨By,dy,e4,_,m4⟩:=hk2.form
 subst e1 e2 e3 e4
 unfold maxLen at m1 m2 m3 m4
 have hn:((f.sh.length:Int) != (f.sh.length:Int))=false:=by simp
 have hx0:=((Below.refl w.heap.size w).alloc (Nat.le_refl _) (.cells #[.slice Ax f.sh.length cx,.slice Bx f.book.length dx] 92)).alloc (by simp) (.cells #[.slice Ay f.sh.length cy,.slice By f.book.length dy] 92)
 have hb1:Blk ((w.alloc (.cells #[.slice Ax f.sh.length cx,.slice Bx f.book.length dx] 92)).alloc (.cells #[.slice Ay f.sh.length cy,.slice By f.book.length dy] 92)) w.heap.size 92 #[.slice Ax f.sh.length cx,.slice Bx f.book.length dx]:=Blk.alloc (heap_alloc_new w _) _
 have hb2:Blk ((w.alloc (.cells #[.slice Ax f.sh.length cx,.slice Bx f.book.length dx] 92)).alloc (.cells #[.slice Ay f.sh.length cy,.slice By f.book.length dy] 92)) (w.heap.size+1) 92 #[.slice Ay f.sh.length cy,.slice By f.book.length dy]:=by
  have:=heap_alloc_new (w.alloc (.cells #[.slice Ax f.sh.length cx,.slice Bx f.book.length dx] 92)) (.cells #[.slice Ay f.sh.length cy,.slice By f.book.length dy] 92)
  rw [World.size_alloc] at this
  exact this
 go_enter Try.func77,Try.ntmps77
 go_upto_region 1 with (fail)
 generalize ((w.alloc (.cells #[.slice Ax f.sh.length cx,.slice Bx f.book.length dx] 92)).alloc (.cells #[.slice Ay f.sh.length cy,.slice By f.book.length dy] 92))=w1 at *
 have h10:w1.cell? ⟨w.heap.size,0,none⟩=some (.slice Ax f.sh.length cx):=hb1.cell 0
 have h11:w1.cell? ⟨w.heap.size,1,none⟩=some (.slice Bx f.book.length dx):=hb1.cell 1
 have h20:w1.cell? ⟨w.heap.size+1,0,none⟩=some (.slice Ay f.sh.length cy):=hb2.cell 0
 have h21:w1.cell? ⟨w.heap.size+1,1,none⟩=some (.slice By f.book.length dy):=hb2.cell 1
 go_wp2_with fail
 with_reducible refine (sameBook_yes w1 G1 G2 _ _ f.book (hk1.below hx0) (hk2.below hx0)).mono ?_
 rintro e w2 ⟨rfl,hx2⟩
 have hx02:=hx0.trans (hx2.mono hx0.size)
 have hb12:=hb1.below hx2 hb1.lt
 have hb22:=hb2.below hx2 hb2.lt
 have j10:w2.cell? ⟨w.heap.size,0,none⟩=some (.slice Ax f.sh.length cx):=hb12.cell 0
 have j20:w2.cell? ⟨w.heap.size+1,0,none⟩=some (.slice Ay f.sh.length cy):=hb22.cell 0
 go_wp2_with fail
 go_loopg [26] f.sh.length (fun k i wr=>∃ j:Nat,j+k=f.sh.length/\i = .int .i64 (j:Int)/\Below w2.heap.size w2 wr)
 case atStart=>exact ⟨0,by omega,rfl,Below.refl _ _⟩
 case round =>
  obtain ⟨j,hj,rfl,hx⟩:=hrel
  have hxr:=hx02.trans (hx.mono hx02.size)
  have k10:wr.cell? ⟨w.heap.size,0,none⟩=some (.slice Ax f.sh.length cx):=(hb12.below hx hb12.lt).cell 0
  have k20:wr.cell? ⟨w.heap.size+1,0,none⟩=some (.slice Ay f.sh.length cy):=(hb22.below hx hb22.lt).cell 0
  have hgw:w.heap.size+1<wr.heap.size:=(hb22.below hx hb22.lt).lt
  by_cases hlt:j<f.sh.length
  · obtain ⟨b1,o1,c1,x1,x2,x3,hA1,_,hg1,hc1,ux1,ux2,ux3⟩:=shd_at (hs1.below hxr) hlt
    obtain ⟨b2,o2,c2,y1,y2,y3,hA2,_,hg2,hc2,uy1,uy2,uy3⟩:=shd_at (hs2.below hxr) hlt
    injection hA1 with hA1 _ hA3
    subst hA1 hA3
    injection hA2 with hA2 _ hA3
    subst hA2 hA3
    have hltB:(j:Int)<(f.sh.length:Int):=by omega
    have hj0:(0:Int)<=(j:Int):=by omega
    obtain ⟨xA1,xc1,ex1,_,_,_⟩:=ux1.shape
    obtain ⟨xA2,xc2,ex2⟩:=ux2.form
    obtain ⟨xA3,xc3,ex3,_,_⟩:=ux3.form
    obtain ⟨yA1,yc1,ey1,_,_,_⟩:=uy1.shape
    obtain ⟨yA2,yc2,ey2⟩:=uy2.form
    obtain ⟨yA3,yc3,ey3,_,_⟩:=uy3.form
    subst ex1 ex2 ex3 ey1 ey2 ey3
    have a0:wr.cell? ⟨b1,o1+j*7,none⟩=some (.int .i64 f.sh[j].fr):=hc1 0 _ rfl
    have a1:=hc1 1 _ rfl
    have a2:=hc1 2 _ rfl
    have a3:=hc1 3 _ rfl
    have a4:=hc1 4 _ rfl
    have a5:=hc1 5 _ rfl
    have a6:=hc1 6 _ rfl
    have d0:wr.cell? ⟨b2,o2+j*7,none⟩=some (.int .i64 f.sh[j].fr):=hc2 0 _ rfl
    have d1:=hc2 1 _ rfl
    have d2:=hc2 2 _ rfl
    have d3:=hc2 3 _ rfl
    have d4:=hc2 4 _ rfl
    have d5:=hc2 5 _ rfl
    have d6:=hc2 6 _ rfl
    clear hc1 hc2
    generalize f.sh[j]=s at *
    go_upto_region 6 with (fail)
    clear hb1 hb2 hb12 hb22 h10 h11 h20 h21 j10 j20
    have hAL1:∀ o:Obj,Below wr.heap.size wr (wr.alloc o):=fun o=>(Below.refl _ _).alloc (Nat.le_refl _) o
    have hAL2:∀ o o':Obj,Below wr.heap.size wr ((wr.alloc o).alloc o'):=fun o o'=>(hAL1 o).alloc (hAL1 o).size o'
    have a0_1:=fun o:Obj=>((hAL1 o).cell (p:=⟨b1,o1+j*7,none⟩) hg1).trans a0
    have a0_2:=fun o o':Obj=>((hAL2 o o').cell (p:=⟨b1,o1+j*7,none⟩) hg1).trans a0
    have a1_1:=fun o:Obj=>((hAL1 o).cell (p:=⟨b1,o1+j*7+1,none⟩) hg1).trans a1
    have a1_2:=fun o o':Obj=>((hAL2 o o').cell (p:=⟨b1,o1+j*7+1,none⟩) hg1).trans a1
    have a2_1:=fun o:Obj=>((hAL1 o).cell (p:=⟨b1,o1+j*7+2,none⟩) hg1).trans a2
    have a2_2:=fun o o':Obj=>((hAL2 o o').cell (p:=⟨b1,o1+j*7+2,none⟩) hg1).trans a2
    have a3_1:=fun o:Obj=>((hAL1 o).cell (p:=⟨b1,o1+j*7+3,none⟩) hg1).trans a3
    have a3_2:=fun o o':Obj=>((hAL2 o o').cell (p:=⟨b1,o1+j*7+3,none⟩) hg1).trans a3
    have a4_1:=fun o:Obj=>((hAL1 o).cell (p:=⟨b1,o1+j*7+4,none⟩) hg1).trans a4
    have a4_2:=fun o o':Obj=>((hAL2 o o').cell (p:=⟨b1,o1+j*7+4,none⟩) hg1).trans a4
    have a5_1:=fun o:Obj=>((hAL1 o).cell (p:=⟨b1,o1+j*7+5,none⟩) hg1).trans a5
    have a5_2:=fun o o':Obj=>((hAL2 o o').cell (p:=⟨b1,o1+j*7+5,none⟩) hg1).trans a5
    have a6_1:=fun o:Obj=>((hAL1 o).cell (p:=⟨b1,o1+j*7+6,none⟩) hg1).trans a6
    have a6_2:=fun o o':Obj=>((hAL2 o o').cell (p:=⟨b1,o1+j*7+6,none⟩) hg1).trans a6
    have d0_1:=fun o:Obj=>((hAL1 o).cell (p:=⟨b2,o2+j*7,none⟩) hg2).trans d0
    have d0_2:=fun o o':Obj=>((hAL2 o o').cell (p:=⟨b2,o2+j*7,none⟩) hg2).trans d0
    have d1_1:=fun o:Obj=>((hAL1 o).cell (p:=⟨b2,o2+j*7+1,none⟩) hg2).trans d1
    have d1_2:=fun o o':Obj=>((hAL2 o o').cell (p:=⟨b2,o2+j*7+1,none⟩) hg2).trans d1
    have d2_1:=fun o:Obj=>((hAL1 o).cell (p:=⟨b2,o2+j*7+2,none⟩) hg2).trans d2
    have d2_2:=fun o o':Obj=>((hAL2 o o').cell (p:=⟨b2,o2+j*7+2,none⟩) hg2).trans d2
    have d3_1:=fun o:Obj=>((hAL1 o).cell (p:=⟨b2,o2+j*7+3,none⟩) hg2).trans d3
    have d3_2:=fun o o':Obj=>((hAL2 o o').cell (p:=⟨b2,o2+j*7+3,none⟩) hg2).trans d3
    have d4_1:=fun o:Obj=>((hAL1 o).cell (p:=⟨b2,o2+j*7+4,none⟩) hg2).trans d4
    have d4_2:=fun o o':Obj=>((hAL2 o o').cell (p:=⟨b2,o2+j*7+4,none⟩) hg2).trans d4
    have d5_1:=fun o:Obj=>((hAL1 o).cell (p:=⟨b2,o2+j*7+5,none⟩) hg2).trans d5
    have d5_2:=fun o o':Obj=>((hAL2 o o').cell (p:=⟨b2,o2+j*7+5,none⟩) hg2).trans d5
    have d6_1:=fun o:Obj=>((hAL1 o).cell (p:=⟨b2,o2+j*7+6,none⟩) hg2).trans d6
    have d6_2:=fun o o':Obj=>((hAL2 o o').cell (p:=⟨b2,o2+j*7+6,none⟩) hg2).trans d6
    have k10_1:=fun o:Obj=>((hAL1 o).cell (p:=⟨w.heap.size,0,none⟩) (Nat.lt_of_succ_lt hgw)).trans k10
    have k10_2:=fun o o':Obj=>((hAL2 o o').cell (p:=⟨w.heap.size,0,none⟩) (Nat.lt_of_succ_lt hgw)).trans k10
    have k20_1:=fun o:Obj=>((hAL1 o).cell (p:=⟨w.heap.size+1,0,none⟩) hgw).trans k20
    have k20_2:=fun o o':Obj=>((hAL2 o o').cell (p:=⟨w.heap.size+1,0,none⟩) hgw).trans k20
    clear hAL1 hAL2
    go_region
    · have hx5:Below wr.heap.size wr ((wr.alloc (.cells #[.int .i64 s.fr,.int .i64 s.til,.int .i64 s.st,.slice xA1 s.ents.length xc1,.int .i64 s.man.size,.slice xA2 s.man.root.length xc2,.slice xA3 s.man.segs.length xc3] 156)).alloc (.cells #[.int .i64 s.fr,.int .i64 s.til,.int .i64 s.st,.slice yA1 s.ents.length yc1,.int .i64 s.man.size,.slice yA2 s.man.root.length yc2,.slice yA3 s.man.segs.length yc3] 156)).drew:=(((Below.refl wr.heap.size wr).alloc (Nat.le_refl _) (.cells #[.int .i64 s.fr,.int .i64 s.til,.int .i64 s.st,.slice xA1 s.ents.length xc1,.int .i64 s.man.size,.slice xA2 s.man.root.length xc2,.slice xA3 s.man.segs.length xc3] 156)).alloc (by simp) (.cells #[.int .i64 s.fr,.int .i64 s.til,.int .i64 s.st,.slice yA1 s.ents.length yc1,.int .i64 s.man.size,.slice yA2 s.man.root.length yc2,.slice yA3 s.man.segs.length yc3] 156)).drew
      have hbA:Blk ((wr.alloc (.cells #[.int .i64 s.fr,.int .i64 s.til,.int .i64 s.st,.slice xA1 s.ents.length xc1,.int .i64 s.man.size,.slice xA2 s.man.root.length xc2,.slice xA3 s.man.segs.length xc3] 156)).alloc (.cells #[.int .i64 s.fr,.int .i64 s.til,.int .i64 s.st,.slice yA1 s.ents.length yc1,.int .i64 s.man.size,.slice yA2 s.man.root.length yc2,.slice yA3 s.man.segs.length yc3] 156)).drew wr.heap.size 156 #[.int .i64 s.fr,.int .i64 s.til,.int .i64 s.st,.slice xA1 s.ents.length xc1,.int .i64 s.man.size,.slice xA2 s.man.root.length xc2,.slice xA3 s.man.segs.length xc3]:=Blk.alloc (heap_alloc_new wr _) _
      have hbB:Blk ((wr.alloc (.cells #[.int .i64 s.fr,.int .i64 s.til,.int .i64 s.st,.slice xA1 s.ents.length xc1,.int .i64 s.man.size,.slice xA2 s.man.root.length xc2,.slice xA3 s.man.segs.length xc3] 156)).alloc (.cells #[.int .i64 s.fr,.int .i64 s.til,.int .i64 s.st,.slice yA1 s.ents.length yc1,.int .i64 s.man.size,.slice yA2 s.man.root.length yc2,.slice yA3 s.man.segs.length yc3] 156)).drew (wr.heap.size+1) 156 #[.int .i64 s.fr,.int .i64 s.til,.int .i64 s.st,.slice yA1 s.ents.length yc1,.int .i64 s.man.size,.slice yA2 s.man.root.length yc2,.slice yA3 s.man.segs.length yc3]:=by
       have:=heap_alloc_new (wr.alloc (.cells #[.int .i64 s.fr,.int .i64 s.til,.int .i64 s.st,.slice xA1 s.ents.length xc1,.int .i64 s.man.size,.slice xA2 s.man.root.length xc2,.slice xA3 s.man.segs.length xc3] 156)) (.cells #[.int .i64 s.fr,.int .i64 s.til,.int .i64 s.st,.slice yA1 s.ents.length yc1,.int .i64 s.man.size,.slice yA2 s.man.root.length yc2,.slice yA3 s.man.segs.length yc3] 156)
       rw [World.size_alloc] at this
       exact this
      generalize ((wr.alloc (.cells #[.int .i64 s.fr,.int .i64 s.til,.int .i64 s.st,.slice xA1 s.ents.length xc1,.int .i64 s.man.size,.slice xA2 s.man.root.length xc2,.slice xA3 s.man.segs.length xc3] 156)).alloc (.cells #[.int .i64 s.fr,.int .i64 s.til,.int .i64 s.st,.slice yA1 s.ents.length yc1,.int .i64 s.man.size,.slice yA2 s.man.root.length yc2,.slice yA3 s.man.segs.length yc3] 156)).drew=w5 at *
      have e60:w5.cell? ⟨wr.heap.size,0,none⟩=some (.int .i64 s.fr):=hbA.cell 0
      have e61:w5.cell? ⟨wr.heap.size,1,none⟩=some (.int .i64 s.til):=hbA.cell 1
      have e62:w5.cell? ⟨wr.heap.size,2,none⟩=some (.int .i64 s.st):=hbA.cell 2
      have e63:w5.cell? ⟨wr.heap.size,3,none⟩=some (.slice xA1 s.ents.length xc1):=hbA.cell 3
      have e64:w5.cell? ⟨wr.heap.size,4,none⟩=some (.int .i64 s.man.size):=hbA.cell 4
      have e65:w5.cell? ⟨wr.heap.size,5,none⟩=some (.slice xA2 s.man.root.length xc2):=hbA.cell 5
      have e66:w5.cell? ⟨wr.heap.size,6,none⟩=some (.slice xA3 s.man.segs.length xc3):=hbA.cell 6
      have e70:w5.cell? ⟨(wr.heap.size+1),0,none⟩=some (.int .i64 s.fr):=hbB.cell 0
      have e71:w5.cell? ⟨(wr.heap.size+1),1,none⟩=some (.int .i64 s.til):=hbB.cell 1
      have e72:w5.cell? ⟨(wr.heap.size+1),2,none⟩=some (.int .i64 s.st):=hbB.cell 2
      have e73:w5.cell? ⟨(wr.heap.size+1),3,none⟩=some (.slice yA1 s.ents.length yc1):=hbB.cell 3
      have e74:w5.cell? ⟨(wr.heap.size+1),4,none⟩=some (.int .i64 s.man.size):=hbB.cell 4
      have e75:w5.cell? ⟨(wr.heap.size+1),5,none⟩=some (.slice yA2 s.man.root.length yc2):=hbB.cell 5
      have e76:w5.cell? ⟨(wr.heap.size+1),6,none⟩=some (.slice yA3 s.man.segs.length yc3):=hbB.cell 6
      have hnf:(s.fr != s.fr)=false:=by simp
      have hnf2:(s.til != s.til)=false:=by simp
      have hnf3:(s.st != s.st)=false:=by simp
      have HSM:=Lib.hid (same2_yes w5 F1 F2 _ _ s.ents (ux1.below hx5) (uy1.below hx5))
      have HSM2:∀ z,Below w5.heap.size w5 z->Calls Try.prog 61 #[.agg #[.int .i64 s.man.size,.slice xA2 s.man.root.length xc2,.slice xA3 s.man.segs.length xc3],.agg #[.int .i64 s.man.size,.slice yA2 s.man.root.length yc2,.slice yA3 s.man.segs.length yc3]] z fun e w'=>e = .returned (.bool true)/\Below z.heap.size z w':=fun z hz=>sameMan_yes z F1 F2 s.man.size _ _ _ _ s.man.root s.man.segs ((ux2.below hx5).below hz) ((uy2.below hx5).below hz) ((ux3.below hx5).below hz) ((uy3.below hx5).below hz)
      have hhbAz:∀ z,Below w5.heap.size w5 z->∀ i,z.cell? ⟨wr.heap.size,i,none⟩=w5.cell? ⟨wr.heap.size,i,none⟩:=fun z hz i=>hz.cell (p:=⟨wr.heap.size,i,none⟩) hbA.lt
      have hhbBz:∀ z,Below w5.heap.size w5 z->∀ i,z.cell? ⟨(wr.heap.size+1),i,none⟩=w5.cell? ⟨(wr.heap.size+1),i,none⟩:=fun z hz i=>hz.cell (p:=⟨(wr.heap.size+1),i,none⟩) hbB.lt
      clear hbA hbB
      go_wp2_with fail
      refine HSM.out.mono ?_
      rintro e w6 ⟨rfl,n6,hw6⟩
      have hx6:=below_drewN (Below.refl w5.heap.size w5) n6
      rw [<-hw6] at hx6
      clear hw6
      have hx56:=hx5.trans (hx6.mono hx5.size)
      have q64:=(hhbAz w6 hx6 4).trans e64
      have q65:=(hhbAz w6 hx6 5).trans e65
      have q66:=(hhbAz w6 hx6 6).trans e66
      have q74:=(hhbBz w6 hx6 4).trans e74
      have q75:=(hhbBz w6 hx6 5).trans e75
      have q76:=(hhbBz w6 hx6 6).trans e76
      have HM:=Lib.hid (HSM2 w6 hx6)
      clear hhbAz hhbBz HSM2
      go_wp2_with fail
      refine HM.out.mono ?_
      rintro e w7 ⟨rfl,hx7⟩
      have hx57:=hx56.trans (hx7.mono hx56.size)
      go_wp2_with fail
      go_roundg (gk-1)
      case measure=>omega
      case rel=>exact ⟨j+1,by omega,by go_num,hx.trans (hx57.mono hx.size)⟩
    · have hx5:Below wr.heap.size wr ((wr.alloc (.cells #[.int .i64 s.fr,.int .i64 s.til,.int .i64 s.st,.slice yA1 s.ents.length yc1,.int .i64 s.man.size,.slice yA2 s.man.root.length yc2,.slice yA3 s.man.segs.length yc3] 156)).alloc (.cells #[.int .i64 s.fr,.int .i64 s.til,.int .i64 s.st,.slice xA1 s.ents.length xc1,.int .i64 s.man.size,.slice xA2 s.man.root.length xc2,.slice xA3 s.man.segs.length xc3] 156)).drew:=(((Below.refl wr.heap.size wr).alloc (Nat.le_refl _) (.cells #[.int .i64 s.fr,.int .i64 s.til,.int .i64 s.st,.slice yA1 s.ents.length yc1,.int .i64 s.man.size,.slice yA2 s.man.root.length yc2,.slice yA3 s.man.segs.length yc3] 156)).alloc (by simp) (.cells #[.int .i64 s.fr,.int .i64 s.til,.int .i64 s.st,.slice xA1 s.ents.length xc1,.int .i64 s.man.size,.slice xA2 s.man.root.length xc2,.slice xA3 s.man.segs.length xc3] 156)).drew
      have hbA:Blk ((wr.alloc (.cells #[.int .i64 s.fr,.int .i64 s.til,.int .i64 s.st,.slice yA1 s.ents.length yc1,.int .i64 s.man.size,.slice yA2 s.man.root.length yc2,.slice yA3 s.man.segs.length yc3] 156)).alloc (.cells #[.int .i64 s.fr,.int .i64 s.til,.int .i64 s.st,.slice xA1 s.ents.length xc1,.int .i64 s.man.size,.slice xA2 s.man.root.length xc2,.slice xA3 s.man.segs.length xc3] 156)).drew wr.heap.size 156 #[.int .i64 s.fr,.int .i64 s.til,.int .i64 s.st,.slice yA1 s.ents.length yc1,.int .i64 s.man.size,.slice yA2 s.man.root.length yc2,.slice yA3 s.man.segs.length yc3]:=Blk.alloc (heap_alloc_new wr _) _
      have hbB:Blk ((wr.alloc (.cells #[.int .i64 s.fr,.int .i64 s.til,.int .i64 s.st,.slice yA1 s.ents.length yc1,.int .i64 s.man.size,.slice yA2 s.man.root.length yc2,.slice yA3 s.man.segs.length yc3] 156)).alloc (.cells #[.int .i64 s.fr,.int .i64 s.til,.int .i64 s.st,.slice xA1 s.ents.length xc1,.int .i64 s.man.size,.slice xA2 s.man.root.length xc2,.slice xA3 s.man.segs.length xc3] 156)).drew (wr.heap.size+1) 156 #[.int .i64 s.fr,.int .i64 s.til,.int .i64 s.st,.slice xA1 s.ents.length xc1,.int .i64 s.man.size,.slice xA2 s.man.root.length xc2,.slice xA3 s.man.segs.length xc3]:=by
       have:=heap_alloc_new (wr.alloc (.cells #[.int .i64 s.fr,.int .i64 s.til,.int .i64 s.st,.slice yA1 s.ents.length yc1,.int .i64 s.man.size,.slice yA2 s.man.root.length yc2,.slice yA3 s.man.segs.length yc3] 156)) (.cells #[.int .i64 s.fr,.int .i64 s.til,.int .i64 s.st,.slice xA1 s.ents.length xc1,.int .i64 s.man.size,.slice xA2 s.man.root.length xc2,.slice xA3 s.man.segs.length xc3] 156)
       rw [World.size_alloc] at this
       exact this
      generalize ((wr.alloc (.cells #[.int .i64 s.fr,.int .i64 s.til,.int .i64 s.st,.slice yA1 s.ents.length yc1,.int .i64 s.man.size,.slice yA2 s.man.root.length yc2,.slice yA3 s.man.segs.length yc3] 156)).alloc (.cells #[.int .i64 s.fr,.int .i64 s.til,.int .i64 s.st,.slice xA1 s.ents.length xc1,.int .i64 s.man.size,.slice xA2 s.man.root.length xc2,.slice xA3 s.man.segs.length xc3] 156)).drew=w5 at *
      have e60:w5.cell? ⟨(wr.heap.size+1),0,none⟩=some (.int .i64 s.fr):=hbB.cell 0
      have e61:w5.cell? ⟨(wr.heap.size+1),1,none⟩=some (.int .i64 s.til):=hbB.cell 1
      have e62:w5.cell? ⟨(wr.heap.size+1),2,none⟩=some (.int .i64 s.st):=hbB.cell 2
      have e63:w5.cell? ⟨(wr.heap.size+1),3,none⟩=some (.slice xA1 s.ents.length xc1):=hbB.cell 3
      have e64:w5.cell? ⟨(wr.heap.size+1),4,none⟩=some (.int .i64 s.man.size):=hbB.cell 4
      have e65:w5.cell? ⟨(wr.heap.size+1),5,none⟩=some (.slice xA2 s.man.root.length xc2):=hbB.cell 5
      have e66:w5.cell? ⟨(wr.heap.size+1),6,none⟩=some (.slice xA3 s.man.segs.length xc3):=hbB.cell 6
      have e70:w5.cell? ⟨wr.heap.size,0,none⟩=some (.int .i64 s.fr):=hbA.cell 0
      have e71:w5.cell? ⟨wr.heap.size,1,none⟩=some (.int .i64 s.til):=hbA.cell 1
      have e72:w5.cell? ⟨wr.heap.size,2,none⟩=some (.int .i64 s.st):=hbA.cell 2
      have e73:w5.cell? ⟨wr.heap.size,3,none⟩=some (.slice yA1 s.ents.length yc1):=hbA.cell 3
      have e74:w5.cell? ⟨wr.heap.size,4,none⟩=some (.int .i64 s.man.size):=hbA.cell 4
      have e75:w5.cell? ⟨wr.heap.size,5,none⟩=some (.slice yA2 s.man.root.length yc2):=hbA.cell 5
      have e76:w5.cell? ⟨wr.heap.size,6,none⟩=some (.slice yA3 s.man.segs.length yc3):=hbA.cell 6
      have hnf:(s.fr != s.fr)=false:=by simp
      have hnf2:(s.til != s.til)=false:=by simp
      have hnf3:(s.st != s.st)=false:=by simp
      have HSM:=Lib.hid (same2_yes w5 F1 F2 _ _ s.ents (ux1.below hx5) (uy1.below hx5))
      have HSM2:∀ z,Below w5.heap.size w5 z->Calls Try.prog 61 #[.agg #[.int .i64 s.man.size,.slice xA2 s.man.root.length xc2,.slice xA3 s.man.segs.length xc3],.agg #[.int .i64 s.man.size,.slice yA2 s.man.root.length yc2,.slice yA3 s.man.segs.length yc3]] z fun e w'=>e = .returned (.bool true)/\Below z.heap.size z w':=fun z hz=>sameMan_yes z F1 F2 s.man.size _ _ _ _ s.man.root s.man.segs ((ux2.below hx5).below hz) ((uy2.below hx5).below hz) ((ux3.below hx5).below hz) ((uy3.below hx5).below hz)
      have hhbBz:∀ z,Below w5.heap.size w5 z->∀ i,z.cell? ⟨(wr.heap.size+1),i,none⟩=w5.cell? ⟨(wr.heap.size+1),i,none⟩:=fun z hz i=>hz.cell (p:=⟨(wr.heap.size+1),i,none⟩) hbB.lt
      have hhbAz:∀ z,Below w5.heap.size w5 z->∀ i,z.cell? ⟨wr.heap.size,i,none⟩=w5.cell? ⟨wr.heap.size,i,none⟩:=fun z hz i=>hz.cell (p:=⟨wr.heap.size,i,none⟩) hbA.lt
      clear hbA hbB
      go_wp2_with fail
      refine HSM.out.mono ?_
      rintro e w6 ⟨rfl,n6,hw6⟩
      have hx6:=below_drewN (Below.refl w5.heap.size w5) n6
      rw [<-hw6] at hx6
      clear hw6
      have hx56:=hx5.trans (hx6.mono hx5.size)
      have q64:=(hhbBz w6 hx6 4).trans e64
      have q65:=(hhbBz w6 hx6 5).trans e65
      have q66:=(hhbBz w6 hx6 6).trans e66
      have q74:=(hhbAz w6 hx6 4).trans e74
      have q75:=(hhbAz w6 hx6 5).trans e75
      have q76:=(hhbAz w6 hx6 6).trans e76
      have HM:=Lib.hid (HSM2 w6 hx6)
      clear hhbBz hhbAz HSM2
      go_wp2_with fail
      refine HM.out.mono ?_
      rintro e w7 ⟨rfl,hx7⟩
      have hx57:=hx56.trans (hx7.mono hx56.size)
      go_wp2_with fail
      go_roundg (gk-1)
      case measure=>omega
      case rel=>exact ⟨j+1,by omega,by go_num,hx.trans (hx57.mono hx.size)⟩
  · have hltB:decide ((j:Int)<(f.sh.length:Int))=false:=decide_eq_false (by omega)
    go_wp2_with fail
    go_ret
    exact ⟨rfl,hxr⟩
end Go.Proofs.Ytfdibjgmbdkbcaa
