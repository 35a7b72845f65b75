/-
  THE WALKS of yearref5.SameHead, SameRecord, of the same. No conditions.
  THE WALKS of yearref5.SameHead, SameRecord, SameAnswer, SameBook, SameManifest, SameFleet, of what is the same. Conditions: what is read.
-/
import Derived.Test.YtfdibjgmbdkbcaaZBookA
import Derived.Test.YtfdibjgmbdkbcaaZStep
import Derived.Test.YtfdibjgmbdkbcaaZGh
import Derived.Test.YtfdibjgmbdkbcaaZGs
import Derived.Test.YtfdibjgmbdkbcaaZBookD
namespace Go.Proofs.Ytfdibjgmbdkbcaa
open Go.RowKit Go.Lib

set_option maxRecDepth 100000 in
set_option maxHeartbeats 1000000 in
theorem sameHead_yes (w : World) (F F' : Nat → Prop) (n : Int) (va vb : Value) (l : Bs) (ha : Bytes w F va l) (hb : Bytes w F' vb l) :
    Calls Try.prog 58 #[.agg #[.int .i64 n, va], .agg #[.int .i64 n, vb]] w fun e w' => e = .returned (.bool true) ∧ Below w.heap.size w w' := by
  obtain ⟨A, c, rfl⟩ := ha.form
  obtain ⟨A', c', rfl⟩ := hb.form
  have hx := ((Below.refl w.heap.size w).alloc (Nat.le_refl _) (.cells #[.int .i64 n, .slice A l.length c] 39)).alloc (by simp) (.cells #[.int .i64 n, .slice A' l.length c'] 39)
  have ha2 := (ha.alloc (.cells #[.int .i64 n, .slice A l.length c] 39)).alloc (.cells #[.int .i64 n, .slice A' l.length c'] 39)
  have hb2 := (hb.alloc (.cells #[.int .i64 n, .slice A l.length c] 39)).alloc (.cells #[.int .i64 n, .slice A' l.length c'] 39)
  go_enter Try.func58, Try.ntmps58
  go_wp2_with fail
  refine (same_any _ _ _ _ _ l l ha2 hb2).mono ?_
  rintro e w1 ⟨rfl, n1, hw⟩
  rw [beq_self_eq_true]
  have hx1 := below_drewN hx n1
  rw [← hw] at hx1
  clear hw
  go_wp2_with fail
  go_ret
  exact ⟨rfl, hx1⟩

set_option maxRecDepth 100000 in
set_option maxHeartbeats 1000000 in
theorem sameRec_yes (w : World) (F F' : Nat → Prop) (sh fr tt sz : Int) (va vb : Value) (l : Bs) (ha : Bytes w F va l) (hb : Bytes w F' vb l) :
    Calls Try.prog 53 #[.agg #[.int .i64 sh, .int .i64 fr, .int .i64 tt, .int .i64 sz, va], .agg #[.int .i64 sh, .int .i64 fr, .int .i64 tt, .int .i64 sz, vb]] w fun e w' => e = .returned (.bool true) ∧ Below w.heap.size w w' := by
  obtain ⟨A, c, rfl⟩ := ha.form
  obtain ⟨A', c', rfl⟩ := hb.form
  have hx := ((Below.refl w.heap.size w).alloc (Nat.le_refl _) (.cells #[.int .i64 sh, .int .i64 fr, .int .i64 tt, .int .i64 sz, .slice A l.length c] 61)).alloc (by simp) (.cells #[.int .i64 sh, .int .i64 fr, .int .i64 tt, .int .i64 sz, .slice A' l.length c'] 61)
  have ha2 := (ha.alloc (.cells #[.int .i64 sh, .int .i64 fr, .int .i64 tt, .int .i64 sz, .slice A l.length c] 61)).alloc (.cells #[.int .i64 sh, .int .i64 fr, .int .i64 tt, .int .i64 sz, .slice A' l.length c'] 61)
  have hb2 := (hb.alloc (.cells #[.int .i64 sh, .int .i64 fr, .int .i64 tt, .int .i64 sz, .slice A l.length c] 61)).alloc (.cells #[.int .i64 sh, .int .i64 fr, .int .i64 tt, .int .i64 sz, .slice A' l.length c'] 61)
  go_enter Try.func53, Try.ntmps53
  go_wp2_with fail
  refine (sameHead_yes _ _ _ sz _ _ l ha2 hb2).mono ?_
  rintro e w1 ⟨rfl, hx1⟩
  go_wp2_with fail
  go_ret
  exact ⟨rfl, hx.trans (hx1.mono hx.size)⟩
end Go.Proofs.Ytfdibjgmbdkbcaa

namespace Go.Proofs.Ytfdibjgmbdkbcaa
open Go.RowKit Go.Lib

set_option maxRecDepth 100000 in
set_option maxHeartbeats 2000000 in
theorem sameMan_yes (w : World) (F F' : Nat → Prop) (n : Int) (r1 r2 s1 s2 : Value) (root : Bs) (l : List Seg) (hr1 : Bytes w F r1 root) (hr2 : Bytes w F' r2 root) (ha : RdL w F s1 l) (hb : RdL w F' s2 l) :
    Calls Try.prog 61 #[.agg #[.int .i64 n, r1, s1], .agg #[.int .i64 n, r2, s2]] w fun e w' => e = .returned (.bool true) ∧ Below w.heap.size w w' := by
  obtain ⟨A, c, hva, hac, hcm⟩ := ha.form
  obtain ⟨A', c', hvb, hac', hcm'⟩ := hb.form
  obtain ⟨R1, q1, hq1⟩ := hr1.form
  obtain ⟨R2, q2, hq2⟩ := hr2.form
  subst hva hvb hq1 hq2
  unfold maxLen at hcm hcm'
  have hn : ((l.length : Int) != (l.length : Int)) = false := by simp
  have hx0 := ((Below.refl w.heap.size w).alloc (Nat.le_refl _) (.cells #[.int .i64 n, .slice R1 root.length q1, .slice A l.length c] 77)).alloc (by simp) (.cells #[.int .i64 n, .slice R2 root.length q2, .slice A' l.length c'] 77)
  have hb1 : Blk ((w.alloc (.cells #[.int .i64 n, .slice R1 root.length q1, .slice A l.length c] 77)).alloc (.cells #[.int .i64 n, .slice R2 root.length q2, .slice A' l.length c'] 77)) w.heap.size 77 #[.int .i64 n, .slice R1 root.length q1, .slice A l.length c] := Blk.alloc (heap_alloc_new w _) _
  have hb2 : Blk ((w.alloc (.cells #[.int .i64 n, .slice R1 root.length q1, .slice A l.length c] 77)).alloc (.cells #[.int .i64 n, .slice R2 root.length q2, .slice A' l.length c'] 77)) (w.heap.size + 1) 77 #[.int .i64 n, .slice R2 root.length q2, .slice A' l.length c'] := by
    have := heap_alloc_new (w.alloc (.cells #[.int .i64 n, .slice R1 root.length q1, .slice A l.length c] 77)) (.cells #[.int .i64 n, .slice R2 root.length q2, .slice A' l.length c'] 77)
    rw [World.size_alloc] at this
    exact this
  go_enter Try.func61, Try.ntmps61
  go_upto_region 1 with (fail)
  generalize ((w.alloc (.cells #[.int .i64 n, .slice R1 root.length q1, .slice A l.length c] 77)).alloc (.cells #[.int .i64 n, .slice R2 root.length q2, .slice A' l.length c'] 77)) = w1 at *
  have h10 : w1.cell? ⟨w.heap.size, 0, none⟩ = some (.int .i64 n) := hb1.cell 0
  have h11 : w1.cell? ⟨w.heap.size, 1, none⟩ = some (.slice R1 root.length q1) := hb1.cell 1
  have h12 : w1.cell? ⟨w.heap.size, 2, none⟩ = some (.slice A l.length c) := hb1.cell 2
  have h20 : w1.cell? ⟨w.heap.size + 1, 0, none⟩ = some (.int .i64 n) := hb2.cell 0
  have h21 : w1.cell? ⟨w.heap.size + 1, 1, none⟩ = some (.slice R2 root.length q2) := hb2.cell 1
  have h22 : w1.cell? ⟨w.heap.size + 1, 2, none⟩ = some (.slice A' l.length c') := hb2.cell 2
  go_wp2_with fail
  with_reducible refine (sameHead_yes w1 F F' n _ _ root (hr1.below hx0) (hr2.below hx0)).mono ?_
  rintro e w2 ⟨rfl, hx2⟩
  have hx02 := hx0.trans (hx2.mono hx0.size)
  have hb12 := hb1.below hx2 hb1.lt
  have hb22 := hb2.below hx2 hb2.lt
  have j12 : w2.cell? ⟨w.heap.size, 2, none⟩ = some (.slice A l.length c) := hb12.cell 2
  have j22 : w2.cell? ⟨w.heap.size + 1, 2, none⟩ = some (.slice A' l.length c') := hb22.cell 2
  go_wp2_with fail
  go_loopg [26] l.length (fun k i wr => ∃ j : Nat, j + k = l.length ∧ i = .int .i64 (j : Int) ∧ Below w2.heap.size w2 wr)
  case atStart => exact ⟨0, by omega, rfl, Below.refl _ _⟩
  case round =>
    obtain ⟨j, hj, rfl, hx⟩ := hrel
    have hxr := hx02.trans (hx.mono hx02.size)
    have k12 : wr.cell? ⟨w.heap.size, 2, none⟩ = some (.slice A l.length c) := (hb12.below hx hb12.lt).cell 2
    have k22 : wr.cell? ⟨w.heap.size + 1, 2, none⟩ = some (.slice A' l.length c') := (hb22.below hx hb22.lt).cell 2
    by_cases hlt : j < l.length
    · obtain ⟨b1, o1, c1, A1, k1, hA1, _, hg1, a0, a1, a2, hu1⟩ := seg_at (ha.below hxr) hlt
      obtain ⟨b2, o2, c2, A2, k2, hA2, _, hg2, d0, d1, d2, hu2⟩ := seg_at (hb.below hxr) hlt
      injection hA1 with hA1 _ hA3
      subst hA1 hA3
      injection hA2 with hA2 _ hA3
      subst hA2 hA3
      have hltB : (j : Int) < (l.length : Int) := by omega
      have hj0 : (0 : Int) ≤ (j : Int) := by omega
      generalize l[j] = r at *
      obtain ⟨rs, rf, rr⟩ := r
      simp only at a0 a1 a2 d0 d1 d2 hu1 hu2
      go_upto_region 6 with (fail)
      have hgw : w.heap.size + 1 < wr.heap.size := (hb22.below hx hb22.lt).lt
      clear hb1 hb2 hb12 hb22 h10 h11 h12 h20 h21 h22 j12 j22
      have hAL1 : ∀ o : Obj, Below wr.heap.size wr (wr.alloc o) := fun o => (Below.refl _ _).alloc (Nat.le_refl _) o
      have hAL2 : ∀ o o' : Obj, Below wr.heap.size wr ((wr.alloc o).alloc o') := fun o o' => (hAL1 o).alloc (hAL1 o).size o'
      have a0_1 := fun o : Obj => ((hAL1 o).cell (p := ⟨b1, o1 + j * 3, none⟩) hg1).trans a0
      have a0_2 := fun o o' : Obj => ((hAL2 o o').cell (p := ⟨b1, o1 + j * 3, none⟩) hg1).trans a0
      have a1_1 := fun o : Obj => ((hAL1 o).cell (p := ⟨b1, o1 + j * 3 + 1, none⟩) hg1).trans a1
      have a1_2 := fun o o' : Obj => ((hAL2 o o').cell (p := ⟨b1, o1 + j * 3 + 1, none⟩) hg1).trans a1
      have a2_1 := fun o : Obj => ((hAL1 o).cell (p := ⟨b1, o1 + j * 3 + 2, none⟩) hg1).trans a2
      have a2_2 := fun o o' : Obj => ((hAL2 o o').cell (p := ⟨b1, o1 + j * 3 + 2, none⟩) hg1).trans a2
      have d0_1 := fun o : Obj => ((hAL1 o).cell (p := ⟨b2, o2 + j * 3, none⟩) hg2).trans d0
      have d0_2 := fun o o' : Obj => ((hAL2 o o').cell (p := ⟨b2, o2 + j * 3, none⟩) hg2).trans d0
      have d1_1 := fun o : Obj => ((hAL1 o).cell (p := ⟨b2, o2 + j * 3 + 1, none⟩) hg2).trans d1
      have d1_2 := fun o o' : Obj => ((hAL2 o o').cell (p := ⟨b2, o2 + j * 3 + 1, none⟩) hg2).trans d1
      have d2_1 := fun o : Obj => ((hAL1 o).cell (p := ⟨b2, o2 + j * 3 + 2, none⟩) hg2).trans d2
      have d2_2 := fun o o' : Obj => ((hAL2 o o').cell (p := ⟨b2, o2 + j * 3 + 2, none⟩) hg2).trans d2
      have k12_1 := fun o : Obj => ((hAL1 o).cell (p := ⟨w.heap.size, 2, none⟩) (Nat.lt_of_succ_lt hgw)).trans k12
      have k12_2 := fun o o' : Obj => ((hAL2 o o').cell (p := ⟨w.heap.size, 2, none⟩) (Nat.lt_of_succ_lt hgw)).trans k12
      have k22_1 := fun o : Obj => ((hAL1 o).cell (p := ⟨w.heap.size + 1, 2, none⟩) hgw).trans k22
      have k22_2 := fun o o' : Obj => ((hAL2 o o').cell (p := ⟨w.heap.size + 1, 2, none⟩) hgw).trans k22
      clear hAL1 hAL2
      go_region
      · have hx5 : Below wr.heap.size wr ((wr.alloc (.cells #[.int .i64 rs, .int .i64 rf, .slice A1 rr.length k1] 152)).alloc (.cells #[.int .i64 rs, .int .i64 rf, .slice A2 rr.length k2] 152)).drew := (((Below.refl wr.heap.size wr).alloc (Nat.le_refl _) (.cells #[.int .i64 rs, .int .i64 rf, .slice A1 rr.length k1] 152)).alloc (by simp) (.cells #[.int .i64 rs, .int .i64 rf, .slice A2 rr.length k2] 152)).drew
        have hbA : Blk ((wr.alloc (.cells #[.int .i64 rs, .int .i64 rf, .slice A1 rr.length k1] 152)).alloc (.cells #[.int .i64 rs, .int .i64 rf, .slice A2 rr.length k2] 152)).drew wr.heap.size 152 #[.int .i64 rs, .int .i64 rf, .slice A1 rr.length k1] := Blk.alloc (heap_alloc_new wr _) _
        have hbB : Blk ((wr.alloc (.cells #[.int .i64 rs, .int .i64 rf, .slice A1 rr.length k1] 152)).alloc (.cells #[.int .i64 rs, .int .i64 rf, .slice A2 rr.length k2] 152)).drew (wr.heap.size + 1) 152 #[.int .i64 rs, .int .i64 rf, .slice A2 rr.length k2] := by
          have := heap_alloc_new (wr.alloc (.cells #[.int .i64 rs, .int .i64 rf, .slice A1 rr.length k1] 152)) (.cells #[.int .i64 rs, .int .i64 rf, .slice A2 rr.length k2] 152)
          rw [World.size_alloc] at this
          exact this
        generalize ((wr.alloc (.cells #[.int .i64 rs, .int .i64 rf, .slice A1 rr.length k1] 152)).alloc (.cells #[.int .i64 rs, .int .i64 rf, .slice A2 rr.length k2] 152)).drew = w5 at *
        have e60 : w5.cell? ⟨wr.heap.size, 0, none⟩ = some (.int .i64 rs) := hbA.cell 0
        have e61 : w5.cell? ⟨wr.heap.size, 1, none⟩ = some (.int .i64 rf) := hbA.cell 1
        have e62 : w5.cell? ⟨wr.heap.size, 2, none⟩ = some (.slice A1 rr.length k1) := hbA.cell 2
        have e70 : w5.cell? ⟨(wr.heap.size + 1), 0, none⟩ = some (.int .i64 rs) := hbB.cell 0
        have e71 : w5.cell? ⟨(wr.heap.size + 1), 1, none⟩ = some (.int .i64 rf) := hbB.cell 1
        have e72 : w5.cell? ⟨(wr.heap.size + 1), 2, none⟩ = some (.slice A2 rr.length k2) := hbB.cell 2
        have hnf : (rs != rs) = false := by simp
        have hnf2 : (rf != rf) = false := by simp
        have HSM := Lib.hid (same_any w5 F F' _ _ rr rr (hu1.below hx5) (hu2.below hx5))
        rw [beq_self_eq_true] at HSM
        clear hbA hbB
        go_wp2_with fail
        refine HSM.out.mono ?_
        rintro e w6 ⟨rfl, n6, hw6⟩
        have hx6 := below_drewN hx5 n6
        rw [← hw6] at hx6
        clear hw6
        go_wp2_with fail
        go_roundg (gk - 1)
        case measure => omega
        case rel => exact ⟨j + 1, by omega, by go_num, hx.trans (hx6.mono hx.size)⟩
      · have hx5 : Below wr.heap.size wr ((wr.alloc (.cells #[.int .i64 rs, .int .i64 rf, .slice A2 rr.length k2] 152)).alloc (.cells #[.int .i64 rs, .int .i64 rf, .slice A1 rr.length k1] 152)).drew := (((Below.refl wr.heap.size wr).alloc (Nat.le_refl _) (.cells #[.int .i64 rs, .int .i64 rf, .slice A2 rr.length k2] 152)).alloc (by simp) (.cells #[.int .i64 rs, .int .i64 rf, .slice A1 rr.length k1] 152)).drew
        have hbA : Blk ((wr.alloc (.cells #[.int .i64 rs, .int .i64 rf, .slice A2 rr.length k2] 152)).alloc (.cells #[.int .i64 rs, .int .i64 rf, .slice A1 rr.length k1] 152)).drew wr.heap.size 152 #[.int .i64 rs, .int .i64 rf, .slice A2 rr.length k2] := Blk.alloc (heap_alloc_new wr _) _
        have hbB : Blk ((wr.alloc (.cells #[.int .i64 rs, .int .i64 rf, .slice A2 rr.length k2] 152)).alloc (.cells #[.int .i64 rs, .int .i64 rf, .slice A1 rr.length k1] 152)).drew (wr.heap.size + 1) 152 #[.int .i64 rs, .int .i64 rf, .slice A1 rr.length k1] := by
          have := heap_alloc_new (wr.alloc (.cells #[.int .i64 rs, .int .i64 rf, .slice A2 rr.length k2] 152)) (.cells #[.int .i64 rs, .int .i64 rf, .slice A1 rr.length k1] 152)
          rw [World.size_alloc] at this
          exact this
        generalize ((wr.alloc (.cells #[.int .i64 rs, .int .i64 rf, .slice A2 rr.length k2] 152)).alloc (.cells #[.int .i64 rs, .int .i64 rf, .slice A1 rr.length k1] 152)).drew = w5 at *
        have e60 : w5.cell? ⟨(wr.heap.size + 1), 0, none⟩ = some (.int .i64 rs) := hbB.cell 0
        have e61 : w5.cell? ⟨(wr.heap.size + 1), 1, none⟩ = some (.int .i64 rf) := hbB.cell 1
        have e62 : w5.cell? ⟨(wr.heap.size + 1), 2, none⟩ = some (.slice A1 rr.length k1) := hbB.cell 2
        have e70 : w5.cell? ⟨wr.heap.size, 0, none⟩ = some (.int .i64 rs) := hbA.cell 0
        have e71 : w5.cell? ⟨wr.heap.size, 1, none⟩ = some (.int .i64 rf) := hbA.cell 1
        have e72 : w5.cell? ⟨wr.heap.size, 2, none⟩ = some (.slice A2 rr.length k2) := hbA.cell 2
        have hnf : (rs != rs) = false := by simp
        have hnf2 : (rf != rf) = false := by simp
        have HSM := Lib.hid (same_any w5 F F' _ _ rr rr (hu1.below hx5) (hu2.below hx5))
        rw [beq_self_eq_true] at HSM
        clear hbA hbB
        go_wp2_with fail
        refine HSM.out.mono ?_
        rintro e w6 ⟨rfl, n6, hw6⟩
        have hx6 := below_drewN hx5 n6
        rw [← hw6] at hx6
        clear hw6
        go_wp2_with fail
        go_roundg (gk - 1)
        case measure => omega
        case rel => exact ⟨j + 1, by omega, by go_num, hx.trans (hx6.mono hx.size)⟩
    · have hltB : decide ((j : Int) < (l.length : Int)) = false := decide_eq_false (by omega)
      go_wp2_with fail
      go_ret
      exact ⟨rfl, hxr⟩

end Go.Proofs.Ytfdibjgmbdkbcaa
