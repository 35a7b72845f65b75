/-
  THE WALK of book.Parse. Conditions: what is read is bytes.
-/
import Derived.Test.YtfdibjgmbdkbcaaBookB
import Derived.Test.YtfdibjgmbdkbcaaBookN
import Derived.Test.YtfdibjgmbdkbcaaPiece
import Derived.Deep.Cut
namespace Go.Proofs.Ytfdibjgmbdkbcaa
open Go.RowKit Go.Lib
attribute [local go_sem ↓] Go.wp_at_zero Go.wp_at_succ

/-- what Parse gives -/
def ParsePost (w : World) (l : Bs) (e : Ending) (w' : World) : Prop :=
  ∃ vr, e = .returned (.tuple #[recV (Bk.parseR l) vr, .int .i64 (Bk.wrongP l : Nat)]) ∧ OwnB w' w.heap.size vr (Bk.parseR l).root ∧ Below w.heap.size w w'

set_option maxRecDepth 100000 in
set_option maxHeartbeats 2000000 in
theorem parseR_any (w : World) (F : Nat → Prop) (v : Value) (l : Bs) (hl : Bytes w F v l) :
    Calls Try.prog 51 #[v] w (ParsePost w l) := by
  obtain ⟨i0, hi, hz0, hz1, hz2⟩ := info_parts info_u8
  obtain ⟨A, c, hv, hlc, hcm⟩ := hl.form'
  subst hv
  unfold maxLen at hcm
  have hx0 := (Below.refl w.heap.size w).alloc (Nat.le_refl _) (.cells #[.int .i64 0, .int .i64 0, .int .i64 0, .int .i64 0, .slice none 0 0] 61)
  have hbR : Blk (w.alloc (.cells #[.int .i64 0, .int .i64 0, .int .i64 0, .int .i64 0, .slice none 0 0] 61)) w.heap.size 61 #[.int .i64 0, .int .i64 0, .int .i64 0, .int .i64 0, .slice none 0 0] := heap_alloc_new w _
  by_cases h40 : l.length = 40
  · have hA : ∃ q off, A = some ⟨q, off, none⟩ := by
      obtain ⟨A', c', hv, _, _, _, h⟩ := hl
      injection hv with e1 e2 e3
      subst e1
      obtain ⟨q, off, h, _⟩ := h (by omega)
      exact ⟨q, off, h⟩
    obtain ⟨q, off, rfl⟩ := hA
    have s1 := hl.piece 0 1 (by omega)
    have s2 := hl.piece 1 3 (by omega)
    have s3 := hl.piece 4 3 (by omega)
    have s4 := hl.piece 7 1 (by omega)
    have s5 := hl.tail 8 (by omega)
    rw [h40] at s5 ⊢
    rw [show 40 - 8 = 32 from rfl] at s5
    rw [Nat.add_zero, Nat.sub_zero, List.drop_zero] at s1
    have hrd : Bk.readR l = ⟨(Bk.num (l.take 1) : Nat), (Bk.num ((l.drop 1).take 3) : Nat), (Bk.num ((l.drop 4).take 3) : Nat), (Bk.num ((l.drop 7).take 1) : Nat), l.drop 8⟩ := rfl
    obtain ⟨n1, HN1⟩ : ∃ n, Hid (n = Bk.num (l.take 1)) := ⟨_, Lib.hid rfl⟩
    obtain ⟨n2, HN2⟩ : ∃ n, Hid (n = Bk.num ((l.drop 1).take 3)) := ⟨_, Lib.hid rfl⟩
    obtain ⟨n3, HN3⟩ : ∃ n, Hid (n = Bk.num ((l.drop 4).take 3)) := ⟨_, Lib.hid rfl⟩
    obtain ⟨n4, HN4⟩ : ∃ n, Hid (n = Bk.num ((l.drop 7).take 1)) := ⟨_, Lib.hid rfl⟩
    rw [← HN1.out, ← HN2.out, ← HN3.out, ← HN4.out] at hrd
    have hwp : Bk.wrongP l = Bk.wrongR ⟨n1, n2, n3, n4, l.drop 8⟩ := by unfold Bk.wrongP; rw [if_neg (by omega), hrd]
    have hpr : Bk.parseR l = if Bk.wrongP l = 0 then ⟨n1, n2, n3, n4, l.drop 8⟩ else Bk.zeroR := by unfold Bk.parseR; rw [hrd]
    have hl8 : (l.drop 8).length = 32 := by rw [List.length_drop]; omega
    have s5' : SlAt w F 1 (.slice (some ⟨q, off + 8, none⟩) 32 (c - 8)) 32 ((l.drop 8).map bv) := by
      have h := s5
      unfold Bytes at h
      rw [hl8] at h
      exact h
    have HWP := Lib.hid hwp
    have HPR := Lib.hid hpr
    have HL8 := Lib.hid hl8
    have H40 := Lib.hid h40
    clear hwp hpr hl8 hrd h40 hlc
    rw [H40.out] at hl
    have c40 : 40 ≤ c := by obtain ⟨_, c', hv, h1, _⟩ := hl; injection hv with _ _ e3; subst e3; rw [H40.out] at h1; exact h1
    have c40' : (40 : Int) ≤ (c : Int) := by omega
    have k1 : ((c : Int) == 1) = false := by rw [beq_eq_false_iff_ne]; omega
    have k4 : ((c : Int) == 4) = false := by rw [beq_eq_false_iff_ne]; omega
    have k7 : ((c : Int) == 7) = false := by rw [beq_eq_false_iff_ne]; omega
    have k8 : ((c : Int) == 8) = false := by rw [beq_eq_false_iff_ne]; omega
    have m1 : ¬ c = 1 := by omega
    have m4 : ¬ c = 4 := by omega
    have m7 : ¬ c = 7 := by omega
    have m8 : ¬ c = 8 := by omega
    go_enter Try.func51, Try.ntmps51
    go_upto_region 3 with (fail)
    generalize w.alloc (.cells #[.int .i64 0, .int .i64 0, .int .i64 0, .int .i64 0, .slice none 0 0] 61) = w2 at *
    have hxd := hx0.drew
    have hs2 := hbR.lt
    have t1 : Bytes w2 F _ _ := s1.below hx0
    have u1 : (1 : Int) ≤ (c : Int) := by omega
    have u4 : (4 : Int) ≤ (c : Int) := by omega
    have u7 : (7 : Int) ≤ (c : Int) := by omega
    have u8 : (8 : Int) ≤ (c : Int) := by omega
    go_cut [4] (fun u4 wq => ∃ g vr, u4 = .pointer (some ⟨g, 0, none⟩) ∧ Blk wq g 61 #[.int .i64 (n1 : Int), .int .i64 (n2 : Int), .int .i64 (n3 : Int), .int .i64 (n4 : Int), vr] ∧ Blk wq w.heap.size 61 #[.int .i64 0, .int .i64 0, .int .i64 0, .int .i64 0, .slice none 0 0] ∧ w.heap.size ≠ g ∧ OwnB wq w.heap.size vr (l.drop 8) ∧ Below w.heap.size w wq)
    case first =>
      refine wp_region_held_drew (S := (fun z : World => Below w.heap.size w z)) (by kernel_rfl) ?_ (fun hHeld => ?_)
      · exact hxd
      refine step_take (i := 0) (v := ?_) rfl (by kernel_rfl) (by kernel_rfl) (by kernel_rfl) (fun _ _ _ h => h) (by rfl) ?yq1 (by assumption) ?_
      case yq1 => (intro w hSw; (try dsimp only at hSw); go_simp; (try with_reducible rfl))
      try simp only [Act.put, List.setIfInBounds_toArray, List.set_cons_zero, List.set_cons_succ]
      refine step_take (i := 1) (v := ?_) rfl (by kernel_rfl) (by kernel_rfl) (by kernel_rfl) (fun _ _ _ h => h) (by rfl) ?yq2 (by assumption) ?_
      case yq2 => (intro w hSw; (try dsimp only at hSw); go_simp; (try with_reducible rfl))
      try simp only [Act.put, List.setIfInBounds_toArray, List.set_cons_zero, List.set_cons_succ]
      refine step_call (i := 2) 105 #[.slice (some ⟨q, off, none⟩) 1 c] (.int .i64 (n1 : Int)) rfl (by kernel_rfl) (by kernel_rfl) (by kernel_rfl) (fun _ _ _ h => h) (by rfl) ?yq3 ?yq3c (by assumption) ?_
      case yq3 => (intro w; go_simp; (try with_reducible rfl))
      case yq3c => (intro z hz; rw [HN1.out]; exact number_any z _ _ _ (Bytes.below s1 hz) (by simp <;> omega))
      try simp only [Act.put, List.setIfInBounds_toArray, List.set_cons_zero, List.set_cons_succ]
      refine step_take (i := 3) (v := ?_) rfl (by kernel_rfl) (by kernel_rfl) (by kernel_rfl) (fun _ _ _ h => h) (by rfl) ?yq4 (by assumption) ?_
      case yq4 => (intro w hSw; (try dsimp only at hSw); go_simp; (try with_reducible rfl))
      try simp only [Act.put, List.setIfInBounds_toArray, List.set_cons_zero, List.set_cons_succ]
      refine step_take (i := 4) (v := ?_) rfl (by kernel_rfl) (by kernel_rfl) (by kernel_rfl) (fun _ _ _ h => h) (by rfl) ?yq5 (by assumption) ?_
      case yq5 => (intro w hSw; (try dsimp only at hSw); go_simp; (try with_reducible rfl))
      try simp only [Act.put, List.setIfInBounds_toArray, List.set_cons_zero, List.set_cons_succ]
      refine step_call (i := 5) 105 #[.slice (some ⟨q, off + 1, none⟩) 3 (c - 1)] (.int .i64 (n2 : Int)) rfl (by kernel_rfl) (by kernel_rfl) (by kernel_rfl) (fun _ _ _ h => h) (by rfl) ?yq6 ?yq6c (by assumption) ?_
      case yq6 => (intro w; go_simp; (try with_reducible rfl))
      case yq6c => (intro z hz; rw [HN2.out]; exact number_any z _ _ _ (Bytes.below s2 hz) (by simp <;> omega))
      try simp only [Act.put, List.setIfInBounds_toArray, List.set_cons_zero, List.set_cons_succ]
      refine step_take (i := 6) (v := ?_) rfl (by kernel_rfl) (by kernel_rfl) (by kernel_rfl) (fun _ _ _ h => h) (by rfl) ?yq7 (by assumption) ?_
      case yq7 => (intro w hSw; (try dsimp only at hSw); go_simp; (try with_reducible rfl))
      try simp only [Act.put, List.setIfInBounds_toArray, List.set_cons_zero, List.set_cons_succ]
      refine step_take (i := 7) (v := ?_) rfl (by kernel_rfl) (by kernel_rfl) (by kernel_rfl) (fun _ _ _ h => h) (by rfl) ?yq8 (by assumption) ?_
      case yq8 => (intro w hSw; (try dsimp only at hSw); go_simp; (try with_reducible rfl))
      try simp only [Act.put, List.setIfInBounds_toArray, List.set_cons_zero, List.set_cons_succ]
      refine step_call (i := 8) 105 #[.slice (some ⟨q, off + 4, none⟩) 3 (c - 4)] (.int .i64 (n3 : Int)) rfl (by kernel_rfl) (by kernel_rfl) (by kernel_rfl) (fun _ _ _ h => h) (by rfl) ?yq9 ?yq9c (by assumption) ?_
      case yq9 => (intro w; go_simp; (try with_reducible rfl))
      case yq9c => (intro z hz; rw [HN3.out]; exact number_any z _ _ _ (Bytes.below s3 hz) (by simp <;> omega))
      try simp only [Act.put, List.setIfInBounds_toArray, List.set_cons_zero, List.set_cons_succ]
      refine step_take (i := 9) (v := ?_) rfl (by kernel_rfl) (by kernel_rfl) (by kernel_rfl) (fun _ _ _ h => h) (by rfl) ?yq10 (by assumption) ?_
      case yq10 => (intro w hSw; (try dsimp only at hSw); go_simp; (try with_reducible rfl))
      try simp only [Act.put, List.setIfInBounds_toArray, List.set_cons_zero, List.set_cons_succ]
      refine step_take (i := 10) (v := ?_) rfl (by kernel_rfl) (by kernel_rfl) (by kernel_rfl) (fun _ _ _ h => h) (by rfl) ?yq11 (by assumption) ?_
      case yq11 => (intro w hSw; (try dsimp only at hSw); go_simp; (try with_reducible rfl))
      try simp only [Act.put, List.setIfInBounds_toArray, List.set_cons_zero, List.set_cons_succ]
      refine step_call (i := 11) 105 #[.slice (some ⟨q, off + 7, none⟩) 1 (c - 7)] (.int .i64 (n4 : Int)) rfl (by kernel_rfl) (by kernel_rfl) (by kernel_rfl) (fun _ _ _ h => h) (by rfl) ?yq12 ?yq12c (by assumption) ?_
      case yq12 => (intro w; go_simp; (try with_reducible rfl))
      case yq12c => (intro z hz; rw [HN4.out]; exact number_any z _ _ _ (Bytes.below s4 hz) (by simp <;> omega))
      try simp only [Act.put, List.setIfInBounds_toArray, List.set_cons_zero, List.set_cons_succ]
      refine step_take (i := 12) (v := ?_) rfl (by kernel_rfl) (by kernel_rfl) (by kernel_rfl) (fun _ _ _ h => h) (by rfl) ?yq13 (by assumption) ?_
      case yq13 => (intro w hSw; (try dsimp only at hSw); go_simp; (try with_reducible rfl))
      try simp only [Act.put, List.setIfInBounds_toArray, List.set_cons_zero, List.set_cons_succ]
      refine step_take (i := 13) (v := ?_) rfl (by kernel_rfl) (by kernel_rfl) (by kernel_rfl) (fun _ _ _ h => h) (by rfl) ?yq14 (by assumption) ?_
      case yq14 => (intro w hSw; (try dsimp only at hSw); go_simp; (try with_reducible rfl))
      try simp only [Act.put, List.setIfInBounds_toArray, List.set_cons_zero, List.set_cons_succ]
      refine step_two 14 17 rfl rfl (by kernel_rfl) (by rfl) (by rfl) (fun K hK => ?_) (fun K hK => ?_)
      · skip
        refine wp_append_Own w2.drew (.const (.slice none 0 0)) (.tmp 23) 22 (by rfl) w.heap.size 5 i0 _ 1 1 Try.underlying22 hi hz0 hz1 hz2 rfl (by omega) (.slice none 0 0) 0 [] (by rfl) (Own.nil_ _ _ _ _) F (.slice (some ⟨q, off + 8, none⟩) 32 (c - 8)) 32 ((l.drop 8).map bv) (by rfl) (SlAt.below s5' hxd) (map_oneCell _) (by simp only [maxLen]; omega) (by omega) (hxd.size) ?_
        intro v4 w4 hown4 hgr4 hat4
        obtain ⟨A4, c4, hv4, _, _⟩ := Own.shape hown4
        subst hv4
        rw [Nat.zero_add, List.nil_append] at hown4
        have hx4 : Below w.heap.size w w4 := hxd.grown hgr4 hxd.size (fun k hk => by cases hk)
        refine hK.out _ _ ?_ (fun hHeld => ?_)
        · exact hx4
        clear hK K
        try simp only [Act.put, List.setIfInBounds_toArray, List.set_cons_zero, List.set_cons_succ]
        refine step_take (i := 15) (v := ?_) rfl (by kernel_rfl) (by kernel_rfl) (by kernel_rfl) (fun _ _ _ h => h) (by rfl) ?yq15 (by assumption) ?_
        case yq15 => (intro w hSw; (try dsimp only at hSw); go_simp; (try with_reducible rfl))
        try simp only [Act.put, List.setIfInBounds_toArray, List.set_cons_zero, List.set_cons_succ]
        refine step_take (i := 16) (v := ?_) rfl (by kernel_rfl) (by kernel_rfl) (by kernel_rfl) (fun _ _ _ h => h) (by rfl) ?yq16 (by assumption) ?_
        case yq16 => (intro w hSw; (try dsimp only at hSw); go_simp; (try with_reducible rfl))
        try simp only [Act.put, List.setIfInBounds_toArray, List.set_cons_zero, List.set_cons_succ]
        refine step_alone 17 rfl (by kernel_rfl) (by rfl) (fun K hK => ?_)
        go_simp
        have hxf := hx4.alloc hx4.size (.cells #[.int .i64 0, .int .i64 0, .int .i64 0, .int .i64 0, .slice none 0 0] 61)
        refine hK.out _ _ ?_ (fun hHeld => ?_)
        · exact hxf
        clear hK K
        try simp only [Act.put, List.setIfInBounds_toArray, List.set_cons_zero, List.set_cons_succ]
        refine step_alone 18 rfl (by kernel_rfl) (by rfl) (fun K hK => ?_)
        go_simp
        refine hK.out _ _ ?_ (fun hHeld => ?_)
        · exact hx4.alloc hx4.size _
        clear hK K
        try simp only [Act.put, List.setIfInBounds_toArray, List.set_cons_zero, List.set_cons_succ]
        refine wpAnyH_done (by kernel_rfl) ?_ _
        go_wp2_with fail
        go_meet
        exact ⟨_, _, rfl, heap_alloc_new w4 _, (hbR.keep (hgr4.block _ hs2 (fun e => by cases e))).alloc _, Nat.ne_of_lt (Nat.lt_of_lt_of_le hs2 hgr4.size), by unfold OwnB; rw [HL8.out]; exact hown4.alloc _, hx4.alloc hx4.size _⟩
      · skip
        go_simp
        have hxe := (hx0.alloc hx0.size (.cells #[.int .i64 0, .int .i64 0, .int .i64 0, .int .i64 0, .slice none 0 0] 61)).drew
        have hB3 : Blk (w2.alloc (.cells #[.int .i64 0, .int .i64 0, .int .i64 0, .int .i64 0, .slice none 0 0] 61)).drew w2.heap.size 61 #[.int .i64 0, .int .i64 0, .int .i64 0, .int .i64 0, .slice none 0 0] := heap_alloc_new w2 _
        have hR3 : Blk (w2.alloc (.cells #[.int .i64 0, .int .i64 0, .int .i64 0, .int .i64 0, .slice none 0 0] 61)).drew w.heap.size 61 #[.int .i64 0, .int .i64 0, .int .i64 0, .int .i64 0, .slice none 0 0] := hbR.alloc _
        generalize hw3 : (w2.alloc (.cells #[.int .i64 0, .int .i64 0, .int .i64 0, .int .i64 0, .slice none 0 0] 61)).drew = w3 at *
        refine hK.out _ _ ?_ (fun hHeld => ?_)
        · exact hxe
        clear hK K
        try simp only [Act.put, List.setIfInBounds_toArray, List.set_cons_zero, List.set_cons_succ]
        refine step_alone 14 rfl (by kernel_rfl) (by rfl) (fun K hK => ?_)
        refine wp_append_Own w3 (.const (.slice none 0 0)) (.tmp 23) 22 (by rfl) w.heap.size 5 i0 _ 1 1 Try.underlying22 hi hz0 hz1 hz2 rfl (by omega) (.slice none 0 0) 0 [] (by rfl) (Own.nil_ _ _ _ _) F (.slice (some ⟨q, off + 8, none⟩) 32 (c - 8)) 32 ((l.drop 8).map bv) (by rfl) (SlAt.below s5' hxe) (map_oneCell _) (by simp only [maxLen]; omega) (by omega) (hxe.size) ?_
        intro v4 w4 hown4 hgr4 hat4
        obtain ⟨A4, c4, hv4, _, _⟩ := Own.shape hown4
        subst hv4
        rw [Nat.zero_add, List.nil_append] at hown4
        have hx4 : Below w.heap.size w w4 := hxe.grown hgr4 hxe.size (fun k hk => by cases hk)
        refine hK.out _ _ ?_ (fun hHeld => ?_)
        · exact hx4
        clear hK K
        try simp only [Act.put, List.setIfInBounds_toArray, List.set_cons_zero, List.set_cons_succ]
        refine step_take (i := 15) (v := ?_) rfl (by kernel_rfl) (by kernel_rfl) (by kernel_rfl) (fun _ _ _ h => h) (by rfl) ?yq20 (by assumption) ?_
        case yq20 => (intro w hSw; (try dsimp only at hSw); go_simp; (try with_reducible rfl))
        try simp only [Act.put, List.setIfInBounds_toArray, List.set_cons_zero, List.set_cons_succ]
        refine step_take (i := 16) (v := ?_) rfl (by kernel_rfl) (by kernel_rfl) (by kernel_rfl) (fun _ _ _ h => h) (by rfl) ?yq21 (by assumption) ?_
        case yq21 => (intro w hSw; (try dsimp only at hSw); go_simp; (try with_reducible rfl))
        try simp only [Act.put, List.setIfInBounds_toArray, List.set_cons_zero, List.set_cons_succ]
        refine step_alone 18 rfl (by kernel_rfl) (by rfl) (fun K hK => ?_)
        have hB4 : Blk w4 w2.heap.size 61 #[.int .i64 0, .int .i64 0, .int .i64 0, .int .i64 0, .slice none 0 0] := hB3.keep (hgr4.block _ hB3.lt (fun e => by cases e))
        have hR4 : Blk w4 w.heap.size 61 #[.int .i64 0, .int .i64 0, .int .i64 0, .int .i64 0, .slice none 0 0] := hR3.keep (hgr4.block _ hR3.lt (fun e => by cases e))
        have cc0 : w4.cell? ⟨w2.heap.size, 0, none⟩ = some (.int .i64 0) := hB4.cell 0
        have cf0 : w4.frozen? ⟨w2.heap.size, 0, none⟩ = false := hB4.frozen 0
        have cc1 : w4.cell? ⟨w2.heap.size, 1, none⟩ = some (.int .i64 0) := hB4.cell 1
        have cf1 : w4.frozen? ⟨w2.heap.size, 1, none⟩ = false := hB4.frozen 1
        have cc2 : w4.cell? ⟨w2.heap.size, 2, none⟩ = some (.int .i64 0) := hB4.cell 2
        have cf2 : w4.frozen? ⟨w2.heap.size, 2, none⟩ = false := hB4.frozen 2
        have cc3 : w4.cell? ⟨w2.heap.size, 3, none⟩ = some (.int .i64 0) := hB4.cell 3
        have cf3 : w4.frozen? ⟨w2.heap.size, 3, none⟩ = false := hB4.frozen 3
        have cc4 : w4.cell? ⟨w2.heap.size, 4, none⟩ = some (.slice none 0 0) := hB4.cell 4
        have cf4 : w4.frozen? ⟨w2.heap.size, 4, none⟩ = false := hB4.frozen 4
        go_simp
        have hBF : Blk (((((w4.setCell ⟨w2.heap.size, 0, none⟩ (.int .i64 (n1 : Int))).setCell ⟨w2.heap.size, 1, none⟩ (.int .i64 (n2 : Int))).setCell ⟨w2.heap.size, 2, none⟩ (.int .i64 (n3 : Int))).setCell ⟨w2.heap.size, 3, none⟩ (.int .i64 (n4 : Int))).setCell ⟨w2.heap.size, 4, none⟩ (.slice A4 32 c4)) w2.heap.size 61 #[.int .i64 (n1 : Int), .int .i64 (n2 : Int), .int .i64 (n3 : Int), .int .i64 (n4 : Int), .slice A4 32 c4] := ((((hB4.set_ 0 _).set_ 1 _).set_ 2 _).set_ 3 _).set_ 4 _
        have hne : w.heap.size ≠ w2.heap.size := Nat.ne_of_lt hs2
        have hRF : Blk (((((w4.setCell ⟨w2.heap.size, 0, none⟩ (.int .i64 (n1 : Int))).setCell ⟨w2.heap.size, 1, none⟩ (.int .i64 (n2 : Int))).setCell ⟨w2.heap.size, 2, none⟩ (.int .i64 (n3 : Int))).setCell ⟨w2.heap.size, 3, none⟩ (.int .i64 (n4 : Int))).setCell ⟨w2.heap.size, 4, none⟩ (.slice A4 32 c4)) w.heap.size 61 #[.int .i64 0, .int .i64 0, .int .i64 0, .int .i64 0, .slice none 0 0] := ((((hR4.far hne _).far hne _).far hne _).far hne _).far hne _
        have hle : w.heap.size ≤ w2.heap.size := hx0.size
        have hxF : Below w.heap.size w (((((w4.setCell ⟨w2.heap.size, 0, none⟩ (.int .i64 (n1 : Int))).setCell ⟨w2.heap.size, 1, none⟩ (.int .i64 (n2 : Int))).setCell ⟨w2.heap.size, 2, none⟩ (.int .i64 (n3 : Int))).setCell ⟨w2.heap.size, 3, none⟩ (.int .i64 (n4 : Int))).setCell ⟨w2.heap.size, 4, none⟩ (.slice A4 32 c4)) := ((((hx4.setCell (p := ⟨w2.heap.size, 0, none⟩) hle _).setCell (p := ⟨w2.heap.size, 1, none⟩) hle _).setCell (p := ⟨w2.heap.size, 2, none⟩) hle _).setCell (p := ⟨w2.heap.size, 3, none⟩) hle _).setCell (p := ⟨w2.heap.size, 4, none⟩) hle _
        have hnb := Own.ne_blk hown4 hB4 (by decide)
        have hoF := ((((Own.setCell (p := ⟨w2.heap.size, 0, none⟩) hown4 hnb (.int .i64 (n1 : Int))).setCell (p := ⟨w2.heap.size, 1, none⟩) hnb (.int .i64 (n2 : Int))).setCell (p := ⟨w2.heap.size, 2, none⟩) hnb (.int .i64 (n3 : Int))).setCell (p := ⟨w2.heap.size, 3, none⟩) hnb (.int .i64 (n4 : Int))).setCell (p := ⟨w2.heap.size, 4, none⟩) hnb (.slice A4 32 c4)
        refine hK.out _ _ ?_ (fun hHeld => ?_)
        · exact hxF
        clear hK K
        try simp only [Act.put, List.setIfInBounds_toArray, List.set_cons_zero, List.set_cons_succ]
        refine wpAnyH_done (by kernel_rfl) ?_ _
        go_wp2_with fail
        go_meet
        exact ⟨_, _, rfl, hBF, hRF, hne, by unfold OwnB; rw [HL8.out]; exact hoF, hxF⟩
    case rest =>
      obtain ⟨g, vr, rfl, hB, hR, hne, hown, hx⟩ := hcut
      clear s1 s2 s3 s4 s5 s5' t1 HN1 HN2 HN3 HN4 HL8
      generalize l.drop 8 = root at *
      obtain ⟨A5, c5, hv5, _, _⟩ := Own.shape hown
      subst hv5
      have e0 : wc.cell? ⟨g, 0, none⟩ = some (.int .i64 (n1 : Int)) := hB.cell 0
      have e1 : wc.cell? ⟨g, 1, none⟩ = some (.int .i64 (n2 : Int)) := hB.cell 1
      have e2 : wc.cell? ⟨g, 2, none⟩ = some (.int .i64 (n3 : Int)) := hB.cell 2
      have e3 : wc.cell? ⟨g, 3, none⟩ = some (.int .i64 (n4 : Int)) := hB.cell 3
      have e4 : wc.cell? ⟨g, 4, none⟩ = some (.slice A5 root.length c5) := hB.cell 4
      go_wp2_with fail
      refine (wrongR_any wc (n1 : Int) (n2 : Int) (n3 : Int) (n4 : Int) A5 c5 root).mono ?_
      rw [← HWP.out]
      obtain ⟨x, HX⟩ : ∃ x, Hid (x = Bk.wrongP l) := ⟨_, Lib.hid rfl⟩
      rw [← HX.out]
      rintro e w5 ⟨rfl, hx5⟩
      have hB5 := hB.below hx5 hB.lt
      have hR5 := hR.below hx5 hR.lt
      have ho5 := OwnB.below hown hx5
      have hxg := hx.trans (hx5.mono hx.size)
      clear e0 e1 e2 e3 e4
      have e0 : w5.cell? ⟨g, 0, none⟩ = some (.int .i64 (n1 : Int)) := hB5.cell 0
      have e1 : w5.cell? ⟨g, 1, none⟩ = some (.int .i64 (n2 : Int)) := hB5.cell 1
      have e2 : w5.cell? ⟨g, 2, none⟩ = some (.int .i64 (n3 : Int)) := hB5.cell 2
      have e3 : w5.cell? ⟨g, 3, none⟩ = some (.int .i64 (n4 : Int)) := hB5.cell 3
      have e4 : w5.cell? ⟨g, 4, none⟩ = some (.slice A5 root.length c5) := hB5.cell 4
      have r0 : w5.cell? ⟨w.heap.size, 0, none⟩ = some (.int .i64 0) := hR5.cell 0
      have r1 : w5.cell? ⟨w.heap.size, 1, none⟩ = some (.int .i64 0) := hR5.cell 1
      have r2 : w5.cell? ⟨w.heap.size, 2, none⟩ = some (.int .i64 0) := hR5.cell 2
      have r3 : w5.cell? ⟨w.heap.size, 3, none⟩ = some (.int .i64 0) := hR5.cell 3
      have r4 : w5.cell? ⟨w.heap.size, 4, none⟩ = some (.slice none 0 0) := hR5.cell 4
      have f0 := hR5.frozen 0
      have f1 := hR5.frozen 1
      have f2 := hR5.frozen 2
      have f3 := hR5.frozen 3
      have f4 := hR5.frozen 4
      by_cases hx0 : x = 0
      · have hp := HPR.out
        rw [← HX.out, if_pos hx0] at hp
        have HP := Lib.hid hp
        have hb : ((x : Int) != 0) = false := by rw [hx0]; rfl
        have HX0 := Lib.hid hx0
        clear hp hx0
        go_wp2_with fail
        have hnb := Own.ne_blk ho5 hR5 (by decide)
        obtain ⟨W, hW⟩ : ∃ z : World, z = (((((w5.setCell ⟨w.heap.size, 0, none⟩ (.int .i64 (n1 : Int))).setCell ⟨w.heap.size, 1, none⟩ (.int .i64 (n2 : Int))).setCell ⟨w.heap.size, 2, none⟩ (.int .i64 (n3 : Int))).setCell ⟨w.heap.size, 3, none⟩ (.int .i64 (n4 : Int))).setCell ⟨w.heap.size, 4, none⟩ (.slice A5 root.length c5)) := ⟨_, rfl⟩
        rw [← hW]
        have sB : Blk W w.heap.size 61 #[.int .i64 (n1 : Int), .int .i64 (n2 : Int), .int .i64 (n3 : Int), .int .i64 (n4 : Int), .slice A5 root.length c5] := by rw [hW]; exact (((((hR5.set_ 0 (.int .i64 (n1 : Int))).set_ 1 (.int .i64 (n2 : Int))).set_ 2 (.int .i64 (n3 : Int))).set_ 3 (.int .i64 (n4 : Int))).set_ 4 (.slice A5 root.length c5))
        have sO : OwnB W w.heap.size (.slice A5 root.length c5) root := by rw [hW]; exact (Own.setCell (p := ⟨w.heap.size, 4, none⟩) (Own.setCell (p := ⟨w.heap.size, 3, none⟩) (Own.setCell (p := ⟨w.heap.size, 2, none⟩) (Own.setCell (p := ⟨w.heap.size, 1, none⟩) (Own.setCell (p := ⟨w.heap.size, 0, none⟩) ho5 hnb (.int .i64 (n1 : Int))) hnb (.int .i64 (n2 : Int))) hnb (.int .i64 (n3 : Int))) hnb (.int .i64 (n4 : Int))) hnb (.slice A5 root.length c5))
        have sX : Below w.heap.size w W := by rw [hW]; exact (((((hxg.setCell (p := ⟨w.heap.size, 0, none⟩) (Nat.le_refl _) (.int .i64 (n1 : Int))).setCell (p := ⟨w.heap.size, 1, none⟩) (Nat.le_refl _) (.int .i64 (n2 : Int))).setCell (p := ⟨w.heap.size, 2, none⟩) (Nat.le_refl _) (.int .i64 (n3 : Int))).setCell (p := ⟨w.heap.size, 3, none⟩) (Nat.le_refl _) (.int .i64 (n4 : Int))).setCell (p := ⟨w.heap.size, 4, none⟩) (Nat.le_refl _) (.slice A5 root.length c5))
        have HW := Lib.hid hW
        clear hW
        have sc0 : W.cell? ⟨w.heap.size, 0, none⟩ = some (.int .i64 (n1 : Int)) := sB.cell 0
        have sc1 : W.cell? ⟨w.heap.size, 1, none⟩ = some (.int .i64 (n2 : Int)) := sB.cell 1
        have sc2 : W.cell? ⟨w.heap.size, 2, none⟩ = some (.int .i64 (n3 : Int)) := sB.cell 2
        have sc3 : W.cell? ⟨w.heap.size, 3, none⟩ = some (.int .i64 (n4 : Int)) := sB.cell 3
        have sc4 : W.cell? ⟨w.heap.size, 4, none⟩ = some (.slice A5 root.length c5) := sB.cell 4
        refine bodyPost_ret (v := .tuple #[.agg #[.int .i64 (n1 : Int), .int .i64 (n2 : Int), .int .i64 (n3 : Int), .int .i64 (n4 : Int), .slice A5 root.length c5], .int .i64 (x : Int)]) (by simp [results, Try.results51, go_sem, sc0, sc1, sc2, sc3, sc4, HX0.out]) rfl ⟨.slice A5 root.length c5, ?_, ?_, sX⟩
        · rw [HP.out, ← HX.out]; rfl
        · rw [HP.out]; exact sO
      · have hp := HPR.out
        rw [← HX.out, if_neg hx0] at hp
        have HP := Lib.hid hp
        have hb : ((x : Int) != 0) = true := by rw [bne_iff_ne]; omega
        clear hp hx0
        go_wp2_with fail
        obtain ⟨W, hW⟩ : ∃ z : World, z = (((((w5.setCell ⟨w.heap.size, 0, none⟩ (.int .i64 0)).setCell ⟨w.heap.size, 1, none⟩ (.int .i64 0)).setCell ⟨w.heap.size, 2, none⟩ (.int .i64 0)).setCell ⟨w.heap.size, 3, none⟩ (.int .i64 0)).setCell ⟨w.heap.size, 4, none⟩ (.slice none 0 0)) := ⟨_, rfl⟩
        rw [← hW]
        have sB : Blk W w.heap.size 61 #[.int .i64 0, .int .i64 0, .int .i64 0, .int .i64 0, .slice none 0 0] := by rw [hW]; exact (((((hR5.set_ 0 (.int .i64 0)).set_ 1 (.int .i64 0)).set_ 2 (.int .i64 0)).set_ 3 (.int .i64 0)).set_ 4 (.slice none 0 0))
        have sX : Below w.heap.size w W := by rw [hW]; exact (((((hxg.setCell (p := ⟨w.heap.size, 0, none⟩) (Nat.le_refl _) (.int .i64 0)).setCell (p := ⟨w.heap.size, 1, none⟩) (Nat.le_refl _) (.int .i64 0)).setCell (p := ⟨w.heap.size, 2, none⟩) (Nat.le_refl _) (.int .i64 0)).setCell (p := ⟨w.heap.size, 3, none⟩) (Nat.le_refl _) (.int .i64 0)).setCell (p := ⟨w.heap.size, 4, none⟩) (Nat.le_refl _) (.slice none 0 0))
        have HW := Lib.hid hW
        clear hW
        have sc0 : W.cell? ⟨w.heap.size, 0, none⟩ = some (.int .i64 0) := sB.cell 0
        have sc1 : W.cell? ⟨w.heap.size, 1, none⟩ = some (.int .i64 0) := sB.cell 1
        have sc2 : W.cell? ⟨w.heap.size, 2, none⟩ = some (.int .i64 0) := sB.cell 2
        have sc3 : W.cell? ⟨w.heap.size, 3, none⟩ = some (.int .i64 0) := sB.cell 3
        have sc4 : W.cell? ⟨w.heap.size, 4, none⟩ = some (.slice none 0 0) := sB.cell 4
        refine bodyPost_ret (v := .tuple #[.agg #[.int .i64 0, .int .i64 0, .int .i64 0, .int .i64 0, .slice none 0 0], .int .i64 (x : Int)]) (by simp [results, Try.results51, go_sem, sc0, sc1, sc2, sc3, sc4]) rfl ⟨.slice none 0 0, ?_, ?_, sX⟩
        · rw [HP.out, ← HX.out]; rfl
        · rw [HP.out]; exact Own.nil_ _ _ _ _
  · have hB : ((l.length : Int) != 40) = true := by rw [bne_iff_ne]; omega
    have hwp : Bk.wrongP l = 2 := by unfold Bk.wrongP; rw [if_pos h40]
    have hpr : Bk.parseR l = Bk.zeroR := by unfold Bk.parseR; rw [hwp, if_neg (by decide)]
    unfold ParsePost
    rw [hwp, hpr]
    clear hwp hpr h40
    go_enter Try.func51, Try.ntmps51
    go_wp2_with fail
    refine bodyPost_ret (v := .tuple #[.agg #[.int .i64 0, .int .i64 0, .int .i64 0, .int .i64 0, .slice none 0 0], .int .i64 2]) (by simp [results, Try.results51, go_sem]) rfl ⟨_, rfl, Own.nil_ _ _ _ _, hx0⟩
end Go.Proofs.Ytfdibjgmbdkbcaa
