/-
  THE WALKS of tree.Wrong, leaves. Conditions: what is read is lists of bytes.
-/
import Derived.Test.YtfdibjgmbdkbcaaTreeB
namespace Go.Proofs.Ytfdibjgmbdkbcaa
open Go.RowKit Go.Lib

def fv (p : Nat × Nat) : Value := .agg #[.int .i64 (p.1 : Int), .int .i64 (p.2 : Int)]
/-- the first leaf that is too long -/
def wrongF : List Bs → Nat → Nat × Nat
  | [], _ => (0, 0)
  | b :: l, i => if 200 < b.length then (4, i) else wrongF l (i + 1)
def wrongS (ll : List Bs) : Nat × Nat := if 100 < ll.length then (5, 0) else wrongF ll 0
theorem wrongF_ok : ∀ (l : List Bs) (i : Nat), (wrongF l i).1 = 0 ↔ ∀ b ∈ l, b.length ≤ 200
  | [], _ => by simp [wrongF]
  | b :: l, i => by
    have ih := wrongF_ok l (i + 1)
    unfold wrongF
    by_cases h : 200 < b.length
    · rw [if_pos h]
      simp
      omega
    · rw [if_neg h, ih]
      simp
      omega
theorem wrongF_zero : ∀ (l : List Bs) (i : Nat), (wrongF l i).1 = 0 → wrongF l i = (0, 0)
  | [], _, _ => rfl
  | b :: l, i, h => by
    unfold wrongF at h ⊢
    split at h
    · simp at h
    · rename_i hn
      rw [if_neg hn]
      exact wrongF_zero l (i + 1) h
/-- nothing is wrong with leaves -/
def Fine (ll : List Bs) : Prop := ll.length ≤ 100 ∧ ∀ b ∈ ll, b.length ≤ 200
theorem wrongS_ok (ll : List Bs) : (wrongS ll).1 = 0 ↔ Fine ll := by
  unfold wrongS Fine
  by_cases h : 100 < ll.length
  · rw [if_pos h]; simp; omega
  · rw [if_neg h, wrongF_ok]; constructor
    · intro g; exact ⟨by omega, g⟩
    · intro g; exact g.2
theorem wrongS_zero (ll : List Bs) (h : (wrongS ll).1 = 0) : wrongS ll = (0, 0) := by
  unfold wrongS at h ⊢
  split at h
  · simp at h
  · rename_i hn
    rw [if_neg hn]
    exact wrongF_zero _ _ h
theorem wrongF_le : ∀ (l : List Bs) (i : Nat), (wrongF l i).1 ≤ 4
  | [], _ => by simp [wrongF]
  | b :: l, i => by
    unfold wrongF
    split
    · simp
    · exact wrongF_le l (i + 1)
theorem wrongS_le (ll : List Bs) : (wrongS ll).1 ≤ 5 := by
  unfold wrongS
  split
  · simp
  · have := wrongF_le ll 0; omega

set_option maxHeartbeats 1000000 in
theorem wrong_any (w : World) (F : Nat → Prop) (v : Value) (ll : List Bs) (hl : BList w F v ll) :
    Calls Try.prog 29 #[v] w fun e w' => e = .returned (fv (wrongS ll)) ∧ Below w.heap.size w w' := by
  obtain ⟨A, c, hv⟩ := hl.form
  subst hv
  have hn63 : ll.length ≤ 9223372036854775807 := by
    obtain ⟨vs, ⟨A', c', hv, h1, h2, _⟩, _⟩ := hl
    unfold maxLen at h2
    omega
  have hx : Below w.heap.size w (w.alloc (.cells #[.int .i64 0, .int .i64 0] 32)) := (Below.refl _ _).alloc (Nat.le_refl _) _
  by_cases hmany : 100 < ll.length
  · have hS : Hid (wrongS ll = (5, 0)) := Lib.hid (by unfold wrongS; rw [if_pos hmany])
    have hB : (100 : Int) < (ll.length : Int) := by omega
    go_enter Try.func29, Try.ntmps29
    go_wp2_with fail
    refine bodyPost_ret (v := .agg #[.int .i64 5, .int .i64 0]) (by simp [results, Try.results29, go_sem]) rfl ⟨by rw [hS.out]; rfl, ?_⟩
    exact (Below.refl _ _).alloc (Nat.le_refl _) _
  · have hB : decide ((100 : Int) < (ll.length : Int)) = false := by simp; omega
    have hS : Hid (wrongS ll = wrongF ll 0) := Lib.hid (by unfold wrongS; rw [if_neg hmany])
    go_enter Try.func29, Try.ntmps29
    go_wp2_with fail
    go_loopg [11] ll.length (fun k i wr => ∃ j : Nat, j + k = ll.length ∧ i = .int .i64 (j : Int) ∧ Hid (wrongF (ll.drop j) j = wrongF ll 0) ∧ wr = w.alloc (.cells #[.int .i64 0, .int .i64 0] 32))
    case atStart => exact ⟨0, by omega, rfl, Lib.hid (by simp), rfl⟩
    case round =>
      obtain ⟨j, hj, rfl, HP, rfl⟩ := hrel
      by_cases hlt : j < ll.length
      · obtain ⟨b, off, u, hA, hc, _, hb, hub⟩ := hl.at_ hlt
        subst hA
        obtain ⟨A2, c2, hv2, hac2, hcm2⟩ := hub.form'
        subst hv2
        unfold maxLen at hcm2
        have hltB : (j : Int) < (ll.length : Int) := by omega
        have hc' := (hx.cell (p := ⟨b, off + j, none⟩) hb).trans hc
        have hnx : ll.drop j = ll[j] :: ll.drop (j + 1) := List.drop_eq_getElem_cons hlt
        generalize ll[j] = x at *
        have HN := Lib.hid hnx
        clear hnx hc
        by_cases h200 : 200 < x.length
        · have hB2 : (200 : Int) < (x.length : Int) := by omega
          have HF : Hid (wrongF ll 0 = (4, j)) := Lib.hid (by rw [← HP.out, HN.out, wrongF, if_pos h200])
          go_wp2_with fail
          refine bodyPost_ret (v := .agg #[.int .i64 4, .int .i64 j]) (by simp [results, Try.results29, go_sem]) rfl ⟨by rw [hS.out, HF.out]; rfl, ?_⟩
          exact (Below.refl _ _).alloc (Nat.le_refl _) _
        · have hB2 : decide ((200 : Int) < (x.length : Int)) = false := by simp; omega
          have HF : Hid (wrongF (ll.drop (j + 1)) (j + 1) = wrongF ll 0) := Lib.hid (by rw [← HP.out, HN.out, wrongF, if_neg h200])
          go_wp2_with fail
          go_roundg (gk - 1)
          case measure => omega
          case rel => exact ⟨j + 1, by omega, by go_num, HF, rfl⟩
      · have hltB : decide ((j : Int) < (ll.length : Int)) = false := by simp; omega
        have HF : Hid (wrongF ll 0 = (0, 0)) := Lib.hid (by rw [← HP.out, List.drop_of_length_le (by omega)]; rfl)
        go_wp2_with fail
        refine bodyPost_ret (v := .agg #[.int .i64 0, .int .i64 0]) (by simp [results, Try.results29, go_sem]) rfl ⟨by rw [hS.out, HF.out]; rfl, ?_⟩
        exact (Below.refl _ _).alloc (Nat.le_refl _) _

set_option maxRecDepth 100000 in
set_option maxHeartbeats 1000000 in
theorem leaves_any (w : World) (F : Nat → Prop) (v : Value) (ll : List Bs) (hl : BList w F v ll) (hn : ll.length ≤ 100000) (hlen : ∀ b ∈ ll, b.length ≤ 140737488355000) :
    Calls Try.prog 100 #[v] w fun e w' => ∃ v, e = .returned v ∧ OwnL w' w.heap.size v (ll.map Tr.leafH) ∧ Below w.heap.size w w' := by
  obtain ⟨i0, hi, hz0, hz1, hz2⟩ := info_parts info_bytes
  obtain ⟨A, c, hv⟩ := hl.form
  subst hv
  go_enter Try.func100, Try.ntmps100
  go_wp2_with fail
  go_loopg [3, 8] ll.length (fun k v i wr => ∃ j : Nat, j + k = ll.length ∧ i = .int .i64 (j : Int) ∧ OwnL wr w.heap.size v ((ll.take j).map Tr.leafH) ∧ Below w.heap.size w wr)
  case atStart => exact ⟨0, by omega, rfl, OwnL.nil_ _ _, Below.refl _ _⟩
  case round =>
    obtain ⟨j, hj, rfl, ⟨vs, hown, hin⟩, hx⟩ := hrel
    have hlj : ((ll.take j).map Tr.leafH).length = j := by rw [List.length_map, List.length_take]; omega
    rw [hlj] at hown
    obtain ⟨A1, c1, hv1, hac1, hcm1⟩ := hown.shape
    subst hv1
    by_cases hlt : j < ll.length
    · obtain ⟨b, off, u, hA, hc, _, hb, hub⟩ := hl.at_ hlt
      subst hA
      have hltB : (j : Int) < (ll.length : Int) := by omega
      have hc' := (hx.cell (p := ⟨b, off + j, none⟩) hb).trans hc
      have hub' := ((hub.weak (F' := fun k => k < w.heap.size) (fun k hk _ => hk))).below_of hx (fun _ h => h)
      have hmem : ll[j] ∈ ll := List.getElem_mem hlt
      have hle := hlen _ hmem
      have hnx : (ll.take (j + 1)).map Tr.leafH = (ll.take j).map Tr.leafH ++ [Tr.leafH ll[j]] := by
        rw [List.take_succ_eq_append_getElem hlt, List.map_append]; rfl
      generalize ll[j] = x at *
      have HN := Lib.hid hnx
      have HL := Lib.hid hlj
      clear hnx hc hmem hlj
      go_wp2_with fail
      refine (leaf_any wr _ _ x hub' hle).mono ?_
      rintro e w1 ⟨v1, rfl, hown1, hx1⟩
      obtain ⟨A3, c3, hv3, _, _⟩ := Own.shape hown1
      subst hv3
      have hown2 := hown.below hx1
      have hin2 : ∀ (i : Nat) (b : Bs), ((ll.take j).map Tr.leafH)[i]? = some b → ∃ u : Value, vs[i]? = some u ∧ OwnB w1 w.heap.size u b := fun i b hb => by
        obtain ⟨u, hu, ho⟩ := hin i b hb
        exact ⟨u, hu, Own.below ho hx1⟩
      have hx2 := hx.trans (hx1.mono hx.size)
      have hsrc := SlAt.new w1 22 [.slice A3 (Tr.leafH x).length c3] 1 rfl (by decide)
      have hownA := hown2.alloc (.cells #[.slice A3 (Tr.leafH x).length c3] 22)
      have hxA := hx2.alloc hx2.size (.cells #[.slice A3 (Tr.leafH x).length c3] 22)
      have hvo : OwnB (w1.alloc (.cells #[.slice A3 (Tr.leafH x).length c3] 22)) w.heap.size (.slice A3 (Tr.leafH x).length c3) (Tr.leafH x) := (Own.mono hown1 hx.size).alloc _
      have hin3 : ∀ (i : Nat) (b : Bs), ((ll.take j).map Tr.leafH)[i]? = some b → ∃ u : Value, vs[i]? = some u ∧ OwnB (w1.alloc (.cells #[.slice A3 (Tr.leafH x).length c3] 22)) w.heap.size u b := fun i b hb => by
        obtain ⟨u, hu, ho⟩ := hin2 i b hb
        exact ⟨u, hu, Own.alloc ho _⟩
      go_wp2_with (at_builtin
                   refine wpList_append_Own _ rfl (.tmp 12) (.tmp 15) 40 rfl w.heap.size 22 i0 _ 1 24 Try.underlying40 hi hz0 hz1 hz2 rfl (by omega) _ _ _ rfl hownA _ _ _ _ rfl hsrc (by simp [Value.oneCell']) (by simp only [maxLen]; omega) (by omega) (by simp; have := hx2.size; omega) ?_
                   intro v2 w2 hown3 hgr3 hat3
                   have hx3 : Below w.heap.size w w2 := hxA.grown hgr3 hxA.size (fun k hk => (hownA.lt k hk).1)
                   have hL := OwnL.snoc hin3 (by rw [hown.1, HL.out]; omega) hvo (by rw [HL.out]; exact hownA) hgr3 (by rw [HL.out]; exact hown3))
      go_roundg (gk - 1)
      case measure => omega
      case rel => exact ⟨j + 1, by omega, by go_num, by rw [HN.out]; exact hL, hx3⟩
    · have hltB : decide ((j : Int) < (ll.length : Int)) = false := by simp; omega
      have hj : ll.take j = ll := List.take_of_length_le (by omega)
      rw [hj] at hin hlj
      have HL := Lib.hid hlj
      clear hj hlj
      go_wp2_with fail
      go_ret
      exact ⟨_, rfl, ⟨vs, by rw [HL.out]; exact hown, hin⟩, hx⟩
end Go.Proofs.Ytfdibjgmbdkbcaa
