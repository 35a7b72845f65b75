/-
  THE WALKS of slices.Clone, tree.digests, Wrong, leaves. Conditions: what is read is bytes, and lists of bytes.
-/
import Derived.Test.YtfdibjgmbdkbcaaTreeA
import Derived.Deep.RegionHeld3
import Derived.Lib.LazyBuf
namespace Go.Proofs.Ytfdibjgmbdkbcaa
open Go.RowKit Go.Lib

theorem SlAt.none_nil {w : World} {F : Nat → Prop} {size n c : Nat} {xs : List Value} (h : SlAt w F size (.slice none n c) n xs) : n = 0 ∧ xs = [] := by
  obtain ⟨A, c', hv, _, _, hl, hc⟩ := h
  injection hv with e1 e2 e3
  subst e1
  rcases Nat.eq_zero_or_pos n with h0 | h0
  · subst h0; exact ⟨rfl, List.eq_nil_of_length_eq_zero (by simpa using hl)⟩
  · obtain ⟨_, _, h1, _⟩ := hc h0; cases h1

theorem eql_nil_yes {P : Program} {t e : TypeId} (h : P.underlying t = some (.slice e)) (n c : Nat) (w : World) : (binOp .eql t (.slice none n c) (.slice none 0 0)).run P w = .ok (.bool true) w := Lib.run_eql_slice_nil w t e none n c 0 0 h
theorem eql_nil_no {P : Program} {t e : TypeId} (h : P.underlying t = some (.slice e)) (a : Addr) (n c : Nat) (w : World) : (binOp .eql t (.slice (some a) n c) (.slice none 0 0)).run P w = .ok (.bool false) w := Lib.run_eql_slice_nil w t e (some a) n c 0 0 h

set_option maxRecDepth 100000 in
set_option maxHeartbeats 400000 in
theorem clone_any (w : World) (F : Nat → Prop) (v : Value) (l : Bs) (hb : Bytes w F v l) (hlen : l.length ≤ 140737488355000) :
    Calls Try.prog 97 #[v] w fun e w' => ∃ v, e = .returned v ∧ OwnB w' w.heap.size v l ∧ Below w.heap.size w w' := by
  obtain ⟨i0, hi, hz0, hz1, hz2⟩ := info_parts info_u8
  obtain ⟨A, c, rfl⟩ := hb.form
  rcases A with _ | a
  · obtain ⟨_, hx⟩ := SlAt.none_nil hb
    have hl : l = [] := by simpa using hx
    subst hl
    have he := eql_nil_yes (P := Try.prog) Try.underlying22
    simp only [List.length_nil]
    go_enter Try.func97, Try.ntmps97
    go_wp2_with fail
    go_ret
    exact ⟨_, rfl, Own.nil_ _ _ _ _, Below.refl _ _⟩
  · have hown := Own.new w w.heap.size 5 [] 0 rfl (by decide) (Nat.le_refl _)
    have hx := (Below.refl w.heap.size w).alloc (Nat.le_refl _) (.cells #[] 5)
    have hba := hb.alloc (.cells #[] 5)
    have he := eql_nil_no (P := Try.prog) Try.underlying22 a
    go_enter Try.func97, Try.ntmps97
    go_wp2_with (at_builtin
                 refine wpList_append_Own _ rfl (.tmp 5) (.tmp 6) 22 rfl w.heap.size 5 i0 _ 1 1 Try.underlying22 hi hz0 hz1 hz2 rfl (by omega) _ _ _ rfl hown _ _ _ _ rfl hba (map_oneCell l) (by simp only [maxLen]; omega) (by omega) (by simp) ?_
                 intro v1 w1 hown1 hgr1 hat1
                 have hx2 : Below w.heap.size w w1 := hx.grown hgr1 hx.size (fun k hk => (hown.lt k hk).1))
    go_ret
    refine ⟨_, rfl, ?_, hx2⟩
    unfold OwnB
    simpa using hown1

/-- whether all are digests -/
def allD (ll : List Bs) : Bool := ll.all fun d => d.length == 32
theorem allD_iff (ll : List Bs) : allD ll = true ↔ ∀ d ∈ ll, d.length = 32 := by simp [allD]

set_option maxHeartbeats 400000 in
/-- the first that is none -/
theorem indexf_any (w : World) (F : Nat → Prop) (v : Value) (ll : List Bs) (hl : BList w F v ll) :
    Calls Try.prog 141 #[v, .func (.func 127) #[] #[]] w fun e w' => (∃ i : Int, e = .returned (.int .i64 i) ∧ (decide (0 ≤ i) = !allD ll)) ∧ w' = w := by
  obtain ⟨A, c, hv⟩ := hl.form
  subst hv
  have hn63 : ll.length ≤ 9223372036854775807 := by
    obtain ⟨vs, ⟨A', c', hv, h1, h2, _⟩, _⟩ := hl
    unfold maxLen at h2
    omega
  go_enter Try.func141, Try.ntmps141
  go_wp2_with fail
  go_loopg [8] ll.length (fun k i wr => ∃ j : Nat, j + k = ll.length ∧ i = .int .i64 (j : Int) ∧ Hid (allD (ll.take j) = true) ∧ wr = w)
  case atStart => exact ⟨0, by omega, rfl, Lib.hid (by simp [allD]), rfl⟩
  case round =>
    obtain ⟨j, hj, rfl, HP, rfl⟩ := hrel
    by_cases hlt : j < ll.length
    · obtain ⟨b, off, u, hA, hc, _, hb, hub⟩ := hl.at_ hlt
      subst hA
      obtain ⟨A2, c2, hv2, hac2, hcm2⟩ := hub.form'
      subst hv2
      unfold maxLen at hcm2
      have hltB : (j : Int) < (ll.length : Int) := by omega
      have hmem : ll[j] ∈ ll := List.getElem_mem hlt
      have hnx : allD (ll.take (j + 1)) = (allD (ll.take j) && (ll[j].length == 32)) := by
        unfold allD
        rw [List.take_succ_eq_append_getElem hlt, List.all_append]
        simp
      have hall : allD ll = true → ll[j].length = 32 := fun h => (allD_iff ll).1 h _ hmem
      generalize ll[j] = x at *
      have HN := Lib.hid hnx
      have HA := Lib.hid hall
      clear hnx hall hmem
      by_cases h32 : x.length = 32
      · have hB : ((x.length : Int) != 32) = false := by rw [bne_eq_false_iff_eq]; omega
        have HX := Lib.hid h32
        clear h32
        go_wp2_with go_in
        go_roundg (gk - 1)
        case measure => omega
        case rel => exact ⟨j + 1, by omega, by go_num, Lib.hid (by rw [HN.out, HP.out, HX.out]; rfl), rfl⟩
      · have hB : ((x.length : Int) != 32) = true := by rw [bne_iff_ne]; omega
        have HX := Lib.hid h32
        clear h32
        go_wp2_with go_in
        go_ret
        refine ⟨⟨_, rfl, ?_⟩, rfl⟩
        cases h : allD ll with
        | true => exact absurd (HA.out h) HX.out
        | false => simp
    · have hltB : decide ((j : Int) < (ll.length : Int)) = false := by simp; omega
      have hall : allD ll = true := by have := HP.out; rwa [List.take_of_length_le (by omega)] at this
      have HA := Lib.hid hall
      clear hall
      go_wp2_with go_in
      go_ret
      exact ⟨⟨_, rfl, by rw [HA.out]; decide⟩, rfl⟩

set_option maxHeartbeats 400000 in
theorem contains_any (w : World) (F : Nat → Prop) (v : Value) (ll : List Bs) (hl : BList w F v ll) :
    Calls Try.prog 126 #[v, .func (.func 127) #[] #[]] w fun e w' => e = .returned (.bool (!allD ll)) ∧ w' = w := by
  obtain ⟨A, c, rfl⟩ := hl.form
  go_enter Try.func126, Try.ntmps126
  go_wp2_with fail
  refine (indexf_any w F _ ll hl).mono ?_
  rintro e w' ⟨⟨i, rfl, hi⟩, rfl⟩
  have HI := Lib.hid hi
  clear hi
  go_wp2_with fail
  all_goals (go_ret; exact ⟨by rw [← HI.out]; rfl, rfl⟩)

set_option maxHeartbeats 400000 in
theorem digests_any (w : World) (F : Nat → Prop) (v : Value) (ll : List Bs) (hl : BList w F v ll) :
    Calls Try.prog 89 #[v] w fun e w' => e = .returned (.bool (allD ll)) ∧ w' = w := by
  obtain ⟨A, c, rfl⟩ := hl.form
  go_enter Try.func89, Try.ntmps89
  go_wp2_with fail
  refine (contains_any w F _ ll hl).mono ?_
  rintro e w' ⟨rfl, rfl⟩
  go_wp2_with fail
  go_ret
  exact ⟨by simp, rfl⟩
end Go.Proofs.Ytfdibjgmbdkbcaa
