/-
  Plain law, no program: what clash.Grew tells. No conditions.
-/
import Derived.Test.YtaojgabiefkcaaaClashS
import Derived.Test.YtaojgabiefkcaaaTreeI
namespace Go.Proofs.Ytaojgabiefkcaaa

theorem grewS_yes {m n : Int} {ro rn : Bs} {p : List Bs} (h : grewS m ro n rn p = true) : (1 ≤ m ∧ m ≤ n ∧ n ≤ 100) ∧ D32 p ∧ ro.length = 32 ∧ Tr.two m.toNat n.toNat true ro p = some (ro, rn) := by
  unfold grewS at h
  rw [Bool.and_eq_true, Bool.and_eq_true, Bool.and_eq_true] at h
  refine ⟨of_decide_eq_true h.1, (allD_iff p).1 h.2.1, of_decide_eq_true h.2.2.1, ?_⟩
  have h4 := h.2.2.2
  cases ht : Tr.two m.toNat n.toNat true ro p with
  | none => rw [ht] at h4; cases h4
  | some ab =>
    rw [ht] at h4
    dsimp only at h4
    rw [Bool.and_eq_true, beq_iff_eq, beq_iff_eq] at h4
    rw [← h4.1, ← h4.2]
/-- the texts that are told are short -/
theorem down2_lens (n : Nat) : ∀ (l : List Bs) (m : Nat) (whole : Bool) (old : Bs) (p : List Bs) (ab q : Tr.PB), l.length = n → 1 ≤ m → m ≤ n → D32 p → (whole = true → old.length = 32) → Tr.two m n whole old p = some ab → (Tr.down2 l m whole old p).1 = some q → q.1.length ≤ 201 ∧ q.2.length ≤ 201 := by
  induction n using Nat.strongRecOn with
  | ind n ih =>
    intro l m whole old p ab q hl h1 hm h32 ho h hq
    by_cases hlt : m < n
    · have h2 : 2 ≤ n := by omega
      have g1 := Tr.split_lt h2
      have g0 := Tr.split_pos n
      rcases List.eq_nil_or_concat p with rfl | ⟨r, top, rfl⟩
      · rw [Tr.two_nil hlt h2] at h; cases h
      · rw [List.concat_eq_append] at *
        have htop : top.length = 32 := h32 top (by simp)
        have hr : D32 r := fun d hd => h32 d (by simp [hd])
        by_cases hk : m ≤ Tr.split n
        · rw [Tr.two_left hlt h2 _ hk] at h
          obtain ⟨d, hd, rfl⟩ := Option.map_eq_some_iff.1 h
          have hdl := Tr.two_lengths _ _ _ _ _ _ hr ho hd
          have e := Tr.down2_two (Tr.split n) (l.take (Tr.split n)) m whole old r d (by rw [List.length_take]; omega) hk hd
          rw [Tr.down2_left (by omega) (by omega) (by rw [hl]; exact hk), hl] at hq
          simp only [List.dropLast_concat, List.getLastD_concat] at hq
          rcases Tr.orElse_some hq with hq | hq
          · exact ih (Tr.split n) g1 _ _ _ _ _ d q (by rw [List.length_take]; omega) h1 hk hr ho hd hq
          · rw [clashOf_eq hq]
            dsimp only
            rw [pairT_len, pairT_len, Tr.length_rootL, Tr.length_rootL, e, hdl.2]
            omega
        · rw [Tr.two_right hlt h2 _ hk] at h
          obtain ⟨d, hd, rfl⟩ := Option.map_eq_some_iff.1 h
          have hdl := Tr.two_lengths _ _ _ _ _ _ hr (fun e => by cases e) hd
          have e := Tr.down2_two (n - Tr.split n) (l.drop (Tr.split n)) (m - Tr.split n) false old r d (by rw [List.length_drop]; omega) (by omega) hd
          rw [Tr.down2_right (by omega) (by omega) (by rw [hl]; exact hk), hl] at hq
          simp only [List.dropLast_concat, List.getLastD_concat] at hq
          rcases Tr.orElse_some hq with hq | hq
          · rcases Tr.orElse_some hq with hq | hq
            · exact ih (n - Tr.split n) (by omega) _ _ _ _ _ d q (by rw [List.length_drop]; omega) (by omega) (by omega) hr (fun e => by cases e) hd hq
            · rw [clashOf_eq hq]
              dsimp only
              rw [pairT_len, pairT_len, Tr.length_rootL, Tr.length_rootL, e, hdl.1]
              omega
          · rw [clashOf_eq hq]
            dsimp only
            rw [pairT_len, pairT_len, Tr.length_rootL, Tr.length_rootL, e, hdl.2]
            omega
    · rw [Tr.down2_all (by omega)] at hq
      split at hq <;> cases hq
/-- what clash.Grew tells -/
noncomputable def clashG (ll : List Bs) (m : Int) (ro : Bs) (p : List Bs) : Option Tr.PB :=
  open Classical in if Fine ll ∧ grewS m ro (ll.length : Int) (Tr.root (ll.map Tr.leafH)) p = true ∧ ro ≠ Tr.rootL (ll.take m.toNat) then (Tr.down2 ll m.toNat true ro p).1 else none
theorem clashG_bad {ll : List Bs} {m : Int} {ro : Bs} {p : List Bs} (h : ¬ (Fine ll ∧ grewS m ro (ll.length : Int) (Tr.root (ll.map Tr.leafH)) p = true ∧ ro ≠ Tr.rootL (ll.take m.toNat))) : clashG ll m ro p = none := by
  unfold clashG; rw [if_neg h]
theorem clashG_ok {ll : List Bs} {m : Int} {ro : Bs} {p : List Bs} (h : Fine ll ∧ grewS m ro (ll.length : Int) (Tr.root (ll.map Tr.leafH)) p = true ∧ ro ≠ Tr.rootL (ll.take m.toNat)) : clashG ll m ro p = (Tr.down2 ll m.toNat true ro p).1 := by
  unfold clashG; rw [if_pos h]
theorem clashG_some {ll : List Bs} {m : Int} {ro : Bs} {p : List Bs} {q : Tr.PB} (h : clashG ll m ro p = some q) : Tr.clashOf q.1 q.2 = some q ∧ q.1.length ≤ 201 ∧ q.2.length ≤ 201 := by
  unfold clashG at h
  split at h
  · rename_i hc
    obtain ⟨⟨h1, h2, h3⟩, hd, hr, ht⟩ := grewS_yes hc.2.1
    rw [show ((ll.length : Int)).toNat = ll.length by omega] at ht
    exact ⟨clashOf_of (Tr.down2_some _ _ _ _ _ _ q rfl h), down2_lens _ _ _ _ _ _ _ q rfl (by omega) (by omega) hd (fun _ => hr) ht h⟩
  · cases h
/-- where another past is shown, two texts are told -/
theorem clashG_there {ll : List Bs} {m : Int} {ro : Bs} {p : List Bs} (h : Fine ll ∧ grewS m ro (ll.length : Int) (Tr.root (ll.map Tr.leafH)) p = true ∧ ro ≠ Tr.rootL (ll.take m.toNat)) : (clashG ll m ro p).isSome = true := by
  rw [clashG_ok h]
  obtain ⟨⟨h1, h2, h3⟩, hd, hr, ht⟩ := grewS_yes h.2.1
  rw [show ((ll.length : Int)).toNat = ll.length by omega] at ht
  cases hn : (Tr.down2 ll m.toNat true ro p).1 with
  | some q => rfl
  | none => exact absurd (Tr.down2_none _ _ _ _ _ _ _ rfl (by omega) (by omega) hd (fun _ => hr) ht hn rfl) h.2.2
theorem told_shortG {ll : List Bs} {m : Int} {ro : Bs} {p : List Bs} : ((clashG ll m ro p).map Prod.fst |>.getD []).length ≤ 1000 ∧ ((clashG ll m ro p).map Prod.snd |>.getD []).length ≤ 1000 := by
  cases h : clashG ll m ro p with
  | none => exact ⟨Nat.zero_le _, Nat.zero_le _⟩
  | some q =>
    obtain ⟨_, h1, h2⟩ := clashG_some h
    exact ⟨Nat.le_trans h1 (by decide), Nat.le_trans h2 (by decide)⟩
end Go.Proofs.Ytaojgabiefkcaaa
