/-
  Plain law, no program: what clash.Stands tells. No conditions.
-/
import Derived.Test.YtgbjfilkecmmgaaZGf
namespace Go.Proofs.Ytgbjfilkecmmgaa

theorem getLastD_len {p : List Bs} (h : D32 p) : (p.getLastD []).length ≤ 32 := by
  rcases List.eq_nil_or_concat p with rfl | ⟨q, x, rfl⟩
  · simp
  · have := h x (by simp)
    simp [this]
theorem D32.dropLast {p : List Bs} (h : D32 p) : D32 p.dropLast := fun d hd => h d (List.dropLast_subset _ hd)
theorem clashOf_eq {x y : Bs} {q : Tr.PB} (h : Tr.clashOf x y = some q) : q = (x, y) := by
  unfold Tr.clashOf at h
  split at h
  · injection h with h; exact h.symm
  · cases h
theorem clashOf_again {x y : Bs} {q : Tr.PB} (h : Tr.clashOf x y = some q) : Tr.clashOf q.1 q.2 = some q := by
  have e := clashOf_eq h
  subst e; exact h
theorem clashOf_of {q : Tr.PB} (h : q.1 ≠ q.2 ∧ Sha.sha256 q.1 = Sha.sha256 q.2) : Tr.clashOf q.1 q.2 = some q := by
  unfold Tr.clashOf; rw [if_pos h]
theorem pairT_len (a b : Bs) : (Tr.pairT a b).length = a.length + b.length + 1 := by simp [Tr.pairT]
/-- the texts that are told are short -/
theorem down_lens (n : Nat) : ∀ (l : List Bs) (b : Bs) (i : Nat) (p : List Bs) (q : Tr.PB), l.length = n → (∀ x ∈ l, x.length ≤ 200) → b.length ≤ 200 → D32 p → (Tr.down l b i p).1 = some q → q.1.length ≤ 201 ∧ q.2.length ≤ 201 := by
  induction n using Nat.strongRecOn with
  | ind n ih =>
    intro l b i p q hl hx hb hp h
    have hg := getLastD_len hp
    by_cases h2 : 2 ≤ l.length
    · have g1 := Tr.split_lt h2
      have g0 := Tr.split_pos l.length
      by_cases hi : i < Tr.split l.length
      · rw [Tr.down_left h2 b p hi] at h
        rcases Tr.orElse_some h with h | h
        · exact ih (Tr.split l.length) (by omega) _ _ _ _ q (by rw [List.length_take]; omega) (fun x hxx => hx x (List.mem_of_mem_take hxx)) hb hp.dropLast h
        · rw [clashOf_eq h]
          dsimp only
          rw [pairT_len, pairT_len, Tr.length_rootL, Tr.length_rootL, Tr.length_down _ _ _ _ _ rfl]
          omega
      · rw [Tr.down_right h2 b p hi] at h
        rcases Tr.orElse_some h with h | h
        · exact ih (l.length - Tr.split l.length) (by omega) _ _ _ _ q (List.length_drop ..) (fun x hxx => hx x (List.mem_of_mem_drop hxx)) hb hp.dropLast h
        · rw [clashOf_eq h]
          dsimp only
          rw [pairT_len, pairT_len, Tr.length_rootL, Tr.length_rootL, Tr.length_down _ _ _ _ _ rfl]
          omega
    · rw [Tr.down_one h2] at h
      rw [clashOf_eq h]
      have h0 : (l.getD 0 []).length ≤ 200 := by
        cases l with
        | nil => simp
        | cons a t => exact hx a (by simp)
      show (0 :: l.getD 0 []).length ≤ 201 ∧ (0 :: b).length ≤ 201
      rw [List.length_cons, List.length_cons]
      omega

theorem standsS_yes {n : Int} {r b : Bs} {i : Int} {p : List Bs} (h : standsS n r b i p = true) : (1 ≤ n ∧ n ≤ 100 ∧ 0 ≤ i ∧ i < n ∧ b.length ≤ 200) ∧ D32 p ∧ Tr.up (Tr.leafH b) i.toNat n.toNat p = some r := by
  unfold standsS at h
  rw [Bool.and_eq_true, Bool.and_eq_true] at h
  exact ⟨of_decide_eq_true h.1, (allD_iff p).1 h.2.1, by simpa using h.2.2⟩
/-- what clash.Stands tells -/
noncomputable def clashS (ll : List Bs) (b : Bs) (i : Int) (p : List Bs) : Option Tr.PB :=
  open Classical in if Fine ll ∧ standsS (ll.length : Int) (Tr.root (ll.map Tr.leafH)) b i p = true ∧ ll[i.toNat]? ≠ some b then (Tr.down ll b i.toNat p).1 else none
theorem clashS_bad {ll : List Bs} {b : Bs} {i : Int} {p : List Bs} (h : ¬ (Fine ll ∧ standsS (ll.length : Int) (Tr.root (ll.map Tr.leafH)) b i p = true ∧ ll[i.toNat]? ≠ some b)) : clashS ll b i p = none := by
  unfold clashS; rw [if_neg h]
theorem clashS_ok {ll : List Bs} {b : Bs} {i : Int} {p : List Bs} (h : Fine ll ∧ standsS (ll.length : Int) (Tr.root (ll.map Tr.leafH)) b i p = true ∧ ll[i.toNat]? ≠ some b) : clashS ll b i p = (Tr.down ll b i.toNat p).1 := by
  unfold clashS; rw [if_pos h]
theorem clashS_some {ll : List Bs} {b : Bs} {i : Int} {p : List Bs} {q : Tr.PB} (h : clashS ll b i p = some q) : Tr.clashOf q.1 q.2 = some q ∧ q.1.length ≤ 201 ∧ q.2.length ≤ 201 := by
  unfold clashS at h
  split at h
  · rename_i hc
    obtain ⟨⟨_, _, _, _, hb⟩, hd, _⟩ := standsS_yes hc.2.1
    exact ⟨clashOf_of (Tr.down_some _ _ _ _ _ q rfl h), down_lens _ _ _ _ _ q rfl hc.1.2 hb hd h⟩
  · cases h
/-- where another leaf is shown, two texts are told -/
theorem clashS_there {ll : List Bs} {b : Bs} {i : Int} {p : List Bs} (h : Fine ll ∧ standsS (ll.length : Int) (Tr.root (ll.map Tr.leafH)) b i p = true ∧ ll[i.toNat]? ≠ some b) : (clashS ll b i p).isSome = true := by
  rw [clashS_ok h]
  obtain ⟨⟨h1, h2, h3, h4, hb⟩, hd, hu⟩ := standsS_yes h.2.1
  cases hn : (Tr.down ll b i.toNat p).1 with
  | some q => rfl
  | none =>
    have e1 : ((ll.length : Int)).toNat = ll.length := by omega
    rw [e1] at hu
    have e2 := Tr.down_up ll.length ll b i.toNat p _ rfl (by omega) (by omega) hu
    have hdp : p.length = Tr.depth i.toNat ll.length := by
      rcases Nat.decEq p.length (Tr.depth i.toNat ll.length) with hne | he
      · rw [Tr.up_length ll.length i.toNat _ p (by omega) hne] at hu; cases hu
      · exact he
    have e3 := Tr.down_none ll.length ll b i.toNat p rfl (by omega) (by omega) hdp hd hn e2
    refine absurd ?_ h.2.2
    rw [e3, List.getD_eq_getElem?_getD, List.getElem?_eq_getElem (by omega : i.toNat < ll.length)]
    rfl
theorem depth_of {ll : List Bs} {b : Bs} {i : Int} {p : List Bs} (h : standsS (ll.length : Int) (Tr.root (ll.map Tr.leafH)) b i p = true) : p.length = Tr.depth i.toNat ll.length := by
  obtain ⟨⟨h1, h2, h3, h4, hb⟩, hd, hu⟩ := standsS_yes h
  have e1 : ((ll.length : Int)).toNat = ll.length := by omega
  rw [e1] at hu
  rcases Nat.decEq p.length (Tr.depth i.toNat ll.length) with hne | he
  · rw [Tr.up_length ll.length i.toNat _ p (by omega) hne] at hu; cases hu
  · exact he
end Go.Proofs.Ytgbjfilkecmmgaa
