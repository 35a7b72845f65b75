/-
  Plain law, no program: who shows what is not so has two texts with one digest. No conditions.
-/
import Derived.Test.YtaojgabiefkcaaaTree
namespace Go.Proofs.Ytaojgabiefkcaaa
namespace Tr

theorem hash_leaf (b : Bs) : Sha.sha256 (0 :: b) = leafH b := rfl
def pairT (a b : Bs) : Bs := 1 :: (a ++ b)
def leafT (b : Bs) : Bs := 0 :: b
theorem hash_pair (a b : Bs) : Sha.sha256 (pairT a b) = nodeH a b := rfl
theorem pairT_inj {a b c d : Bs} (h : pairT a b = pairT c d) (hl : a.length = c.length) : a = c ∧ b = d := by
  unfold pairT at h
  injection h with _ h
  exact List.append_inj h hl
theorem leafT_inj {a b : Bs} (h : leafT a = leafT b) : a = b := by
  unfold leafT at h
  injection h
/-- two texts, unlike, with one digest; if they are -/
def clashOf (x y : Bs) : Option PB := if x ≠ y ∧ Sha.sha256 x = Sha.sha256 y then some (x, y) else none
/-- the first that there is -/
def orElse (t u : Option PB) : Option PB := match t with
  | some p => some p
  | none => u
/-- the root of leaves as they are -/
def rootL (l : List Bs) : Bs := root (l.map leafH)
theorem rootL_two {l : List Bs} (h : 2 ≤ l.length) : rootL l = nodeH (rootL (l.take (split l.length))) (rootL (l.drop (split l.length))) := by
  unfold rootL
  rw [root_two (by simpa using h), List.length_map, List.map_take, List.map_drop]
theorem length_rootL (l : List Bs) : (rootL l).length = 32 := length_root _ (by intro a ha; obtain ⟨b, _, rfl⟩ := List.mem_map.1 ha; exact length_leafH b)

def down (l : List Bs) (b : Bs) (i : Nat) (p : List Bs) : Option PB × Bs :=
  if _h : 2 ≤ l.length then
    if i < split l.length then
      let r := down (l.take (split l.length)) b i p.dropLast
      (orElse r.1 (clashOf (pairT (rootL (l.take (split l.length))) (rootL (l.drop (split l.length)))) (pairT r.2 (p.getLastD []))), nodeH r.2 (p.getLastD []))
    else
      let r := down (l.drop (split l.length)) b (i - split l.length) p.dropLast
      (orElse r.1 (clashOf (pairT (rootL (l.take (split l.length))) (rootL (l.drop (split l.length)))) (pairT (p.getLastD []) r.2)), nodeH (p.getLastD []) r.2)
  else (clashOf (leafT (l.getD 0 [])) (leafT b), leafH b)
termination_by l.length
decreasing_by
  · have := split_lt _h; rw [List.length_take]; omega
  · have := split_pos l.length; rw [List.length_drop]; omega
theorem down_one {l : List Bs} (h : ¬ 2 ≤ l.length) (b : Bs) (i : Nat) (p : List Bs) : down l b i p = (clashOf (leafT (l.getD 0 [])) (leafT b), leafH b) := by rw [down, dif_neg h]
theorem down_left {l : List Bs} (h : 2 ≤ l.length) (b : Bs) {i : Nat} (p : List Bs) (hi : i < split l.length) : down l b i p =
    (orElse (down (l.take (split l.length)) b i p.dropLast).1 (clashOf (pairT (rootL (l.take (split l.length))) (rootL (l.drop (split l.length)))) (pairT (down (l.take (split l.length)) b i p.dropLast).2 (p.getLastD []))),
      nodeH (down (l.take (split l.length)) b i p.dropLast).2 (p.getLastD [])) := by
  conv => lhs; rw [down, dif_pos h, if_pos hi]
theorem down_right {l : List Bs} (h : 2 ≤ l.length) (b : Bs) {i : Nat} (p : List Bs) (hi : ¬ i < split l.length) : down l b i p =
    (orElse (down (l.drop (split l.length)) b (i - split l.length) p.dropLast).1 (clashOf (pairT (rootL (l.take (split l.length))) (rootL (l.drop (split l.length)))) (pairT (p.getLastD []) (down (l.drop (split l.length)) b (i - split l.length) p.dropLast).2)),
      nodeH (p.getLastD []) (down (l.drop (split l.length)) b (i - split l.length) p.dropLast).2) := by
  conv => lhs; rw [down, dif_pos h, if_neg hi]
theorem clashOf_some {x y : Bs} {q : PB} (h : clashOf x y = some q) : q.1 ≠ q.2 ∧ Sha.sha256 q.1 = Sha.sha256 q.2 := by
  unfold clashOf at h
  split at h
  · injection h with h; subst h; assumption
  · cases h
theorem clashOf_none {x y : Bs} (h : clashOf x y = none) (hh : Sha.sha256 x = Sha.sha256 y) : x = y := by
  unfold clashOf at h
  split at h
  · cases h
  · rename_i hn
    by_cases e : x = y
    · exact e
    · exact absurd ⟨e, hh⟩ hn
theorem orElse_some {t u : Option PB} {q : PB} (h : orElse t u = some q) : t = some q ∨ u = some q := by
  cases t with
  | none => exact .inr h
  | some p => exact .inl h
theorem orElse_none {t u : Option PB} (h : orElse t u = none) : t = none ∧ u = none := by
  cases t with
  | none => exact ⟨rfl, h⟩
  | some p => cases h

/-- what is told is a clash -/
theorem down_some (n : Nat) : ∀ (l : List Bs) (b : Bs) (i : Nat) (p : List Bs) (q : PB), l.length = n → (down l b i p).1 = some q → q.1 ≠ q.2 ∧ Sha.sha256 q.1 = Sha.sha256 q.2 := by
  induction n using Nat.strongRecOn with
  | ind n ih =>
    intro l b i p q hl h
    by_cases h2 : 2 ≤ l.length
    · have g1 := split_lt h2
      have g0 := split_pos l.length
      by_cases hi : i < split l.length
      · rw [down_left h2 b p hi] at h
        rcases orElse_some h with h | h
        · exact ih (split l.length) (by omega) _ _ _ _ q (by rw [List.length_take]; omega) h
        · exact clashOf_some h
      · rw [down_right h2 b p hi] at h
        rcases orElse_some h with h | h
        · exact ih (l.length - split l.length) (by omega) _ _ _ _ q (List.length_drop ..) h
        · exact clashOf_some h
    · rw [down_one h2] at h
      exact clashOf_some h
/-- the digest is that of the path -/
theorem down_up (n : Nat) : ∀ (l : List Bs) (b : Bs) (i : Nat) (p : List Bs) (r : Bs), l.length = n → 1 ≤ n → i < n → up (leafH b) i n p = some r → (down l b i p).2 = r := by
  induction n using Nat.strongRecOn with
  | ind n ih =>
    intro l b i p r hl h1 hi h
    unfold up at h
    by_cases h2 : 2 ≤ n
    · have g1 := split_lt h2
      have g0 := split_pos n
      rcases List.eq_nil_or_concat p with rfl | ⟨q, top, rfl⟩
      · rw [upG_nil h2] at h; cases h
      · rw [List.concat_eq_append] at *
        by_cases hk : i < split n
        · rw [upG_left h2 _ hk] at h
          obtain ⟨d, hd, rfl⟩ := Option.map_eq_some_iff.1 h
          have e := ih (split n) g1 (l.take (split n)) b i q d (by rw [List.length_take]; omega) g0 hk hd
          rw [down_left (by omega) b _ (by rw [hl]; exact hk), hl]
          simp only [List.dropLast_concat, List.getLastD_concat]
          rw [e]
          rfl
        · rw [upG_right h2 _ hk] at h
          obtain ⟨d, hd, rfl⟩ := Option.map_eq_some_iff.1 h
          have e := ih (n - split n) (by omega) (l.drop (split n)) b (i - split n) q d (by rw [List.length_drop]; omega) (by omega) (by omega) hd
          rw [down_right (by omega) b _ (by rw [hl]; exact hk), hl]
          simp only [List.dropLast_concat, List.getLastD_concat]
          rw [e]
          rfl
    · have : n = 1 := by omega
      subst this
      rw [upG_one] at h
      rw [down_one (by omega)]
      split at h
      · injection h
      · cases h
theorem length_down (n : Nat) (l : List Bs) (b : Bs) (i : Nat) (p : List Bs) : l.length = n → (down l b i p).2.length = 32 := by
  intro hl
  by_cases h2 : 2 ≤ l.length
  · by_cases hi : i < split l.length
    · rw [down_left h2 b p hi]; exact length_nodeH _ _
    · rw [down_right h2 b p hi]; exact length_nodeH _ _
  · rw [down_one h2]; exact length_leafH _
/-- where none is told, the leaf is the leaf there -/
theorem down_none (n : Nat) : ∀ (l : List Bs) (b : Bs) (i : Nat) (p : List Bs), l.length = n → 1 ≤ n → i < n → p.length = depth i n → (∀ d ∈ p, d.length = 32) →
    (down l b i p).1 = none → (down l b i p).2 = rootL l → b = l.getD i [] := by
  induction n using Nat.strongRecOn with
  | ind n ih =>
    intro l b i p hl h1 hi hp h32 hn hr
    rw [depth] at hp
    by_cases h2 : 2 ≤ n
    · have g1 := split_lt h2
      have g0 := split_pos n
      rw [dif_pos h2] at hp
      rcases List.eq_nil_or_concat p with rfl | ⟨q, top, rfl⟩
      · simp at hp
      · rw [List.concat_eq_append] at *
        have htop : top.length = 32 := h32 top (by simp)
        have hq32 : ∀ d ∈ q, d.length = 32 := fun d hd => h32 d (by simp [hd])
        by_cases hk : i < split n
        · rw [if_pos hk, List.length_append] at hp
          rw [down_left (by omega) b _ (by rw [hl]; exact hk)] at hn hr
          simp only [List.dropLast_concat, List.getLastD_concat, hl] at hn hr
          obtain ⟨n1, n2⟩ := orElse_none hn
          rw [rootL_two (by omega), hl] at hr
          have e := clashOf_none n2 hr.symm
          obtain ⟨e1, e2⟩ := pairT_inj e (by rw [length_rootL, length_down _ _ _ _ _ rfl])
          have := ih (split n) g1 (l.take (split n)) b i q (by rw [List.length_take]; omega) g0 hk (by simp at hp; omega) hq32 n1 e1.symm
          rw [this, List.getD_eq_getElem?_getD, List.getD_eq_getElem?_getD, List.getElem?_take_of_lt hk]
        · rw [if_neg hk, List.length_append] at hp
          rw [down_right (by omega) b _ (by rw [hl]; exact hk)] at hn hr
          simp only [List.dropLast_concat, List.getLastD_concat, hl] at hn hr
          obtain ⟨n1, n2⟩ := orElse_none hn
          rw [rootL_two (by omega), hl] at hr
          have e := clashOf_none n2 hr.symm
          obtain ⟨e1, e2⟩ := pairT_inj e (by rw [length_rootL, htop])
          have := ih (n - split n) (by omega) (l.drop (split n)) b (i - split n) q (by rw [List.length_drop]; omega) (by omega) (by omega) (by simp at hp; omega) hq32 n1 e2.symm
          rw [this, List.getD_eq_getElem?_getD, List.getD_eq_getElem?_getD, List.getElem?_drop, show split n + (i - split n) = i by omega]
    · have : n = 1 := by omega
      subst this
      rw [down_one (by omega)] at hn hr
      match l, hl with
      | [a], _ =>
        have hr' : leafH b = rootL [a] := hr
        unfold rootL at hr'
        rw [List.map_singleton, root_one] at hr'
        have e := clashOf_none hn hr'.symm
        rw [show i = 0 by omega]
        exact (leafT_inj e).symm

/-- two roots, and a clash on the way -/
def down2 (l : List Bs) (m : Nat) (whole : Bool) (old : Bs) (p : List Bs) : Option PB × Bs × Bs :=
  if _h : m < l.length ∧ 2 ≤ l.length then
    if m ≤ split l.length then
      let r := down2 (l.take (split l.length)) m whole old p.dropLast
      (orElse r.1 (clashOf (pairT (rootL (l.take (split l.length))) (rootL (l.drop (split l.length)))) (pairT r.2.2 (p.getLastD []))), r.2.1, nodeH r.2.2 (p.getLastD []))
    else
      let r := down2 (l.drop (split l.length)) (m - split l.length) false old p.dropLast
      (orElse (orElse r.1 (clashOf (pairT (rootL (l.take (split l.length))) (rootL ((l.take m).drop (split l.length)))) (pairT (p.getLastD []) r.2.1)))
          (clashOf (pairT (rootL (l.take (split l.length))) (rootL (l.drop (split l.length)))) (pairT (p.getLastD []) r.2.2)),
        nodeH (p.getLastD []) r.2.1, nodeH (p.getLastD []) r.2.2)
  else if whole then (none, old, old) else (none, p.getD 0 [], p.getD 0 [])
termination_by l.length
decreasing_by
  · have := split_lt _h.2; rw [List.length_take]; omega
  · have := split_pos l.length; rw [List.length_drop]; omega
theorem down2_left {l : List Bs} {m : Nat} (h : m < l.length) (h2 : 2 ≤ l.length) (hm : m ≤ split l.length) (whole : Bool) (old : Bs) (p : List Bs) : down2 l m whole old p =
    (orElse (down2 (l.take (split l.length)) m whole old p.dropLast).1 (clashOf (pairT (rootL (l.take (split l.length))) (rootL (l.drop (split l.length)))) (pairT (down2 (l.take (split l.length)) m whole old p.dropLast).2.2 (p.getLastD []))),
      (down2 (l.take (split l.length)) m whole old p.dropLast).2.1, nodeH (down2 (l.take (split l.length)) m whole old p.dropLast).2.2 (p.getLastD [])) := by
  conv => lhs; rw [down2, dif_pos ⟨h, h2⟩, if_pos hm]
theorem down2_right {l : List Bs} {m : Nat} (h : m < l.length) (h2 : 2 ≤ l.length) (hm : ¬ m ≤ split l.length) (whole : Bool) (old : Bs) (p : List Bs) : down2 l m whole old p =
    (orElse (orElse (down2 (l.drop (split l.length)) (m - split l.length) false old p.dropLast).1 (clashOf (pairT (rootL (l.take (split l.length))) (rootL ((l.take m).drop (split l.length)))) (pairT (p.getLastD []) (down2 (l.drop (split l.length)) (m - split l.length) false old p.dropLast).2.1)))
          (clashOf (pairT (rootL (l.take (split l.length))) (rootL (l.drop (split l.length)))) (pairT (p.getLastD []) (down2 (l.drop (split l.length)) (m - split l.length) false old p.dropLast).2.2)),
        nodeH (p.getLastD []) (down2 (l.drop (split l.length)) (m - split l.length) false old p.dropLast).2.1, nodeH (p.getLastD []) (down2 (l.drop (split l.length)) (m - split l.length) false old p.dropLast).2.2) := by
  conv => lhs; rw [down2, dif_pos ⟨h, h2⟩, if_neg hm]
theorem down2_all {l : List Bs} {m : Nat} (h : ¬ m < l.length) (whole : Bool) (old : Bs) (p : List Bs) : down2 l m whole old p = if whole then (none, old, old) else (none, p.getD 0 [], p.getD 0 []) := by
  rw [down2, dif_neg (by omega)]

theorem down2_some (n : Nat) : ∀ (l : List Bs) (m : Nat) (whole : Bool) (old : Bs) (p : List Bs) (q : PB), l.length = n → (down2 l m whole old p).1 = some q → q.1 ≠ q.2 ∧ Sha.sha256 q.1 = Sha.sha256 q.2 := by
  induction n using Nat.strongRecOn with
  | ind n ih =>
    intro l m whole old p q hl h
    by_cases h2 : m < l.length ∧ 2 ≤ l.length
    · have g1 := split_lt h2.2
      have g0 := split_pos l.length
      by_cases hm : m ≤ split l.length
      · rw [down2_left h2.1 h2.2 hm] at h
        rcases orElse_some h with h | h
        · exact ih (split l.length) (by omega) _ _ _ _ _ q (by rw [List.length_take]; omega) h
        · exact clashOf_some h
      · rw [down2_right h2.1 h2.2 hm] at h
        rcases orElse_some h with h | h
        · rcases orElse_some h with h | h
          · exact ih (l.length - split l.length) (by omega) _ _ _ _ _ q (List.length_drop ..) h
          · exact clashOf_some h
        · exact clashOf_some h
    · rw [down2, dif_neg h2] at h
      split at h <;> cases h
theorem down2_two (n : Nat) : ∀ (l : List Bs) (m : Nat) (whole : Bool) (old : Bs) (p : List Bs) (ab : PB), l.length = n → m ≤ n → two m n whole old p = some ab → (down2 l m whole old p).2 = ab := by
  induction n using Nat.strongRecOn with
  | ind n ih =>
    intro l m whole old p ab hl hm h
    by_cases hlt : m < n
    · by_cases h2 : 2 ≤ n
      · have g1 := split_lt h2
        have g0 := split_pos n
        rcases List.eq_nil_or_concat p with rfl | ⟨q, top, rfl⟩
        · rw [two_nil hlt h2] at h; cases h
        · rw [List.concat_eq_append] at *
          by_cases hk : m ≤ split n
          · rw [two_left hlt h2 _ hk] at h
            obtain ⟨d, hd, rfl⟩ := Option.map_eq_some_iff.1 h
            have e := ih (split n) g1 (l.take (split n)) m whole old q d (by rw [List.length_take]; omega) hk hd
            rw [down2_left (by omega) (by omega) (by rw [hl]; exact hk), hl]
            simp only [List.dropLast_concat, List.getLastD_concat]
            rw [e]
            rfl
          · rw [two_right hlt h2 _ hk] at h
            obtain ⟨d, hd, rfl⟩ := Option.map_eq_some_iff.1 h
            have e := ih (n - split n) (by omega) (l.drop (split n)) (m - split n) false old q d (by rw [List.length_drop]; omega) (by omega) hd
            rw [down2_right (by omega) (by omega) (by rw [hl]; exact hk), hl]
            simp only [List.dropLast_concat, List.getLastD_concat]
            rw [e]
            rfl
      · have : n = 1 := by omega
        subst this
        rw [two, dif_neg (by omega)] at h
        rw [down2, dif_neg (by omega)]
        cases whole with
        | true =>
          simp only [if_true] at h ⊢
          split at h
          · injection h
          · cases h
        | false =>
          simp only [Bool.false_eq_true, if_false] at h ⊢
          match p, h with
          | [x], h => injection h
    · rw [two, dif_neg (by omega)] at h
      rw [down2, dif_neg (by omega)]
      cases whole with
      | true =>
        simp only [if_true] at h ⊢
        split at h
        · injection h
        · cases h
      | false =>
        simp only [Bool.false_eq_true, if_false] at h ⊢
        match p, h with
        | [x], h => injection h
theorem rootL_take {l : List Bs} {m n : Nat} (hl : l.length = n) (h2 : 2 ≤ n) (hm : m ≤ n) (hk : split n < m) : rootL (l.take m) = nodeH (rootL (l.take (split n))) (rootL ((l.take m).drop (split n))) := by
  have g0 := split_pos n
  have hs := split_same hk hm h2
  have hlen : (l.take m).length = m := by rw [List.length_take]; omega
  rw [rootL_two (l := l.take m) (by omega), hlen, hs]
  congr 2
  rw [List.take_take]
  congr 1
  omega
theorem two_lengths (n : Nat) : ∀ (m : Nat) (whole : Bool) (old : Bs) (p : List Bs) (ab : PB), (∀ d ∈ p, d.length = 32) → (whole = true → old.length = 32) → two m n whole old p = some ab → ab.1.length = 32 ∧ ab.2.length = 32 := by
  induction n using Nat.strongRecOn with
  | ind n ih =>
    intro m whole old p ab hp ho h
    by_cases hlt : m < n ∧ 2 ≤ n
    · have g1 := split_lt hlt.2
      have g0 := split_pos n
      rcases List.eq_nil_or_concat p with rfl | ⟨q, top, rfl⟩
      · rw [two_nil hlt.1 hlt.2] at h; cases h
      · rw [List.concat_eq_append] at *
        have hq : ∀ d ∈ q, d.length = 32 := fun d hd => hp d (by simp [hd])
        by_cases hk : m ≤ split n
        · rw [two_left hlt.1 hlt.2 _ hk] at h
          obtain ⟨d, hd, rfl⟩ := Option.map_eq_some_iff.1 h
          obtain ⟨a, b⟩ := ih _ g1 m whole old q d hq ho hd
          exact ⟨a, length_nodeH _ _⟩
        · rw [two_right hlt.1 hlt.2 _ hk] at h
          obtain ⟨d, hd, rfl⟩ := Option.map_eq_some_iff.1 h
          exact ⟨length_nodeH _ _, length_nodeH _ _⟩
    · rw [two, dif_neg hlt] at h
      cases whole with
      | true =>
        simp only [if_true] at h
        split at h
        · injection h with h; subst h; exact ⟨ho rfl, ho rfl⟩
        · cases h
      | false =>
        simp only [Bool.false_eq_true, if_false] at h
        match p, h with
        | [x], h => injection h with h; subst h; exact ⟨hp x (by simp), hp x (by simp)⟩
/-- where none is told, the first ones' root is theirs -/
theorem down2_none (n : Nat) : ∀ (l : List Bs) (m : Nat) (whole : Bool) (old : Bs) (p : List Bs) (ab : PB), l.length = n → 1 ≤ m → m ≤ n → (∀ d ∈ p, d.length = 32) → (whole = true → old.length = 32) →
    two m n whole old p = some ab → (down2 l m whole old p).1 = none → ab.2 = rootL l → ab.1 = rootL (l.take m) := by
  induction n using Nat.strongRecOn with
  | ind n ih =>
    intro l m whole old p ab hl h1 hm h32 ho h hn hr
    by_cases hlt : m < n
    · have h2 : 2 ≤ n := by omega
      have g1 := split_lt h2
      have g0 := split_pos n
      rcases List.eq_nil_or_concat p with rfl | ⟨q, top, rfl⟩
      · rw [two_nil hlt h2] at h; cases h
      · rw [List.concat_eq_append] at *
        have htop : top.length = 32 := h32 top (by simp)
        have hq : ∀ d ∈ q, d.length = 32 := fun d hd => h32 d (by simp [hd])
        by_cases hk : m ≤ split n
        · rw [two_left hlt h2 _ hk] at h
          obtain ⟨d, hd, rfl⟩ := Option.map_eq_some_iff.1 h
          have e := down2_two (split n) (l.take (split n)) m whole old q d (by rw [List.length_take]; omega) hk hd
          have hdl := two_lengths _ _ _ _ _ _ hq ho hd
          rw [down2_left (by omega) (by omega) (by rw [hl]; exact hk), hl] at hn
          simp only [List.dropLast_concat, List.getLastD_concat] at hn
          rw [e] at hn
          obtain ⟨n1, n2⟩ := orElse_none hn
          have hr' : nodeH d.2 top = rootL l := hr
          rw [rootL_two (by omega), hl] at hr'
          have e2 := clashOf_none n2 hr'.symm
          obtain ⟨e3, _⟩ := pairT_inj e2 (by rw [length_rootL, hdl.2])
          have := ih (split n) g1 (l.take (split n)) m whole old q d (by rw [List.length_take]; omega) h1 hk hq ho hd n1 e3.symm
          show d.1 = _
          rw [this, List.take_take]
          congr 2
          omega
        · rw [two_right hlt h2 _ hk] at h
          obtain ⟨d, hd, rfl⟩ := Option.map_eq_some_iff.1 h
          have e := down2_two (n - split n) (l.drop (split n)) (m - split n) false old q d (by rw [List.length_drop]; omega) (by omega) hd
          rw [down2_right (by omega) (by omega) (by rw [hl]; exact hk), hl] at hn
          simp only [List.dropLast_concat, List.getLastD_concat] at hn
          rw [e] at hn
          obtain ⟨n1, n2⟩ := orElse_none hn
          obtain ⟨n3, _⟩ := orElse_none n1
          have hr' : nodeH top d.2 = rootL l := hr
          rw [rootL_two (by omega), hl] at hr'
          have e2 := clashOf_none n2 hr'.symm
          obtain ⟨e3, e4⟩ := pairT_inj e2 (by rw [length_rootL, htop])
          have := ih (n - split n) (by omega) (l.drop (split n)) (m - split n) false old q d (by rw [List.length_drop]; omega) (by omega) (by omega) hq (fun e => by cases e) hd n3 e4.symm
          show nodeH top d.1 = _
          rw [rootL_take hl h2 hm (by omega), this, ← e3, ← List.drop_take]
    · have : m = n := by omega
      subst this
      have ht : l.take m = l := List.take_of_length_le (by omega)
      rw [ht, ← hr]
      rw [two, dif_neg (by omega)] at h
      cases whole with
      | true =>
        simp only [if_true] at h
        split at h
        · injection h with h; subst h; rfl
        · cases h
      | false =>
        simp only [Bool.false_eq_true, if_false] at h
        match p, h with
        | [x], h => injection h with h; subst h; rfl
end Tr
end Go.Proofs.Ytaojgabiefkcaaa
