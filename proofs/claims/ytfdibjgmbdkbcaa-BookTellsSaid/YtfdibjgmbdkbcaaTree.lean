/-
  Plain law, no program: trees of digests: roots, paths, proofs of growth, right edges; from above and from below. No conditions.
-/
import Derived.Test.YtfdibjgmbdkbcaaSha
namespace Go.Proofs.Ytfdibjgmbdkbcaa
namespace Tr

def leafH (b : Bs) : Bs := Sha.sha256 (0 :: b)
def nodeH (a b : Bs) : Bs := Sha.sha256 (1 :: (a ++ b))
def nilH : Bs := Sha.sha256 []
theorem length_leafH (b : Bs) : (leafH b).length = 32 := rfl
theorem length_nodeH (a b : Bs) : (nodeH a b).length = 32 := rfl
theorem length_nilH : nilH.length = 32 := rfl

/-- the greatest power of two below n (that is above 1) -/
def split (n : Nat) : Nat := 2 ^ Nat.log2 (n - 1)
theorem split_pos (n : Nat) : 0 < split n := Nat.two_pow_pos _
theorem split_lt {n : Nat} (h : 2 ≤ n) : split n < n := by
  have h1 : split n ≤ n - 1 := Nat.log2_self_le (by omega)
  omega
theorem split_ge {n : Nat} (h : 2 ≤ n) : n ≤ 2 * split n := by
  have h1 : n - 1 < 2 ^ (Nat.log2 (n - 1) + 1) := Nat.lt_log2_self
  rw [Nat.pow_succ] at h1
  unfold split
  omega
theorem pow_unique {a b n : Nat} (h1 : 2 ^ a < n) (h2 : n ≤ 2 ^ (a + 1)) (h3 : 2 ^ b < n) (h4 : n ≤ 2 ^ (b + 1)) : a = b := by
  have e1 : a < b + 1 := (Nat.pow_lt_pow_iff_right (by decide)).1 (Nat.lt_of_lt_of_le h1 h4)
  have e2 : b < a + 1 := (Nat.pow_lt_pow_iff_right (by decide)).1 (Nat.lt_of_lt_of_le h3 h2)
  omega
/-- the only power of two below n whose double is not -/
theorem split_eq {n j : Nat} (h1 : 2 ^ j < n) (h2 : n ≤ 2 * 2 ^ j) : split n = 2 ^ j := by
  have hp : 0 < 2 ^ j := Nat.two_pow_pos _
  have g1 := split_lt (n := n) (by omega)
  have g2 := split_ge (n := n) (by omega)
  unfold split at *
  rw [pow_unique g1 (by rw [Nat.pow_succ]; omega) h1 (by rw [Nat.pow_succ]; omega)]
theorem split_two : split 2 = 1 := by decide
/-- split of the level above -/
theorem split_half {n : Nat} (h : 3 ≤ n) : ∃ k, split n = 2 * k ∧ split ((n + 1) / 2) = k ∧ 0 < k := by
  have g1 := split_lt (n := n) (by omega)
  have g2 := split_ge (n := n) (by omega)
  have e : Nat.log2 (n - 1) ≠ 0 := by
    intro e0
    unfold split at g2
    rw [e0] at g2
    omega
  obtain ⟨j, hj⟩ := Nat.exists_eq_succ_of_ne_zero e
  have hs : split n = 2 * 2 ^ j := by unfold split; rw [hj, Nat.succ_eq_add_one, Nat.pow_succ, Nat.mul_comm]
  refine ⟨2 ^ j, hs, ?_, Nat.two_pow_pos _⟩
  exact split_eq (by omega) (by omega)
/-- a beginning that is longer than the half has the same half -/
theorem split_same {m n : Nat} (h1 : split n < m) (h2 : m ≤ n) (hn : 2 ≤ n) : split m = split n := by
  have g2 := split_ge hn
  exact split_eq (j := Nat.log2 (n - 1)) h1 (by show m ≤ 2 * split n; omega)

/-! roots -/
/-- the root of leaves' digests -/
def root (l : List Bs) : Bs :=
  if _h : 2 ≤ l.length then nodeH (root (l.take (split l.length))) (root (l.drop (split l.length)))
  else l.getD 0 nilH
termination_by l.length
decreasing_by
  · have := split_lt _h; rw [List.length_take]; omega
  · have := split_pos l.length; rw [List.length_drop]; omega
theorem root_nil : root [] = nilH := by rw [root]; rfl
theorem root_one (a : Bs) : root [a] = a := by rw [root]; rfl
theorem root_two {l : List Bs} (h : 2 ≤ l.length) : root l = nodeH (root (l.take (split l.length))) (root (l.drop (split l.length))) := by
  conv => lhs; rw [root, dif_pos h]
theorem length_root (l : List Bs) (h : ∀ a ∈ l, a.length = 32) : (root l).length = 32 := by
  by_cases h2 : 2 ≤ l.length
  · rw [root_two h2]; exact length_nodeH _ _
  · match l, h, h2 with
    | [], _, _ => rw [root_nil]; exact length_nilH
    | [a], h, _ => rw [root_one]; exact h a (by simp)
    | _ :: _ :: _, _, h2 => simp at h2

/-- the level above: pairs, and an odd one as it is -/
def pairs : List Bs → List Bs
  | a :: b :: l => nodeH a b :: pairs l
  | l => l
theorem length_pairs : ∀ l : List Bs, (pairs l).length = (l.length + 1) / 2
  | [] => rfl
  | [_] => by simp [pairs]
  | _ :: _ :: l => by simp only [pairs, List.length_cons, length_pairs l]; omega
theorem pairs_take : ∀ (l : List Bs) (k : Nat), pairs (l.take (2 * k)) = (pairs l).take k
  | [], k => by simp [pairs]
  | [a], 0 => rfl
  | [a], k + 1 => by rw [show 2 * (k + 1) = (2 * k + 1) + 1 by omega]; simp [pairs]
  | a :: b :: l, 0 => rfl
  | a :: b :: l, k + 1 => by
    rw [show 2 * (k + 1) = (2 * k + 1) + 1 by omega, List.take_succ_cons, List.take_succ_cons]
    simp only [pairs, List.take_succ_cons]
    rw [pairs_take l k]
theorem pairs_drop : ∀ (l : List Bs) (k : Nat), pairs (l.drop (2 * k)) = (pairs l).drop k
  | [], k => by simp [pairs]
  | [a], 0 => rfl
  | [a], k + 1 => by rw [show 2 * (k + 1) = (2 * k + 1) + 1 by omega]; simp [pairs]
  | a :: b :: l, 0 => rfl
  | a :: b :: l, k + 1 => by
    rw [show 2 * (k + 1) = (2 * k + 1) + 1 by omega, List.drop_succ_cons, List.drop_succ_cons]
    simp only [pairs, List.drop_succ_cons]
    rw [pairs_drop l k]
theorem pairs_append : ∀ (l r : List Bs), l.length % 2 = 0 → pairs (l ++ r) = pairs l ++ pairs r
  | [], r, _ => by simp [pairs]
  | [a], r, h => by simp at h
  | a :: b :: l, r, h => by
    simp only [List.cons_append, pairs]
    rw [pairs_append l r (by simp only [List.length_cons] at h; omega)]
/-- the root from below -/
theorem root_pairs (n : Nat) : ∀ l : List Bs, l.length = n → root (pairs l) = root l := by
  induction n using Nat.strongRecOn with
  | ind n ih =>
    intro l hl
    by_cases h3 : 3 ≤ n
    · obtain ⟨k, e1, e2, hk⟩ := split_half h3
      have g1 := split_lt (n := n) (by omega)
      rw [root_two (l := l) (by omega), root_two (l := pairs l) (by rw [length_pairs]; omega), length_pairs, hl, e2, e1, ← pairs_take, ← pairs_drop]
      rw [ih (2 * k) (by omega) _ (by rw [List.length_take]; omega), ih (n - 2 * k) (by omega) _ (by rw [List.length_drop]; omega)]
    · match l, hl with
      | [], _ => rfl
      | [a], _ => rfl
      | [a, b], _ =>
        rw [root_two (l := [a, b]) (by simp)]
        show root [nodeH a b] = nodeH (root (List.take (split 2) [a, b])) (root (List.drop (split 2) [a, b]))
        rw [split_two, root_one]
        show _ = nodeH (root [a]) (root [b])
        rw [root_one, root_one]
      | _ :: _ :: _ :: _, hl => simp at hl; omega

/-! paths -/
/-- the path of leaf i, from below -/
def path (l : List Bs) (i : Nat) : List Bs :=
  if _h : 2 ≤ l.length then
    if i < split l.length then path (l.take (split l.length)) i ++ [root (l.drop (split l.length))]
    else path (l.drop (split l.length)) (i - split l.length) ++ [root (l.take (split l.length))]
  else []
termination_by l.length
decreasing_by
  · have := split_lt _h; rw [List.length_take]; omega
  · have := split_pos l.length; rw [List.length_drop]; omega
theorem path_small {l : List Bs} (h : ¬ 2 ≤ l.length) (i : Nat) : path l i = [] := by rw [path, dif_neg h]
theorem path_left {l : List Bs} {i : Nat} (h : 2 ≤ l.length) (hi : i < split l.length) : path l i = path (l.take (split l.length)) i ++ [root (l.drop (split l.length))] := by
  conv => lhs; rw [path, dif_pos h, if_pos hi]
theorem path_right {l : List Bs} {i : Nat} (h : 2 ≤ l.length) (hi : ¬ i < split l.length) : path l i = path (l.drop (split l.length)) (i - split l.length) ++ [root (l.take (split l.length))] := by
  conv => lhs; rw [path, dif_pos h, if_neg hi]

/-- from above: a value at place i of n, and a path, its top one last; L, R: what a digest on its right, on its left makes of it -/
def upG {α : Type} (L R : α → Bs → α) (d : α) (i n : Nat) (p : List Bs) : Option α :=
  if _h : 2 ≤ n then
    match p.getLast? with
    | none => none
    | some top => if i < split n then (upG L R d i (split n) p.dropLast).map (L · top) else (upG L R d (i - split n) (n - split n) p.dropLast).map (R · top)
  else if p = [] then some d else none
termination_by n
decreasing_by
  · exact split_lt _h
  · have := split_pos n; omega
section
variable {α : Type} {L R : α → Bs → α} {d : α} {i n : Nat} {p : List Bs}
theorem upG_one : upG L R d i 1 p = if p = [] then some d else none := by rw [upG]; rfl
theorem upG_nil (h : 2 ≤ n) : upG L R d i n [] = none := by rw [upG, dif_pos h]; rfl
theorem upG_left (h : 2 ≤ n) (top : Bs) (hi : i < split n) : upG L R d i n (p ++ [top]) = (upG L R d i (split n) p).map (L · top) := by
  conv => lhs; rw [upG, dif_pos h]
  simp [hi]
theorem upG_right (h : 2 ≤ n) (top : Bs) (hi : ¬ i < split n) : upG L R d i n (p ++ [top]) = (upG L R d (i - split n) (n - split n) p).map (R · top) := by
  conv => lhs; rw [upG, dif_pos h]
  simp [hi]
end

/-- one step from below, at an odd last one: it goes up as it is -/
theorem upG_skip {α : Type} (L R : α → Bs → α) (n : Nat) : ∀ (d : α) (i : Nat) (p : List Bs), 2 ≤ n → i % 2 = 0 → i + 1 = n → upG L R d i n p = upG L R d (i / 2) ((n + 1) / 2) p := by
  induction n using Nat.strongRecOn with
  | ind n ih =>
    intro d i p h2 hi hn
    have h3 : 3 ≤ n := by omega
    obtain ⟨k, e1, e2, hk⟩ := split_half h3
    have g1 := split_lt h2
    rcases List.eq_nil_or_concat p with rfl | ⟨q, top, rfl⟩
    · rw [upG_nil h2, upG_nil (by omega)]
    · rw [List.concat_eq_append, upG_right h2 top (by omega), upG_right (by omega) top (by omega), e1, e2]
      by_cases h1 : n - 2 * k = 1
      · rw [show i - 2 * k = 0 by omega, h1, show i / 2 - k = 0 by omega, show (n + 1) / 2 - k = 1 by omega]
      · rw [ih (n - 2 * k) (by omega) d (i - 2 * k) q (by omega) (by omega) (by omega)]
        rw [show (i - 2 * k) / 2 = i / 2 - k by omega, show (n - 2 * k + 1) / 2 = (n + 1) / 2 - k by omega]

/-- one step from below: a digest on the right, or on the left -/
theorem upG_step {α : Type} (L R : α → Bs → α) (n : Nat) : ∀ (d : α) (i : Nat) (q : Bs) (p : List Bs), 2 ≤ n → i < n → ¬ (i % 2 = 0 ∧ i + 1 = n) →
    upG L R d i n (q :: p) = upG L R (if i % 2 = 1 then R d q else L d q) (i / 2) ((n + 1) / 2) p := by
  induction n using Nat.strongRecOn with
  | ind n ih =>
    intro d i q p h2 hi hne
    have g1 := split_lt h2
    by_cases h3 : 3 ≤ n
    · obtain ⟨k, e1, e2, hk⟩ := split_half h3
      rcases List.eq_nil_or_concat p with rfl | ⟨p', top, rfl⟩
      · rw [upG_nil (by omega)]
        have hq : ([q] : List Bs) = [] ++ [q] := rfl
        by_cases hl : i < split n
        · rw [hq, upG_left h2 q hl, upG_nil (by omega)]; rfl
        · rw [hq, upG_right h2 q hl, upG_nil (by omega)]; rfl
      · rw [List.concat_eq_append, ← List.cons_append]
        by_cases hl : i < split n
        · rw [upG_left h2 top hl, upG_left (by omega) top (by omega), e1, e2, ih (2 * k) (by omega) d i q p' (by omega) (by omega) (by omega)]
          rw [show (2 * k + 1) / 2 = k by omega]
        · rw [upG_right h2 top hl, upG_right (by omega) top (by omega), e1, e2, ih (n - 2 * k) (by omega) d (i - 2 * k) q p' (by omega) (by omega) (by omega)]
          rw [show (i - 2 * k) % 2 = i % 2 by omega, show (i - 2 * k) / 2 = i / 2 - k by omega, show (n - 2 * k + 1) / 2 = (n + 1) / 2 - k by omega]
    · have hn2 : n = 2 := by omega
      subst hn2
      rcases List.eq_nil_or_concat p with rfl | ⟨p', top, rfl⟩
      · have hq : ([q] : List Bs) = [] ++ [q] := rfl
        rw [show (2 + 1) / 2 = 1 from rfl, upG_one, if_pos rfl]
        by_cases hl : i < split 2
        · rw [hq, upG_left h2 q hl, split_two, upG_one, if_pos rfl, if_neg (by rw [split_two] at hl; omega)]; rfl
        · rw [hq, upG_right h2 q hl, split_two, show 2 - 1 = 1 from rfl, upG_one, if_pos rfl, if_pos (by rw [split_two] at hl; omega)]; rfl
      · rw [List.concat_eq_append, ← List.cons_append, show (2 + 1) / 2 = 1 from rfl, upG_one, if_neg (by simp)]
        by_cases hl : i < split 2
        · rw [upG_left h2 top hl, split_two, upG_one, if_neg (by simp)]; rfl
        · rw [upG_right h2 top hl, split_two, show 2 - 1 = 1 from rfl, upG_one, if_neg (by simp)]; rfl

/-! a leaf is shown -/
def nodeL (d q : Bs) : Bs := nodeH d q
def nodeR (d q : Bs) : Bs := nodeH q d
/-- the root that a digest at place i of n and a path make -/
def up (d : Bs) (i n : Nat) (p : List Bs) : Option Bs := upG nodeL nodeR d i n p

/-- as the program climbs, from below -/
def climb (d : Bs) (i last : Nat) (p : List Bs) : Option Bs :=
  if _h : 0 < last then
    if i % 2 = 0 ∧ i = last then climb d (i / 2) (last / 2) p
    else match p with
      | [] => none
      | q :: p => climb (if i % 2 = 1 then nodeH q d else nodeH d q) (i / 2) (last / 2) p
  else if p = [] then some d else none
termination_by last
decreasing_by all_goals omega
theorem climb_up (last : Nat) : ∀ (d : Bs) (i : Nat) (p : List Bs), i ≤ last → climb d i last p = up d i (last + 1) p := by
  induction last using Nat.strongRecOn with
  | ind last ih =>
    intro d i p hi
    rw [climb.eq_def]
    by_cases h0 : 0 < last
    · rw [dif_pos h0]
      by_cases hs : i % 2 = 0 ∧ i = last
      · rw [if_pos hs, ih (last / 2) (by omega) _ _ _ (by omega)]
        unfold up
        rw [upG_skip nodeL nodeR (last + 1) d i p (by omega) hs.1 (by omega), show (last + 1 + 1) / 2 = last / 2 + 1 by omega]
      · rw [if_neg hs]
        cases p with
        | nil => unfold up; rw [upG_nil (by omega)]
        | cons q p =>
          dsimp only
          rw [ih (last / 2) (by omega) _ _ _ (by omega)]
          unfold up
          rw [upG_step nodeL nodeR (last + 1) d i q p (by omega) (by omega) (by omega), show (last + 1 + 1) / 2 = last / 2 + 1 by omega]
          rfl
    · have : last = 0 := by omega
      subst this
      rw [dif_neg h0]
      unfold up
      rw [upG_one]

/-- what stands there is shown -/
theorem up_path (n : Nat) : ∀ (l : List Bs) (i : Nat), l.length = n → i < n → up (l.getD i nilH) i n (path l i) = some (root l) := by
  induction n using Nat.strongRecOn with
  | ind n ih =>
    intro l i hl hi
    by_cases h2 : 2 ≤ n
    · have g1 := split_lt h2
      have g0 := split_pos n
      rw [root_two (by omega), hl]
      by_cases hk : i < split n
      · have h := ih (split n) g1 (l.take (split n)) i (by rw [List.length_take]; omega) hk
        rw [path_left (by omega) (by rw [hl]; exact hk), hl]
        unfold up at h ⊢
        rw [upG_left h2 _ hk]
        have e : l.getD i nilH = (l.take (split n)).getD i nilH := by
          rw [List.getD_eq_getElem?_getD, List.getD_eq_getElem?_getD, List.getElem?_take_of_lt hk]
        rw [e, h]
        rfl
      · have h := ih (n - split n) (by omega) (l.drop (split n)) (i - split n) (by rw [List.length_drop]; omega) (by omega)
        rw [path_right (by omega) (by rw [hl]; exact hk), hl]
        unfold up at h ⊢
        rw [upG_right h2 _ hk]
        have e : l.getD i nilH = (l.drop (split n)).getD (i - split n) nilH := by
          rw [List.getD_eq_getElem?_getD, List.getD_eq_getElem?_getD, List.getElem?_drop, show split n + (i - split n) = i by omega]
        rw [e, h]
        rfl
    · have hn : n = 1 := by omega
      subst hn
      match l, hl with
      | [a], _ =>
        rw [show i = 0 by omega, path_small (by simp), root_one]
        unfold up
        rw [upG_one, if_pos rfl]
        rfl

/-- a path that has not the right length shows nothing -/
def depth (i n : Nat) : Nat := if _h : 2 ≤ n then (if i < split n then depth i (split n) else depth (i - split n) (n - split n)) + 1 else 0
termination_by n
decreasing_by
  · exact split_lt _h
  · have := split_pos n; omega
theorem up_length (n : Nat) : ∀ (i : Nat) (d : Bs) (p : List Bs), 0 < n → p.length ≠ depth i n → up d i n p = none := by
  induction n using Nat.strongRecOn with
  | ind n ih =>
    intro i d p h0 hp
    rw [depth] at hp
    unfold up at *
    by_cases h2 : 2 ≤ n
    · rw [dif_pos h2] at hp
      have g1 := split_lt h2
      have g0 := split_pos n
      rcases List.eq_nil_or_concat p with rfl | ⟨q, top, rfl⟩
      · exact upG_nil h2
      · rw [List.concat_eq_append, List.length_append, List.length_singleton] at hp
        rw [List.concat_eq_append]
        by_cases hk : i < split n
        · rw [if_pos hk] at hp
          rw [upG_left h2 _ hk, ih (split n) g1 i d q g0 (by omega)]; rfl
        · rw [if_neg hk] at hp
          rw [upG_right h2 _ hk, ih (n - split n) (by omega) (i - split n) d q (by omega) (by omega)]; rfl
    · have hn : n = 1 := by omega
      subst hn
      rw [dif_neg h2] at hp
      rw [upG_one, if_neg (by intro e; subst e; exact hp rfl)]
theorem length_path (n : Nat) : ∀ (l : List Bs) (i : Nat), l.length = n → (path l i).length = depth i n := by
  induction n using Nat.strongRecOn with
  | ind n ih =>
    intro l i hl
    rw [depth]
    by_cases h2 : 2 ≤ n
    · have g1 := split_lt h2
      have g0 := split_pos n
      rw [dif_pos h2]
      by_cases hk : i < split n
      · rw [path_left (by omega) (by rw [hl]; exact hk), hl, if_pos hk, List.length_append, ih (split n) g1 _ i (by rw [List.length_take]; omega)]; rfl
      · rw [path_right (by omega) (by rw [hl]; exact hk), hl, if_neg hk, List.length_append, ih (n - split n) (by omega) _ _ (by rw [List.length_drop]; omega)]; rfl
    · rw [path_small (by omega), dif_neg h2]; rfl

/-! growth -/
/-- the proof that the first m leaves are the beginning of all -/
def grows (l : List Bs) (m : Nat) (whole : Bool) : List Bs :=
  if _h : m < l.length ∧ 2 ≤ l.length then
    if m ≤ split l.length then grows (l.take (split l.length)) m whole ++ [root (l.drop (split l.length))]
    else grows (l.drop (split l.length)) (m - split l.length) false ++ [root (l.take (split l.length))]
  else if whole then [] else [root l]
termination_by l.length
decreasing_by
  · have := split_lt _h.2; rw [List.length_take]; omega
  · have := split_pos l.length; rw [List.length_drop]; omega
theorem grows_all {l : List Bs} {m : Nat} (h : ¬ m < l.length) (b : Bool) : grows l m b = if b then [] else [root l] := by rw [grows, dif_neg (by omega)]
theorem grows_left {l : List Bs} {m : Nat} (h : m < l.length) (h2 : 2 ≤ l.length) (hm : m ≤ split l.length) (b : Bool) : grows l m b = grows (l.take (split l.length)) m b ++ [root (l.drop (split l.length))] := by
  conv => lhs; rw [grows, dif_pos ⟨h, h2⟩, if_pos hm]
theorem grows_right {l : List Bs} {m : Nat} (h : m < l.length) (h2 : 2 ≤ l.length) (hm : ¬ m ≤ split l.length) (b : Bool) : grows l m b = grows (l.drop (split l.length)) (m - split l.length) false ++ [root (l.take (split l.length))] := by
  conv => lhs; rw [grows, dif_pos ⟨h, h2⟩, if_neg hm]

abbrev PB := Bs × Bs
def pairL (d : PB) (q : Bs) : PB := (d.1, nodeH d.2 q)
def pairR (d : PB) (q : Bs) : PB := (nodeH q d.1, nodeH q d.2)
def only : List Bs → Option PB
  | [x] => some (x, x)
  | _ => none
theorem only_cons (x y : Bs) (p : List Bs) : only (x :: y :: p) = none := rfl
/-- two roots: of the first m of n, and of all; whole: the first ones' root is known, as old -/
def two (m n : Nat) (whole : Bool) (old : Bs) (p : List Bs) : Option PB :=
  if _h : m < n ∧ 2 ≤ n then
    match p.getLast? with
    | none => none
    | some top => if m ≤ split n then (two m (split n) whole old p.dropLast).map (pairL · top) else (two (m - split n) (n - split n) false old p.dropLast).map (pairR · top)
  else if whole then (if p = [] then some (old, old) else none)
  else only p
termination_by n
decreasing_by
  · exact split_lt _h.2
  · have := split_pos n; omega
section
variable {m n : Nat} {b : Bool} {old : Bs} {p : List Bs}
theorem two_nil (h : m < n) (h2 : 2 ≤ n) : two m n b old [] = none := by rw [two, dif_pos ⟨h, h2⟩]; rfl
theorem two_left (h : m < n) (h2 : 2 ≤ n) (top : Bs) (hm : m ≤ split n) : two m n b old (p ++ [top]) = (two m (split n) b old p).map (pairL · top) := by
  conv => lhs; rw [two, dif_pos ⟨h, h2⟩]
  simp [hm]
theorem two_right (h : m < n) (h2 : 2 ≤ n) (top : Bs) (hm : ¬ m ≤ split n) : two m n b old (p ++ [top]) = (two (m - split n) (n - split n) false old p).map (pairR · top) := by
  conv => lhs; rw [two, dif_pos ⟨h, h2⟩]
  simp [hm]
theorem two_whole (h : ¬ m < n) : two m n true old p = if p = [] then some (old, old) else none := by rw [two, dif_neg (by omega), if_pos rfl]
theorem two_part (h : ¬ m < n) : two m n false old p = only p := by rw [two, dif_neg (by omega)]; simp
theorem two_old (n : Nat) : ∀ (m : Nat) (p : List Bs) (o o' : Bs), two m n false o p = two m n false o' p := by
  induction n using Nat.strongRecOn with
  | ind n ih =>
    intro m p o o'
    by_cases h : m < n ∧ 2 ≤ n
    · have g1 := split_lt h.2
      have g0 := split_pos n
      rcases List.eq_nil_or_concat p with rfl | ⟨q, top, rfl⟩
      · rw [two_nil h.1 h.2, two_nil h.1 h.2]
      · rw [List.concat_eq_append]
        by_cases hm : m ≤ split n
        · rw [two_left h.1 h.2 _ hm, two_left h.1 h.2 _ hm, ih _ g1 m q o o']
        · rw [two_right h.1 h.2 _ hm, two_right h.1 h.2 _ hm, ih _ (by omega) _ q o o']
    · conv => lhs; rw [two, dif_neg h]
      conv => rhs; rw [two, dif_neg h]
      simp
end

/-- what grew is shown -/
theorem two_grows (n : Nat) : ∀ (l : List Bs) (m : Nat) (b : Bool) (old : Bs), l.length = n → 1 ≤ m → m ≤ n → (b = true → old = root (l.take m)) →
    two m n b old (grows l m b) = some (root (l.take m), root l) := by
  induction n using Nat.strongRecOn with
  | ind n ih =>
    intro l m b old hl h1 hm ho
    by_cases h : m < n
    · have h2 : 2 ≤ n := by omega
      have g1 := split_lt h2
      have g0 := split_pos n
      by_cases hk : m ≤ split n
      · have hlt : (l.take (split n)).take m = l.take m := by rw [List.take_take]; congr 1; omega
        have hi := ih (split n) g1 (l.take (split n)) m b old (by rw [List.length_take]; omega) h1 hk (by rw [hlt]; exact ho)
        rw [grows_left (by omega) (by omega) (by rw [hl]; exact hk), hl, two_left h h2 _ hk, hi, hlt, root_two (l := l) (by omega), hl]
        rfl
      · have hi := ih (n - split n) (by omega) (l.drop (split n)) (m - split n) false old (by rw [List.length_drop]; omega) (by omega) (by omega) (fun e => by cases e)
        have hs := split_same (m := m) (n := n) (by omega) hm h2
        have e1 : (l.take m).take (split n) = l.take (split n) := by rw [List.take_take]; congr 1; omega
        have e2 : (l.take m).drop (split n) = (l.drop (split n)).take (m - split n) := by rw [List.drop_take]
        have e3 : root (l.take m) = nodeH (root (l.take (split n))) (root ((l.drop (split n)).take (m - split n))) := by
          have hlen : (l.take m).length = m := by rw [List.length_take]; omega
          rw [root_two (l := l.take m) (by omega), hlen, hs, e1, e2]
        rw [grows_right (by omega) (by omega) (by rw [hl]; exact hk), hl, two_right h h2 _ hk, hi, e3, root_two (l := l) (by omega), hl]
        rfl
    · have : m = n := by omega
      subst this
      rw [grows_all (by omega)]
      have e : l.take m = l := List.take_of_length_le (by omega)
      rw [e] at ho ⊢
      cases b with
      | true => rw [two_whole (by omega), ho rfl]; rfl
      | false => rw [two_part (by omega)]; rfl

/-! growth from below -/
theorem two_none (m n : Nat) (o : Bs) (p : List Bs) (hp : p = []) : two m n false o p = none := by
  subst hp
  by_cases h : m < n ∧ 2 ≤ n
  · exact two_nil h.1 h.2
  · rw [two, dif_neg h]; rfl

/-- a power of two of leaves is whole: its root is the first digest -/
theorem two_pow (n : Nat) : ∀ (j : Nat) (old o : Bs) (p : List Bs), 2 ^ j ≤ n → two (2 ^ j) n true old p = two (2 ^ j) n false o (old :: p) := by
  induction n using Nat.strongRecOn with
  | ind n ih =>
    intro j old o p hj
    have hp : 0 < 2 ^ j := Nat.two_pow_pos _
    by_cases h : 2 ^ j < n
    · have h2 : 2 ≤ n := by omega
      have g1 := split_lt h2
      have hk : 2 ^ j ≤ split n := by
        unfold split
        refine Nat.pow_le_pow_right (by decide) ?_
        rw [Nat.le_log2 (by omega)]
        omega
      rcases List.eq_nil_or_concat p with rfl | ⟨q, top, rfl⟩
      · rw [two_nil h h2, show ([old] : List Bs) = [] ++ [old] from rfl, two_left h h2 _ hk, two_none _ _ _ _ rfl]; rfl
      · rw [List.concat_eq_append, two_left h h2 _ hk, ← List.cons_append, two_left h h2 _ hk, ih _ g1 j old o q hk]
    · rw [two_whole h, two_part h]
      cases p with
      | nil => rfl
      | cons a p => rfl
theorem two_not (n : Nat) : ∀ (m : Nat) (old o : Bs) (p : List Bs), 1 ≤ m → m < n → (∀ j, m ≠ 2 ^ j) → two m n true old p = two m n false o p := by
  induction n using Nat.strongRecOn with
  | ind n ih =>
    intro m old o p h0 h hm
    · have h2 : 2 ≤ n := by omega
      have g1 := split_lt h2
      rcases List.eq_nil_or_concat p with rfl | ⟨q, top, rfl⟩
      · rw [two_nil h h2, two_nil h h2]
      · rw [List.concat_eq_append]
        by_cases hk : m ≤ split n
        · have hne : m ≠ split n := hm _
          rw [two_left h h2 _ hk, two_left h h2 _ hk, ih _ g1 m old o q h0 (by omega) hm]
        · rw [two_right h h2 _ hk, two_right h h2 _ hk, two_old _ _ _ old o]

/-- pairs go up -/
theorem two_even (n : Nat) : ∀ (m : Nat) (o : Bs) (p : List Bs), m < n → 1 ≤ m → m % 2 = 0 → two m n false o p = two (m / 2) ((n + 1) / 2) false o p := by
  induction n using Nat.strongRecOn with
  | ind n ih =>
    intro m o p h h1 he
    have h3 : 3 ≤ n := by omega
    obtain ⟨k, e1, e2, hk⟩ := split_half h3
    have g1 := split_lt (n := n) (by omega)
    rcases List.eq_nil_or_concat p with rfl | ⟨q, top, rfl⟩
    · rw [two_none _ _ _ _ rfl, two_none _ _ _ _ rfl]
    · rw [List.concat_eq_append]
      by_cases hm : m ≤ split n
      · rw [two_left h (by omega) _ hm, two_left (by omega) (by omega) _ (by omega), e1, e2]
        by_cases hlt : m < 2 * k
        · rw [ih (2 * k) (by omega) m o q hlt h1 he, show (2 * k + 1) / 2 = k by omega]
        · rw [two_part (by omega), two_part (by omega)]
      · rw [two_right h (by omega) _ hm, two_right (by omega) (by omega) _ (by omega), e1, e2, ih (n - 2 * k) (by omega) (m - 2 * k) o q (by omega) (by omega) (by omega)]
        rw [show (m - 2 * k) / 2 = m / 2 - k by omega, show (n - 2 * k + 1) / 2 = (n + 1) / 2 - k by omega]

/-- from the last of the first ones on it is a path -/
theorem two_odd (n : Nat) : ∀ (m : Nat) (o x : Bs) (p : List Bs), m < n → m % 2 = 1 → two m n false o (x :: p) = upG pairL pairR (x, x) (m - 1) n p := by
  induction n using Nat.strongRecOn with
  | ind n ih =>
    intro m o x p h ho
    have h2 : 2 ≤ n := by omega
    have g1 := split_lt h2
    have g0 := split_pos n
    rcases List.eq_nil_or_concat p with rfl | ⟨q, top, rfl⟩
    · rw [upG_nil h2, show ([x] : List Bs) = [] ++ [x] from rfl]
      by_cases hk : m ≤ split n
      · rw [two_left h h2 _ hk, two_none _ _ _ _ rfl]; rfl
      · rw [two_right h h2 _ hk, two_none _ _ _ _ rfl]; rfl
    · rw [List.concat_eq_append, ← List.cons_append]
      by_cases hk : m ≤ split n
      · rw [two_left h h2 _ hk, upG_left h2 _ (by omega)]
        by_cases hlt : m < split n
        · rw [ih _ g1 m o x q hlt ho]
        · have h1 : split n = 1 := by
            by_cases h3 : 3 ≤ n
            · obtain ⟨k, e1, _, _⟩ := split_half h3
              omega
            · have : n = 2 := by omega
              subst this
              exact split_two
          rw [h1, show m = 1 by omega, two_part (by omega), upG_one]
          cases q with
          | nil => rfl
          | cons a q => rfl
      · have h3 : 3 ≤ n := by omega
        obtain ⟨k, e1, _, _⟩ := split_half h3
        rw [two_right h h2 _ hk, upG_right h2 _ (by omega), ih _ (by omega) (m - split n) o x q (by omega) (by omega)]
        rw [show m - split n - 1 = m - 1 - split n by omega]

/-- as long as i is odd, both are halved -/
def strip (i last : Nat) : Nat × Nat := if i % 2 = 1 then strip (i / 2) (last / 2) else (i, last)
termination_by i
decreasing_by omega
/-- as long as i is even, and not nought, both are halved -/
def strip0 (i last : Nat) : Nat × Nat := if i % 2 = 0 ∧ 0 < i then strip0 (i / 2) (last / 2) else (i, last)
termination_by i
decreasing_by omega
theorem strip_odd {i last : Nat} (h : i % 2 = 1) : strip i last = strip (i / 2) (last / 2) := by conv => lhs; rw [strip, if_pos h]
theorem strip_even {i last : Nat} (h : ¬ i % 2 = 1) : strip i last = (i, last) := by rw [strip, if_neg h]
theorem strip0_even {i last : Nat} (h : i % 2 = 0 ∧ 0 < i) : strip0 i last = strip0 (i / 2) (last / 2) := by conv => lhs; rw [strip0, if_pos h]
theorem strip0_odd {i last : Nat} (h : ¬ (i % 2 = 0 ∧ 0 < i)) : strip0 i last = (i, last) := by rw [strip0, if_neg h]
theorem strip_two (i : Nat) : ∀ (last : Nat) (o : Bs) (p : List Bs), i < last → (strip i last).1 % 2 = 0 ∧ (strip i last).1 < (strip i last).2 ∧ two (i + 1) (last + 1) false o p = two ((strip i last).1 + 1) ((strip i last).2 + 1) false o p := by
  induction i using Nat.strongRecOn with
  | ind i ih =>
    intro last o p h
    by_cases ho : i % 2 = 1
    · rw [strip_odd ho]
      obtain ⟨g1, g2, g3⟩ := ih (i / 2) (by omega) (last / 2) o p (by omega)
      refine ⟨g1, g2, ?_⟩
      rw [← g3, two_even (last + 1) (i + 1) o p (by omega) (by omega) (by omega)]
      rw [show (i + 1) / 2 = i / 2 + 1 by omega, show (last + 1 + 1) / 2 = last / 2 + 1 by omega]
    · rw [strip_even ho]
      exact ⟨by show i % 2 = 0; omega, h, rfl⟩
theorem strip0_up (i : Nat) : ∀ (ab : PB) (p : List Bs), 0 < i → (strip0 i i).1 % 2 = 1 ∧ (strip0 i i).1 = (strip0 i i).2 ∧
    upG pairL pairR ab i (i + 1) p = upG pairL pairR ab (strip0 i i).1 ((strip0 i i).2 + 1) p := by
  induction i using Nat.strongRecOn with
  | ind i ih =>
    intro ab p h
    by_cases he : i % 2 = 0
    · rw [strip0_even ⟨he, h⟩]
      obtain ⟨g1, g2, g3⟩ := ih (i / 2) (by omega) ab p (by omega)
      refine ⟨g1, g2, ?_⟩
      rw [← g3, upG_skip pairL pairR (i + 1) ab i p (by omega) he rfl, show (i + 1 + 1) / 2 = i / 2 + 1 by omega]
    · rw [strip0_odd (by omega)]
      exact ⟨by show i % 2 = 1; omega, rfl, rfl⟩

/-- as the program goes up with two roots, from below -/
def climb2 (ab : PB) (i last : Nat) : List Bs → Option PB
  | [] => if last = 0 then some ab else none
  | d :: p => if last = 0 then none else
    if i % 2 = 1 ∨ i = last then climb2 (pairR ab d) ((strip0 i last).1 / 2) ((strip0 i last).2 / 2) p
    else climb2 (pairL ab d) (i / 2) (last / 2) p
theorem climb2_up (p : List Bs) : ∀ (ab : PB) (i last : Nat), i ≤ last → climb2 ab i last p = upG pairL pairR ab i (last + 1) p := by
  induction p with
  | nil =>
    intro ab i last h
    unfold climb2
    by_cases h0 : last = 0
    · subst h0; rw [if_pos rfl, upG_one, if_pos rfl]
    · rw [if_neg h0, upG_nil (by omega)]
  | cons d p ih =>
    intro ab i last h
    unfold climb2
    by_cases h0 : last = 0
    · subst h0; rw [if_pos rfl, upG_one, if_neg (by simp)]
    · rw [if_neg h0]
      by_cases ho : i % 2 = 1
      · rw [if_pos (.inl ho), strip0_odd (by omega), ih _ _ _ (by show i / 2 ≤ last / 2; omega), upG_step pairL pairR (last + 1) ab i d p (by omega) (by omega) (by omega), if_pos ho]
        rw [show (last + 1 + 1) / 2 = last / 2 + 1 by omega]
      · by_cases hl : i = last
        · subst hl
          obtain ⟨g1, g2, g3⟩ := strip0_up i ab (d :: p) (by omega)
          rw [if_pos (.inr rfl), g3]
          generalize strip0 i i = s at *
          obtain ⟨a, b⟩ := s
          dsimp only at *
          subst g2
          rw [ih _ _ _ (Nat.le_refl _), upG_step pairL pairR (a + 1) ab a d p (by omega) (by omega) (by omega), if_pos g1]
          rw [show (a + 1 + 1) / 2 = a / 2 + 1 by omega]
        · rw [if_neg (by omega), ih _ _ _ (by omega), upG_step pairL pairR (last + 1) ab i d p (by omega) (by omega) (by omega), if_neg ho]
          rw [show (last + 1 + 1) / 2 = last / 2 + 1 by omega]

/-- what the program makes of a proof, where the one is smaller than the other -/
def grew2 (m n : Nat) (p : List Bs) : Option PB :=
  match p with
  | [] => none
  | x :: p => climb2 (x, x) (strip (m - 1) (n - 1)).1 (strip (m - 1) (n - 1)).2 p
theorem grew2_two (m n : Nat) (o : Bs) (p : List Bs) (h1 : 1 ≤ m) (h : m < n) : grew2 m n p = two m n false o p := by
  obtain ⟨g1, g2, g3⟩ := strip_two (m - 1) (n - 1) o p (by omega)
  rw [show m - 1 + 1 = m by omega, show n - 1 + 1 = n by omega] at g3
  rw [g3]
  unfold grew2
  cases p with
  | nil => rw [two_none _ _ _ _ rfl]
  | cons x p =>
    dsimp only
    generalize strip (m - 1) (n - 1) = s at *
    obtain ⟨a, b⟩ := s
    dsimp only at *
    rw [climb2_up p _ _ _ (by omega), two_odd (b + 1) (a + 1) o x p (by omega) (by omega)]
    rfl
/-- is a power of two -/
def pow2 (m : Nat) : Bool := m &&& (m - 1) == 0
theorem pow2_yes : ∀ m, m ≤ 128 → 1 ≤ m → pow2 m = true → ∃ j, m = 2 ^ j := by
  have h : ∀ m : Fin 129, 1 ≤ m.val → pow2 m.val = true → m.val = 2 ^ Nat.log2 m.val := by decide +kernel
  intro m hm h1 hp
  exact ⟨_, h ⟨m, by omega⟩ h1 hp⟩
theorem pow2_no : ∀ m, m ≤ 128 → 1 ≤ m → pow2 m = false → ∀ j, m ≠ 2 ^ j := by
  have h : ∀ m : Fin 129, 1 ≤ m.val → pow2 m.val = false → ∀ j : Fin 8, m.val ≠ 2 ^ j.val := by decide +kernel
  intro m hm h1 hp j hj
  have hlt : j < 8 := by
    have : 2 ^ j < 2 ^ 8 := by rw [← hj]; show m < 256; omega
    exact (Nat.pow_lt_pow_iff_right (by decide)).1 this
  exact h ⟨m, by omega⟩ h1 hp ⟨j, hlt⟩ hj
theorem grew2_whole (m n : Nat) (old : Bs) (p : List Bs) (h1 : 1 ≤ m) (h : m < n) (hm : m ≤ 128) : grew2 m n (if pow2 m then old :: p else p) = two m n true old p := by
  cases hp : pow2 m with
  | true =>
    obtain ⟨j, hj⟩ := pow2_yes m hm h1 hp
    rw [if_pos rfl, grew2_two m n old _ h1 h, hj, two_pow n j old old p (by omega)]
  | false =>
    rw [if_neg (by simp), grew2_two m n old _ h1 h, two_not n m old old p h1 h (pow2_no m hm h1 hp)]

/-! right edges -/
/-- the whole parts of so many leaves, the greatest first -/
def edge (l : List Bs) : List Bs :=
  if h : l = [] then [] else if l.length % 2 = 1 then edge (pairs l.dropLast) ++ [l.getLast h] else edge (pairs l)
termination_by l.length
decreasing_by
  · rw [length_pairs, List.length_dropLast]; have := List.length_pos_iff.2 h; omega
  · rw [length_pairs]; have := List.length_pos_iff.2 h; omega
theorem edge_nil : edge [] = [] := by rw [edge]; rfl
theorem edge_odd (l : List Bs) (d : Bs) (h : l.length % 2 = 0) : edge (l ++ [d]) = edge (pairs l) ++ [d] := by
  rw [edge, dif_neg (by simp), if_pos (by simp; omega)]
  simp
theorem edge_even (l : List Bs) (h : l.length % 2 = 0) : edge l = edge (pairs l) := by
  by_cases hl : l = []
  · subst hl; rfl
  · conv => lhs; rw [edge, dif_neg hl, if_neg (by omega)]
/-- a digest is pushed -/
def pushF (ps : List Bs) (n : Nat) (d : Bs) : List Bs :=
  if n % 2 = 1 then pushF ps.dropLast (n / 2) (nodeH (ps.getLastD []) d) else ps ++ [d]
termination_by n
decreasing_by omega
theorem pushF_odd {ps : List Bs} {n : Nat} {d : Bs} (h : n % 2 = 1) : pushF ps n d = pushF ps.dropLast (n / 2) (nodeH (ps.getLastD []) d) := by conv => lhs; rw [pushF, if_pos h]
theorem pushF_even {ps : List Bs} {n : Nat} {d : Bs} (h : ¬ n % 2 = 1) : pushF ps n d = ps ++ [d] := by rw [pushF, if_neg h]
theorem push_edge (n : Nat) : ∀ (l : List Bs) (d : Bs), l.length = n → pushF (edge l) n d = edge (l ++ [d]) := by
  induction n using Nat.strongRecOn with
  | ind n ih =>
    intro l d hl
    by_cases ho : n % 2 = 1
    · rcases List.eq_nil_or_concat l with rfl | ⟨q, x, rfl⟩
      · simp at hl; omega
      · rw [List.concat_eq_append] at *
        have hq : q.length % 2 = 0 := by simp at hl; omega
        have hq2 : q.length = n - 1 := by simp at hl; omega
        rw [edge_odd q x hq, pushF_odd ho, edge_even (q ++ [x] ++ [d]) (by simp; omega), List.append_assoc, pairs_append q _ hq]
        have e1 : (edge (pairs q) ++ [x]).dropLast = edge (pairs q) := by simp
        have e2 : (edge (pairs q) ++ [x]).getLastD [] = x := by simp
        rw [e1, e2]
        exact ih (n / 2) (by omega) (pairs q) (nodeH x d) (by rw [length_pairs]; omega)
    · rw [pushF_even ho, edge_odd l d (by omega), edge_even l (by omega)]
/-- the root of a right edge -/
theorem top_edge (n : Nat) : ∀ (l : List Bs) (x : Bs), l.length = n → (edge l).foldr nodeH x = root (l ++ [x]) := by
  induction n using Nat.strongRecOn with
  | ind n ih =>
    intro l x hl
    rw [← root_pairs _ (l ++ [x]) rfl]
    by_cases ho : n % 2 = 1
    · rcases List.eq_nil_or_concat l with rfl | ⟨q, y, rfl⟩
      · simp at hl; omega
      · rw [List.concat_eq_append] at *
        have hq : q.length % 2 = 0 := by simp at hl; omega
        rw [edge_odd q y hq, List.append_assoc, pairs_append q _ hq, List.foldr_append]
        exact ih (n / 2) (by omega) (pairs q) (nodeH y x) (by rw [length_pairs]; simp at hl; omega)
    · by_cases h0 : n = 0
      · have : l = [] := List.eq_nil_of_length_eq_zero (by omega)
        subst this
        rw [edge_nil]
        show x = root (pairs [x])
        rw [show pairs [x] = [x] from rfl, root_one]
      · rw [edge_even l (by omega), pairs_append l [x] (by omega), ih (n / 2) (by omega) (pairs l) x (by rw [length_pairs]; omega)]
        rfl
def ones (n : Nat) : Nat := if n = 0 then 0 else n % 2 + ones (n / 2)
termination_by n
decreasing_by omega
theorem ones_zero : ones 0 = 0 := by rw [ones]; rfl
theorem ones_step (n : Nat) (h : 0 < n) : ones n = n % 2 + ones (n / 2) := by conv => lhs; rw [ones, if_neg (by omega)]
theorem length_edge (n : Nat) : ∀ l : List Bs, l.length = n → (edge l).length = ones n := by
  induction n using Nat.strongRecOn with
  | ind n ih =>
    intro l hl
    by_cases h0 : n = 0
    · have : l = [] := List.eq_nil_of_length_eq_zero (by omega)
      subst this h0
      rw [edge_nil, ones_zero]; rfl
    · rw [ones_step n (by omega)]
      by_cases ho : n % 2 = 1
      · rcases List.eq_nil_or_concat l with rfl | ⟨q, y, rfl⟩
        · simp at hl; omega
        · rw [List.concat_eq_append] at *
          have hq : q.length % 2 = 0 := by simp at hl; omega
          rw [edge_odd q y hq, List.length_append, ih (n / 2) (by omega) (pairs q) (by rw [length_pairs]; simp at hl; omega), ho]
          simp; omega
      · rw [edge_even l (by omega), ih (n / 2) (by omega) (pairs l) (by rw [length_pairs]; omega)]
        omega

/-! sizes -/
theorem split_le_pow {n N : Nat} (h2 : 2 ≤ n) (h : n ≤ 2 ^ (N + 1)) : split n ≤ 2 ^ N := by
  unfold split
  refine Nat.pow_le_pow_right (by decide) ?_
  have : n - 1 < 2 ^ (N + 1) := by omega
  have := (Nat.log2_lt (by omega)).2 this
  omega
theorem split_pow (N : Nat) : split (2 ^ (N + 1)) = 2 ^ N := split_eq (by rw [Nat.pow_succ]; have := Nat.two_pow_pos N; omega) (by rw [Nat.pow_succ]; omega)
theorem depth_le (N : Nat) : ∀ (i n : Nat), n ≤ 2 ^ N → depth i n ≤ N := by
  induction N with
  | zero => intro i n h; rw [depth, dif_neg (by simp at h; omega)]; exact Nat.zero_le _
  | succ N ih =>
    intro i n h
    rw [depth]
    by_cases h2 : 2 ≤ n
    · rw [dif_pos h2]
      have hs := split_le_pow h2 h
      have hg := split_ge h2
      split
      · have := ih i (split n) hs; omega
      · have := ih (i - split n) (n - split n) (by omega); omega
    · rw [dif_neg h2]; exact Nat.zero_le _
theorem depth_pow (N : Nat) : ∀ i : Nat, depth i (2 ^ N) = N := by
  induction N with
  | zero => intro i; rw [depth, dif_neg (by decide)]
  | succ N ih =>
    intro i
    have h2 : 2 ≤ 2 ^ (N + 1) := by rw [Nat.pow_succ]; have := Nat.two_pow_pos N; omega
    rw [depth, dif_pos h2, split_pow, show 2 ^ (N + 1) - 2 ^ N = 2 ^ N by rw [Nat.pow_succ]; omega, ih, ih]
    simp
theorem grows_le (N : Nat) : ∀ (l : List Bs) (m : Nat) (b : Bool), l.length ≤ 2 ^ N → (grows l m b).length ≤ N + 1 := by
  induction N with
  | zero =>
    intro l m b h
    rw [grows, dif_neg (by simp at h; omega)]
    split <;> simp
  | succ N ih =>
    intro l m b h
    by_cases hm : m < l.length ∧ 2 ≤ l.length
    · have hs := split_le_pow hm.2 h
      have hg := split_ge hm.2
      by_cases hk : m ≤ split l.length
      · rw [grows_left hm.1 hm.2 hk, List.length_append]
        have := ih (l.take (split l.length)) m b (by rw [List.length_take]; omega)
        simp; omega
      · rw [grows_right hm.1 hm.2 hk, List.length_append]
        have := ih (l.drop (split l.length)) (m - split l.length) false (by rw [List.length_drop]; omega)
        simp; omega
    · rw [grows, dif_neg hm]
      split <;> simp

end Tr
end Go.Proofs.Ytfdibjgmbdkbcaa
