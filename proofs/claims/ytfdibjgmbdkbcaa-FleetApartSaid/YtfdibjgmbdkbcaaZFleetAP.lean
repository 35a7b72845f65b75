/-
  THE PLAIN LAW: entries of two shards may come either way. No conditions.
-/
import Derived.Test.YtfdibjgmbdkbcaaZGp
namespace Go.Proofs.Ytfdibjgmbdkbcaa
namespace Fl
def app (f : Flt) (o : Option (Nat × Shd)) : Flt := match o with
  | some p => ⟨f.sh.set p.1 p.2, f.book⟩
  | none => f
/-- what a submission does, and what it asks of the fleet -/
theorem submit_shape (f : Flt) (d : Dob) : ∃ (o : Option (Nat × Shd)) (x : Ans), (∀ k s', o = some (k, s') → f.sh.findIdx? (inW d.time) = some k ∧ ∃ s, f.sh[k]? = some s ∧ s'.fr = s.fr ∧ s'.til = s.til) ∧
    ∀ f2 : Flt, f2.sh.findIdx? (inW d.time) = f.sh.findIdx? (inW d.time) → (∀ k, f.sh.findIdx? (inW d.time) = some k → f2.sh[k]? = f.sh[k]?) → submit f2 d = (app f2 o, x) := by
  by_cases h200 : 200 < d.entry.length
  · exact ⟨none, no 4, fun k s' h => (by cases h), fun f2 _ _ => by unfold submit; rw [if_pos h200]; rfl⟩
  cases hk : f.sh.findIdx? (inW d.time) with
  | none => exact ⟨none, no 6, fun k s' h => (by cases h), fun f2 h1 _ => by unfold submit; rw [if_neg h200, h1]; rfl⟩
  | some k =>
    cases hs : f.sh[k]? with
    | none => exact ⟨none, no 6, fun k s' h => (by cases h), fun f2 h1 h2 => by unfold submit; rw [if_neg h200, h1]; simp only [h2 k rfl, hs]; rfl⟩
    | some s =>
      by_cases hst : s.st ≠ 1
      · exact ⟨none, no 8, fun k s' h => (by cases h), fun f2 h1 h2 => by unfold submit; rw [if_neg h200, h1]; simp only [h2 k rfl, hs]; rw [if_pos hst]; rfl⟩
      cases hi : s.ents.findIdx? (· == d.entry) with
      | some i => exact ⟨none, ⟨0, k, i, 0, []⟩, fun k s' h => (by cases h), fun f2 h1 h2 => by unfold submit; rw [if_neg h200, h1]; simp only [h2 k rfl, hs]; rw [if_neg hst, hi]; rfl⟩
      | none =>
        by_cases h100 : s.ents.length = 100
        · exact ⟨none, no 5, fun k s' h => (by cases h), fun f2 h1 h2 => by unfold submit; rw [if_neg h200, h1]; simp only [h2 k rfl, hs]; rw [if_neg hst, hi]; simp only; rw [if_pos h100]; rfl⟩
        · refine ⟨some (k, { s with ents := s.ents ++ [d.entry] }), ⟨0, k, s.ents.length, 0, []⟩, fun k' s' h => ?_, fun f2 h1 h2 => by unfold submit; rw [if_neg h200, h1]; simp only [h2 k rfl, hs]; rw [if_neg hst, hi]; simp only; rw [if_neg h100]; rfl⟩
          injection h with h
          injection h with e1 e2
          subst e1 e2
          exact ⟨rfl, s, hs, rfl, rfl⟩
theorem findIdx_app {p : Shd → Bool} (hp : ∀ s s' : Shd, s'.fr = s.fr → s'.til = s.til → p s' = p s) {f : Flt} {o : Option (Nat × Shd)} (h : ∀ k s', o = some (k, s') → ∃ s, f.sh[k]? = some s ∧ s'.fr = s.fr ∧ s'.til = s.til) : (app f o).sh.findIdx? p = f.sh.findIdx? p := by
  cases o with
  | none => rfl
  | some q =>
    obtain ⟨k, s'⟩ := q
    obtain ⟨s, hs, e1, e2⟩ := h k s' rfl
    have key : ∀ (l : List Shd) (k : Nat), l[k]? = some s → (l.set k s').findIdx? p = l.findIdx? p := by
      intro l
      induction l with
      | nil => intro k h; simp at h
      | cons a l ih =>
        intro k h
        cases k with
        | zero =>
          simp only [List.getElem?_cons_zero, Option.some.injEq] at h
          subst h
          simp only [List.set_cons_zero, List.findIdx?_cons, hp _ _ e1 e2]
        | succ k =>
          simp only [List.getElem?_cons_succ] at h
          simp only [List.set_cons_succ, List.findIdx?_cons, ih k h]
    exact key f.sh k hs
theorem inW_win {t : Int} (s s' : Shd) (h1 : s'.fr = s.fr) (h2 : s'.til = s.til) : inW t s' = inW t s := by unfold inW; rw [h1, h2]
/-- two submissions to two shards may come either way -/
theorem submit_apart {f : Flt} {a b : Dob} (hno : ∀ (k : Nat) (s : Shd), f.sh[k]? = some s → ¬ (inW a.time s = true ∧ inW b.time s = true)) :
    (submit (submit f a).1 b).1 = (submit (submit f b).1 a).1 ∧ (submit (submit f a).1 b).2 = (submit f b).2 ∧ (submit (submit f b).1 a).2 = (submit f a).2 := by
  obtain ⟨oa, xa, ha1, ha2⟩ := submit_shape f a
  obtain ⟨ob, xb, hb1, hb2⟩ := submit_shape f b
  have ea := ha2 f rfl (fun _ _ => rfl)
  have eb := hb2 f rfl (fun _ _ => rfl)
  have hne : ∀ ka kb, f.sh.findIdx? (inW a.time) = some ka → f.sh.findIdx? (inW b.time) = some kb → ka ≠ kb := fun ka kb h1 h2 e => by
    subst e
    obtain ⟨k1, k2, _⟩ := List.findIdx?_eq_some_iff_getElem.1 h1
    obtain ⟨k3, k4, _⟩ := List.findIdx?_eq_some_iff_getElem.1 h2
    exact hno ka _ (List.getElem?_eq_getElem k1) ⟨k2, k4⟩
  have fa := hb2 (app f oa) (findIdx_app inW_win fun k s' h => (ha1 k s' h).2) (fun kb hkb => by
    cases oa with
    | none => rfl
    | some q => exact List.getElem?_set_ne (hne q.1 kb (ha1 q.1 q.2 rfl).1 hkb))
  have fb := ha2 (app f ob) (findIdx_app inW_win fun k s' h => (hb1 k s' h).2) (fun ka hka => by
    cases ob with
    | none => rfl
    | some q => exact List.getElem?_set_ne (hne ka q.1 hka (hb1 q.1 q.2 rfl).1).symm)
  rw [ea, eb, fa, fb]
  refine ⟨?_, rfl, rfl⟩
  cases oa with
  | none => rfl
  | some qa =>
    cases ob with
    | none => rfl
    | some qb =>
      show (⟨(f.sh.set qa.1 qa.2).set qb.1 qb.2, f.book⟩ : Flt) = ⟨(f.sh.set qb.1 qb.2).set qa.1 qa.2, f.book⟩
      rw [List.set_comm _ _ (hne qa.1 qb.1 (ha1 qa.1 qa.2 rfl).1 (hb1 qb.1 qb.2 rfl).1)]
/-- a shard's window stays -/
def wins (f : Flt) : List (Int × Int) := f.sh.map fun s => (s.fr, s.til)
theorem wins_set {f : Flt} {k : Nat} {s s' : Shd} {b : List Rec} (hk : f.sh[k]? = some s) (h1 : s'.fr = s.fr) (h2 : s'.til = s.til) : wins ⟨f.sh.set k s', b⟩ = wins f := by
  obtain ⟨hlt, hg⟩ := List.getElem?_eq_some_iff.1 hk
  unfold wins
  simp only [List.map_set, h1, h2]
  rw [← hg]
  refine List.ext_getElem (by simp) (fun i h1 h2 => ?_)
  rw [List.getElem_set]
  split
  · rename_i e
    subst e
    simp
  · rfl
theorem step_wins (f : Flt) (d : Dob) : wins (step f d).1 = wins f := by
  unfold step submit freeze lay retire spoil
  repeat' split
  all_goals first | rfl | (apply wins_set; assumption; rfl; rfl)
theorem run_wins : ∀ (l : List Dob) (f : Flt), wins (run f l).1 = wins f
  | [], _ => rfl
  | d :: l, f => by
    simp only [run]
    rw [run_wins l, step_wins]
theorem start_wins (ws : List (Int × Int)) : wins (start ws) = ws := by
  unfold wins start
  rw [List.map_map]
  exact List.map_id'' (fun _ => rfl) ws
/-- the law of those that know nothing of each other -/
theorem apart_run {ws : List (Int × Int)} {l : List Dob} {a b : Dob} (hno : ∀ p ∈ ws, ¬ (p.1 ≤ a.time ∧ a.time < p.2 ∧ p.1 ≤ b.time ∧ b.time < p.2)) (ha : a.kind = 1) (hb : b.kind = 1) :
    (run (start ws) (l ++ [a, b])).1 = (run (start ws) (l ++ [b, a])).1 ∧ ∃ x y : Ans, (run (start ws) (l ++ [a, b])).2 = (run (start ws) l).2 ++ [x, y] ∧ (run (start ws) (l ++ [b, a])).2 = (run (start ws) l).2 ++ [y, x] := by
  have hw : wins (run (start ws) l).1 = ws := by rw [run_wins, start_wins]
  have h := submit_apart (f := (run (start ws) l).1) (a := a) (b := b) (fun k s hk h => by
    have hm : (s.fr, s.til) ∈ ws := by rw [← hw]; exact List.mem_map.2 ⟨s, List.mem_of_getElem? hk, rfl⟩
    obtain ⟨h1, h2⟩ := h
    unfold inW at h1 h2
    simp only [Bool.and_eq_true, decide_eq_true_eq] at h1 h2
    exact hno _ hm ⟨h1.1, h1.2, h2.1, h2.2⟩)
  have sa : ∀ g, step g a = submit g a := fun g => by unfold step; rw [if_pos ha]
  have sb : ∀ g, step g b = submit g b := fun g => by unfold step; rw [if_pos hb]
  obtain ⟨h1, h2, h3⟩ := h
  rw [run_append, run_append]
  simp only [run, sa, sb]
  exact ⟨h1, _, _, by rw [h2], by rw [h3]⟩
end Fl
end Go.Proofs.Ytfdibjgmbdkbcaa
