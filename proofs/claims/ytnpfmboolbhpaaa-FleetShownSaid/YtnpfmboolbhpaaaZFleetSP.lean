/-
  THE PLAIN LAW: each entry that was taken is shown, if nothing was spoilt. No conditions.
-/
import Derived.Test.YtnpfmboolbhpaaaZGp
namespace Go.Proofs.Ytnpfmboolbhpaaa
namespace Fl
theorem play_bad {ws : List (Int × Int)} {l : List Dob} {f : Flt} {la : List Ans} {a b : Nat} (h : play ws l = (f, la, (a, b))) (ha : a ≠ 0) : la = [] := by
  unfold play at h
  split at h
  · injection h with _ h
    injection h with h _
    exact h.symm
  · split at h
    · injection h with _ h
      injection h with h _
      exact h.symm
    · injection h with _ h
      injection h with _ h
      injection h with h _
      exact absurd h.symm ha
theorem shown_taken {ws : List (Int × Int)} {l : List Dob} {f : Flt} {la : List Ans} {b : Nat} (h : play ws l = (f, la, (0, b))) (h5 : ∀ d ∈ l, d.kind ≠ 5) {i : Nat} {d : Dob} {a : Ans} (hd : l[i]? = some d) (ha : la[i]? = some a) (h1 : d.kind = 1) (h0 : a.err = 0) :
    ∃ (k p : Nat) (hk : k < f.sh.length), a.sh = (k : Int) ∧ a.pl = (p : Int) ∧ (f.sh[k].st ≠ 1 → ∃ s : Shw, showC f k p = (0, s) ∧ s.entry = d.entry ∧ checkC s f.book.length (bookRoot f.book) = true) := by
  obtain ⟨hI, e1, e2, hw, _⟩ := play_ok h
  rw [e2] at ha
  obtain ⟨k, p, s, a1, a2, hs, hp⟩ := taken_there hw h5 hd ha h1 h0
  rw [← e1] at hs
  obtain ⟨hlt, hg⟩ := List.getElem?_eq_some_iff.1 hs
  refine ⟨k, p, hlt, a1, a2, fun hst => ?_⟩
  rw [hg] at hst
  have hst4 := (hI.sh k s hs).st
  have h2 : 2 ≤ s.st := by omega
  obtain ⟨hpl, hpe⟩ := List.getElem?_eq_some_iff.1 hp
  obtain ⟨r, hr, h3, h4, h5', h6, h7, h8, h9⟩ := hI.frozen hs h2
  obtain ⟨r', hr', g3, g4, hsh⟩ := showC_frozen hI hs h2 (p : Int)
  rw [h3] at g3
  injection g3 with g3
  subst g3
  rw [if_pos (by omega), Int.toNat_natCast] at hsh
  refine ⟨_, hsh, ?_, check_shown hI hs h2 h3 hpl⟩
  unfold shown
  simp only [List.getD_eq_getElem?_getD, hp, Option.getD_some]
end Fl
end Go.Proofs.Ytnpfmboolbhpaaa
