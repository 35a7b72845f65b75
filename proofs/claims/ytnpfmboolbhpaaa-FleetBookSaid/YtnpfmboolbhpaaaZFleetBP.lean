/-
  THE PLAIN LAW: the book only grows; each shard is in it once. No conditions.
-/
import Derived.Test.YtnpfmboolbhpaaaZGp
namespace Go.Proofs.Ytnpfmboolbhpaaa
namespace Fl
theorem step_book (f : Flt) (d : Dob) : ∃ r, (step f d).1.book = f.book ++ r := by
  have h0 : ∃ r, f.book = f.book ++ r := ⟨[], by simp⟩
  unfold step submit freeze lay retire spoil
  repeat' split
  all_goals first | exact h0 | exact ⟨_, rfl⟩
theorem run_book : ∀ (l : List Dob) (f : Flt), ∃ r, (run f l).1.book = f.book ++ r
  | [], f => ⟨[], by simp [run]⟩
  | d :: l, f => by
    obtain ⟨r1, h1⟩ := step_book f d
    obtain ⟨r2, h2⟩ := run_book l (step f d).1
    refine ⟨r1 ++ r2, ?_⟩
    simp only [run]
    rw [h2, h1, List.append_assoc]
/-- a past book is the book's beginning -/
theorem play_book {ws : List (Int × Int)} {l : List Dob} {f g : Flt} {la lb : List Ans} {b c k : Nat} (h : play ws l = (f, la, (0, b))) (h2 : play ws (l.take k) = (g, lb, (0, c))) : g.book.length ≤ f.book.length ∧ g.book = f.book.take g.book.length := by
  obtain ⟨_, e1, _, _, _⟩ := play_ok h
  obtain ⟨_, e2, _, _, _⟩ := play_ok h2
  obtain ⟨r, hr⟩ := run_book (l.drop k) (run (start ws) (l.take k)).1
  have ha := run_append (start ws) (l.take k) (l.drop k)
  rw [List.take_append_drop] at ha
  have hb : f.book = g.book ++ r := by rw [e1, ha, e2]; exact hr
  refine ⟨by rw [hb, List.length_append]; omega, ?_⟩
  rw [hb]
  simp
/-- of each row: its shard, once -/
theorem book_row {f : Flt} (hI : Inv f) {j : Nat} (hj : j < f.book.length) : ∃ (k : Nat) (hk : k < f.sh.length), f.book[j].sh = (k : Int) ∧ (∀ i (hi : i < j), f.book[i].sh ≠ (k : Int)) ∧ f.sh[k].st ≠ 1 ∧ f.book[j].fr = f.sh[k].fr ∧ f.book[j].to = f.sh[k].til ∧
    (f.sh[k].st ≠ 4 → Fine f.sh[k].ents ∧ f.book[j].sz = f.sh[k].ents.length ∧ f.book[j].root = Tr.rootL f.sh[k].ents) := by
  obtain ⟨⟨k, s, e1, e2, e3, e4, e5, e6, e7⟩, _, _⟩ := hI.book _ (List.getElem_mem hj)
  obtain ⟨hlt, hg⟩ := List.getElem?_eq_some_iff.1 e2
  refine ⟨k, hlt, e1, fun i hi e => ?_, by rw [hg]; omega, by rw [hg]; exact e4, by rw [hg]; exact e5, fun h4 => ?_⟩
  · exact List.pairwise_iff_getElem.1 hI.one i j (by omega) hj hi (by rw [e, e1])
  · rw [hg] at h4 ⊢
    obtain ⟨g1, g2⟩ := e6 h4
    exact ⟨(hI.sh k s e2).fine, g1, g2⟩
/-- a shard is in the book just if it is not open -/
theorem in_book {f : Flt} (hI : Inv f) {k : Nat} (hk : k < f.sh.length) : (∃ r ∈ f.book, r.sh = (k : Int)) ↔ f.sh[k].st ≠ 1 := by
  have hs := List.getElem?_eq_getElem hk
  have o := hI.sh k _ hs
  constructor
  · intro ⟨r, hr, e⟩ h1
    exact no_row hI hs h1 r hr e
  · intro h
    have := o.st
    exact o.row (by omega)
end Fl
end Go.Proofs.Ytnpfmboolbhpaaa
