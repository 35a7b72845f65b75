/-
  Numbers in a slice; a row of the call's own: its cells, and what they are read as; what comes in. Conditions: what is read.
-/
import Derived.Test.YtnfaefgmekfloaaZGj
import Derived.Test.YtnfaefgmekfloaaZTopB
namespace Go.Proofs.Ytnfaefgmekfloaa
open Go.RowKit Go.Lib
set_option maxRecDepth 100000 in
theorem opensInts : Opens Try.prog 58 (List Int) := opens_list Try.underlying58 (by kernel_rfl) opensInt (by decide)
theorem int_at {w : World} {F : Nat → Prop} {v : Value} {l : List Int} (h : RdL w F v l) {j : Nat} (hj : j < l.length) : ∃ b off c, v = .slice (some ⟨b, off, none⟩) l.length c ∧ b < w.heap.size ∧ w.cell? ⟨b, off + j, none⟩ = some (.int .i64 l[j]) := by
  obtain ⟨b, off, c, hv, _, hb, ecs, hr, hc⟩ := h.at_ hj
  have e : ecs = [.int .i64 l[j]] := hr
  subst e
  have := hc 0 _ rfl
  have e1 : off + j * Rp.sz Int + 0 = off + j := by show off + j * 1 + 0 = off + j; omega
  rw [e1] at this
  exact ⟨b, off, c, hv, hb, this⟩
/-- an element of a row of the call's own -/
theorem own_at {α : Type} [Rp α] {w : World} {B : Nat} {e : TypeId} {F : Nat → Prop} {v : Value} {l : List α} (h : OwnR w B e F v l) {j : Nat} (hj : j < l.length) : ∃ b off c, v = .slice (some ⟨b, off, none⟩) l.length c ∧ b < w.heap.size ∧
    ∃ ecs, Rp.rd w F ecs l[j] ∧ ∀ i u, ecs[i]? = some u → w.cell? ⟨b, off + j * Rp.sz α + i, none⟩ = some u := by
  have hlt := h.lt
  obtain ⟨xs, ⟨hx, ⟨rfl, h0⟩ | ⟨g, off, cap, cur, rfl, hb, hg, hn, hm, hs, ht⟩⟩, h2⟩ := h
  · omega
  · refine ⟨g, off, cap, rfl, (hlt g rfl).2, ?_⟩
    obtain ⟨ecs, he, hj2⟩ := h2 j l[j] (List.getElem?_eq_getElem hj)
    refine ⟨ecs, he, fun i u hu => ?_⟩
    have hu' := hj2 i u hu
    have hlt' : j * Rp.sz α + i < l.length * Rp.sz α := by
      rcases Nat.lt_or_ge (j * Rp.sz α + i) (l.length * Rp.sz α) with h | h
      · exact h
      · rw [List.getElem?_eq_none (by omega)] at hu'; cases hu'
    rw [cell_of_row w g _ cur e (0, 0) hg, ← Array.getElem?_toList]
    rw [← ht, List.getElem?_take_of_lt hlt', List.getElem?_drop] at hu'
    rw [show off + j * Rp.sz α + i = off + (j * Rp.sz α + i) by omega]
    exact hu'
theorem Gro.refl {w : World} {B : Nat} {F : Nat → Prop} {v : Value} {L : List Dob} (h : OwnR w B 29 F v L) : Gro w w B F v v L := ⟨h, .inl rfl, fun _ _ _ => rfl, Nat.le_refl _, Below.refl _ _⟩
end Go.Proofs.Ytnfaefgmekfloaa
