/-
  More words for memory, no program: an element of a row of the call's own is read and written. No conditions.
-/
import Derived.Test.YtfdibjgmbdkbcaaZGa
namespace Go.Proofs.Ytfdibjgmbdkbcaa
open Go.RowKit

theorem Own.at_ {w : World} {base : Nat} {e : TypeId} {n g off c : Nat} {xs : List Value} (h : Own w base e 1 (.slice (some ⟨g, off, none⟩) n c) n xs) {j : Nat} {u : Value} (hj : xs[j]? = some u) :
    w.cell? ⟨g, off + j, none⟩ = some u ∧ w.frozen? ⟨g, off + j, none⟩ = false := by
  have hlt : j < n := by
    have := h.1
    rcases Nat.lt_or_ge j n with h | h
    · exact h
    · rw [List.getElem?_eq_none (by omega)] at hj; cases hj
  obtain ⟨g', off', cap, hv, _, _, _, _, hc⟩ := h.form (by omega)
  injection hv with e1 e2 e3
  injection e1 with e1
  injection e1 with e1 e4
  subst e1 e4
  refine ⟨hc j u hj, ?_⟩
  obtain ⟨_, ⟨h0, _⟩ | ⟨g2, off2, cap2, cur, hv2, _, hg, _⟩⟩ := h
  · cases h0
  · injection hv2 with e1 e2 e3
    injection e1 with e1
    injection e1 with e1 e4
    subst e1
    exact frozen_of_row w _ _ cur e hg

theorem set_window {α : Type} (L : List α) (off n j : Nat) (u : α) : ((L.set (off + j) u).drop off).take n = ((L.drop off).take n).set j u := by
  rw [List.drop_set, if_neg (by omega), Nat.add_sub_cancel_left, List.take_set]

theorem Own.set_ {w : World} {base : Nat} {e : TypeId} {n g off c : Nat} {xs : List Value} (h : Own w base e 1 (.slice (some ⟨g, off, none⟩) n c) n xs) (j : Nat) (u : Value) :
    Own (w.setCell ⟨g, off + j, none⟩ u) base e 1 (.slice (some ⟨g, off, none⟩) n c) n (xs.set j u) := by
  obtain ⟨hl, ⟨h0, _⟩ | ⟨g2, off2, cap2, cur, hv2, hb, hg, hn, hm, hs, ht⟩⟩ := h
  · cases h0
  · injection hv2 with e1 e2 e3
    injection e1 with e1
    injection e1 with e1 e4
    subst e1 e3 e4
    refine ⟨by simpa using hl, .inr ⟨g, off, c, cur.setIfInBounds (off + j) u, rfl, hb, heap_setCell_same w g _ cur e u hg, hn, hm, by simpa using hs, ?_⟩⟩
    rw [Array.toList_setIfInBounds, set_window, ht]
end Go.Proofs.Ytfdibjgmbdkbcaa
