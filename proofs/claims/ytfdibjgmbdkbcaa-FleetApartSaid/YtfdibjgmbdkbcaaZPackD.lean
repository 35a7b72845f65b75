/-
  THE WALK of (*pack.taker).one. Conditions: the taker's bytes lie elsewhere.
-/
import Derived.Test.YtfdibjgmbdkbcaaZGc
import Derived.Test.YtfdibjgmbdkbcaaZPackC
namespace Go.Proofs.Ytfdibjgmbdkbcaa
open Go.RowKit Go.Lib
attribute [local go_sem ↓] Go.wp_at_zero Go.wp_at_succ

theorem one_nil (ok : Bool) : Pk.one [] ok = (0, [], false) := rfl
theorem one_cons (c : UInt8) (bs : Bs) (ok : Bool) : Pk.one (c :: bs) ok = (c.toNat, bs, ok) := rfl
theorem Bytes.keepB {w : World} {F : Nat → Prop} {v : Value} {l : Bs} (h : Bytes w F v l) (o : Obj) : Bytes (w.alloc o) (fun k => k < w.heap.size) v l := by
  have h' : Bytes w (fun k => k < w.heap.size) v l := h.weak (fun k hk _ => hk)
  exact h'.alloc o
/-- a taker: its bytes lie below B, itself beyond -/
def Taker (w : World) (B g : Nat) (bs : Bs) (ok : Bool) : Prop := ∃ v, Blk w g 134 #[v, .bool ok] ∧ Bytes w (fun k => k < B) v bs ∧ B ≤ g

set_option maxRecDepth 100000 in
set_option maxHeartbeats 1000000 in
theorem takeOne_any (w : World) (B g : Nat) (bs : Bs) (ok : Bool) (h : Taker w B g bs ok) :
    Calls Try.prog 88 #[.pointer (some ⟨g, 0, none⟩)] w fun e w' => e = .returned (.int .i64 ((Pk.one bs ok).1 : Int)) ∧ Taker w' B g (Pk.one bs ok).2.1 (Pk.one bs ok).2.2 ∧ Ch (fun k => k = g) w w' := by
  obtain ⟨v, hk, hb, hBg⟩ := h
  obtain ⟨A, c, rfl, hac, hcm, hal, hA⟩ := hb
  unfold maxLen at hcm
  have e0 : w.cell? ⟨g, 0, none⟩ = some (.slice A bs.length c) := hk.cell 0
  have e1 : w.cell? ⟨g, 1, none⟩ = some (.bool ok) := hk.cell 1
  have f0 := hk.frozen 0
  have f1 := hk.frozen 1
  cases bs with
  | nil =>
    simp only [List.length_nil] at e0 hk
    simp only [one_nil]
    have hkS := hk.set_ 1 (.bool false)
    have hS : Ch (fun k => k = g) w (w.setCell ⟨g, 1, none⟩ (.bool false)) := (Ch.refl (fun k => k = g) w).setCell (p := ⟨g, 1, none⟩) (fun _ => rfl) _
    go_enter Try.func88, Try.ntmps88
    go_wp2_with fail
    go_ret
    exact ⟨rfl, ⟨_, hkS, ⟨A, c, rfl, by simp, hcm, rfl, fun h => absurd h (by simp)⟩, hBg⟩, hS⟩
  | cons x bs =>
    obtain ⟨q, off, rfl, hqB, hq, hc⟩ := hA (by simp)
    have hcx : w.cell? ⟨q, off, none⟩ = some (.int .u8 (x.toNat : Int)) := hc 0 (bv x) rfl
    have hqg : q ≠ g := by omega
    have hlen : (x :: bs).length = bs.length + 1 := rfl
    rw [hlen] at e0 hac hk
    have hS : ∀ u : Value, Ch (fun k => k = g) w (w.setCell ⟨g, 0, none⟩ u) := fun u => (Ch.refl (fun k => k = g) w).setCell (p := ⟨g, 0, none⟩) (fun _ => rfl) _
    have hcell : ∀ (u : Value) (j : Nat) (y : Value), (bs.map bv)[j]? = some y → (w.setCell ⟨g, 0, none⟩ u).cell? ⟨q, off + 1 + j, none⟩ = some y := fun u j y hy => by
      rw [World.cell?_setCell_far _ _ _ _ (by show g ≠ q; exact hqg.symm)]
      have := hc (j + 1) y (by simpa using hy)
      rwa [show off + (j + 1) = off + 1 + j by omega] at this
    have HCC := Lib.hid hcell
    have hc1 : (1 : Int) ≤ (c : Int) := by omega
    have hc2 : 1 ≤ c := by omega
    have hl1 : (1 : Int) ≤ (bs.length : Int) + 1 := by omega
    clear hcell hc
    simp only [one_cons]
    by_cases hcap : c = 1
    · have hb0 : bs = [] := List.eq_nil_of_length_eq_zero (by omega)
      subst hb0
      subst hcap
      go_enter Try.func88, Try.ntmps88
      go_wp2_with fail
      go_ret
      refine ⟨congrArg (fun z => Ending.returned (.int .i64 z)) (wrap64_nat_small _ (by have := x.toNat_lt; omega)), ⟨_, hk.set_ 0 _, ⟨_, _, rfl, Nat.le_refl _, by simp [maxLen], rfl, fun h => absurd h (by simp)⟩, hBg⟩, hS _⟩
    · have k1 : ((c : Int) == 1) = false := by rw [beq_eq_false_iff_ne]; omega
      go_enter Try.func88, Try.ntmps88
      go_wp2_with fail
      go_ret
      refine ⟨congrArg (fun z => Ending.returned (.int .i64 z)) (wrap64_nat_small _ (by have := x.toNat_lt; omega)), ⟨_, hk.set_ 0 _, ⟨_, _, rfl, by omega, by unfold maxLen; omega, by simp, fun _ => ⟨q, off + 1, rfl, hqB, by simpa using hq, fun j y hy => HCC.out _ j y hy⟩⟩, hBg⟩, hS _⟩
end Go.Proofs.Ytfdibjgmbdkbcaa
