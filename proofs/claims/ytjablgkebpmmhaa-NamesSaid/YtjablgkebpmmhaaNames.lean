/-
  THE WALK of yeartop.Names. No conditions.
-/
import Derived.Test.YtjablgkebpmmhaaMem2
import Derived.Test.YtjablgkebpmmhaaLaws1
import Derived.BigQuiet
namespace Go.Proofs.Ytjablgkebpmmhaa
open Go.RowKit

set_option maxRecDepth 100000 in
set_option maxHeartbeats 1000000 in
theorem names_walk (w : World) : Calls Try.prog 12 #[] w fun e w' => e = .returned (.bool true) ∧ Below w.heap.size w w' := by
  go_enter Try.func12, Try.ntmps12
  go_wp2_with fail
  generalize hC : (#[_, _, _, _, _, _, _, _, _, _] : Array Value) = C
  have hcells : ∀ (j : Nat), j < 10 → C[j]? = some (.int .i64 (j : Int)) := by
    subst hC
    intro j hj
    match j, hj with
    | 0, _ => rfl
    | 1, _ => rfl
    | 2, _ => rfl
    | 3, _ => rfl
    | 4, _ => rfl
    | 5, _ => rfl
    | 6, _ => rfl
    | 7, _ => rfl
    | 8, _ => rfl
    | 9, _ => rfl
  clear hC
  have hx0 := (Below.refl _ w).alloc (Nat.le_refl _) (.cells C 34)
  have hw0 : ∀ u, (w.alloc (.cells C 34)).cell? ⟨w.heap.size, u, none⟩ = C[u]? := fun u => by rw [World.cell?_alloc_mark]
  have hsz : (w.alloc (.cells C 34)).heap.size = w.heap.size + 1 := by simp
  generalize w.alloc (.cells C 34) = w0 at *
  have hs0 : w0.heap.size = w.heap.size + 1 := hsz
  go_loopg [10] 10 (fun k i wr => ∃ j : Nat, j + k = 10 ∧ i = .int .i64 (j : Int) ∧ wr = w0)
  case atStart => exact ⟨0, by omega, rfl, rfl⟩
  case round =>
    obtain ⟨j, hj, rfl, rfl⟩ := hrel
    by_cases hlt : j < 10
    · have hltB : (j : Int) < 10 := by omega
      have hc := (hw0 j).trans (hcells j hlt)
      clear hw0 hcells
      go_wp2_with fail
      go_roundg (gk - 1)
      case measure => omega
      case rel => exact ⟨j + 1, by omega, by go_num, rfl⟩
    · have hltB : decide ((j : Int) < 10) = false := by simp; omega
      clear hw0 hcells
      go_wp2_with fail
      generalize hD : (#[_, _, _, _, _, _, _, _, _, _, _, _, _, _, _, _, _, _, _, _, _] : Array Value) = D
      have hdc : ∀ (j : Nat), j < 21 → ∃ x : Int, D[j]? = some (.int .i64 x) := by
        subst hD
        intro j hj
        match j, hj with
        | 0, _ => exact ⟨_, rfl⟩
        | 1, _ => exact ⟨_, rfl⟩
        | 2, _ => exact ⟨_, rfl⟩
        | 3, _ => exact ⟨_, rfl⟩
        | 4, _ => exact ⟨_, rfl⟩
        | 5, _ => exact ⟨_, rfl⟩
        | 6, _ => exact ⟨_, rfl⟩
        | 7, _ => exact ⟨_, rfl⟩
        | 8, _ => exact ⟨_, rfl⟩
        | 9, _ => exact ⟨_, rfl⟩
        | 10, _ => exact ⟨_, rfl⟩
        | 11, _ => exact ⟨_, rfl⟩
        | 12, _ => exact ⟨_, rfl⟩
        | 13, _ => exact ⟨_, rfl⟩
        | 14, _ => exact ⟨_, rfl⟩
        | 15, _ => exact ⟨_, rfl⟩
        | 16, _ => exact ⟨_, rfl⟩
        | 17, _ => exact ⟨_, rfl⟩
        | 18, _ => exact ⟨_, rfl⟩
        | 19, _ => exact ⟨_, rfl⟩
        | 20, _ => exact ⟨_, rfl⟩
        | n + 21, h => exact absurd h (by omega)
      clear hD
      have hx1 : Below w.heap.size w ((wr.alloc (.cells D 3)).alloc (.cells D 3)) := (hx0.alloc (by omega) _).alloc (by simp; omega) _
      have hd0 : ∀ u, ((wr.alloc (.cells D 3)).alloc (.cells D 3)).cell? ⟨w.heap.size + 1, u, none⟩ = D[u]? := fun u => by
        rw [(Below.refl _ (wr.alloc (.cells D 3))).alloc (Nat.le_refl _) _ |>.cell (p := ⟨w.heap.size + 1, u, none⟩) (by simp; omega), ← hs0, World.cell?_alloc_mark]
      have hd1 : ∀ u, ((wr.alloc (.cells D 3)).alloc (.cells D 3)).cell? ⟨w.heap.size + 1 + 1, u, none⟩ = D[u]? := fun u => by
        rw [show w.heap.size + 1 + 1 = (wr.alloc (.cells D 3)).heap.size by simp; omega, World.cell?_alloc_mark]
      have hs2 : ((wr.alloc (.cells D 3)).alloc (.cells D 3)).heap.size = w.heap.size + 3 := by simp; omega
      generalize (wr.alloc (.cells D 3)).alloc (.cells D 3) = w2 at *
      generalize gk = gk0 at *
      generalize wr = wr0 at *
      go_loopg [23] 21 (fun k i wq => ∃ j : Nat, j + k = 21 ∧ i = .int .i64 (j : Int) ∧ Below w2.heap.size w2 wq)
      case atStart => exact ⟨0, by omega, rfl, Below.refl _ _⟩
      case round =>
        obtain ⟨j, hj, rfl, hxq⟩ := hrel
        by_cases hlt : j < 21
        · have hltB : (j : Int) < 21 := by omega
          obtain ⟨x, hx⟩ := hdc j hlt
          have hc0 : wr.cell? ⟨w.heap.size + 1, j, none⟩ = some (.int .i64 x) := (hxq.cell (p := ⟨w.heap.size + 1, j, none⟩) (by show w.heap.size + 1 < _; omega)).trans ((hd0 j).trans hx)
          have hc1 : wr.cell? ⟨w.heap.size + 1 + 1, j, none⟩ = some (.int .i64 x) := (hxq.cell (p := ⟨w.heap.size + 1 + 1, j, none⟩) (by show w.heap.size + 1 + 1 < _; omega)).trans ((hd1 j).trans hx)
          clear hd0 hd1 hdc
          go_wp2_with fail
          go_quiet (fail)
          go_wp2_with fail
          go_roundg (gk - 1)
          case measure => omega
          case rel => exact ⟨j + 1, by omega, by go_num, below_drewN hxq _⟩
        · have hltB : decide ((j : Int) < 21) = false := by simp; omega
          clear hd0 hd1 hdc
          go_wp2_with fail
          go_ret
          exact ⟨rfl, hx1.trans (hxq.mono hx1.size)⟩
end Go.Proofs.Ytjablgkebpmmhaa
