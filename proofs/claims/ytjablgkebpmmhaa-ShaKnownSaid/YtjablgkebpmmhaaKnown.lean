/-
  THE WALK of yearlaw1.ShaKnown. No conditions.
-/
import Derived.Test.YtjablgkebpmmhaaLaws1
import Derived.Deep.RegionHeld3
namespace Go.Proofs.Ytjablgkebpmmhaa
open Go.RowKit

def knownL : List (Bs × Bs) := [
  ([],
   [101, 51, 98, 48, 99, 52, 52, 50, 57, 56, 102, 99, 49, 99, 49, 52, 57, 97, 102, 98, 102, 52, 99, 56, 57, 57, 54, 102, 98, 57, 50, 52, 50, 55, 97, 101, 52, 49, 101, 52, 54, 52, 57, 98, 57, 51, 52, 99, 97, 52, 57, 53, 57, 57, 49, 98, 55, 56, 53, 50, 98, 56, 53, 53]),
  ([97, 98, 99],
   [98, 97, 55, 56, 49, 54, 98, 102, 56, 102, 48, 49, 99, 102, 101, 97, 52, 49, 52, 49, 52, 48, 100, 101, 53, 100, 97, 101, 50, 50, 50, 51, 98, 48, 48, 51, 54, 49, 97, 51, 57, 54, 49, 55, 55, 97, 57, 99, 98, 52, 49, 48, 102, 102, 54, 49, 102, 50, 48, 48, 49, 53, 97, 100]),
  ([97, 98, 99, 100, 98, 99, 100, 101, 99, 100, 101, 102, 100, 101, 102, 103, 101, 102, 103, 104, 102, 103, 104, 105, 103, 104, 105, 106, 104, 105, 106, 107, 105, 106, 107, 108, 106, 107, 108, 109, 107, 108, 109, 110, 108, 109, 110, 111, 109, 110, 111, 112, 110, 111, 112, 113],
   [50, 52, 56, 100, 54, 97, 54, 49, 100, 50, 48, 54, 51, 56, 98, 56, 101, 53, 99, 48, 50, 54, 57, 51, 48, 99, 51, 101, 54, 48, 51, 57, 97, 51, 51, 99, 101, 52, 53, 57, 54, 52, 102, 102, 50, 49, 54, 55, 102, 54, 101, 99, 101, 100, 100, 52, 49, 57, 100, 98, 48, 54, 99, 49]),
  ([97, 98, 99, 100, 101, 102, 103, 104, 98, 99, 100, 101, 102, 103, 104, 105, 99, 100, 101, 102, 103, 104, 105, 106, 100, 101, 102, 103, 104, 105, 106, 107, 101, 102, 103, 104, 105, 106, 107, 108, 102, 103, 104, 105, 106, 107, 108, 109, 103, 104, 105, 106, 107, 108, 109, 110, 104, 105, 106, 107, 108, 109, 110, 111, 105, 106, 107, 108, 109, 110, 111, 112, 106, 107, 108, 109, 110, 111, 112, 113, 107, 108, 109, 110, 111, 112, 113, 114, 108, 109, 110, 111, 112, 113, 114, 115, 109, 110, 111, 112, 113, 114, 115, 116, 110, 111, 112, 113, 114, 115, 116, 117],
   [99, 102, 53, 98, 49, 54, 97, 55, 55, 56, 97, 102, 56, 51, 56, 48, 48, 51, 54, 99, 101, 53, 57, 101, 55, 98, 48, 52, 57, 50, 51, 55, 48, 98, 50, 52, 57, 98, 49, 49, 101, 56, 102, 48, 55, 97, 53, 49, 97, 102, 97, 99, 52, 53, 48, 51, 55, 97, 102, 101, 101, 57, 100, 49])]

theorem known_sum : ∀ p ∈ knownL, Sha.sha256 p.1 = hexTo p.2 32 ∧ p.2.length = 64 ∧ p.1.length ≤ 112 := by decide +kernel

theorem length_known : knownL.length = 4 := rfl

set_option maxRecDepth 100000 in
set_option maxHeartbeats 1000000 in
theorem shaKnown_walk (w : World) : Calls Try.prog 4 #[] w fun e w' => e = .returned (.bool true) ∧ Below w.heap.size w w' := by
  go_enter Try.func4, Try.ntmps4
  go_wp2_with fail
  generalize hC : (#[_, _, _, _, _, _, _, _] : Array Value) = C
  have hcells : ∀ (j : Nat) (p : Bs × Bs), knownL[j]? = some p → C[j * 2]? = some (.string ⟨p.1.toArray⟩) ∧ C[j * 2 + 1]? = some (.string ⟨p.2.toArray⟩) := by
    subst hC
    intro j p hp
    match j, hp with
    | 0, hp => injection hp with hp; subst hp; exact ⟨rfl, rfl⟩
    | 1, hp => injection hp with hp; subst hp; exact ⟨rfl, rfl⟩
    | 2, hp => injection hp with hp; subst hp; exact ⟨rfl, rfl⟩
    | 3, hp => injection hp with hp; subst hp; exact ⟨rfl, rfl⟩
    | n + 4, hp => simp [knownL] at hp
  clear hC
  go_loopg [9] 4 (fun k i wr => ∃ j : Nat, j + k = 4 ∧ i = .int .i64 (j : Int) ∧ Below w.heap.size w wr ∧ (∀ u : Nat, wr.cell? ⟨w.heap.size, u, none⟩ = C[u]?) ∧ w.heap.size < wr.heap.size)
  case atStart => exact ⟨0, by omega, rfl, (Below.refl _ w).alloc (Nat.le_refl _) _, fun u => by rw [World.cell?_alloc_mark], by simp⟩
  case round =>
    obtain ⟨j, hj, rfl, hx, hC, hsz⟩ := hrel
    by_cases hlt : j < 4
    · have hltB : (j : Int) < 4 := by omega
      have hp : knownL[j]? = some knownL[j] := List.getElem?_eq_getElem (by rw [length_known]; exact hlt)
      have hin : knownL[j] ∈ knownL := List.getElem_mem _
      generalize knownL[j] = p at *
      obtain ⟨s, t⟩ := p
      obtain ⟨hs, ht, hl⟩ := known_sum _ hin
      obtain ⟨hc0, hc1⟩ := hcells j _ hp
      rw [← hC] at hc0 hc1
      dsimp only at *
      have HC := Lib.hid hC
      clear hp hin hcells hC
      have hsum : (Sha.sha256 s == hexTo t ((ByteArray.mk t.toArray).size / 2)) = true := by
        rw [show (ByteArray.mk t.toArray).size = 64 from by rw [← ht]; simp [ByteArray.size], beq_iff_eq]
        exact hs
      have HSUM := Lib.hid hsum
      clear hsum hs
      have hts : (ByteArray.mk t.toArray).size ≤ 65536 := by rw [show (ByteArray.mk t.toArray).size = 64 from by rw [← ht]; simp [ByteArray.size]]; decide
      have hconv : ∀ w' : World, ∃ r : (Option Addr × Nat) × World, (convert 9 24 (.string ⟨s.toArray⟩)).run Try.prog w' = .ok (.slice r.1.1 s.length r.1.2) r.2 ∧ Bytes r.2 (fun k => w'.heap.size ≤ k) (.slice r.1.1 s.length r.1.2) s ∧ Below w'.heap.size w' r.2 := fun w' => by
        obtain ⟨A, c, w2, h1, h2, h3⟩ := conv_bytes w' ⟨s.toArray⟩ s (by simp) (by omega)
        exact ⟨((A, c), w2), h1, h2, h3⟩
      obtain ⟨fr, hfr⟩ := Classical.skolem.mp hconv
      have hrun := fun w' => (hfr w').1
      have hrb := fun w' => (hfr w').2.1
      have hrx := fun w' => (hfr w').2.2
      clear hconv hfr
      have hle : s.length ≤ 140737488355200 := by omega
      go_wp2_with fail
      have hx0 := hx.alloc hx.size (.cells #[.string ⟨s.toArray⟩, .string ⟨t.toArray⟩] 29)
      have hC0 : ∀ u, (wr.alloc (.cells #[.string ⟨s.toArray⟩, .string ⟨t.toArray⟩] 29)).cell? ⟨w.heap.size, u, none⟩ = C[u]? := fun u => by
        rw [(Below.refl wr.heap.size wr).alloc (Nat.le_refl _) _ |>.cell (p := ⟨w.heap.size, u, none⟩) hsz]
        exact HC.out u
      have hd0 : (wr.alloc (.cells #[.string ⟨s.toArray⟩, .string ⟨t.toArray⟩] 29)).cell? ⟨wr.heap.size, 0, none⟩ = some (.string ⟨s.toArray⟩) := by rw [World.cell?_alloc_mark]; rfl
      have hd1 : (wr.alloc (.cells #[.string ⟨s.toArray⟩, .string ⟨t.toArray⟩] 29)).cell? ⟨wr.heap.size, 1, none⟩ = some (.string ⟨t.toArray⟩) := by rw [World.cell?_alloc_mark]; rfl
      have hz0 : (wr.alloc (.cells #[.string ⟨s.toArray⟩, .string ⟨t.toArray⟩] 29)).heap.size = wr.heap.size + 1 := by simp
      generalize wr.alloc (.cells #[.string ⟨s.toArray⟩, .string ⟨t.toArray⟩] 29) = W0 at *
      have hS0 : W0.drew.cell? ⟨wr.heap.size, 0, none⟩ = some (.string ⟨s.toArray⟩) ∧ W0.drew.cell? ⟨wr.heap.size, 1, none⟩ = some (.string ⟨t.toArray⟩) ∧ Below W0.heap.size W0 W0.drew := ⟨hd0, hd1, (Below.refl _ _).drew⟩
      have hkeep : ∀ w1 w2 : World, (w1.cell? ⟨wr.heap.size, 0, none⟩ = some (.string ⟨s.toArray⟩) ∧ w1.cell? ⟨wr.heap.size, 1, none⟩ = some (.string ⟨t.toArray⟩) ∧ Below W0.heap.size W0 w1) → Below w1.heap.size w1 w2 → (w2.cell? ⟨wr.heap.size, 0, none⟩ = some (.string ⟨s.toArray⟩) ∧ w2.cell? ⟨wr.heap.size, 1, none⟩ = some (.string ⟨t.toArray⟩) ∧ Below W0.heap.size W0 w2) := fun w1 w2 h hx => by
        have h1 := h.2.2.size
        exact ⟨(hx.cell (p := ⟨wr.heap.size, 0, none⟩) (by show wr.heap.size < _; omega)).trans h.1, (hx.cell (p := ⟨wr.heap.size, 1, none⟩) (by show wr.heap.size < _; omega)).trans h.2.1, h.2.2.trans (hx.mono h1)⟩
      have hkeepD : ∀ (w1 : World) (n : Nat), (w1.cell? ⟨wr.heap.size, 0, none⟩ = some (.string ⟨s.toArray⟩) ∧ w1.cell? ⟨wr.heap.size, 1, none⟩ = some (.string ⟨t.toArray⟩) ∧ Below W0.heap.size W0 w1) → ((w1.drewN n).cell? ⟨wr.heap.size, 0, none⟩ = some (.string ⟨s.toArray⟩) ∧ (w1.drewN n).cell? ⟨wr.heap.size, 1, none⟩ = some (.string ⟨t.toArray⟩) ∧ Below W0.heap.size W0 (w1.drewN n)) := fun w1 n h => hkeep _ _ h (below_drewN (Below.refl _ _) n)
      refine wp_region_held_drew (S := (fun w' : World => w'.cell? ⟨wr.heap.size, 0, none⟩ = some (.string ⟨s.toArray⟩) ∧ w'.cell? ⟨wr.heap.size, 1, none⟩ = some (.string ⟨t.toArray⟩) ∧ Below W0.heap.size W0 w')) (by kernel_rfl) hS0 (fun hHeld => ?_)
      refine wpAnyH_take (i := 0) (v := ?v0) rfl (by kernel_rfl) (by kernel_rfl) (by kernel_rfl) (fun _ _ _ h => h) (Or.inl ⟨by rfl, ?hy0⟩) hHeld ?rest0
      case hy0 =>
        intro w hSw
        try dsimp only at hSw
        go_simp
        try with_reducible rfl
      try simp only [Act.put, List.setIfInBounds_toArray]
      refine wpAnyH_take (i := 1) (v := ?v1) rfl (by kernel_rfl) (by kernel_rfl) (by kernel_rfl) (fun _ _ _ h => h) (Or.inl ⟨by rfl, ?hy1⟩) hHeld ?rest1
      case hy1 =>
        intro w hSw
        try dsimp only at hSw
        go_simp
        try with_reducible rfl
      try simp only [Act.put]
      refine wpAnyH_take (i := 4) (v := ?v4) rfl (by kernel_rfl) (by kernel_rfl) (by kernel_rfl) (fun _ _ _ h => h) (Or.inl ⟨by rfl, ?hy4⟩) hHeld ?rest4
      case hy4 =>
        intro w hSw
        try dsimp only at hSw
        go_simp
        try with_reducible rfl
      try simp only [Act.put]
      refine wpAnyH_take (i := 5) (v := ?v5) rfl (by kernel_rfl) (by kernel_rfl) (by kernel_rfl) (fun _ _ _ h => h) (Or.inl ⟨by rfl, ?hy5⟩) hHeld ?rest5
      case hy5 =>
        intro w hSw
        try dsimp only at hSw
        go_simp
        try with_reducible rfl
      try simp only [Act.put]
      refine wpAnyH_ready (rs := [2]) (by kernel_rfl) (by simp) ?_
      refine AllReadyH.cons rfl (fun K hK => ?_) AllReadyH.nil
      go_simp
      refine hK.out _ _ (hkeep _ _ hHeld (hrx _)) (fun hHeld => ?_)
      clear hK K
      try simp only [Act.put, List.setIfInBounds_toArray, List.set_cons_zero, List.set_cons_succ]
      refine wpAnyH_ready (rs := [3]) (by kernel_rfl) (by simp) ?_
      refine AllReadyH.cons rfl (fun K hK => ?_) AllReadyH.nil
      go_simp
      refine (sum_any _ _ _ s (hrb _) hle).mono ?_
      rintro e w1 ⟨v1, rfl, hown1, hx1⟩
      go_wp2_with fail
      refine hK.out _ _ (hkeep _ _ hHeld hx1) (fun hHeld => ?_)
      clear hK K
      try simp only [Act.put, List.setIfInBounds_toArray, List.set_cons_zero, List.set_cons_succ]
      refine wpAnyH_ready (rs := [6]) (by kernel_rfl) (by simp) ?_
      refine AllReadyH.cons rfl (fun K hK => ?_) AllReadyH.nil
      go_simp
      refine (hex_any _ _ t rfl hts).mono ?_
      rintro e w2 ⟨v2, rfl, hown2, hx2⟩
      go_wp2_with fail
      refine hK.out _ _ (hkeep _ _ hHeld hx2) (fun hHeld => ?_)
      clear hK K
      try simp only [Act.put, List.setIfInBounds_toArray, List.set_cons_zero, List.set_cons_succ]
      refine wpAnyH_ready (rs := [7]) (by kernel_rfl) (by simp) ?_
      refine AllReadyH.cons rfl (fun K hK => ?_) AllReadyH.nil
      go_simp
      refine (same_any _ _ _ _ _ _ _ (hown1.bytes.below hx2) hown2.bytes).mono ?_
      rintro e w3 ⟨rfl, n, rfl⟩
      rw [HSUM.out]
      go_wp2_with fail
      refine hK.out _ _ (hkeepD _ _ hHeld) (fun hHeld => ?_)
      clear hK K
      try simp only [Act.put, List.setIfInBounds_toArray, List.set_cons_zero, List.set_cons_succ]
      refine wpAnyH_take (i := 8) (v := ?v8) rfl (by kernel_rfl) (by kernel_rfl) (by kernel_rfl) (fun _ _ _ h => h) (Or.inl ⟨by rfl, ?hy8⟩) hHeld ?rest8
      case hy8 =>
        intro w hSw
        try dsimp only at hSw
        go_simp
        try with_reducible rfl
      try simp only [Act.put, List.setIfInBounds_toArray]
      refine wpAnyH_done (by kernel_rfl) ?_ _
      have hxE : Below W0.heap.size W0 (w2.drewN n) := hHeld.2.2
      have hx' := hx0.trans (hxE.mono hx0.size)
      have hC' : ∀ u, (w2.drewN n).cell? ⟨w.heap.size, u, none⟩ = C[u]? := fun u => by
        rw [hxE.cell (p := ⟨w.heap.size, u, none⟩) (by show w.heap.size < _; omega)]
        exact hC0 u
      have hsz' : w.heap.size < (w2.drewN n).heap.size := by have := hxE.size; omega
      have HC' := Lib.hid hC'
      clear hC' hC0 HC hrun hrb hrx hkeep hkeepD hHeld
      go_wp2_with fail
      go_roundg (gk - 1)
      case measure => omega
      case rel => exact ⟨j + 1, by omega, by go_num, hx', HC'.out, hsz'⟩
    · have hltB : decide ((j : Int) < 4) = false := by simp; omega
      go_wp2_with fail
      go_ret
      exact ⟨rfl, hx⟩
end Go.Proofs.Ytjablgkebpmmhaa
