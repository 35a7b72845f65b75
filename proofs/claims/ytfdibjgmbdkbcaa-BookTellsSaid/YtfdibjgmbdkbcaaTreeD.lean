/-
  THE WALKS of tree.root, path, grows. Conditions: what is read is a list of bytes, not too many, none too long.
-/
import Derived.Test.YtfdibjgmbdkbcaaTreeC
namespace Go.Proofs.Ytfdibjgmbdkbcaa
open Go.RowKit Go.Lib

theorem SlAt.rest {w : World} {F : Nat → Prop} {n c : Nat} {b off : Nat} {xs : List Value} (h : SlAt w F 1 (.slice (some ⟨b, off, none⟩) n c) n xs) (k : Nat) (hk : k ≤ n) :
    SlAt w F 1 (.slice (some ⟨b, off + k, none⟩) (n - k) (c - k)) (n - k) (xs.drop k) := by
  obtain ⟨A', c', hv, h1, h2, h3, h4⟩ := h
  injection hv with e1 e2 e3
  subst e1 e3
  refine ⟨_, c - k, rfl, by omega, by omega, by rw [List.length_drop]; omega, fun hp => ?_⟩
  obtain ⟨b', off', hA, hF, hb, hc⟩ := h4 (by omega)
  injection hA with hA
  injection hA with e1 e2
  subst e1 e2
  refine ⟨_, _, rfl, hF, hb, fun j u hu => ?_⟩
  rw [List.getElem?_drop] at hu
  rw [Nat.add_assoc]
  exact hc _ u hu
theorem BList.first {w : World} {F : Nat → Prop} {A : Option Addr} {c : Nat} {ll : List Bs} (h : BList w F (.slice A ll.length c) ll) (k : Nat) (hk : k ≤ ll.length) : BList w F (.slice A k c) (ll.take k) := by
  obtain ⟨vs, h1, h2⟩ := h
  refine ⟨vs.take k, ?_, fun i b hb => ?_⟩
  · rw [List.length_take, Nat.min_eq_left hk]
    exact h1.first k hk
  · have hi : i < k := by
      rcases Nat.lt_or_ge i k with h | h
      · exact h
      · rw [List.getElem?_eq_none (by rw [List.length_take]; omega)] at hb; cases hb
    rw [List.getElem?_take_of_lt hi] at hb ⊢
    exact h2 i b hb
theorem BList.rest {w : World} {F : Nat → Prop} {b off c : Nat} {ll : List Bs} (h : BList w F (.slice (some ⟨b, off, none⟩) ll.length c) ll) (k : Nat) (hk : k ≤ ll.length) : BList w F (.slice (some ⟨b, off + k, none⟩) (ll.length - k) (c - k)) (ll.drop k) := by
  obtain ⟨vs, h1, h2⟩ := h
  refine ⟨vs.drop k, ?_, fun i b hb => ?_⟩
  · rw [List.length_drop]
    exact h1.rest k hk
  · rw [List.getElem?_drop] at hb ⊢
    exact h2 _ b hb
theorem BList.shape {w : World} {F : Nat → Prop} {v : Value} {ll : List Bs} (h : BList w F v ll) : ∃ A c, v = .slice A ll.length c ∧ ll.length ≤ c ∧ c ≤ maxLen ∧ (0 < ll.length → ∃ b off, A = some ⟨b, off, none⟩ ∧ F b ∧ b < w.heap.size) := by
  obtain ⟨vs, ⟨A, c, hv, h1, h2, _, h4⟩, _⟩ := h
  refine ⟨A, c, hv, h1, h2, fun hn => ?_⟩
  obtain ⟨b, off, hA, hF, hb, _⟩ := h4 hn
  exact ⟨b, off, hA, hF, hb⟩

/-- lists that trees are made of -/
def Short (ll : List Bs) : Prop := ∀ b ∈ ll, b.length ≤ 1000
theorem Short.take {ll : List Bs} (h : Short ll) (k : Nat) : Short (ll.take k) := fun b hb => h b (List.mem_of_mem_take hb)
theorem Short.drop {ll : List Bs} (h : Short ll) (k : Nat) : Short (ll.drop k) := fun b hb => h b (List.mem_of_mem_drop hb)
theorem Short.root {ll : List Bs} (h : Short ll) : (Tr.root ll).length ≤ 1000 := by
  by_cases h2 : 2 ≤ ll.length
  · rw [Tr.root_two h2, Tr.length_nodeH]; omega
  · match ll, h, h2 with
    | [], _, _ => rw [Tr.root_nil, Tr.length_nilH]; omega
    | [a], h, _ => rw [Tr.root_one]; exact h a (by simp)
    | _ :: _ :: _, _, h2 => simp at h2

set_option maxRecDepth 100000 in
set_option maxHeartbeats 1000000 in
theorem root_tree (n : Nat) : ∀ (w : World) (F : Nat → Prop) (v : Value) (ll : List Bs), BList w F v ll → ll.length = n → n ≤ 128 → Short ll →
    Calls Try.prog 99 #[v] w fun e w' => ∃ v, e = .returned v ∧ OwnB w' w.heap.size v (Tr.root ll) ∧ Below w.heap.size w w' := by
  induction n using Nat.strongRecOn with
  | ind n ih =>
    intro w F v ll hl hn hn128 hs
    obtain ⟨A, c, hv, hnc, hcm, hA⟩ := hl.shape
    subst hv
    unfold maxLen at hcm
    by_cases h2 : 2 ≤ n
    · obtain ⟨b, off, rfl, hF, hb⟩ := hA (by omega)
      have hk1 := Tr.split_lt h2
      have hk0 := Tr.split_pos n
      have hl1 := hl.first (Tr.split n) (by omega)
      have hl2 := hl.rest (Tr.split n) (by omega)
      have hr : Tr.root ll = Tr.nodeH (Tr.root (ll.take (Tr.split n))) (Tr.root (ll.drop (Tr.split n))) := by rw [Tr.root_two (by omega), hn]
      have ih1 := ih (Tr.split n) hk1
      have ih2 := ih (n - Tr.split n) (by omega)
      have hs1 := (hs.take (Tr.split n)).root
      have hs2 := (hs.drop (Tr.split n)).root
      have HR := Lib.hid hr
      have HI1 := Lib.hid ih1
      have HI2 := Lib.hid ih2
      have HI := Lib.hid ih
      have hl3 : (ll.take (Tr.split n)).length = Tr.split n := by rw [List.length_take]; omega
      have hl4 : (ll.drop (Tr.split n)).length = n - Tr.split n := by rw [List.length_drop]; omega
      have HL3 := Lib.hid hl3
      have HL4 := Lib.hid hl4
      have hst := hs.take (Tr.split n)
      have hsd := hs.drop (Tr.split n)
      rw [hn] at hl2
      clear hr ih1 ih2 ih hl3 hl4
      rw [hn]
      rw [hn] at hnc
      clear hn hA
      have hq := half_any n (w := w) h2 hn128
      have HQ := Lib.hid hq
      clear hq
      generalize Tr.split n = k at *
      have hnB : ((n : Int) == 0) = false := by rw [beq_eq_false_iff_ne]; omega
      have hnB1 : ((n : Int) == 1) = false := by rw [beq_eq_false_iff_ne]; omega
      have k0 : (0 : Int) ≤ (k : Int) := by omega
      have k1 : (k : Int) ≤ (n : Int) := by omega
      have k2 : (k : Int) ≤ (c : Int) := by omega
      have k3 : (n : Int) ≤ (c : Int) := by omega
      have k4 : ((c : Int) == (k : Int)) = false := by rw [beq_eq_false_iff_ne]; omega
      go_enter Try.func99, Try.ntmps99
      go_wp2_with fail
      refine HQ.out.mono ?_
      rintro e w' ⟨rfl, hw⟩
      subst hw
      go_wp2_with fail
      have hx0 : Below w'.heap.size w' w' := Below.refl _ _
      go_region_held3 (fun w'' : World => Below w'.heap.size w' w'') (first | assumption | exact (Below.refl _ _).drew)
        (first
          | ((with_reducible refine (HI1.out _ F (.slice (some ⟨b, off, none⟩) k c) (ll.take k) (hl1.below (by assumption)) HL3.out (by omega) hst).mono ?_)
             rintro e w1 ⟨v1, rfl, hown1, hx1⟩
             have hxa : Below w'.heap.size w' w1 := Below.trans (b := _) (by assumption) (hx1.mono (Below.size (by assumption))))
          | ((with_reducible refine (HI2.out _ F (.slice (some ⟨b, off + k, none⟩) (n - k) (c - k)) (ll.drop k) (hl2.below (by assumption)) HL4.out (by omega) hsd).mono ?_)
             rintro e w2 ⟨v2, rfl, hown2, hx2⟩
             have hxb : Below w'.heap.size w' w2 := Below.trans (b := _) (by assumption) (hx2.mono (Below.size (by assumption))))
          | ((with_reducible refine (node_any _ _ _ _ _ (Tr.root (ll.take k)) (Tr.root (ll.drop k)) ((OwnB.bytes hown1).below hx2) (OwnB.bytes hown2) (by omega)).mono ?_)
             rintro e w3 ⟨v3, rfl, hown3, hx3⟩
             have hxc : Below w'.heap.size w' w3 := Below.trans (b := _) (by assumption) (hx3.mono (Below.size (by assumption)))))
      go_wp2_with fail
      go_ret
      refine ⟨_, rfl, ?_, by assumption⟩
      rw [HR.out]
      exact Own.mono hown3 (Below.size (by assumption))
    · by_cases h0 : n = 0
      · have hll : ll = [] := List.eq_nil_of_length_eq_zero (by omega)
        subst hll
        have HS := Lib.hid (Tr.root_nil)
        clear hA ih hn
        simp only [List.length_nil] at *
        go_enter Try.func99, Try.ntmps99
        go_wp2_with fail
        refine (sum_any w (fun _ => True) _ [] (SlAt.nil_ _ _ _) (by simp)).mono ?_
        rintro e w1 ⟨v1, rfl, hown1, hx1⟩
        go_wp2_with fail
        go_ret
        exact ⟨_, rfl, by rw [HS.out]; exact hown1, hx1⟩
      · match ll, hn with
        | [a], hn =>
          obtain ⟨b, off, u, hA, hc, _, hb, hub⟩ := hl.at_ (j := 0) (by simp)
          subst hA
          have hc' : w.cell? ⟨b, off, none⟩ = some u := hc
          have hsl := hs a (by simp)
          have HS := Lib.hid (Tr.root_one a)
          clear hA ih hn hc
          simp only [List.length_cons, List.length_nil] at *
          go_enter Try.func99, Try.ntmps99
          go_wp2_with fail
          refine (clone_any _ _ _ a hub (by omega)).mono ?_
          rintro e w1 ⟨v1, rfl, hown1, hx1⟩
          go_wp2_with fail
          go_ret
          exact ⟨_, rfl, by rw [HS.out]; exact hown1, hx1⟩
        | [], hn => exact absurd hn.symm h0
        | _ :: _ :: _, hn => simp at hn; omega
end Go.Proofs.Ytfdibjgmbdkbcaa
