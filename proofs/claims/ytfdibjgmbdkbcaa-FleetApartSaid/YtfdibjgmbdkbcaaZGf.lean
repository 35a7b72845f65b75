/-
  THE WALKS of tree.root, path, grows. Conditions: what is read is a list of bytes, not too many, none too long.
  THE WALKS of tree.path, grows. Conditions: what is read is a list of bytes, not too many, none too long.
  THE WALKS of tree.Root, Path, Grows. Conditions: what is read is a list of bytes.
  THE WALKS of tree.climb, Stands. Conditions: what is read is bytes, and lists of bytes.
  THE WALK of tree.Stands. Conditions: what is read is bytes, and lists of bytes.
  THE WALK of tree.Grew. Conditions: what is read is bytes, and lists of bytes; the list is no longer than memory lets one more in.
  What the walks of tree tell, in the forms that callers want. No conditions.
  Plain law, no program: who shows what is not so has two texts with one digest. No conditions.
-/
import Derived.Deep.DeepCutAuto
import Derived.Laws.BitsAllLaws
import Derived.Laws.BitsLemmas
import Derived.Test.YtfdibjgmbdkbcaaZGc
namespace Go.Proofs.Ytfdibjgmbdkbcaa
open Go.RowKit Go.Lib

theorem SlAt.rest {w : World} {F : Nat → Prop} {n c : Nat} {b off : Nat} {xs : List Value} (h : SlAt w F 1 (.slice (some ⟨b, off, none⟩) n c) n xs) (k : Nat) (hk : k ≤ n) :
    SlAt w F 1 (.slice (some ⟨b, off + k, none⟩) (n - k) (c - k)) (n - k) (xs.drop k) := by
  obtain ⟨A', c', hv, h1, h2, h3, h4⟩ := h
  injection hv with e1 e2 e3
  subst e1 e3
  refine ⟨_, c - k, rfl, by omega, by omega, by rw [List.length_drop]; omega, fun hp => ?_⟩
  obtain ⟨b', off', hA, hF, hb, hc⟩ := h4 (by omega)
  injection hA with hA
  injection hA with e1 e2
  subst e1 e2
  refine ⟨_, _, rfl, hF, hb, fun j u hu => ?_⟩
  rw [List.getElem?_drop] at hu
  rw [Nat.add_assoc]
  exact hc _ u hu
theorem BList.first {w : World} {F : Nat → Prop} {A : Option Addr} {c : Nat} {ll : List Bs} (h : BList w F (.slice A ll.length c) ll) (k : Nat) (hk : k ≤ ll.length) : BList w F (.slice A k c) (ll.take k) := by
  obtain ⟨vs, h1, h2⟩ := h
  refine ⟨vs.take k, ?_, fun i b hb => ?_⟩
  · rw [List.length_take, Nat.min_eq_left hk]
    exact h1.first k hk
  · have hi : i < k := by
      rcases Nat.lt_or_ge i k with h | h
      · exact h
      · rw [List.getElem?_eq_none (by rw [List.length_take]; omega)] at hb; cases hb
    rw [List.getElem?_take_of_lt hi] at hb ⊢
    exact h2 i b hb
theorem BList.rest {w : World} {F : Nat → Prop} {b off c : Nat} {ll : List Bs} (h : BList w F (.slice (some ⟨b, off, none⟩) ll.length c) ll) (k : Nat) (hk : k ≤ ll.length) : BList w F (.slice (some ⟨b, off + k, none⟩) (ll.length - k) (c - k)) (ll.drop k) := by
  obtain ⟨vs, h1, h2⟩ := h
  refine ⟨vs.drop k, ?_, fun i b hb => ?_⟩
  · rw [List.length_drop]
    exact h1.rest k hk
  · rw [List.getElem?_drop] at hb ⊢
    exact h2 _ b hb
theorem BList.shape {w : World} {F : Nat → Prop} {v : Value} {ll : List Bs} (h : BList w F v ll) : ∃ A c, v = .slice A ll.length c ∧ ll.length ≤ c ∧ c ≤ maxLen ∧ (0 < ll.length → ∃ b off, A = some ⟨b, off, none⟩ ∧ F b ∧ b < w.heap.size) := by
  obtain ⟨vs, ⟨A, c, hv, h1, h2, _, h4⟩, _⟩ := h
  refine ⟨A, c, hv, h1, h2, fun hn => ?_⟩
  obtain ⟨b, off, hA, hF, hb, _⟩ := h4 hn
  exact ⟨b, off, hA, hF, hb⟩

/-- lists that trees are made of -/
def Short (ll : List Bs) : Prop := ∀ b ∈ ll, b.length ≤ 1000
theorem Short.take {ll : List Bs} (h : Short ll) (k : Nat) : Short (ll.take k) := fun b hb => h b (List.mem_of_mem_take hb)
theorem Short.drop {ll : List Bs} (h : Short ll) (k : Nat) : Short (ll.drop k) := fun b hb => h b (List.mem_of_mem_drop hb)
theorem Short.root {ll : List Bs} (h : Short ll) : (Tr.root ll).length ≤ 1000 := by
  by_cases h2 : 2 ≤ ll.length
  · rw [Tr.root_two h2, Tr.length_nodeH]; omega
  · match ll, h, h2 with
    | [], _, _ => rw [Tr.root_nil, Tr.length_nilH]; omega
    | [a], h, _ => rw [Tr.root_one]; exact h a (by simp)
    | _ :: _ :: _, _, h2 => simp at h2

set_option maxRecDepth 100000 in
set_option maxHeartbeats 1000000 in
theorem root_tree (n : Nat) : ∀ (w : World) (F : Nat → Prop) (v : Value) (ll : List Bs), BList w F v ll → ll.length = n → n ≤ 128 → Short ll →
    Calls Try.prog 99 #[v] w fun e w' => ∃ v, e = .returned v ∧ OwnB w' w.heap.size v (Tr.root ll) ∧ Below w.heap.size w w' := by
  induction n using Nat.strongRecOn with
  | ind n ih =>
    intro w F v ll hl hn hn128 hs
    obtain ⟨A, c, hv, hnc, hcm, hA⟩ := hl.shape
    subst hv
    unfold maxLen at hcm
    by_cases h2 : 2 ≤ n
    · obtain ⟨b, off, rfl, hF, hb⟩ := hA (by omega)
      have hk1 := Tr.split_lt h2
      have hk0 := Tr.split_pos n
      have hl1 := hl.first (Tr.split n) (by omega)
      have hl2 := hl.rest (Tr.split n) (by omega)
      have hr : Tr.root ll = Tr.nodeH (Tr.root (ll.take (Tr.split n))) (Tr.root (ll.drop (Tr.split n))) := by rw [Tr.root_two (by omega), hn]
      have ih1 := ih (Tr.split n) hk1
      have ih2 := ih (n - Tr.split n) (by omega)
      have hs1 := (hs.take (Tr.split n)).root
      have hs2 := (hs.drop (Tr.split n)).root
      have HR := Lib.hid hr
      have HI1 := Lib.hid ih1
      have HI2 := Lib.hid ih2
      have HI := Lib.hid ih
      have hl3 : (ll.take (Tr.split n)).length = Tr.split n := by rw [List.length_take]; omega
      have hl4 : (ll.drop (Tr.split n)).length = n - Tr.split n := by rw [List.length_drop]; omega
      have HL3 := Lib.hid hl3
      have HL4 := Lib.hid hl4
      have hst := hs.take (Tr.split n)
      have hsd := hs.drop (Tr.split n)
      rw [hn] at hl2
      clear hr ih1 ih2 ih hl3 hl4
      rw [hn]
      rw [hn] at hnc
      clear hn hA
      have hq := half_any n (w := w) h2 hn128
      have HQ := Lib.hid hq
      clear hq
      generalize Tr.split n = k at *
      have hnB : ((n : Int) == 0) = false := by rw [beq_eq_false_iff_ne]; omega
      have hnB1 : ((n : Int) == 1) = false := by rw [beq_eq_false_iff_ne]; omega
      have k0 : (0 : Int) ≤ (k : Int) := by omega
      have k1 : (k : Int) ≤ (n : Int) := by omega
      have k2 : (k : Int) ≤ (c : Int) := by omega
      have k3 : (n : Int) ≤ (c : Int) := by omega
      have k4 : ((c : Int) == (k : Int)) = false := by rw [beq_eq_false_iff_ne]; omega
      go_enter Try.func99, Try.ntmps99
      go_wp2_with fail
      refine HQ.out.mono ?_
      rintro e w' ⟨rfl, hw⟩
      subst hw
      go_wp2_with fail
      have hx0 : Below w'.heap.size w' w' := Below.refl _ _
      go_region_held3 (fun w'' : World => Below w'.heap.size w' w'') (first | assumption | exact (Below.refl _ _).drew)
        (first
          | ((with_reducible refine (HI1.out _ F (.slice (some ⟨b, off, none⟩) k c) (ll.take k) (hl1.below (by assumption)) HL3.out (by omega) hst).mono ?_)
             rintro e w1 ⟨v1, rfl, hown1, hx1⟩
             have hxa : Below w'.heap.size w' w1 := Below.trans (b := _) (by assumption) (hx1.mono (Below.size (by assumption))))
          | ((with_reducible refine (HI2.out _ F (.slice (some ⟨b, off + k, none⟩) (n - k) (c - k)) (ll.drop k) (hl2.below (by assumption)) HL4.out (by omega) hsd).mono ?_)
             rintro e w2 ⟨v2, rfl, hown2, hx2⟩
             have hxb : Below w'.heap.size w' w2 := Below.trans (b := _) (by assumption) (hx2.mono (Below.size (by assumption))))
          | ((with_reducible refine (node_any _ _ _ _ _ (Tr.root (ll.take k)) (Tr.root (ll.drop k)) ((OwnB.bytes hown1).below hx2) (OwnB.bytes hown2) (by omega)).mono ?_)
             rintro e w3 ⟨v3, rfl, hown3, hx3⟩
             have hxc : Below w'.heap.size w' w3 := Below.trans (b := _) (by assumption) (hx3.mono (Below.size (by assumption)))))
      go_wp2_with fail
      go_ret
      refine ⟨_, rfl, ?_, by assumption⟩
      rw [HR.out]
      exact Own.mono hown3 (Below.size (by assumption))
    · by_cases h0 : n = 0
      · have hll : ll = [] := List.eq_nil_of_length_eq_zero (by omega)
        subst hll
        have HS := Lib.hid (Tr.root_nil)
        clear hA ih hn
        simp only [List.length_nil] at *
        go_enter Try.func99, Try.ntmps99
        go_wp2_with fail
        refine (sum_any w (fun _ => True) _ [] (SlAt.nil_ _ _ _) (by simp)).mono ?_
        rintro e w1 ⟨v1, rfl, hown1, hx1⟩
        go_wp2_with fail
        go_ret
        exact ⟨_, rfl, by rw [HS.out]; exact hown1, hx1⟩
      · match ll, hn with
        | [a], hn =>
          obtain ⟨b, off, u, hA, hc, _, hb, hub⟩ := hl.at_ (j := 0) (by simp)
          subst hA
          have hc' : w.cell? ⟨b, off, none⟩ = some u := hc
          have hsl := hs a (by simp)
          have HS := Lib.hid (Tr.root_one a)
          clear hA ih hn hc
          simp only [List.length_cons, List.length_nil] at *
          go_enter Try.func99, Try.ntmps99
          go_wp2_with fail
          refine (clone_any _ _ _ a hub (by omega)).mono ?_
          rintro e w1 ⟨v1, rfl, hown1, hx1⟩
          go_wp2_with fail
          go_ret
          exact ⟨_, rfl, by rw [HS.out]; exact hown1, hx1⟩
        | [], hn => exact absurd hn.symm h0
        | _ :: _ :: _, hn => simp at hn; omega
end Go.Proofs.Ytfdibjgmbdkbcaa

namespace Go.Proofs.Ytfdibjgmbdkbcaa
open Go.RowKit Go.Lib

theorem path_le {ll : List Bs} {n : Nat} (h : ll.length = n) (hn : n ≤ 128) (i : Nat) : (Tr.path ll i).length ≤ 7 := by
  rw [Tr.length_path n ll i h]
  exact Tr.depth_le 7 i n hn

set_option maxRecDepth 100000 in
set_option maxHeartbeats 1000000 in
theorem path_any (n : Nat) : ∀ (w : World) (F : Nat → Prop) (v : Value) (ll : List Bs) (i : Nat) (z : Int), BList w F v ll → ll.length = n → n ≤ 128 → i ≤ 128 → z = (i : Int) → Short ll →
    Calls Try.prog 101 #[v, .int .i64 z] w fun e w' => ∃ v, e = .returned v ∧ OwnL w' w.heap.size v (Tr.path ll i) ∧ Below w.heap.size w w' := by
  induction n using Nat.strongRecOn with
  | ind n ih =>
    intro w F v ll i z hl hn hn128 hi128 hz hs
    subst hz
    obtain ⟨i0, hi, hz0, hz1, hz2⟩ := info_parts info_bytes
    obtain ⟨A, c, hv, hnc, hcm, hA⟩ := hl.shape
    subst hv
    unfold maxLen at hcm
    by_cases h2 : 2 ≤ n
    · obtain ⟨b, off, rfl, hF, hb⟩ := hA (by omega)
      have hk1 := Tr.split_lt h2
      have hk0 := Tr.split_pos n
      have hl1 := hl.first (Tr.split n) (by omega)
      have hl2 := hl.rest (Tr.split n) (by omega)
      have hs1 := hs.take (Tr.split n)
      have hs2 := hs.drop (Tr.split n)
      have hn1 : (ll.take (Tr.split n)).length = Tr.split n := by rw [List.length_take]; omega
      have hn2 : (ll.drop (Tr.split n)).length = n - Tr.split n := by rw [List.length_drop]; omega
      have hq := half_any n (w := w) h2 hn128
      have HQ := Lib.hid hq
      have h2' : 2 ≤ ll.length := by omega
      have hp1 : i < Tr.split n → Tr.path ll i = Tr.path (ll.take (Tr.split n)) i ++ [Tr.root (ll.drop (Tr.split n))] := fun h => by
        rw [Tr.path_left h2' (by rw [hn]; exact h), hn]
      have hp2 : ¬ i < Tr.split n → Tr.path ll i = Tr.path (ll.drop (Tr.split n)) (i - Tr.split n) ++ [Tr.root (ll.take (Tr.split n))] := fun h => by
        rw [Tr.path_right h2' (by rw [hn]; exact h), hn]
      have ih1 := ih (Tr.split n) hk1
      have ih2 := ih (n - Tr.split n) (by omega)
      have r1 := root_tree (Tr.split n)
      have r2 := root_tree (n - Tr.split n)
      rw [hn] at hl2
      rw [hn]
      rw [hn] at hnc
      clear hn hA hq h2' ih
      generalize Tr.split n = k at *
      have hq1 := path_le hn1 (by omega) i
      have hq2 := path_le hn2 (by omega) (i - k)
      have HN1 := Lib.hid hn1
      have HN2 := Lib.hid hn2
      have HI1 := Lib.hid ih1
      have HI2 := Lib.hid ih2
      have HR1 := Lib.hid r1
      have HR2 := Lib.hid r2
      have HP1 := Lib.hid hp1
      have HP2 := Lib.hid hp2
      clear hn1 hn2 ih1 ih2 r1 r2 hp1 hp2
      have hnB : decide ((n : Int) < 2) = false := by simp; omega
      have k0 : (0 : Int) ≤ (k : Int) := by omega
      have k1 : (k : Int) ≤ (n : Int) := by omega
      have k2 : (k : Int) ≤ (c : Int) := by omega
      have k3 : (n : Int) ≤ (c : Int) := by omega
      have k4 : ((c : Int) == (k : Int)) = false := by rw [beq_eq_false_iff_ne]; omega
      have k5 : ¬ c = k := by omega
      by_cases hik : i < k
      · have hikB : (i : Int) < (k : Int) := by omega
        have HP := Lib.hid (HP1.out hik)
        clear HP1 HP2
        go_enter Try.func101, Try.ntmps101
        go_wp2_with fail
        refine HQ.out.mono ?_
        rintro e w' ⟨rfl, hw⟩
        subst hw
        go_wp2_with fail
        go_region_held3 (fun w'' : World => Below w'.heap.size w' w'') (first | assumption | exact (Below.refl _ _).drew)
          (first
            | ((with_reducible refine (HI1.out _ F (.slice (some ⟨b, off, none⟩) k c) (ll.take k) i _ (hl1.below (by assumption)) HN1.out (by omega) (by omega) (by omega) hs1).mono ?_)
               rintro e w1 ⟨v1, rfl, ⟨vs, hown1, hin1⟩, hx1⟩
               have hxa : Below w'.heap.size w' w1 := Below.trans (b := _) (by assumption) (hx1.mono (Below.size (by assumption))))
            | ((with_reducible refine (HR2.out _ F (.slice (some ⟨b, off + k, none⟩) (n - k) (c - k)) (ll.drop k) (hl2.below (by assumption)) HN2.out (by omega) hs2).mono ?_)
               rintro e w2 ⟨v2, rfl, hown2, hx2⟩
               obtain ⟨A3, c3, hv3, _, _⟩ := Own.shape hown2
               subst hv3
               have hxb : Below w'.heap.size w' w2 := Below.trans (b := _) (by assumption) (hx2.mono (Below.size (by assumption)))
               obtain ⟨g1, g2, g3⟩ := OwnL.prep (B := w'.heap.size) ((hown1.below hx2).mono (Nat.le_refl _)) (fun i b hb => by obtain ⟨u, hu, ho⟩ := hin1 i b hb; exact ⟨u, hu, OwnB.below ho hx2⟩) (OwnB.mono hown2 hxa.size)
               have hxc := hxb.alloc hxb.size (.cells #[.slice A3 (Tr.root (ll.drop k)).length c3] 22)
               have hsz := hxc.size)
            | (refine step_append_Own _ (by rfl) (.tmp 19) (.tmp 24) 40 (by rfl) w'.heap.size 22 i0 _ 1 24 Try.underlying40 hi hz0 hz1 hz2 (by rfl) (by omega) _ _ _ (by rfl) g1 _ _ _ _ (by rfl) g2 (by simp [Value.oneCell']) (by simp only [maxLen]; omega) (by omega) hsz ?_
               intro v4 w4 hown4 hgr4 hat4
               have hxd : Below w'.heap.size w' w4 := hxc.grown hgr4 hxc.size (fun k hk => (g1.lt k hk).1)
               have hL := g3 _ _ hown4 hgr4))
        go_wp2_with fail
        go_ret
        exact ⟨_, rfl, by rw [HP.out]; exact hL, hxd⟩
      · have hikB : decide ((i : Int) < (k : Int)) = false := by simp; omega
        have HP := Lib.hid (HP2.out hik)
        have kW : IntKind.i64.wrap ((i : Int) - (k : Int)) = (i : Int) - (k : Int) := IntWalk.i64_in _ (by omega)
        clear HP1 HP2
        go_enter Try.func101, Try.ntmps101
        go_wp2_with fail
        refine HQ.out.mono ?_
        rintro e w' ⟨rfl, hw⟩
        subst hw
        go_wp2_with fail
        go_region_held3 (fun w'' : World => Below w'.heap.size w' w'') (first | assumption | exact (Below.refl _ _).drew)
          (first
            | ((with_reducible refine (HI2.out _ F (.slice (some ⟨b, off + k, none⟩) (n - k) (c - k)) (ll.drop k) (i - k) _ (hl2.below (by assumption)) HN2.out (by omega) (by omega) (by omega) hs2).mono ?_)
               rintro e w1 ⟨v1, rfl, ⟨vs, hown1, hin1⟩, hx1⟩
               have hxa : Below w'.heap.size w' w1 := Below.trans (b := _) (by assumption) (hx1.mono (Below.size (by assumption))))
            | ((with_reducible refine (HR1.out _ F (.slice (some ⟨b, off, none⟩) k c) (ll.take k) (hl1.below (by assumption)) HN1.out (by omega) hs1).mono ?_)
               rintro e w2 ⟨v2, rfl, hown2, hx2⟩
               obtain ⟨A3, c3, hv3, _, _⟩ := Own.shape hown2
               subst hv3
               have hxb : Below w'.heap.size w' w2 := Below.trans (b := _) (by assumption) (hx2.mono (Below.size (by assumption)))
               obtain ⟨g1, g2, g3⟩ := OwnL.prep (B := w'.heap.size) ((hown1.below hx2).mono (Nat.le_refl _)) (fun i b hb => by obtain ⟨u, hu, ho⟩ := hin1 i b hb; exact ⟨u, hu, OwnB.below ho hx2⟩) (OwnB.mono hown2 hxa.size)
               have hxc := hxb.alloc hxb.size (.cells #[.slice A3 (Tr.root (ll.take k)).length c3] 22)
               have hsz := hxc.size)
            | (refine step_append_Own _ (by rfl) (.tmp 32) (.tmp 37) 40 (by rfl) w'.heap.size 22 i0 _ 1 24 Try.underlying40 hi hz0 hz1 hz2 (by rfl) (by omega) _ _ _ (by rfl) g1 _ _ _ _ (by rfl) g2 (by simp [Value.oneCell']) (by simp only [maxLen]; omega) (by omega) hsz ?_
               intro v4 w4 hown4 hgr4 hat4
               have hxd : Below w'.heap.size w' w4 := hxc.grown hgr4 hxc.size (fun k hk => (g1.lt k hk).1)
               have hL := g3 _ _ hown4 hgr4))
        go_wp2_with fail
        go_ret
        exact ⟨_, rfl, by rw [HP.out]; exact hL, hxd⟩
    · have HP := Lib.hid (Tr.path_small (l := ll) (by omega) i)
      have hnB : (n : Int) < 2 := by omega
      rw [hn]
      clear hn hA ih
      go_enter Try.func101, Try.ntmps101
      go_wp2_with fail
      go_ret
      exact ⟨_, rfl, by rw [HP.out]; exact OwnL.nil_ _ _, Below.refl _ _⟩

theorem grows_le7 {ll : List Bs} {n : Nat} (h : ll.length = n) (hn : n ≤ 128) (i : Nat) (b : Bool) : (Tr.grows ll i b).length ≤ 8 := Tr.grows_le 7 ll i b (by omega)

set_option maxRecDepth 100000 in
set_option maxHeartbeats 1000000 in
theorem grows_any (n : Nat) : ∀ (w : World) (F : Nat → Prop) (v : Value) (ll : List Bs) (i : Nat) (z : Int) (wh : Bool), BList w F v ll → ll.length = n → n ≤ 128 → 1 ≤ i → i ≤ n → z = (i : Int) → Short ll →
    Calls Try.prog 102 #[v, .int .i64 z, .bool wh] w fun e w' => ∃ v, e = .returned v ∧ OwnL w' w.heap.size v (Tr.grows ll i wh) ∧ Below w.heap.size w w' := by
  induction n using Nat.strongRecOn with
  | ind n ih =>
    intro w F v ll i z wh hl hn hn128 hi1 hi128 hz hs
    subst hz
    obtain ⟨i0, hi, hz0, hz1, hz2⟩ := info_parts info_bytes
    obtain ⟨A, c, hv, hnc, hcm, hA⟩ := hl.shape
    subst hv
    unfold maxLen at hcm
    by_cases hm : i < n
    · have h2 : 2 ≤ n := by omega
      obtain ⟨b, off, rfl, hF, hb⟩ := hA (by omega)
      have hk1 := Tr.split_lt h2
      have hk0 := Tr.split_pos n
      have hl1 := hl.first (Tr.split n) (by omega)
      have hl2 := hl.rest (Tr.split n) (by omega)
      have hs1 := hs.take (Tr.split n)
      have hs2 := hs.drop (Tr.split n)
      have hn1 : (ll.take (Tr.split n)).length = Tr.split n := by rw [List.length_take]; omega
      have hn2 : (ll.drop (Tr.split n)).length = n - Tr.split n := by rw [List.length_drop]; omega
      have hq := half_any n (w := w) h2 hn128
      have HQ := Lib.hid hq
      have h2' : 2 ≤ ll.length := by omega
      have hp1 : i ≤ Tr.split n → Tr.grows ll i wh = Tr.grows (ll.take (Tr.split n)) i wh ++ [Tr.root (ll.drop (Tr.split n))] := fun h => by
        rw [Tr.grows_left (by omega) h2' (by rw [hn]; exact h), hn]
      have hp2 : ¬ i ≤ Tr.split n → Tr.grows ll i wh = Tr.grows (ll.drop (Tr.split n)) (i - Tr.split n) false ++ [Tr.root (ll.take (Tr.split n))] := fun h => by
        rw [Tr.grows_right (by omega) h2' (by rw [hn]; exact h), hn]
      have ih1 := ih (Tr.split n) hk1
      have ih2 := ih (n - Tr.split n) (by omega)
      have r1 := root_tree (Tr.split n)
      have r2 := root_tree (n - Tr.split n)
      rw [hn] at hl2
      rw [hn]
      rw [hn] at hnc
      clear hn hA hq h2' ih
      generalize Tr.split n = k at *
      have hq1 := grows_le7 hn1 (by omega) i wh
      have hq2 := grows_le7 hn2 (by omega) (i - k) false
      have HN1 := Lib.hid hn1
      have HN2 := Lib.hid hn2
      have HI1 := Lib.hid ih1
      have HI2 := Lib.hid ih2
      have HR1 := Lib.hid r1
      have HR2 := Lib.hid r2
      have HP1 := Lib.hid hp1
      have HP2 := Lib.hid hp2
      clear hn1 hn2 ih1 ih2 r1 r2 hp1 hp2
      have hnB : ((i : Int) == (n : Int)) = false := by rw [beq_eq_false_iff_ne]; omega
      have k0 : (0 : Int) ≤ (k : Int) := by omega
      have k1 : (k : Int) ≤ (n : Int) := by omega
      have k2 : (k : Int) ≤ (c : Int) := by omega
      have k3 : (n : Int) ≤ (c : Int) := by omega
      have k4 : ((c : Int) == (k : Int)) = false := by rw [beq_eq_false_iff_ne]; omega
      have k5 : ¬ c = k := by omega
      by_cases hik : i ≤ k
      · have hikB : (i : Int) ≤ (k : Int) := by omega
        have HP := Lib.hid (HP1.out hik)
        clear HP1 HP2
        go_enter Try.func102, Try.ntmps102
        go_wp2_with fail
        refine HQ.out.mono ?_
        rintro e w' ⟨rfl, hw⟩
        subst hw
        go_wp2_with fail
        go_region_held3 (fun w'' : World => Below w'.heap.size w' w'') (first | assumption | exact (Below.refl _ _).drew)
          (first
            | ((with_reducible refine (HI1.out _ F (.slice (some ⟨b, off, none⟩) k c) (ll.take k) i _ wh (hl1.below (by assumption)) HN1.out (by omega) (by omega) (by omega) (by omega) hs1).mono ?_)
               rintro e w1 ⟨v1, rfl, ⟨vs, hown1, hin1⟩, hx1⟩
               have hxa : Below w'.heap.size w' w1 := Below.trans (b := _) (by assumption) (hx1.mono (Below.size (by assumption))))
            | ((with_reducible refine (HR2.out _ F (.slice (some ⟨b, off + k, none⟩) (n - k) (c - k)) (ll.drop k) (hl2.below (by assumption)) HN2.out (by omega) hs2).mono ?_)
               rintro e w2 ⟨v2, rfl, hown2, hx2⟩
               obtain ⟨A3, c3, hv3, _, _⟩ := Own.shape hown2
               subst hv3
               have hxb : Below w'.heap.size w' w2 := Below.trans (b := _) (by assumption) (hx2.mono (Below.size (by assumption)))
               obtain ⟨g1, g2, g3⟩ := OwnL.prep (B := w'.heap.size) ((hown1.below hx2).mono (Nat.le_refl _)) (fun i b hb => by obtain ⟨u, hu, ho⟩ := hin1 i b hb; exact ⟨u, hu, OwnB.below ho hx2⟩) (OwnB.mono hown2 hxa.size)
               have hxc := hxb.alloc hxb.size (.cells #[.slice A3 (Tr.root (ll.drop k)).length c3] 22)
               have hsz := hxc.size)
            | (refine step_append_Own _ (by rfl) (.tmp 27) (.tmp 32) 40 (by rfl) w'.heap.size 22 i0 _ 1 24 Try.underlying40 hi hz0 hz1 hz2 (by rfl) (by omega) _ _ _ (by rfl) g1 _ _ _ _ (by rfl) g2 (by simp [Value.oneCell']) (by simp only [maxLen]; omega) (by omega) hsz ?_
               intro v4 w4 hown4 hgr4 hat4
               have hxd : Below w'.heap.size w' w4 := hxc.grown hgr4 hxc.size (fun k hk => (g1.lt k hk).1)
               have hL := g3 _ _ hown4 hgr4))
        go_wp2_with fail
        go_ret
        exact ⟨_, rfl, by rw [HP.out]; exact hL, hxd⟩
      · have hikB : decide ((i : Int) ≤ (k : Int)) = false := by simp; omega
        have HP := Lib.hid (HP2.out hik)
        have kW : IntKind.i64.wrap ((i : Int) - (k : Int)) = (i : Int) - (k : Int) := IntWalk.i64_in _ (by omega)
        clear HP1 HP2
        go_enter Try.func102, Try.ntmps102
        go_wp2_with fail
        refine HQ.out.mono ?_
        rintro e w' ⟨rfl, hw⟩
        subst hw
        go_wp2_with fail
        go_region_held3 (fun w'' : World => Below w'.heap.size w' w'') (first | assumption | exact (Below.refl _ _).drew)
          (first
            | ((with_reducible refine (HI2.out _ F (.slice (some ⟨b, off + k, none⟩) (n - k) (c - k)) (ll.drop k) (i - k) _ false (hl2.below (by assumption)) HN2.out (by omega) (by omega) (by omega) (by omega) hs2).mono ?_)
               rintro e w1 ⟨v1, rfl, ⟨vs, hown1, hin1⟩, hx1⟩
               have hxa : Below w'.heap.size w' w1 := Below.trans (b := _) (by assumption) (hx1.mono (Below.size (by assumption))))
            | ((with_reducible refine (HR1.out _ F (.slice (some ⟨b, off, none⟩) k c) (ll.take k) (hl1.below (by assumption)) HN1.out (by omega) hs1).mono ?_)
               rintro e w2 ⟨v2, rfl, hown2, hx2⟩
               obtain ⟨A3, c3, hv3, _, _⟩ := Own.shape hown2
               subst hv3
               have hxb : Below w'.heap.size w' w2 := Below.trans (b := _) (by assumption) (hx2.mono (Below.size (by assumption)))
               obtain ⟨g1, g2, g3⟩ := OwnL.prep (B := w'.heap.size) ((hown1.below hx2).mono (Nat.le_refl _)) (fun i b hb => by obtain ⟨u, hu, ho⟩ := hin1 i b hb; exact ⟨u, hu, OwnB.below ho hx2⟩) (OwnB.mono hown2 hxa.size)
               have hxc := hxb.alloc hxb.size (.cells #[.slice A3 (Tr.root (ll.take k)).length c3] 22)
               have hsz := hxc.size)
            | (refine step_append_Own _ (by rfl) (.tmp 40) (.tmp 45) 40 (by rfl) w'.heap.size 22 i0 _ 1 24 Try.underlying40 hi hz0 hz1 hz2 (by rfl) (by omega) _ _ _ (by rfl) g1 _ _ _ _ (by rfl) g2 (by simp [Value.oneCell']) (by simp only [maxLen]; omega) (by omega) hsz ?_
               intro v4 w4 hown4 hgr4 hat4
               have hxd : Below w'.heap.size w' w4 := hxc.grown hgr4 hxc.size (fun k hk => (g1.lt k hk).1)
               have hL := g3 _ _ hown4 hgr4))
        go_wp2_with fail
        go_ret
        exact ⟨_, rfl, by rw [HP.out]; exact hL, hxd⟩
    · have hin : i = n := by omega
      subst hin
      have HP := Lib.hid (Tr.grows_all (l := ll) (m := i) (by omega) wh)
      have r0 := root_tree i
      have HR := Lib.hid r0
      have HN := Lib.hid hn
      have hin : (Value.slice A ll.length c) = .slice A i c := by rw [hn]
      rw [hin] at hl ⊢
      clear hn hA ih r0 hin
      have hnB : ((i : Int) == (i : Int)) = true := by simp
      cases wh with
      | true =>
        go_enter Try.func102, Try.ntmps102
        go_wp2_with fail
        go_ret
        exact ⟨_, rfl, by rw [HP.out]; exact OwnL.nil_ _ _, Below.refl _ _⟩
      | false =>
        go_enter Try.func102, Try.ntmps102
        go_wp2_with fail
        refine (HR.out w F _ ll hl HN.out (by omega) hs).mono ?_
        rintro e w1 ⟨v1, rfl, hown1, hx1⟩
        obtain ⟨A3, c3, hv3, _, _⟩ := Own.shape hown1
        subst hv3
        have ho := Own.new w1 w.heap.size 22 [.slice A3 (Tr.root ll).length c3] 1 rfl (by decide) hx1.size
        have ho1 := OwnB.alloc hown1 (.cells #[.slice A3 (Tr.root ll).length c3] 22)
        go_wp2_with fail
        go_ret
        refine ⟨_, rfl, ?_, hx1.alloc hx1.size _⟩
        rw [HP.out]
        refine ⟨_, ho, fun j b hj => ?_⟩
        match j, hj with
        | 0, hj => injection hj with hj; subst hj; exact ⟨_, rfl, ho1⟩
end Go.Proofs.Ytfdibjgmbdkbcaa

namespace Go.Proofs.Ytfdibjgmbdkbcaa
open Go.RowKit Go.Lib

theorem Fine.short {ll : List Bs} (h : Fine ll) : Short ll := fun b hb => by have := h.2 b hb; omega
theorem short_leaves (ll : List Bs) : Short (ll.map Tr.leafH) := fun b hb => by
  obtain ⟨x, _, rfl⟩ := List.mem_map.1 hb
  rw [Tr.length_leafH]; omega

theorem OwnL.setBlk {w : World} {B g : Nat} {v : Value} {ll : List Bs} {t : TypeId} {cs : Array Value} (h : OwnL w B v ll) (hg : Blk w g t cs) (h1 : 5 ≠ t) (h2 : 22 ≠ t) (i : Nat) (u : Value) : OwnL (w.setCell ⟨g, i, none⟩ u) B v ll := by
  obtain ⟨vs, ho, hin⟩ := h
  refine ⟨vs, ho.setCell (p := ⟨g, i, none⟩) (ho.ne_blk hg h2) u, fun j b hb => ?_⟩
  obtain ⟨x, hx, hb⟩ := hin j b hb
  exact ⟨x, hx, Own.setCell (p := ⟨g, i, none⟩) hb (Own.ne_blk hb hg h1) u⟩

set_option maxRecDepth 100000 in
set_option maxHeartbeats 1000000 in
theorem Root_any (w : World) (F : Nat → Prop) (v : Value) (ll : List Bs) (hl : BList w F v ll) :
    Calls Try.prog 40 #[v] w fun e w' => ∃ rv, e = .returned (.tuple #[rv, fv (wrongS ll)]) ∧ (Fine ll → OwnB w' w.heap.size rv (Tr.root (ll.map Tr.leafH))) ∧ (¬ Fine ll → rv = .slice none 0 0) ∧ Below w.heap.size w w' := by
  obtain ⟨A, c, hv, hnc, hcm, _⟩ := hl.shape
  subst hv
  have hok := wrongS_ok ll
  have hze := wrongS_zero ll
  have hx0 : Below w.heap.size w (w.alloc (.cells #[.int .i64 0, .int .i64 0] 32)) := (Below.refl _ _).alloc (Nat.le_refl _) _
  have hl0 := hl.alloc (.cells #[.int .i64 0, .int .i64 0] 32)
  have hw := wrong_any _ F _ ll hl0
  have hle := wrongS_le ll
  generalize wrongS ll = p at *
  obtain ⟨a, b⟩ := p
  dsimp only at hok hle
  have HOK := Lib.hid hok
  have HZ := Lib.hid hze
  have HW := Lib.hid hw
  clear hok hze hw
  go_enter Try.func40, Try.ntmps40
  go_wp2_with fail
  refine HW.out.mono ?_
  rintro e w1 ⟨rfl, hx1⟩
  unfold fv
  dsimp only
  have hxa := hx0.trans (hx1.mono hx0.size)
  have hs1 := hxa.size
  have hc0 : w1.cell? ⟨w.heap.size, 0, none⟩ = some (.int .i64 0) := (hx1.cell (p := ⟨w.heap.size, 0, none⟩) (by simp)).trans (by rw [World.cell?_alloc_mark]; rfl)
  have hc1 : w1.cell? ⟨w.heap.size, 1, none⟩ = some (.int .i64 0) := (hx1.cell (p := ⟨w.heap.size, 1, none⟩) (by simp)).trans (by rw [World.cell?_alloc_mark]; rfl)
  by_cases h0 : a = 0
  · have hB : ((a : Int) != 0) = false := by rw [bne_eq_false_iff_eq]; omega
    have hfine : Fine ll := HOK.out.1 h0
    have hz := HZ.out h0
    simp only [Prod.mk.injEq] at hz
    obtain ⟨rfl, rfl⟩ := hz
    have hxb := hxa.alloc hs1 (.cells #[.int .i64 0, .int .i64 0] 32)
    have hb1 : Blk w1 w.heap.size 32 #[.int .i64 0, .int .i64 0] := Blk.keep (heap_alloc_new w _) (hx1.block _ (by simp))
    have hb2 := hb1.alloc (.cells #[.int .i64 0, .int .i64 0] 32)
    have hlt : w.heap.size < w1.heap.size := by have := hx1.size; simp at this; omega
    have hl2 := (hl.below hxa).alloc (.cells #[.int .i64 0, .int .i64 0] 32)
    clear h0
    go_wp2_with fail
    refine (leaves_any _ _ _ ll hl2 (by have := hfine.1; omega) (fun b hb => by have := hfine.2 b hb; omega)).mono ?_
    rintro e w3 ⟨v3, rfl, hown3, hx3⟩
    have hb3 := hb2.below hx3 (by simp; omega)
    have hxc := hxb.trans (hx3.mono hxb.size)
    go_wp2_with fail
    refine (root_tree ll.length w3 _ v3 (ll.map Tr.leafH) hown3.blist (by simp) (by have := hfine.1; omega) (short_leaves ll)).mono ?_
    rintro e w4 ⟨v4, rfl, hown4, hx4⟩
    have hb4 := hb3.below hx4 (by have := hxc.size; have := hx3.size; simp at this; omega)
    have hxd := hxc.trans (hx4.mono hxc.size)
    have e0 : w4.cell? ⟨w.heap.size, 0, none⟩ = some (.int .i64 0) := hb4.cell 0
    have e1 : w4.cell? ⟨w.heap.size, 1, none⟩ = some (.int .i64 0) := hb4.cell 1
    have f0 := hb4.frozen 0
    have f1 := hb4.frozen 1
    go_wp2_with fail
    have hne := Own.ne_blk hown4 hb4 (by decide)
    have hb5 := (hb4.set_ 0 (.int .i64 0)).set_ 1 (.int .i64 0)
    have ho5 := (Own.setCell (p := ⟨w.heap.size, 0, none⟩) (OwnB.mono hown4 hxc.size) hne (.int .i64 0)).setCell (p := ⟨w.heap.size, 1, none⟩) hne (.int .i64 0)
    have hxe := (hxd.setCell (p := ⟨w.heap.size, 0, none⟩) (Nat.le_refl _) (.int .i64 0)).setCell (p := ⟨w.heap.size, 1, none⟩) (Nat.le_refl _) (.int .i64 0)
    generalize (w4.setCell ⟨w.heap.size, 0, none⟩ (.int .i64 0)).setCell ⟨w.heap.size, 1, none⟩ (.int .i64 0) = w5 at *
    have e4 : w5.cell? ⟨w.heap.size, 0, none⟩ = some (.int .i64 0) := hb5.cell 0
    have e5 : w5.cell? ⟨w.heap.size, 1, none⟩ = some (.int .i64 0) := hb5.cell 1
    exact bodyPost_ret (v := .tuple #[v4, .agg #[.int .i64 0, .int .i64 0]]) (by simp [results, Try.results40, go_sem, e4, e5]) rfl ⟨_, rfl, fun _ => ho5, fun h => absurd hfine h, hxe⟩
  · have hB : ((a : Int) != 0) = true := by rw [bne_iff_ne]; omega
    go_wp2_with fail
    have hxb := hxa.alloc hs1 (.cells #[.int .i64 (a : Int), .int .i64 (b : Int)] 32)
    have hb1 : Blk w1 w.heap.size 32 #[.int .i64 0, .int .i64 0] := Blk.keep (heap_alloc_new w _) (hx1.block _ (by simp))
    have hb2 := hb1.alloc (.cells #[.int .i64 (a : Int), .int .i64 (b : Int)] 32)
    have hb3 : Blk (w1.alloc (.cells #[.int .i64 (a : Int), .int .i64 (b : Int)] 32)) w1.heap.size 32 #[.int .i64 (a : Int), .int .i64 (b : Int)] := heap_alloc_new w1 _
    have hlt : w.heap.size < w1.heap.size := by have := hx1.size; simp at this; omega
    generalize (w1.alloc (.cells #[.int .i64 (a : Int), .int .i64 (b : Int)] 32)) = w2 at *
    have e0 : w2.cell? ⟨w.heap.size, 0, none⟩ = some (.int .i64 0) := hb2.cell 0
    have e1 : w2.cell? ⟨w.heap.size, 1, none⟩ = some (.int .i64 0) := hb2.cell 1
    have f0 := hb2.frozen 0
    have f1 := hb2.frozen 1
    have e2 : w2.cell? ⟨w1.heap.size, 0, none⟩ = some (.int .i64 (a : Int)) := hb3.cell 0
    have e3 : w2.cell? ⟨w1.heap.size, 1, none⟩ = some (.int .i64 (b : Int)) := hb3.cell 1
    have hb4 : Blk ((w2.setCell ⟨w.heap.size, 0, none⟩ (.int .i64 (a : Int))).setCell ⟨w.heap.size, 1, none⟩ (.int .i64 (b : Int))).drew w.heap.size 32 #[.int .i64 (a : Int), .int .i64 (b : Int)] := ((hb2.set_ 0 (.int .i64 (a : Int))).set_ 1 (.int .i64 (b : Int))).drewN 1
    have hxc : Below w.heap.size w ((w2.setCell ⟨w.heap.size, 0, none⟩ (.int .i64 (a : Int))).setCell ⟨w.heap.size, 1, none⟩ (.int .i64 (b : Int))).drew := ((hxb.setCell (p := ⟨w.heap.size, 0, none⟩) (Nat.le_refl _) _).setCell (p := ⟨w.heap.size, 1, none⟩) (Nat.le_refl _) _).drew
    go_region
    go_wp2_with fail
    generalize ((w2.setCell ⟨w.heap.size, 0, none⟩ (.int .i64 (a : Int))).setCell ⟨w.heap.size, 1, none⟩ (.int .i64 (b : Int))).drew = w3 at *
    have e4 : w3.cell? ⟨w.heap.size, 0, none⟩ = some (.int .i64 (a : Int)) := hb4.cell 0
    have e5 : w3.cell? ⟨w.heap.size, 1, none⟩ = some (.int .i64 (b : Int)) := hb4.cell 1
    exact bodyPost_ret (v := .tuple #[.slice none 0 0, .agg #[.int .i64 (a : Int), .int .i64 (b : Int)]]) (by simp [results, Try.results40, go_sem, e4, e5]) rfl ⟨_, rfl, fun h => absurd (HOK.out.2 h) h0, fun _ => rfl, hxc⟩
/-- what is wrong with a path's question -/
def pathF (ll : List Bs) (z : Int) : Nat × Nat := if (wrongS ll).1 ≠ 0 then wrongS ll else if 0 ≤ z ∧ z < ll.length then (0, 0) else (6, 0)

set_option maxRecDepth 100000 in
set_option maxHeartbeats 1000000 in
theorem Path_any (w : World) (F : Nat → Prop) (v : Value) (ll : List Bs) (z : Int) (hl : BList w F v ll) :
    Calls Try.prog 41 #[v, .int .i64 z] w fun e w' => ∃ rv, e = .returned (.tuple #[rv, fv (pathF ll z)]) ∧ ((pathF ll z).1 = 0 → OwnL w' w.heap.size rv (Tr.path (ll.map Tr.leafH) z.toNat)) ∧ ((pathF ll z).1 ≠ 0 → rv = .slice none 0 0) ∧ Below w.heap.size w w' := by
  obtain ⟨A, c, hv, hnc, hcm, _⟩ := hl.shape
  subst hv
  have hok := wrongS_ok ll
  have hze := wrongS_zero ll
  have hx0 : Below w.heap.size w (w.alloc (.cells #[.int .i64 0, .int .i64 0] 32)) := (Below.refl _ _).alloc (Nat.le_refl _) _
  have hl0 := hl.alloc (.cells #[.int .i64 0, .int .i64 0] 32)
  have hw := wrong_any _ F _ ll hl0
  have hle := wrongS_le ll
  have hpf : pathF ll z = if (wrongS ll).1 ≠ 0 then wrongS ll else if 0 ≤ z ∧ z < ll.length then (0, 0) else (6, 0) := rfl
  generalize wrongS ll = p at *
  obtain ⟨a, b⟩ := p
  dsimp only at hok hle hpf
  have HPF := Lib.hid hpf
  clear hpf
  have HOK := Lib.hid hok
  have HZ := Lib.hid hze
  have HW := Lib.hid hw
  clear hok hze hw
  go_enter Try.func41, Try.ntmps41
  go_wp2_with fail
  refine HW.out.mono ?_
  rintro e w1 ⟨rfl, hx1⟩
  unfold fv
  dsimp only
  have hxa := hx0.trans (hx1.mono hx0.size)
  have hs1 := hxa.size
  have hc0 : w1.cell? ⟨w.heap.size, 0, none⟩ = some (.int .i64 0) := (hx1.cell (p := ⟨w.heap.size, 0, none⟩) (by simp)).trans (by rw [World.cell?_alloc_mark]; rfl)
  have hc1 : w1.cell? ⟨w.heap.size, 1, none⟩ = some (.int .i64 0) := (hx1.cell (p := ⟨w.heap.size, 1, none⟩) (by simp)).trans (by rw [World.cell?_alloc_mark]; rfl)
  by_cases h0 : a = 0
  · have hB : ((a : Int) != 0) = false := by rw [bne_eq_false_iff_eq]; omega
    have hfine : Fine ll := HOK.out.1 h0
    have hz := HZ.out h0
    simp only [Prod.mk.injEq] at hz
    obtain ⟨rfl, rfl⟩ := hz
    have hxb := hxa.alloc hs1 (.cells #[.int .i64 0, .int .i64 0] 32)
    have hb1 : Blk w1 w.heap.size 32 #[.int .i64 0, .int .i64 0] := Blk.keep (heap_alloc_new w _) (hx1.block _ (by simp))
    have hb2 := hb1.alloc (.cells #[.int .i64 0, .int .i64 0] 32)
    have hlt : w.heap.size < w1.heap.size := by have := hx1.size; simp at this; omega
    have hl2 := (hl.below hxa).alloc (.cells #[.int .i64 0, .int .i64 0] 32)
    have HQ : Hid (pathF ll z = if 0 ≤ z ∧ z < ll.length then (0, 0) else (6, 0)) := Lib.hid (by rw [HPF.out, if_neg (by simp)])
    clear h0 HPF HOK HZ HW
    have k0 := hb1.frozen 0
    have k1 := hb1.frozen 1
    by_cases hr : 0 ≤ z ∧ z < ll.length
    · have HP : Hid (pathF ll z = (0, 0)) := Lib.hid (by rw [HQ.out, if_pos hr])
      obtain ⟨hz0, hz1⟩ := hr
      have hB0 : decide (z < 0) = false := by simp; omega
      have hB1 : decide ((ll.length : Int) ≤ z) = false := by simp; omega
      have hzn : z = ((z.toNat : Nat) : Int) := by omega
      have hzl : z.toNat ≤ 128 := by have := hfine.1; omega
      have HZ := Lib.hid hzn
      clear hzn k0 k1
      go_wp2_with fail
      refine (leaves_any _ _ _ ll hl2 (by have := hfine.1; omega) (fun b hb => by have := hfine.2 b hb; omega)).mono ?_
      rintro e w3 ⟨v3, rfl, hown3, hx3⟩
      have hb3 := hb2.below hx3 (by simp; omega)
      have hxc := hxb.trans (hx3.mono hxb.size)
      go_wp2_with fail
      refine (path_any ll.length w3 _ v3 (ll.map Tr.leafH) z.toNat z hown3.blist (by simp) (by have := hfine.1; omega) hzl HZ.out (short_leaves ll)).mono ?_
      rintro e w4 ⟨v4, rfl, ⟨vs, hown4, hin4⟩, hx4⟩
      have hb4 := hb3.below hx4 (by have := hxc.size; have := hx3.size; simp at this; omega)
      have hxd := hxc.trans (hx4.mono hxc.size)
      have e0 : w4.cell? ⟨w.heap.size, 0, none⟩ = some (.int .i64 0) := hb4.cell 0
      have e1 : w4.cell? ⟨w.heap.size, 1, none⟩ = some (.int .i64 0) := hb4.cell 1
      have f0 := hb4.frozen 0
      have f1 := hb4.frozen 1
      go_wp2_with fail
      have ho5 := OwnL.setBlk (OwnL.setBlk (OwnL.mono ⟨vs, hown4, hin4⟩ hxc.size) hb4 (by decide) (by decide) 0 (.int .i64 0)) (hb4.set_ 0 (.int .i64 0)) (by decide) (by decide) 1 (.int .i64 0)
      have hb5 := (hb4.set_ 0 (.int .i64 0)).set_ 1 (.int .i64 0)
      have hxe := (hxd.setCell (p := ⟨w.heap.size, 0, none⟩) (Nat.le_refl _) (.int .i64 0)).setCell (p := ⟨w.heap.size, 1, none⟩) (Nat.le_refl _) (.int .i64 0)
      generalize (w4.setCell ⟨w.heap.size, 0, none⟩ (.int .i64 0)).setCell ⟨w.heap.size, 1, none⟩ (.int .i64 0) = w5 at *
      have e4 : w5.cell? ⟨w.heap.size, 0, none⟩ = some (.int .i64 0) := hb5.cell 0
      have e5 : w5.cell? ⟨w.heap.size, 1, none⟩ = some (.int .i64 0) := hb5.cell 1
      exact bodyPost_ret (v := .tuple #[v4, .agg #[.int .i64 0, .int .i64 0]]) (by simp [results, Try.results41, go_sem, e4, e5]) rfl ⟨_, by rw [HP.out]; rfl, fun _ => ho5, fun h => absurd (by rw [HP.out]) h, hxe⟩
    · have HP : Hid (pathF ll z = (6, 0)) := Lib.hid (by rw [HQ.out, if_neg hr])
      have hb5 := ((hb1.set_ 0 (.int .i64 6)).set_ 1 (.int .i64 0)).alloc (.cells #[.int .i64 0, .int .i64 0] 32)
      have hxe := ((hxa.setCell (p := ⟨w.heap.size, 0, none⟩) (Nat.le_refl _) (.int .i64 6)).setCell (p := ⟨w.heap.size, 1, none⟩) (Nat.le_refl _) (.int .i64 0)).alloc (by simpa using hs1) (.cells #[.int .i64 0, .int .i64 0] 32)
      have hr' : z < 0 ∨ ¬ z < 0 ∧ (ll.length : Int) ≤ z := by omega
      rcases hr' with hz | ⟨hz0, hz1⟩
      · have hB0 : decide (z < 0) = true := by simp; omega
        clear hr
        go_wp2_with fail
        generalize (((w1.setCell ⟨w.heap.size, 0, none⟩ (.int .i64 6)).setCell ⟨w.heap.size, 1, none⟩ (.int .i64 0)).alloc (.cells #[.int .i64 0, .int .i64 0] 32)) = w5 at *
        have e4 : w5.cell? ⟨w.heap.size, 0, none⟩ = some (.int .i64 6) := hb5.cell 0
        have e5 : w5.cell? ⟨w.heap.size, 1, none⟩ = some (.int .i64 0) := hb5.cell 1
        exact bodyPost_ret (v := .tuple #[.slice none 0 0, .agg #[.int .i64 6, .int .i64 0]]) (by simp [results, Try.results41, go_sem, e4, e5]) rfl ⟨_, by rw [HP.out]; rfl, fun h => by rw [HP.out] at h; exact absurd h (by decide), fun _ => rfl, hxe⟩
      · have hB0 : decide (z < 0) = false := by simp; omega
        have hB1 : decide ((ll.length : Int) ≤ z) = true := by simp; omega
        clear hr
        go_wp2_with fail
        generalize (((w1.setCell ⟨w.heap.size, 0, none⟩ (.int .i64 6)).setCell ⟨w.heap.size, 1, none⟩ (.int .i64 0)).alloc (.cells #[.int .i64 0, .int .i64 0] 32)) = w5 at *
        have e4 : w5.cell? ⟨w.heap.size, 0, none⟩ = some (.int .i64 6) := hb5.cell 0
        have e5 : w5.cell? ⟨w.heap.size, 1, none⟩ = some (.int .i64 0) := hb5.cell 1
        exact bodyPost_ret (v := .tuple #[.slice none 0 0, .agg #[.int .i64 6, .int .i64 0]]) (by simp [results, Try.results41, go_sem, e4, e5]) rfl ⟨_, by rw [HP.out]; rfl, fun h => by rw [HP.out] at h; exact absurd h (by decide), fun _ => rfl, hxe⟩
  · have hB : ((a : Int) != 0) = true := by rw [bne_iff_ne]; omega
    go_wp2_with fail
    have hxb := hxa.alloc hs1 (.cells #[.int .i64 (a : Int), .int .i64 (b : Int)] 32)
    have hb1 : Blk w1 w.heap.size 32 #[.int .i64 0, .int .i64 0] := Blk.keep (heap_alloc_new w _) (hx1.block _ (by simp))
    have hb2 := hb1.alloc (.cells #[.int .i64 (a : Int), .int .i64 (b : Int)] 32)
    have hb3 : Blk (w1.alloc (.cells #[.int .i64 (a : Int), .int .i64 (b : Int)] 32)) w1.heap.size 32 #[.int .i64 (a : Int), .int .i64 (b : Int)] := heap_alloc_new w1 _
    have hlt : w.heap.size < w1.heap.size := by have := hx1.size; simp at this; omega
    generalize (w1.alloc (.cells #[.int .i64 (a : Int), .int .i64 (b : Int)] 32)) = w2 at *
    have e0 : w2.cell? ⟨w.heap.size, 0, none⟩ = some (.int .i64 0) := hb2.cell 0
    have e1 : w2.cell? ⟨w.heap.size, 1, none⟩ = some (.int .i64 0) := hb2.cell 1
    have f0 := hb2.frozen 0
    have f1 := hb2.frozen 1
    have e2 : w2.cell? ⟨w1.heap.size, 0, none⟩ = some (.int .i64 (a : Int)) := hb3.cell 0
    have e3 : w2.cell? ⟨w1.heap.size, 1, none⟩ = some (.int .i64 (b : Int)) := hb3.cell 1
    have hb4 : Blk ((w2.setCell ⟨w.heap.size, 0, none⟩ (.int .i64 (a : Int))).setCell ⟨w.heap.size, 1, none⟩ (.int .i64 (b : Int))).drew w.heap.size 32 #[.int .i64 (a : Int), .int .i64 (b : Int)] := ((hb2.set_ 0 (.int .i64 (a : Int))).set_ 1 (.int .i64 (b : Int))).drewN 1
    have hxc : Below w.heap.size w ((w2.setCell ⟨w.heap.size, 0, none⟩ (.int .i64 (a : Int))).setCell ⟨w.heap.size, 1, none⟩ (.int .i64 (b : Int))).drew := ((hxb.setCell (p := ⟨w.heap.size, 0, none⟩) (Nat.le_refl _) _).setCell (p := ⟨w.heap.size, 1, none⟩) (Nat.le_refl _) _).drew
    go_region
    go_wp2_with fail
    generalize ((w2.setCell ⟨w.heap.size, 0, none⟩ (.int .i64 (a : Int))).setCell ⟨w.heap.size, 1, none⟩ (.int .i64 (b : Int))).drew = w3 at *
    have e4 : w3.cell? ⟨w.heap.size, 0, none⟩ = some (.int .i64 (a : Int)) := hb4.cell 0
    have e5 : w3.cell? ⟨w.heap.size, 1, none⟩ = some (.int .i64 (b : Int)) := hb4.cell 1
    exact bodyPost_ret (v := .tuple #[.slice none 0 0, .agg #[.int .i64 (a : Int), .int .i64 (b : Int)]]) (by simp [results, Try.results41, go_sem, e4, e5]) rfl ⟨_, by rw [HPF.out, if_pos h0]; rfl, fun h => by rw [HPF.out, if_pos h0] at h; exact absurd h h0, fun _ => rfl, hxc⟩
/-- what is wrong with a question for what grew -/
def growsF (ll : List Bs) (z : Int) : Nat × Nat := if (wrongS ll).1 ≠ 0 then wrongS ll else if 1 ≤ z ∧ z ≤ ll.length then (0, 0) else (3, 0)

set_option maxRecDepth 100000 in
set_option maxHeartbeats 1000000 in
theorem Grows_any (w : World) (F : Nat → Prop) (v : Value) (ll : List Bs) (z : Int) (hl : BList w F v ll) :
    Calls Try.prog 42 #[v, .int .i64 z] w fun e w' => ∃ rv, e = .returned (.tuple #[rv, fv (growsF ll z)]) ∧ ((growsF ll z).1 = 0 → OwnL w' w.heap.size rv (Tr.grows (ll.map Tr.leafH) z.toNat true)) ∧ ((growsF ll z).1 ≠ 0 → rv = .slice none 0 0) ∧ Below w.heap.size w w' := by
  obtain ⟨A, c, hv, hnc, hcm, _⟩ := hl.shape
  subst hv
  have hok := wrongS_ok ll
  have hze := wrongS_zero ll
  have hx0 : Below w.heap.size w (w.alloc (.cells #[.int .i64 0, .int .i64 0] 32)) := (Below.refl _ _).alloc (Nat.le_refl _) _
  have hl0 := hl.alloc (.cells #[.int .i64 0, .int .i64 0] 32)
  have hw := wrong_any _ F _ ll hl0
  have hle := wrongS_le ll
  have hpf : growsF ll z = if (wrongS ll).1 ≠ 0 then wrongS ll else if 1 ≤ z ∧ z ≤ ll.length then (0, 0) else (3, 0) := rfl
  generalize wrongS ll = p at *
  obtain ⟨a, b⟩ := p
  dsimp only at hok hle hpf
  have HPF := Lib.hid hpf
  clear hpf
  have HOK := Lib.hid hok
  have HZ := Lib.hid hze
  have HW := Lib.hid hw
  clear hok hze hw
  go_enter Try.func42, Try.ntmps42
  go_wp2_with fail
  refine HW.out.mono ?_
  rintro e w1 ⟨rfl, hx1⟩
  unfold fv
  dsimp only
  have hxa := hx0.trans (hx1.mono hx0.size)
  have hs1 := hxa.size
  have hc0 : w1.cell? ⟨w.heap.size, 0, none⟩ = some (.int .i64 0) := (hx1.cell (p := ⟨w.heap.size, 0, none⟩) (by simp)).trans (by rw [World.cell?_alloc_mark]; rfl)
  have hc1 : w1.cell? ⟨w.heap.size, 1, none⟩ = some (.int .i64 0) := (hx1.cell (p := ⟨w.heap.size, 1, none⟩) (by simp)).trans (by rw [World.cell?_alloc_mark]; rfl)
  by_cases h0 : a = 0
  · have hB : ((a : Int) != 0) = false := by rw [bne_eq_false_iff_eq]; omega
    have hfine : Fine ll := HOK.out.1 h0
    have hz := HZ.out h0
    simp only [Prod.mk.injEq] at hz
    obtain ⟨rfl, rfl⟩ := hz
    have hxb := hxa.alloc hs1 (.cells #[.int .i64 0, .int .i64 0] 32)
    have hb1 : Blk w1 w.heap.size 32 #[.int .i64 0, .int .i64 0] := Blk.keep (heap_alloc_new w _) (hx1.block _ (by simp))
    have hb2 := hb1.alloc (.cells #[.int .i64 0, .int .i64 0] 32)
    have hlt : w.heap.size < w1.heap.size := by have := hx1.size; simp at this; omega
    have hl2 := (hl.below hxa).alloc (.cells #[.int .i64 0, .int .i64 0] 32)
    have HQ : Hid (growsF ll z = if 1 ≤ z ∧ z ≤ ll.length then (0, 0) else (3, 0)) := Lib.hid (by rw [HPF.out, if_neg (by simp)])
    clear h0 HPF HOK HZ HW
    have k0 := hb1.frozen 0
    have k1 := hb1.frozen 1
    by_cases hr : 1 ≤ z ∧ z ≤ ll.length
    · have HP : Hid (growsF ll z = (0, 0)) := Lib.hid (by rw [HQ.out, if_pos hr])
      obtain ⟨hz0, hz1⟩ := hr
      have hB0 : decide (z < 1) = false := by simp; omega
      have hB1 : decide ((ll.length : Int) < z) = false := by simp; omega
      have hzn : z = ((z.toNat : Nat) : Int) := by omega
      have hzl : z.toNat ≤ 128 := by have := hfine.1; omega
      have HZ := Lib.hid hzn
      clear hzn k0 k1
      go_wp2_with fail
      refine (leaves_any _ _ _ ll hl2 (by have := hfine.1; omega) (fun b hb => by have := hfine.2 b hb; omega)).mono ?_
      rintro e w3 ⟨v3, rfl, hown3, hx3⟩
      have hb3 := hb2.below hx3 (by simp; omega)
      have hxc := hxb.trans (hx3.mono hxb.size)
      go_wp2_with fail
      refine (grows_any ll.length w3 _ v3 (ll.map Tr.leafH) z.toNat z true hown3.blist (by simp) (by have := hfine.1; omega) (by omega) (by omega) HZ.out (short_leaves ll)).mono ?_
      rintro e w4 ⟨v4, rfl, ⟨vs, hown4, hin4⟩, hx4⟩
      have hb4 := hb3.below hx4 (by have := hxc.size; have := hx3.size; simp at this; omega)
      have hxd := hxc.trans (hx4.mono hxc.size)
      have e0 : w4.cell? ⟨w.heap.size, 0, none⟩ = some (.int .i64 0) := hb4.cell 0
      have e1 : w4.cell? ⟨w.heap.size, 1, none⟩ = some (.int .i64 0) := hb4.cell 1
      have f0 := hb4.frozen 0
      have f1 := hb4.frozen 1
      go_wp2_with fail
      have ho5 := OwnL.setBlk (OwnL.setBlk (OwnL.mono ⟨vs, hown4, hin4⟩ hxc.size) hb4 (by decide) (by decide) 0 (.int .i64 0)) (hb4.set_ 0 (.int .i64 0)) (by decide) (by decide) 1 (.int .i64 0)
      have hb5 := (hb4.set_ 0 (.int .i64 0)).set_ 1 (.int .i64 0)
      have hxe := (hxd.setCell (p := ⟨w.heap.size, 0, none⟩) (Nat.le_refl _) (.int .i64 0)).setCell (p := ⟨w.heap.size, 1, none⟩) (Nat.le_refl _) (.int .i64 0)
      generalize (w4.setCell ⟨w.heap.size, 0, none⟩ (.int .i64 0)).setCell ⟨w.heap.size, 1, none⟩ (.int .i64 0) = w5 at *
      have e4 : w5.cell? ⟨w.heap.size, 0, none⟩ = some (.int .i64 0) := hb5.cell 0
      have e5 : w5.cell? ⟨w.heap.size, 1, none⟩ = some (.int .i64 0) := hb5.cell 1
      exact bodyPost_ret (v := .tuple #[v4, .agg #[.int .i64 0, .int .i64 0]]) (by simp [results, Try.results42, go_sem, e4, e5]) rfl ⟨_, by rw [HP.out]; rfl, fun _ => ho5, fun h => absurd (by rw [HP.out]) h, hxe⟩
    · have HP : Hid (growsF ll z = (3, 0)) := Lib.hid (by rw [HQ.out, if_neg hr])
      have hb5 := ((hb1.set_ 0 (.int .i64 3)).set_ 1 (.int .i64 0)).alloc (.cells #[.int .i64 0, .int .i64 0] 32)
      have hxe := ((hxa.setCell (p := ⟨w.heap.size, 0, none⟩) (Nat.le_refl _) (.int .i64 3)).setCell (p := ⟨w.heap.size, 1, none⟩) (Nat.le_refl _) (.int .i64 0)).alloc (by simpa using hs1) (.cells #[.int .i64 0, .int .i64 0] 32)
      have hr' : z < 1 ∨ ¬ z < 1 ∧ (ll.length : Int) < z := by omega
      rcases hr' with hz | ⟨hz0, hz1⟩
      · have hB0 : decide (z < 1) = true := by simp; omega
        clear hr
        go_wp2_with fail
        generalize (((w1.setCell ⟨w.heap.size, 0, none⟩ (.int .i64 3)).setCell ⟨w.heap.size, 1, none⟩ (.int .i64 0)).alloc (.cells #[.int .i64 0, .int .i64 0] 32)) = w5 at *
        have e4 : w5.cell? ⟨w.heap.size, 0, none⟩ = some (.int .i64 3) := hb5.cell 0
        have e5 : w5.cell? ⟨w.heap.size, 1, none⟩ = some (.int .i64 0) := hb5.cell 1
        exact bodyPost_ret (v := .tuple #[.slice none 0 0, .agg #[.int .i64 3, .int .i64 0]]) (by simp [results, Try.results42, go_sem, e4, e5]) rfl ⟨_, by rw [HP.out]; rfl, fun h => by rw [HP.out] at h; exact absurd h (by decide), fun _ => rfl, hxe⟩
      · have hB0 : decide (z < 1) = false := by simp; omega
        have hB1 : decide ((ll.length : Int) < z) = true := by simp; omega
        clear hr
        go_wp2_with fail
        generalize (((w1.setCell ⟨w.heap.size, 0, none⟩ (.int .i64 3)).setCell ⟨w.heap.size, 1, none⟩ (.int .i64 0)).alloc (.cells #[.int .i64 0, .int .i64 0] 32)) = w5 at *
        have e4 : w5.cell? ⟨w.heap.size, 0, none⟩ = some (.int .i64 3) := hb5.cell 0
        have e5 : w5.cell? ⟨w.heap.size, 1, none⟩ = some (.int .i64 0) := hb5.cell 1
        exact bodyPost_ret (v := .tuple #[.slice none 0 0, .agg #[.int .i64 3, .int .i64 0]]) (by simp [results, Try.results42, go_sem, e4, e5]) rfl ⟨_, by rw [HP.out]; rfl, fun h => by rw [HP.out] at h; exact absurd h (by decide), fun _ => rfl, hxe⟩
  · have hB : ((a : Int) != 0) = true := by rw [bne_iff_ne]; omega
    go_wp2_with fail
    have hxb := hxa.alloc hs1 (.cells #[.int .i64 (a : Int), .int .i64 (b : Int)] 32)
    have hb1 : Blk w1 w.heap.size 32 #[.int .i64 0, .int .i64 0] := Blk.keep (heap_alloc_new w _) (hx1.block _ (by simp))
    have hb2 := hb1.alloc (.cells #[.int .i64 (a : Int), .int .i64 (b : Int)] 32)
    have hb3 : Blk (w1.alloc (.cells #[.int .i64 (a : Int), .int .i64 (b : Int)] 32)) w1.heap.size 32 #[.int .i64 (a : Int), .int .i64 (b : Int)] := heap_alloc_new w1 _
    have hlt : w.heap.size < w1.heap.size := by have := hx1.size; simp at this; omega
    generalize (w1.alloc (.cells #[.int .i64 (a : Int), .int .i64 (b : Int)] 32)) = w2 at *
    have e0 : w2.cell? ⟨w.heap.size, 0, none⟩ = some (.int .i64 0) := hb2.cell 0
    have e1 : w2.cell? ⟨w.heap.size, 1, none⟩ = some (.int .i64 0) := hb2.cell 1
    have f0 := hb2.frozen 0
    have f1 := hb2.frozen 1
    have e2 : w2.cell? ⟨w1.heap.size, 0, none⟩ = some (.int .i64 (a : Int)) := hb3.cell 0
    have e3 : w2.cell? ⟨w1.heap.size, 1, none⟩ = some (.int .i64 (b : Int)) := hb3.cell 1
    have hb4 : Blk ((w2.setCell ⟨w.heap.size, 0, none⟩ (.int .i64 (a : Int))).setCell ⟨w.heap.size, 1, none⟩ (.int .i64 (b : Int))).drew w.heap.size 32 #[.int .i64 (a : Int), .int .i64 (b : Int)] := ((hb2.set_ 0 (.int .i64 (a : Int))).set_ 1 (.int .i64 (b : Int))).drewN 1
    have hxc : Below w.heap.size w ((w2.setCell ⟨w.heap.size, 0, none⟩ (.int .i64 (a : Int))).setCell ⟨w.heap.size, 1, none⟩ (.int .i64 (b : Int))).drew := ((hxb.setCell (p := ⟨w.heap.size, 0, none⟩) (Nat.le_refl _) _).setCell (p := ⟨w.heap.size, 1, none⟩) (Nat.le_refl _) _).drew
    go_region
    go_wp2_with fail
    generalize ((w2.setCell ⟨w.heap.size, 0, none⟩ (.int .i64 (a : Int))).setCell ⟨w.heap.size, 1, none⟩ (.int .i64 (b : Int))).drew = w3 at *
    have e4 : w3.cell? ⟨w.heap.size, 0, none⟩ = some (.int .i64 (a : Int)) := hb4.cell 0
    have e5 : w3.cell? ⟨w.heap.size, 1, none⟩ = some (.int .i64 (b : Int)) := hb4.cell 1
    exact bodyPost_ret (v := .tuple #[.slice none 0 0, .agg #[.int .i64 (a : Int), .int .i64 (b : Int)]]) (by simp [results, Try.results42, go_sem, e4, e5]) rfl ⟨_, by rw [HPF.out, if_pos h0]; rfl, fun h => by rw [HPF.out, if_pos h0] at h; exact absurd h h0, fun _ => rfl, hxc⟩
end Go.Proofs.Ytfdibjgmbdkbcaa

namespace Go.Proofs.Ytfdibjgmbdkbcaa
open Go.RowKit Go.Lib

/-- 'l[1:]', wherever it lies -/
theorem BList.tail {w : World} {F : Nat → Prop} {b off c : Nat} {x : Bs} {ll : List Bs} (h : BList w F (.slice (some ⟨b, off, none⟩) (x :: ll).length c) (x :: ll)) :
    BList w F (.slice (if c = 1 then some ⟨b, off, none⟩ else some ⟨b, off + 1, none⟩) ll.length (c - 1)) ll := by
  have hr := h.rest 1 (by simp)
  split
  · rename_i hc
    subst hc
    have hn : ll = [] := by
      obtain ⟨A, c', hv, h1, _⟩ := h.shape
      injection hv with _ _ e3
      exact List.eq_nil_of_length_eq_zero (by simp at h1; omega)
    subst hn
    exact ⟨[], ⟨_, 0, rfl, Nat.le_refl _, by simp [maxLen], by simp, fun h => absurd h (by simp)⟩, fun i b hb => by simp at hb⟩
  · simpa using hr

set_option maxRecDepth 100000 in
set_option maxHeartbeats 1000000 in
theorem climb_any (w : World) (F F' : Nat → Prop) (vd vp : Value) (d : Bs) (i n : Nat) (p : List Bs) (hd : Bytes w F vd d) (hp : BList w F' vp p) (h1 : 1 ≤ n) (hn : n ≤ 100000) (hi : i < n) (hd1 : d.length ≤ 1000) (hs : Short p) :
    Calls Try.prog 90 #[vd, .int .i64 (i : Int), .int .i64 (n : Int), vp] w fun e w' =>
      ∃ v, e = .returned (.tuple #[v, .bool (Tr.climb d i (n - 1) p).isSome]) ∧ (∀ r, Tr.climb d i (n - 1) p = some r → Bytes w' (fun _ => True) v r ∧ r.length ≤ 1000) ∧ Below w.heap.size w w' := by
  go_enter Try.func90, Try.ntmps90
  go_wp2_with fail
  go_loopg [0, 1, 3, 10] (n - 1) (fun k ud ui up ul wr => ∃ (d' : Bs) (i' : Nat) (p' : List Bs), ui = .int .i64 (i' : Int) ∧ ul = .int .i64 (k : Int) ∧ i' ≤ k ∧ k ≤ 100000 ∧ Bytes wr (fun k => k < wr.heap.size) ud d' ∧ BList wr (fun k => k < wr.heap.size) up p' ∧ d'.length ≤ 1000 ∧ Short p' ∧
      Hid (Tr.climb d' i' k p' = Tr.climb d i (n - 1) p) ∧ Below w.heap.size w wr)
  case atStart => exact ⟨d, i, p, rfl, congrArg (Value.int .i64) (by omega), by omega, by omega, hd.weak (fun k hk _ => hk), hp.weak (fun k hk _ => hk), hd1, hs, Lib.hid rfl, Below.refl _ _⟩
  case round =>
    obtain ⟨d', i', p', rfl, rfl, hik, hk, hd', hp', hd1', hs', HC, hx⟩ := hrel
    obtain ⟨A, c, hvp, hpc, hcm, hA⟩ := hp'.shape
    subst hvp
    obtain ⟨A2, c2, hvd, _⟩ := hd'.form'
    subst hvd
    unfold maxLen at hcm
    by_cases hk0 : 0 < gk
    · have hk0B : (0 : Int) < (gk : Int) := by omega
      by_cases hev : i' % 2 = 0
      · by_cases heq : i' = gk
        · have ht1 : ((i' : Int) % 2 == 0) = true := by rw [beq_iff_eq]; omega
          have ht2 : ((i' : Int) == (gk : Int)) = true := by rw [beq_iff_eq]; omega
          have hc0 := HC.out
          rw [Tr.climb.eq_def, dif_pos hk0, if_pos ⟨hev, by omega⟩] at hc0
          have HC0 := Lib.hid hc0
          clear hc0 HC hA
          go_wp2_with fail
          go_roundg (gk / 2)
          case measure => omega
          case rel => exact ⟨d', i' / 2, p', congrArg (Value.int .i64) (by omega), congrArg (Value.int .i64) (by omega), by omega, by omega, hd', hp', hd1', hs', HC0, hx⟩
        · have ht1 : ((i' : Int) % 2 == 0) = true := by rw [beq_iff_eq]; omega
          have ht3 : ((i' : Int) % 2 == 1) = false := by rw [beq_eq_false_iff_ne]; omega
          have ht2 : ((i' : Int) == (gk : Int)) = false := by rw [beq_eq_false_iff_ne]; omega
          have hc0 := HC.out
          rw [Tr.climb.eq_def, dif_pos hk0, if_neg (by omega)] at hc0
          match p', hc0 with
          | [], hc0 =>
            have HC0 := Lib.hid hc0
            clear hc0 HC hA
            have hlB : ((0 : Int) == 0) = true := rfl
            simp only [List.length_nil] at *
            go_wp2_with fail
            go_ret2
            refine ⟨.slice none 0 0, ?_, ?_, hx⟩
            · rw [← HC0.out]; rfl
            · intro r hr
              rw [← HC0.out] at hr
              cases hr
          | q :: p'', hc0 =>
            obtain ⟨b, off, rfl, hF, hb⟩ := hA (by simp)
            obtain ⟨b', off', u, hA', hcu, _, _, hqb⟩ := hp'.at_ (j := 0) (by simp)
            injection hA' with hA'
            injection hA' with e1 e2
            subst e1 e2
            have hcu' : wr.cell? ⟨b, off, none⟩ = some u := hcu
            have hq1 : q.length ≤ 1000 := hs' q (by simp)
            have hs'' : Short p'' := fun x hx => hs' x (by simp [hx])
            dsimp only at hc0
            rw [if_neg (by omega)] at hc0
            have HC0 := Lib.hid hc0
            have hdb := hd'
            clear hc0 HC hA hcu
            have hlB : (((q :: p'').length : Int) == 0) = false := by rw [beq_eq_false_iff_ne, List.length_cons]; omega
            have hl1 : (1 : Int) ≤ ((q :: p'').length : Int) := by rw [List.length_cons]; omega
            have hl0 : (0 : Int) < ((q :: p'').length : Int) := by rw [List.length_cons]; omega
            go_wp2_with fail
            refine (node_any wr _ _ _ _ d' q hdb hqb (by omega)).mono ?_
            rintro e w1 ⟨v1, rfl, hown1, hx1⟩
            have hx2 := hx.trans (hx1.mono hx.size)
            have hpt := (hp'.tail).map_ (w' := w1) (F' := fun k => k < w1.heap.size) (fun v n xs h => (h.below hx1).weak (fun k hk _ => hk))
            have hpt1 : c = 1 → BList w1 (fun k => k < w1.heap.size) (.slice (some ⟨b, off, none⟩) p''.length 0) p'' := fun e => by subst e; exact hpt
            have hpt2 : ¬ c = 1 → BList w1 (fun k => k < w1.heap.size) (.slice (some ⟨b, off + 1, none⟩) p''.length (c - 1)) p'' := fun e => by rw [if_neg e] at hpt; exact hpt
            clear hpt
            have hod : Bytes w1 (fun k => k < w1.heap.size) v1 _ := (OwnB.bytes hown1).weak (fun k hk _ => hk)
            go_wp2_with fail
            all_goals
              go_roundg (gk / 2)
              case measure => omega
              case rel =>
                first
                  | exact ⟨_, i' / 2, p'', congrArg (Value.int .i64) (by omega), congrArg (Value.int .i64) (by omega), by omega, by omega, hod, hpt1 (by omega), by rw [Tr.length_nodeH]; omega, hs'', HC0, hx2⟩
                  | exact ⟨_, i' / 2, p'', congrArg (Value.int .i64) (by omega), congrArg (Value.int .i64) (by omega), by omega, by omega, hod, hpt2 (by omega), by rw [Tr.length_nodeH]; omega, hs'', HC0, hx2⟩
      · have ht1 : ((i' : Int) % 2 == 0) = false := by rw [beq_eq_false_iff_ne]; omega
        have ht3 : ((i' : Int) % 2 == 1) = true := by rw [beq_iff_eq]; omega
        have hc0 := HC.out
        rw [Tr.climb.eq_def, dif_pos hk0, if_neg (by omega)] at hc0
        match p', hc0 with
        | [], hc0 =>
          have HC0 := Lib.hid hc0
          clear hc0 HC hA
          have hlB : ((0 : Int) == 0) = true := rfl
          simp only [List.length_nil] at *
          go_wp2_with fail
          go_ret2
          refine ⟨.slice none 0 0, ?_, ?_, hx⟩
          · rw [← HC0.out]; rfl
          · intro r hr
            rw [← HC0.out] at hr
            cases hr
        | q :: p'', hc0 =>
          obtain ⟨b, off, rfl, hF, hb⟩ := hA (by simp)
          obtain ⟨b', off', u, hA', hcu, _, _, hqb⟩ := hp'.at_ (j := 0) (by simp)
          injection hA' with hA'
          injection hA' with e1 e2
          subst e1 e2
          have hcu' : wr.cell? ⟨b, off, none⟩ = some u := hcu
          have hq1 : q.length ≤ 1000 := hs' q (by simp)
          have hs'' : Short p'' := fun x hx => hs' x (by simp [hx])
          dsimp only at hc0
          rw [if_pos (by omega)] at hc0
          have HC0 := Lib.hid hc0
          have hdb := hd'
          clear hc0 HC hA hcu
          have hlB : (((q :: p'').length : Int) == 0) = false := by rw [beq_eq_false_iff_ne, List.length_cons]; omega
          have hl1 : (1 : Int) ≤ ((q :: p'').length : Int) := by rw [List.length_cons]; omega
          have hl0 : (0 : Int) < ((q :: p'').length : Int) := by rw [List.length_cons]; omega
          go_wp2_with fail
          refine (node_any wr _ _ _ _ q d' hqb hdb (by omega)).mono ?_
          rintro e w1 ⟨v1, rfl, hown1, hx1⟩
          have hx2 := hx.trans (hx1.mono hx.size)
          have hpt := (hp'.tail).map_ (w' := w1) (F' := fun k => k < w1.heap.size) (fun v n xs h => (h.below hx1).weak (fun k hk _ => hk))
          have hpt1 : c = 1 → BList w1 (fun k => k < w1.heap.size) (.slice (some ⟨b, off, none⟩) p''.length 0) p'' := fun e => by subst e; exact hpt
          have hpt2 : ¬ c = 1 → BList w1 (fun k => k < w1.heap.size) (.slice (some ⟨b, off + 1, none⟩) p''.length (c - 1)) p'' := fun e => by rw [if_neg e] at hpt; exact hpt
          clear hpt
          have hod : Bytes w1 (fun k => k < w1.heap.size) v1 _ := (OwnB.bytes hown1).weak (fun k hk _ => hk)
          go_wp2_with fail
          all_goals
            go_roundg (gk / 2)
            case measure => omega
            case rel =>
              first
                | exact ⟨_, i' / 2, p'', congrArg (Value.int .i64) (by omega), congrArg (Value.int .i64) (by omega), by omega, by omega, hod, hpt1 (by omega), by rw [Tr.length_nodeH]; omega, hs'', HC0, hx2⟩
                | exact ⟨_, i' / 2, p'', congrArg (Value.int .i64) (by omega), congrArg (Value.int .i64) (by omega), by omega, by omega, hod, hpt2 (by omega), by rw [Tr.length_nodeH]; omega, hs'', HC0, hx2⟩
    · have hk0B : decide ((0 : Int) < (gk : Int)) = false := by simp; omega
      have h0 : gk = 0 := by omega
      subst h0
      have hc0 := HC.out
      rw [Tr.climb.eq_def, dif_neg (by omega)] at hc0
      have HC0 := Lib.hid hc0
      clear hc0 HC hA
      by_cases hp0 : p' = []
      · subst hp0
        have hlB : (((([] : List Bs).length : Nat) : Int) == 0) = true := by simp
        simp only [List.length_nil] at *
        go_wp2_with fail
        go_ret2
        refine ⟨.slice A2 d'.length c2, ?_, ?_, hx⟩
        · rw [← HC0.out]; rfl
        · intro r hr
          rw [← HC0.out] at hr
          simp at hr
          subst hr
          exact ⟨hd'.weak (fun _ _ _ => trivial), hd1'⟩
      · have hlB : (((p'.length : Nat) : Int) == 0) = false := by
          rw [beq_eq_false_iff_ne]
          have := List.length_pos_iff.2 hp0
          omega
        go_wp2_with fail
        go_ret2
        refine ⟨.slice A2 d'.length c2, ?_, ?_, hx⟩
        · rw [← HC0.out, if_neg hp0]; rfl
        · intro r hr
          rw [← HC0.out, if_neg hp0] at hr
          cases hr
end Go.Proofs.Ytfdibjgmbdkbcaa

namespace Go.Proofs.Ytfdibjgmbdkbcaa
open Go.RowKit Go.Lib

/-- whether a path shows a leaf -/
def standsS (n : Int) (r b : Bs) (i : Int) (p : List Bs) : Bool :=
  decide (1 ≤ n ∧ n ≤ 100 ∧ 0 ≤ i ∧ i < n ∧ b.length ≤ 200) && (allD p && (Tr.up (Tr.leafH b) i.toNat n.toNat p == some r))
theorem standsS_no {n : Int} {r b : Bs} {i : Int} {p : List Bs} (h : ¬ (1 ≤ n ∧ n ≤ 100 ∧ 0 ≤ i ∧ i < n ∧ b.length ≤ 200)) : standsS n r b i p = false := by
  unfold standsS
  rw [decide_eq_false h]
  rfl
theorem allD_short {p : List Bs} (h : allD p = true) : Short p := fun d hd => by have := (allD_iff p).1 h d hd; omega

theorem keep2 {w' W1 W2 : World} {g : Nat} {u v : Value} (hg : g < w'.heap.size) (h : W1.cell? ⟨g, 0, none⟩ = some u ∧ W1.cell? ⟨g, 1, none⟩ = some v ∧ Below w'.heap.size w' W1) (hx : Below W1.heap.size W1 W2) :
    W2.cell? ⟨g, 0, none⟩ = some u ∧ W2.cell? ⟨g, 1, none⟩ = some v ∧ Below w'.heap.size w' W2 := by
  have h1 := h.2.2.size
  exact ⟨(hx.cell (p := ⟨g, 0, none⟩) (by show g < _; omega)).trans h.1, (hx.cell (p := ⟨g, 1, none⟩) (by show g < _; omega)).trans h.2.1, h.2.2.trans (hx.mono h1)⟩

set_option maxRecDepth 100000 in
set_option maxHeartbeats 2000000 in
theorem stands_any (w : World) (F F' F'' : Nat → Prop) (vr vb vp : Value) (n : Int) (r b : Bs) (i : Int) (p : List Bs) (hr : Bytes w F vr r) (hb : Bytes w F' vb b) (hp : BList w F'' vp p) :
    Calls Try.prog 25 #[.agg #[.int .i64 n, vr], vb, .int .i64 i, vp] w fun e w' => e = .returned (.bool (standsS n r b i p)) ∧ Below w.heap.size w w' := by
  obtain ⟨A, c, hvp, _, _, _⟩ := hp.shape
  subst hvp
  obtain ⟨A2, c2, hvb, _, hc2⟩ := hb.form'
  subst hvb
  obtain ⟨A3, c3, hvr, _, _⟩ := hr.form'
  subst hvr
  unfold maxLen at hc2
  have hx0 : Below w.heap.size w (w.alloc (.cells #[.int .i64 n, .slice A3 r.length c3] 39)) := (Below.refl _ _).alloc (Nat.le_refl _) _
  by_cases hall : 1 ≤ n ∧ n ≤ 100 ∧ 0 ≤ i ∧ i < n ∧ b.length ≤ 200
  · obtain ⟨a1, a2, a3, a4, a5⟩ := hall
    have hS : Hid (standsS n r b i p = (allD p && (Tr.up (Tr.leafH b) i.toNat n.toNat p == some r))) := Lib.hid (by unfold standsS; rw [decide_eq_true ⟨a1, a2, a3, a4, a5⟩]; rfl)
    have b1 : decide (n < 1) = false := by simp; omega
    have b2 : decide (100 < n) = false := by simp; omega
    have b3 : decide (i < 0) = false := by simp; omega
    have b4 : decide (n ≤ i) = false := by simp; omega
    have b5 : decide ((200 : Int) < (b.length : Int)) = false := by simp; omega
    have hd := digests_any (w.alloc (.cells #[.int .i64 n, .slice A3 r.length c3] 39)) F'' _ p (hp.alloc _)
    have HD := Lib.hid hd
    clear hd
    cases hal : allD p with
    | false =>
      rw [hal] at HD
      have HS : Hid (standsS n r b i p = false) := Lib.hid (by rw [hS.out, hal]; rfl)
      clear hS hal
      go_enter Try.func25, Try.ntmps25
      go_wp2_with fail
      refine HD.out.mono ?_
      rintro e w' ⟨rfl, hw⟩
      subst hw
      go_wp2_with fail
      go_ret
      exact ⟨by rw [HS.out]; rfl, hx0⟩
    | true =>
      rw [hal] at HD
      have hsp := allD_short hal
      have HS : Hid (standsS n r b i p = (Tr.up (Tr.leafH b) i.toNat n.toNat p == some r)) := Lib.hid (by rw [hS.out, hal]; rfl)
      clear hS hal
      obtain ⟨ni, hni⟩ : ∃ k : Nat, n = (k : Int) := ⟨n.toNat, by omega⟩
      obtain ⟨ii, hii⟩ : ∃ k : Nat, i = (k : Int) := ⟨i.toNat, by omega⟩
      subst hni hii
      have HS2 : Hid (standsS (ni : Int) r b (ii : Int) p = (Tr.climb (Tr.leafH b) ii (ni - 1) p == some r)) := Lib.hid (by rw [HS.out, Tr.climb_up _ _ _ _ (by omega)]; congr 2; omega)
      have b4' : decide (ni ≤ ii) = false := by simp; omega
      clear HS
      go_enter Try.func25, Try.ntmps25
      go_wp2_with fail
      refine HD.out.mono ?_
      rintro e w' ⟨rfl, hw⟩
      have hw0 : w'.cell? ⟨w.heap.size, 0, none⟩ = some (.int .i64 ni) := by rw [hw, World.cell?_alloc_mark]; rfl
      have hw1 : w'.cell? ⟨w.heap.size, 1, none⟩ = some (.slice A3 r.length c3) := by rw [hw, World.cell?_alloc_mark]; rfl
      have hbw := hb.alloc (.cells #[.int .i64 ni, .slice A3 r.length c3] 39)
      have hpw := hp.alloc (.cells #[.int .i64 ni, .slice A3 r.length c3] 39)
      have hrw := hr.alloc (.cells #[.int .i64 ni, .slice A3 r.length c3] 39)
      have hsz : w.heap.size < w'.heap.size := by rw [hw]; simp
      rw [← hw] at hx0 hbw hpw hrw
      clear hw HD
      go_wp2_with fail
      go_region_held3 (fun w'' : World => w''.cell? ⟨w.heap.size, 0, none⟩ = some (.int .i64 ni) ∧ w''.cell? ⟨w.heap.size, 1, none⟩ = some (.slice A3 r.length c3) ∧ Below w'.heap.size w' w'') (first | assumption | exact ⟨hw0, hw1, (Below.refl _ _).drew⟩)
        (first
          | ((with_reducible refine (leaf_any _ F' (.slice A2 b.length c2) b (Bytes.below hbw (by exact And.right (And.right (by assumption)))) (by omega)).mono ?_)
             rintro e w1 ⟨v1, rfl, hown1, hx1⟩
             have hS1 := keep2 hsz (by assumption) hx1)
          | ((with_reducible refine (climb_any _ _ F'' _ _ (Tr.leafH b) ii ni p (OwnB.bytes hown1) (hpw.below (by exact hS1.2.2)) (by omega) (by omega) (by omega) (by rw [Tr.length_leafH]; omega) hsp).mono ?_)
             rintro e w2 ⟨v2, rfl, hres, hx2⟩
             have hS2 := keep2 hsz hS1 hx2))
      generalize Tr.climb (Tr.leafH b) ii (ni - 1) p = o at *
      cases o with
      | none =>
        go_wp2_with fail
        go_ret
        exact ⟨by rw [HS2.out]; rfl, hx0.trans (hS2.2.2.mono hx0.size)⟩
      | some x =>
        obtain ⟨hx2, _⟩ := hres x rfl
        obtain ⟨g0, g1, g2⟩ := hS2
        have hrw2 := SlAt.below hrw g2
        clear hres hS1
        go_wp2_with fail
        refine (equal_any w2 _ _ v2 _ x r hx2 hrw2).mono ?_
        rintro e w3 ⟨rfl, rfl⟩
        go_wp2_with fail
        go_ret
        exact ⟨by rw [HS2.out]; rfl, hx0.trans (g2.mono hx0.size)⟩
  · have HS := Lib.hid (standsS_no (r := r) (p := p) hall)
    have hcase : n < 1 ∨ (¬ n < 1 ∧ 100 < n) ∨ (¬ n < 1 ∧ ¬ 100 < n ∧ i < 0) ∨ (¬ n < 1 ∧ ¬ 100 < n ∧ ¬ i < 0 ∧ n ≤ i) ∨ (¬ n < 1 ∧ ¬ 100 < n ∧ ¬ i < 0 ∧ ¬ n ≤ i ∧ (200 : Int) < (b.length : Int)) := by omega
    clear hall
    rcases hcase with h1 | ⟨h1, h2⟩ | ⟨h1, h2, h3⟩ | ⟨h1, h2, h3, h4⟩ | ⟨h1, h2, h3, h4, h5⟩
    · have b1 : decide (n < 1) = true := by simp; omega
      go_enter Try.func25, Try.ntmps25
      go_wp2_with fail
      go_ret
      exact ⟨by rw [HS.out]; rfl, hx0⟩
    · have b1 : decide (n < 1) = false := by simp; omega
      have b2 : decide (100 < n) = true := by simp; omega
      go_enter Try.func25, Try.ntmps25
      go_wp2_with fail
      go_ret
      exact ⟨by rw [HS.out]; rfl, hx0⟩
    · have b1 : decide (n < 1) = false := by simp; omega
      have b2 : decide (100 < n) = false := by simp; omega
      have b3 : decide (i < 0) = true := by simp; omega
      go_enter Try.func25, Try.ntmps25
      go_wp2_with fail
      go_ret
      exact ⟨by rw [HS.out]; rfl, hx0⟩
    · have b1 : decide (n < 1) = false := by simp; omega
      have b2 : decide (100 < n) = false := by simp; omega
      have b3 : decide (i < 0) = false := by simp; omega
      have b4 : decide (n ≤ i) = true := by simp; omega
      go_enter Try.func25, Try.ntmps25
      go_wp2_with fail
      go_ret
      exact ⟨by rw [HS.out]; rfl, hx0⟩
    · have b1 : decide (n < 1) = false := by simp; omega
      have b2 : decide (100 < n) = false := by simp; omega
      have b3 : decide (i < 0) = false := by simp; omega
      have b4 : decide (n ≤ i) = false := by simp; omega
      have b5 : decide ((200 : Int) < (b.length : Int)) = true := by simp; omega
      go_enter Try.func25, Try.ntmps25
      go_wp2_with fail
      go_ret
      exact ⟨by rw [HS.out]; rfl, hx0⟩
end Go.Proofs.Ytfdibjgmbdkbcaa

namespace Go.Proofs.Ytfdibjgmbdkbcaa
open Go.RowKit Go.Lib

/-- whether digests show that the one grew to the other -/
def grewS (m : Int) (ro : Bs) (n : Int) (rn : Bs) (p : List Bs) : Bool :=
  decide (1 ≤ m ∧ m ≤ n ∧ n ≤ 100) && (allD p && (decide (ro.length = 32) && (match Tr.two m.toNat n.toNat true ro p with
    | none => false
    | some ab => ab.1 == ro && ab.2 == rn)))
theorem grewS_no {m n : Int} {ro rn : Bs} {p : List Bs} (h : ¬ (1 ≤ m ∧ m ≤ n ∧ n ≤ 100)) : grewS m ro n rn p = false := by
  unfold grewS
  rw [decide_eq_false h]
  rfl

theorem ofInt_i64 (a : Nat) (ha : a < 9223372036854775808) : (BitVec.ofInt 64 (a : Int)).toNat = a := by
  rw [BitVec.ofInt_natCast, BitVec.toNat_ofNat]; exact Nat.mod_eq_of_lt (by omega)
theorem i64_and_nat (a b : Nat) (ha : a < 9223372036854775808) (hb : b < 9223372036854775808) : bits .and .i64 (a : Int) (b : Int) = ((a &&& b : Nat) : Int) := by
  have hx : a &&& b < 2 ^ 63 := Nat.and_lt_two_pow _ (by omega)
  show IntKind.i64.wrap ((BitVec.ofInt 64 (a : Int) &&& BitVec.ofInt 64 (b : Int)).toNat : Int) = _
  rw [BitVec.toNat_and, ofInt_i64 a ha, ofInt_i64 b hb, IntKind.wrap_i64]
  omega
theorem pow2_bits (m : Nat) (h1 : 1 ≤ m) (hm : m ≤ 100) : (bits .and .i64 (m : Int) ((m : Int) - 1) == 0) = Tr.pow2 m := by
  have e : (m : Int) - 1 = ((m - 1 : Nat) : Int) := by omega
  rw [e, i64_and_nat m (m - 1) (by omega) (by omega)]
  unfold Tr.pow2
  rw [Bool.eq_iff_iff, beq_iff_eq, beq_iff_eq]
  omega

/-- 'append([][]byte{x}, l...)' -/
theorem BList.cons_ {w' : World} {B : Nat} {v : Value} {u : Value} {x : Bs} {ll : List Bs} {vs : List Value} {n : Nat} (hn : n = ll.length + 1) (hown : Own w' B 22 1 v n ([u] ++ vs))
    (hx : Bytes w' (fun k => k < w'.heap.size) u x) (hl : ∀ (i : Nat) (b : Bs), ll[i]? = some b → ∃ u : Value, vs[i]? = some u ∧ Bytes w' (fun k => k < w'.heap.size) u b) : BList w' (fun k => k < w'.heap.size) v (x :: ll) := by
  subst hn
  refine ⟨[u] ++ vs, hown.slAt (fun k hk => (hown.lt k hk).2), fun i b hb => ?_⟩
  rcases i with _ | i
  · simp only [List.getElem?_cons_zero, Option.some.injEq] at hb
    subst hb
    exact ⟨u, rfl, hx⟩
  · exact hl i b hb
theorem blist_oneCell {w : World} {F : Nat → Prop} {ll : List Bs} {vs : List Value} (hv : vs.length = ll.length) (h : ∀ (i : Nat) (b : Bs), ll[i]? = some b → ∃ u : Value, vs[i]? = some u ∧ Bytes w F u b) : ∀ u ∈ vs, u.oneCell' = true := by
  intro u hu
  obtain ⟨i, hi, rfl⟩ := List.getElem_of_mem hu
  obtain ⟨u', hu', hb⟩ := h i ll[i] (List.getElem?_eq_getElem (by omega))
  rw [List.getElem?_eq_getElem hi] at hu'
  injection hu' with hu'
  obtain ⟨A, c, hv⟩ := hb.form
  rw [hu', hv]
  rfl

set_option maxRecDepth 100000 in
set_option maxHeartbeats 4000000 in
theorem grew_any (w : World) (F F' F'' : Nat → Prop) (vo vn vp : Value) (m n : Int) (ro rn : Bs) (p : List Bs) (hro : Bytes w F vo ro) (hrn : Bytes w F' vn rn) (hp : BList w F'' vp p) (hreach : p.length ≤ 5864062014634) :
    Calls Try.prog 27 #[.agg #[.int .i64 m, vo], .agg #[.int .i64 n, vn], vp] w fun e w' => e = .returned (.bool (grewS m ro n rn p)) ∧ Below w.heap.size w w' := by
  obtain ⟨i0, hi, hz0, hz1, hz2⟩ := info_parts info_bytes
  obtain ⟨A, c, hvp, hpc, hcm, _⟩ := hp.shape
  subst hvp
  obtain ⟨A2, c2, hvo, _, hc2⟩ := hro.form'
  subst hvo
  obtain ⟨A3, c3, hvn, _, _⟩ := hrn.form'
  subst hvn
  unfold maxLen at hc2 hcm
  obtain ⟨W, hW⟩ : ∃ W, W = (w.alloc (.cells #[.int .i64 m, .slice A2 ro.length c2] 39)).alloc (.cells #[.int .i64 n, .slice A3 rn.length c3] 39) := ⟨_, rfl⟩
  have hx0 : Below w.heap.size w W := by rw [hW]; exact ((Below.refl _ _).alloc (Nat.le_refl _) _).alloc (by simp) _
  have hroW : Bytes W F (.slice A2 ro.length c2) ro := by rw [hW]; exact (hro.alloc _).alloc _
  have hrnW : Bytes W F' (.slice A3 rn.length c3) rn := by rw [hW]; exact (hrn.alloc _).alloc _
  have hpW : BList W F'' (.slice A p.length c) p := by rw [hW]; exact (hp.alloc _).alloc _
  have hbo : Blk W w.heap.size 39 #[.int .i64 m, .slice A2 ro.length c2] := by rw [hW]; exact Blk.alloc (heap_alloc_new w _) _
  have hbn : Blk W (w.heap.size + 1) 39 #[.int .i64 n, .slice A3 rn.length c3] := by rw [hW]; have := heap_alloc_new (w.alloc (.cells #[.int .i64 m, .slice A2 ro.length c2] 39)) (.cells #[.int .i64 n, .slice A3 rn.length c3] 39); rwa [World.size_alloc] at this
  have hWs : w.heap.size + 1 < W.heap.size := by rw [hW]; simp
  by_cases hall : 1 ≤ m ∧ m ≤ n ∧ n ≤ 100
  · obtain ⟨a1, a2, a3⟩ := hall
    have hS : Hid (grewS m ro n rn p = (allD p && (decide (ro.length = 32) && (match Tr.two m.toNat n.toNat true ro p with | none => false | some ab => ab.1 == ro && ab.2 == rn)))) := Lib.hid (by unfold grewS; rw [decide_eq_true ⟨a1, a2, a3⟩]; rfl)
    have b1 : decide (m < 1) = false := by simp; omega
    have b2 : decide (n < m) = false := by simp; omega
    have b3 : decide (100 < n) = false := by simp; omega
    have hd := digests_any W F'' _ p hpW
    have HD := Lib.hid hd
    clear hd
    cases hal : allD p with
    | false =>
      rw [hal] at HD
      have HS : Hid (grewS m ro n rn p = false) := Lib.hid (by rw [hS.out, hal]; rfl)
      have HW := Lib.hid hW
      clear hS hal hW
      go_enter Try.func27, Try.ntmps27
      go_wp2_with fail
      rw [← HW.out]
      refine HD.out.mono ?_
      rintro e w' ⟨rfl, hw⟩
      subst hw
      go_wp2_with fail
      go_ret
      exact ⟨by rw [HS.out]; rfl, hx0⟩
    | true =>
      rw [hal] at HD
      by_cases h32 : ro.length = 32
      · have b4 : ((ro.length : Int) != 32) = false := by rw [bne_eq_false_iff_eq]; omega
        have hsp := allD_short hal
        have HS : Hid (grewS m ro n rn p = (match Tr.two m.toNat n.toNat true ro p with | none => false | some ab => ab.1 == ro && ab.2 == rn)) := Lib.hid (by rw [hS.out, hal, decide_eq_true h32]; rfl)
        have H32 := Lib.hid h32
        clear hS hal h32
        obtain ⟨ni, hni⟩ : ∃ k : Nat, n = (k : Int) := ⟨n.toNat, by omega⟩
        obtain ⟨mi, hmi⟩ : ∃ k : Nat, m = (k : Int) := ⟨m.toNat, by omega⟩
        subst hni hmi
        simp only [Int.toNat_natCast] at HS
        have b2' : decide (ni < mi) = false := by simp; omega
        have HW := Lib.hid hW
        have e0 : W.cell? ⟨w.heap.size, 0, none⟩ = some (.int .i64 mi) := hbo.cell 0
        have e1 : W.cell? ⟨w.heap.size, 1, none⟩ = some (.slice A2 ro.length c2) := hbo.cell 1
        have e2 : W.cell? ⟨w.heap.size + 1, 0, none⟩ = some (.int .i64 ni) := hbn.cell 0
        have e3 : W.cell? ⟨w.heap.size + 1, 1, none⟩ = some (.slice A3 rn.length c3) := hbn.cell 1
        clear hW
        go_enter Try.func27, Try.ntmps27
        go_wp2_with fail
        rw [← HW.out]
        refine HD.out.mono ?_
        rintro e w' ⟨rfl, hw⟩
        subst hw
        clear HD
        by_cases heq : mi = ni
        · subst heq
          have h2 := HS.out
          rw [Tr.two_whole (by omega)] at h2
          have b5 : ((mi : Int) == (mi : Int)) = true := by simp
          by_cases hp0 : p = []
          · subst hp0
            have HF : Hid (grewS (mi : Int) ro (mi : Int) rn [] = (ro == rn)) := Lib.hid (by rw [h2]; simp)
            have hq := equal_any w' _ _ _ _ ro rn hroW hrnW
            have HQ := Lib.hid hq
            have hz : ((0 : Int) == 0) = true := rfl
            simp only [List.length_nil] at *
            clear h2 HS hq
            go_wp2_with fail
            refine HQ.out.mono ?_
            rintro e w2 ⟨rfl, hw⟩
            subst hw
            go_wp2_with fail
            go_ret
            exact ⟨by rw [HF.out]; rfl, hx0⟩
          · have HF : Hid (grewS (mi : Int) ro (mi : Int) rn p = false) := Lib.hid (by rw [h2, if_neg hp0])
            have hz : ((p.length : Int) == 0) = false := by rw [beq_eq_false_iff_ne]; have := List.length_pos_iff.2 hp0; omega
            clear h2 HS hp0
            go_wp2_with fail
            go_ret
            exact ⟨by rw [HF.out]; rfl, hx0⟩
        · have b5 : ((mi : Int) == (ni : Int)) = false := by rw [beq_eq_false_iff_ne]; omega
          have hlt : mi < ni := by omega
          have hq := Tr.grew2_whole mi ni ro p (by omega) hlt (by omega)
          have hpb := pow2_bits mi (by omega) (by omega)
          have hsq : Short (if Tr.pow2 mi = true then ro :: p else p) := by
            split
            · intro x hx
              rcases List.mem_cons.1 hx with h | h
              · subst h; have := H32.out; omega
              · exact hsp x h
            · exact hsp
          obtain ⟨q, hqd⟩ : ∃ q, q = (if Tr.pow2 mi = true then ro :: p else p) := ⟨_, rfl⟩
          rw [← hqd] at hq hsq
          rw [← hq] at HS
          have HB := Lib.hid hpb
          have HQ := Lib.hid hqd
          clear hq hpb hqd heq
          go_upto_if 60 with (fail)
          go_cut [2] (fun v w2 => BList w2 (fun k => k < w2.heap.size) v q ∧ Below w'.heap.size w' w2)
          case first =>
            cases hb : Tr.pow2 mi with
            | true =>
              have hbB := HB.out
              rw [hb] at hbB
              have hqq : q = ro :: p := by rw [HQ.out, hb]; rfl
              have HQQ := Lib.hid hqq
              obtain ⟨vs, hvs1, hvs2⟩ := hpW
              have hown := Own.new w' w'.heap.size 22 [.slice A2 ro.length c2] 1 rfl (by decide) (Nat.le_refl _)
              have hxn := (Below.refl w'.heap.size w').alloc (Nat.le_refl _) (.cells #[.slice A2 ro.length c2] 22)
              have hsrc := hvs1.alloc (.cells #[.slice A2 ro.length c2] 22)
              have hvl : vs.length = p.length := by obtain ⟨_, _, _, _, _, h, _⟩ := hvs1; omega
              have hone := blist_oneCell hvl hvs2
              have HVL := Lib.hid hvl
              clear hb hqq hvl
              go_wp2_with (at_builtin
                           refine wpList_append_Own _ rfl (.tmp 63) (.tmp 64) 40 rfl w'.heap.size 22 i0 _ 1 24 Try.underlying40 hi hz0 hz1 hz2 rfl (by omega) (.slice (some ⟨w'.heap.size, 0, none⟩) 1 1) 1 [.slice A2 ro.length c2] (by rfl) hown F'' (.slice A p.length c) p.length vs (by rfl) hsrc hone (by simp only [maxLen]; omega) (by omega) (by simp) ?_
                           intro v1 w1 hown1 hgr1 hat1
                           have hx2 : Below w'.heap.size w' w1 := hxn.grown hgr1 hxn.size (fun k hk => (hown.lt k hk).1))
              go_meet
              refine ⟨?_, hx2⟩
              rw [HQQ.out]
              refine BList.cons_ (by omega) hown1 ((hroW.below hx2).weak (fun k hk _ => hk)) (fun i b hb => ?_)
              obtain ⟨u, hu, hub⟩ := hvs2 i b hb
              exact ⟨u, hu, (hub.below hx2).weak (fun k hk _ => hk)⟩
            | false =>
              have hbB := HB.out
              rw [hb] at hbB
              have hqq : q = p := by rw [HQ.out, hb]; rfl
              have HQQ := Lib.hid hqq
              clear hb hqq
              go_wp2_with fail
              go_meet
              exact ⟨by rw [HQQ.out]; exact hpW.weak (fun k hk _ => hk), Below.refl _ _⟩
          case rest =>
            obtain ⟨hqb, hxq⟩ := hcut
            have hws : w.heap.size + 1 < wc.heap.size := by have := hxq.size; omega
            have e0' : wc.cell? ⟨w.heap.size, 0, none⟩ = some (.int .i64 mi) := (hxq.cell (p := ⟨w.heap.size, 0, none⟩) (by show w.heap.size < _; omega)).trans e0
            have e1' : wc.cell? ⟨w.heap.size, 1, none⟩ = some (.slice A2 ro.length c2) := (hxq.cell (p := ⟨w.heap.size, 1, none⟩) (by show w.heap.size < _; omega)).trans e1
            have e2' : wc.cell? ⟨w.heap.size + 1, 0, none⟩ = some (.int .i64 ni) := (hxq.cell (p := ⟨w.heap.size + 1, 0, none⟩) (by show w.heap.size + 1 < _; omega)).trans e2
            have e3' : wc.cell? ⟨w.heap.size + 1, 1, none⟩ = some (.slice A3 rn.length c3) := (hxq.cell (p := ⟨w.heap.size + 1, 1, none⟩) (by show w.heap.size + 1 < _; omega)).trans e3
            have hroC := hroW.below hxq
            have hrnC := hrnW.below hxq
            have hxw : Below w.heap.size w wc := hx0.trans (hxq.mono hx0.size)
            obtain ⟨A4, c4, hv4, hqc, hcm4, hA4⟩ := hqb.shape
            subst hv4
            unfold maxLen at hcm4
            clear e0 e1 e2 e3 hbo hbn hpW hroW hrnW hx0 hxq HB HQ HW
            match q, hqb with
            | [], hqb =>
              have HS2 : Hid (grewS (mi : Int) ro (ni : Int) rn p = false) := Lib.hid (by rw [HS.out]; rfl)
              clear HS hA4
              simp only [List.length_nil] at *
              have hz : ((0 : Int) == 0) = true := rfl
              go_wp2_with fail
              go_ret
              exact ⟨by rw [HS2.out]; rfl, hxw⟩
            | x :: q', hqb =>
              obtain ⟨b, off, rfl, hF4, hb4⟩ := hA4 (by simp)
              obtain ⟨b', off', u, hA', hcu, _, _, hub⟩ := hqb.at_ (j := 0) (by simp)
              injection hA' with hA'
              injection hA' with g1 g2
              subst g1 g2
              have hcu' : wc.cell? ⟨b, off, none⟩ = some u := hcu
              have hx1k : x.length ≤ 1000 := hsq x (by simp)
              have hsq' : Short q' := fun y hy => hsq y (by simp [hy])
              have hlB : (((x :: q').length : Int) == 0) = false := by rw [beq_eq_false_iff_ne, List.length_cons]; omega
              have hl1 : (1 : Int) ≤ ((x :: q').length : Int) := by rw [List.length_cons]; omega
              have hl0 : (0 : Int) < ((x :: q').length : Int) := by rw [List.length_cons]; omega
              have hHS : Hid (grewS (mi : Int) ro (ni : Int) rn p = match Tr.climb2 (x, x) (Tr.strip (mi - 1) (ni - 1)).1 (Tr.strip (mi - 1) (ni - 1)).2 q' with | none => false | some ab => ab.1 == ro && ab.2 == rn) := Lib.hid (by rw [HS.out]; rfl)
              have htl := hqb.tail
              have hqc' : (q'.length + 1 : Int) ≤ (c4 : Int) := by simp only [List.length_cons] at hqc; omega
              clear HS hA4 hcu
              go_wp2_with fail
              go_quiet (fail)
              go_wp2_with fail
              go_loopg [7, 8] (mi - 1) (fun k ui ul wr => ui = .int .i64 (k : Int) ∧ ∃ l' : Nat, ul = .int .i64 (l' : Int) ∧ k ≤ 100 ∧ l' ≤ 100 ∧ Hid (Tr.strip k l' = Tr.strip (mi - 1) (ni - 1)) ∧ wr = wc.drewN nq)
              case atStart => exact ⟨congrArg (Value.int .i64) (by omega), ni - 1, congrArg (Value.int .i64) (by omega), by omega, by omega, Lib.hid rfl, rfl⟩
              case round =>
                obtain ⟨rfl, l', rfl, hk1, hl1', HST, rfl⟩ := hrel
                by_cases hodd : gk % 2 = 1
                · have t1 : ((gk : Int) % 2 == 1) = true := by rw [beq_iff_eq]; omega
                  have hst := HST.out
                  rw [Tr.strip_odd hodd] at hst
                  have HST2 := Lib.hid hst
                  clear hst
                  go_wp2_with fail
                  go_roundg (gk / 2)
                  case measure => omega
                  case rel => exact ⟨congrArg (Value.int .i64) (by omega), l' / 2, congrArg (Value.int .i64) (by omega), by omega, by omega, HST2, rfl⟩
                · have t1 : ((gk : Int) % 2 == 1) = false := by rw [beq_eq_false_iff_ne]; omega
                  have hst := HST.out
                  rw [Tr.strip_even hodd] at hst
                  have HS3 : Hid (grewS (mi : Int) ro (ni : Int) rn p = match Tr.climb2 (x, x) gk l' q' with | none => false | some ab => ab.1 == ro && ab.2 == rn) := Lib.hid (by have h := hHS.out; rw [← hst] at h; exact h)
                  clear hst HST hHS
                  go_wp2_with fail
                  go_quiet (fail)
                  go_upto_region 13 with (fail)
                  go_cut [89, 90, 91] (fun s ll jj w2 => BList w2 (fun k => k < w2.heap.size) s q' ∧ ll = .int .i64 (q'.length : Int) ∧ jj = .int .i64 0 ∧ ∃ t : Nat, w2 = wc.drewN t)
                  case first =>
                    by_cases hc4 : c4 = 1
                    · have htl1 : BList wc (fun k => k < wc.heap.size) (.slice (some ⟨b, off, none⟩) q'.length 0) q' := by subst hc4; exact htl
                      have hq0 : q'.length = 0 := by omega
                      have hc4B : ((c4 : Int) == 1) = true := by rw [beq_iff_eq]; omega
                      clear htl hq0
                      subst hc4
                      go_wp2_with fail
                      go_meet
                      exact ⟨htl1, rfl, rfl, _, rfl⟩
                    · have htl1 : BList wc (fun k => k < wc.heap.size) (.slice (some ⟨b, off + 1, none⟩) q'.length (c4 - 1)) q' := by rw [if_neg hc4] at htl; exact htl
                      have hc4B : ((c4 : Int) == 1) = false := by rw [beq_eq_false_iff_ne]; omega
                      clear htl
                      go_wp2_with fail
                      go_meet
                      exact ⟨htl1, rfl, rfl, _, rfl⟩
                  case rest =>
                    obtain ⟨hqt0, rfl, rfl, t, rfl⟩ := hcut
                    have hqt : BList wc (fun k => k < wc.heap.size) _ q' := hqt0
                    clear hqt0
                    obtain ⟨A5, c5, hv5, hqc5, hcm5, hA5⟩ := hqt.shape
                    subst hv5
                    unfold maxLen at hcm5
                    have hub1 : Bytes (wc.drewN t) (fun k => k < wc.heap.size) u x := hub
                    obtain ⟨s1, hs1⟩ : ∃ s, s = gk := ⟨_, rfl⟩
                    obtain ⟨s2, hs2⟩ : ∃ s, s = l' := ⟨_, rfl⟩
                    rw [← hs1, ← hs2] at HS3
                    have HS1 := Lib.hid hs1
                    have HS2 := Lib.hid hs2
                    have hq63 : q'.length ≤ 9223372036854775806 := by omega
                    clear hs1 hs2 htl hcu' hub
                    go_wp2_with fail
                    go_loopg [7, 8, 9, 10, 91] q'.length (fun k ui ul ua ub uj wr => ∃ (i l : Nat) (a b' : Bs) (j : Nat), j + k = q'.length ∧ ui = .int .i64 (i : Int) ∧ ul = .int .i64 (l : Int) ∧ uj = .int .i64 (j : Int) ∧ i ≤ 100 ∧ l ≤ 100 ∧
                      Bytes wr (fun k => k < wr.heap.size) ua a ∧ Bytes wr (fun k => k < wr.heap.size) ub b' ∧ a.length ≤ 1000 ∧ b'.length ≤ 1000 ∧ Hid (Tr.climb2 (a, b') i l (q'.drop j) = Tr.climb2 (x, x) s1 s2 q') ∧ Below wc.heap.size wc wr)
                    case atStart => exact ⟨gk, l', x, x, 0, by omega, rfl, rfl, rfl, by omega, by omega, hub1, hub1, hx1k, hx1k, Lib.hid (by rw [HS1.out, HS2.out]; rfl), below_drewN (Below.refl _ _) t⟩
                    case round =>
                      clear hub1 HS1 HS2
                      generalize gk = gk0 at *
                      obtain ⟨i, l, a, b', j, hj, rfl, rfl, rfl, hi1, hl1', hab, hbb, ha1, hb1, HC, hxr⟩ := hrel
                      have hwr := hxr.size
                      have f1' : wr.cell? ⟨w.heap.size, 1, none⟩ = some (.slice A2 ro.length c2) := (hxr.cell (p := ⟨w.heap.size, 1, none⟩) (by show w.heap.size < _; omega)).trans e1'
                      have f3' : wr.cell? ⟨w.heap.size + 1, 1, none⟩ = some (.slice A3 rn.length c3) := (hxr.cell (p := ⟨w.heap.size + 1, 1, none⟩) (by show w.heap.size + 1 < _; omega)).trans e3'
                      obtain ⟨Aa, ca, hva, _, _⟩ := hab.form'
                      subst hva
                      obtain ⟨Ab, cb, hvb, _, _⟩ := hbb.form'
                      subst hvb
                      clear e0' e1' e2' e3'
                      by_cases hjl : j < q'.length
                      · obtain ⟨b5, off5, u5, hA6, hcu, _, hb5, hub⟩ := hqt.at_ hjl
                        subst hA6
                        have hcd := (hxr.cell (p := ⟨b5, off5 + j, none⟩) hb5).trans hcu
                        have hdb : Bytes wr (fun k => k < wr.heap.size) u5 q'[j] := (hub.below hxr).weak (fun k hk _ => hk)
                        have hd1 : q'[j].length ≤ 1000 := hsq' _ (List.getElem_mem hjl)
                        have hdr : q'.drop j = q'[j] :: q'.drop (j + 1) := List.drop_eq_getElem_cons hjl
                        have hjB : (j : Int) < (q'.length : Int) := by omega
                        generalize q'[j] = d at *
                        have HD := Lib.hid hdr
                        clear hdr hcu hub
                        by_cases hl : l = 0
                        · have HF : Hid (grewS (mi : Int) ro (ni : Int) rn p = false) := Lib.hid (by rw [HS3.out, ← HC.out, HD.out, Tr.climb2, if_pos hl])
                          have t1 : ((l : Int) == 0) = true := by rw [beq_iff_eq]; omega
                          clear hl HC HS3
                          go_wp2_with fail
                          go_ret
                          exact ⟨by rw [HF.out]; rfl, hxw.trans (hxr.mono hxw.size)⟩
                        · have t0 : ((l : Int) == 0) = false := by rw [beq_eq_false_iff_ne]; omega
                          have hcase : i % 2 = 1 ∨ (¬ i % 2 = 1 ∧ i = l) ∨ (¬ i % 2 = 1 ∧ ¬ i = l) := by omega
                          rcases hcase with ho | ⟨ho, he⟩ | ⟨ho, he⟩
                          · have t3 : ((i : Int) % 2 == 1) = true := by rw [beq_iff_eq]; omega
                            have hc1 : Hid (Tr.climb2 (Tr.nodeH d a, Tr.nodeH d b') ((Tr.strip0 i l).1 / 2) ((Tr.strip0 i l).2 / 2) (q'.drop (j + 1)) = Tr.climb2 (x, x) s1 s2 q') := Lib.hid (by rw [← HC.out, HD.out, Tr.climb2, if_neg (by omega), if_pos (by omega)]; rfl)
                            clear ho hl
                            try clear he
                            have hn1 := node_any wr _ _ _ _ d a hdb hab (by omega)
                            go_wp2_with fail
                            refine hn1.mono ?_
                            rintro e w5 ⟨va, rfl, howna, hx5⟩
                            have hbb5 := hbb.below hx5
                            have hdb5 := hdb.below hx5
                            go_wp2_with fail
                            refine (node_any w5 _ _ _ _ d b' hdb5 hbb5 (by omega)).mono ?_
                            rintro e w6 ⟨vb, rfl, hownb, hx6⟩
                            have hA6 : Bytes w6 (fun k => k < w6.heap.size) va (Tr.nodeH d a) := ((OwnB.bytes howna).below hx6).weak (fun k hk _ => hk)
                            have hB6 : Bytes w6 (fun k => k < w6.heap.size) vb (Tr.nodeH d b') := (OwnB.bytes hownb).weak (fun k hk _ => hk)
                            have hx6' := (hxr.trans (hx5.mono hxr.size)).trans (hx6.mono (by have := hxr.size; have := hx5.size; omega))
                            clear hx5 hx6 hbb5 hdb5
                            go_wp2_with fail
                            go_loopg [7, 8] i (fun k ui ul wr => ui = .int .i64 (k : Int) ∧ ∃ l' : Nat, ul = .int .i64 (l' : Int) ∧ k ≤ 100 ∧ l' ≤ 100 ∧ Hid (Tr.strip0 k l' = Tr.strip0 i l) ∧ wr = w6)
                            case atStart => exact ⟨rfl, l, rfl, by omega, by omega, Lib.hid rfl, rfl⟩
                            case round =>
                              obtain ⟨rfl, l', rfl, hk1, hl1, HST, rfl⟩ := hrel
                              by_cases hgo : gk % 2 = 0 ∧ 0 < gk
                              · have t1 : ((gk : Int) % 2 == 0) = true := by rw [beq_iff_eq]; omega
                                have t2 : (0 : Int) < (gk : Int) := by omega
                                have hst := HST.out
                                rw [Tr.strip0_even hgo] at hst
                                have HST2 := Lib.hid hst
                                clear hst
                                go_wp2_with fail
                                go_roundg (gk / 2)
                                case measure => omega
                                case rel => exact ⟨congrArg (Value.int .i64) (by omega), l' / 2, congrArg (Value.int .i64) (by omega), by omega, by omega, HST2, rfl⟩
                              · have hst := HST.out
                                rw [Tr.strip0_odd hgo] at hst
                                have HCN : Hid (Tr.climb2 (Tr.nodeH d a, Tr.nodeH d b') (gk / 2) (l' / 2) (q'.drop (j + 1)) = Tr.climb2 (x, x) s1 s2 q') := Lib.hid (by have h := hc1.out; rw [← hst] at h; exact h)
                                clear hst
                                have hgo' : gk % 2 = 1 ∨ (gk % 2 = 0 ∧ gk = 0) := by omega
                                clear hgo
                                rcases hgo' with h1 | ⟨h1, h2⟩
                                · have t1 : ((gk : Int) % 2 == 0) = false := by rw [beq_eq_false_iff_ne]; omega
                                  go_wp2_with fail
                                  go_roundg (gk0 - 1)
                                  case measure => omega
                                  case rel => exact ⟨gk / 2, l' / 2, _, _, j + 1, by omega, congrArg (Value.int .i64) (by omega), congrArg (Value.int .i64) (by omega), by go_num, by omega, by omega, hA6, hB6, by rw [Tr.length_nodeH]; omega, by rw [Tr.length_nodeH]; omega, HCN, hx6'⟩
                                · subst h2
                                  have t1 : (((0 : Nat) : Int) % 2 == 0) = true := rfl
                                  go_wp2_with fail
                                  go_roundg (gk0 - 1)
                                  case measure => omega
                                  case rel => exact ⟨0, l' / 2, _, _, j + 1, by omega, by simp, congrArg (Value.int .i64) (by omega), by go_num, by omega, by omega, hA6, hB6, by rw [Tr.length_nodeH]; omega, by rw [Tr.length_nodeH]; omega, HCN, hx6'⟩
                          · have t3 : ((i : Int) % 2 == 1) = false := by rw [beq_eq_false_iff_ne]; omega
                            have t4 : ((i : Int) == (l : Int)) = true := by rw [beq_iff_eq]; omega
                            have hc1 : Hid (Tr.climb2 (Tr.nodeH d a, Tr.nodeH d b') ((Tr.strip0 i l).1 / 2) ((Tr.strip0 i l).2 / 2) (q'.drop (j + 1)) = Tr.climb2 (x, x) s1 s2 q') := Lib.hid (by rw [← HC.out, HD.out, Tr.climb2, if_neg (by omega), if_pos (by omega)]; rfl)
                            clear ho hl
                            try clear he
                            have hn1 := node_any wr _ _ _ _ d a hdb hab (by omega)
                            go_wp2_with fail
                            refine hn1.mono ?_
                            rintro e w5 ⟨va, rfl, howna, hx5⟩
                            have hbb5 := hbb.below hx5
                            have hdb5 := hdb.below hx5
                            go_wp2_with fail
                            refine (node_any w5 _ _ _ _ d b' hdb5 hbb5 (by omega)).mono ?_
                            rintro e w6 ⟨vb, rfl, hownb, hx6⟩
                            have hA6 : Bytes w6 (fun k => k < w6.heap.size) va (Tr.nodeH d a) := ((OwnB.bytes howna).below hx6).weak (fun k hk _ => hk)
                            have hB6 : Bytes w6 (fun k => k < w6.heap.size) vb (Tr.nodeH d b') := (OwnB.bytes hownb).weak (fun k hk _ => hk)
                            have hx6' := (hxr.trans (hx5.mono hxr.size)).trans (hx6.mono (by have := hxr.size; have := hx5.size; omega))
                            clear hx5 hx6 hbb5 hdb5
                            go_wp2_with fail
                            go_loopg [7, 8] i (fun k ui ul wr => ui = .int .i64 (k : Int) ∧ ∃ l' : Nat, ul = .int .i64 (l' : Int) ∧ k ≤ 100 ∧ l' ≤ 100 ∧ Hid (Tr.strip0 k l' = Tr.strip0 i l) ∧ wr = w6)
                            case atStart => exact ⟨rfl, l, rfl, by omega, by omega, Lib.hid rfl, rfl⟩
                            case round =>
                              obtain ⟨rfl, l', rfl, hk1, hl1, HST, rfl⟩ := hrel
                              by_cases hgo : gk % 2 = 0 ∧ 0 < gk
                              · have t1 : ((gk : Int) % 2 == 0) = true := by rw [beq_iff_eq]; omega
                                have t2 : (0 : Int) < (gk : Int) := by omega
                                have hst := HST.out
                                rw [Tr.strip0_even hgo] at hst
                                have HST2 := Lib.hid hst
                                clear hst
                                go_wp2_with fail
                                go_roundg (gk / 2)
                                case measure => omega
                                case rel => exact ⟨congrArg (Value.int .i64) (by omega), l' / 2, congrArg (Value.int .i64) (by omega), by omega, by omega, HST2, rfl⟩
                              · have hst := HST.out
                                rw [Tr.strip0_odd hgo] at hst
                                have HCN : Hid (Tr.climb2 (Tr.nodeH d a, Tr.nodeH d b') (gk / 2) (l' / 2) (q'.drop (j + 1)) = Tr.climb2 (x, x) s1 s2 q') := Lib.hid (by have h := hc1.out; rw [← hst] at h; exact h)
                                clear hst
                                have hgo' : gk % 2 = 1 ∨ (gk % 2 = 0 ∧ gk = 0) := by omega
                                clear hgo
                                rcases hgo' with h1 | ⟨h1, h2⟩
                                · have t1 : ((gk : Int) % 2 == 0) = false := by rw [beq_eq_false_iff_ne]; omega
                                  go_wp2_with fail
                                  go_roundg (gk0 - 1)
                                  case measure => omega
                                  case rel => exact ⟨gk / 2, l' / 2, _, _, j + 1, by omega, congrArg (Value.int .i64) (by omega), congrArg (Value.int .i64) (by omega), by go_num, by omega, by omega, hA6, hB6, by rw [Tr.length_nodeH]; omega, by rw [Tr.length_nodeH]; omega, HCN, hx6'⟩
                                · subst h2
                                  have t1 : (((0 : Nat) : Int) % 2 == 0) = true := rfl
                                  go_wp2_with fail
                                  go_roundg (gk0 - 1)
                                  case measure => omega
                                  case rel => exact ⟨0, l' / 2, _, _, j + 1, by omega, by simp, congrArg (Value.int .i64) (by omega), by go_num, by omega, by omega, hA6, hB6, by rw [Tr.length_nodeH]; omega, by rw [Tr.length_nodeH]; omega, HCN, hx6'⟩
                          · have t3 : ((i : Int) % 2 == 1) = false := by rw [beq_eq_false_iff_ne]; omega
                            have t4 : ((i : Int) == (l : Int)) = false := by rw [beq_eq_false_iff_ne]; omega
                            have HCN : Hid (Tr.climb2 (a, Tr.nodeH b' d) (i / 2) (l / 2) (q'.drop (j + 1)) = Tr.climb2 (x, x) s1 s2 q') := Lib.hid (by rw [← HC.out, HD.out, Tr.climb2, if_neg hl, if_neg (by omega)]; rfl)
                            clear ho he hl HC HS3
                            go_wp2_with fail
                            refine (node_any wr _ _ _ _ b' d hbb hdb (by omega)).mono ?_
                            rintro e w5 ⟨vb, rfl, hownb, hx5⟩
                            have hab5 : Bytes w5 (fun k => k < w5.heap.size) _ a := (hab.below hx5).weak (fun k hk _ => hk)
                            have hbb5 : Bytes w5 (fun k => k < w5.heap.size) vb (Tr.nodeH b' d) := (OwnB.bytes hownb).weak (fun k hk _ => hk)
                            have hx6 := hxr.trans (hx5.mono hwr)
                            go_wp2_with fail
                            go_roundg (gk0 - 1)
                            case measure => omega
                            case rel => exact ⟨i / 2, l / 2, _, _, j + 1, by omega, congrArg (Value.int .i64) (by omega), congrArg (Value.int .i64) (by omega), by go_num, by omega, by omega, hab5, hbb5, ha1, by rw [Tr.length_nodeH]; omega, HCN, hx6⟩
                      · have hjB : decide ((j : Int) < (q'.length : Int)) = false := by simp; omega
                        have hc := HC.out
                        rw [List.drop_of_length_le (by omega), Tr.climb2] at hc
                        by_cases hl : l = 0
                        · rw [if_pos hl] at hc
                          have HF : Hid (grewS (mi : Int) ro (ni : Int) rn p = (a == ro && b' == rn)) := Lib.hid (by rw [HS3.out, ← hc])
                          have t1 : ((l : Int) == 0) = true := by rw [beq_iff_eq]; omega
                          have q1 := equal_any wr _ _ _ _ a ro hab (hroC.below hxr)
                          have q2 := equal_any wr _ _ _ _ b' rn hbb (hrnC.below hxr)
                          clear hl HC HS3 hc
                          cases heqa : (a == ro) with
                          | false =>
                            rw [heqa] at q1 HF
                            have HQ1 := Lib.hid q1
                            clear q1 q2 heqa
                            go_wp2_with fail
                            refine HQ1.out.mono ?_
                            rintro e w' ⟨rfl, hw⟩
                            subst hw
                            go_wp2_with fail
                            go_ret
                            exact ⟨by rw [HF.out]; rfl, hxw.trans (hxr.mono hxw.size)⟩
                          | true =>
                            rw [heqa] at q1 HF
                            have HQ1 := Lib.hid q1
                            have HQ2 := Lib.hid q2
                            clear q1 q2 heqa
                            go_wp2_with fail
                            refine HQ1.out.mono ?_
                            rintro e w' ⟨rfl, hw⟩
                            subst hw
                            go_wp2_with fail
                            refine HQ2.out.mono ?_
                            rintro e w' ⟨rfl, hw⟩
                            subst hw
                            go_wp2_with fail
                            go_ret
                            exact ⟨by rw [HF.out]; rfl, hxw.trans (hxr.mono hxw.size)⟩
                        · rw [if_neg hl] at hc
                          have HF : Hid (grewS (mi : Int) ro (ni : Int) rn p = false) := Lib.hid (by rw [HS3.out, ← hc])
                          have t1 : ((l : Int) == 0) = false := by rw [beq_eq_false_iff_ne]; omega
                          clear hl HC HS3 hc
                          go_wp2_with fail
                          go_ret
                          exact ⟨by rw [HF.out]; rfl, hxw.trans (hxr.mono hxw.size)⟩
      · have b4 : ((ro.length : Int) != 32) = true := by rw [bne_iff_ne]; omega
        have HS : Hid (grewS m ro n rn p = false) := Lib.hid (by rw [hS.out, hal, decide_eq_false h32]; rfl)
        have e1 : W.cell? ⟨w.heap.size, 1, none⟩ = some (.slice A2 ro.length c2) := hbo.cell 1
        have HW := Lib.hid hW
        clear hS hal h32 hW
        go_enter Try.func27, Try.ntmps27
        go_wp2_with fail
        rw [← HW.out]
        refine HD.out.mono ?_
        rintro e w' ⟨rfl, hw⟩
        subst hw
        go_wp2_with fail
        go_ret
        exact ⟨by rw [HS.out]; rfl, hx0⟩
  · have HS := Lib.hid (grewS_no (ro := ro) (rn := rn) (p := p) hall)
    have hcase : m < 1 ∨ (¬ m < 1 ∧ n < m) ∨ (¬ m < 1 ∧ ¬ n < m ∧ 100 < n) := by omega
    clear hall
    have HW := Lib.hid hW
    clear hW
    rcases hcase with h1 | ⟨h1, h2⟩ | ⟨h1, h2, h3⟩
    · have b1 : decide (m < 1) = true := by simp; omega
      go_enter Try.func27, Try.ntmps27
      go_wp2_with fail
      go_ret
      exact ⟨by rw [HS.out]; rfl, by rw [← HW.out]; exact hx0⟩
    · have b1 : decide (m < 1) = false := by simp; omega
      have b2 : decide (n < m) = true := by simp; omega
      go_enter Try.func27, Try.ntmps27
      go_wp2_with fail
      go_ret
      exact ⟨by rw [HS.out]; rfl, by rw [← HW.out]; exact hx0⟩
    · have b1 : decide (m < 1) = false := by simp; omega
      have b2 : decide (n < m) = false := by simp; omega
      have b3 : decide (100 < n) = true := by simp; omega
      go_enter Try.func27, Try.ntmps27
      go_wp2_with fail
      go_ret
      exact ⟨by rw [HS.out]; rfl, by rw [← HW.out]; exact hx0⟩
end Go.Proofs.Ytfdibjgmbdkbcaa

namespace Go.Proofs.Ytfdibjgmbdkbcaa
open Go.RowKit Go.Lib

def f0 : Value := .agg #[.int .i64 0, .int .i64 0]
theorem Root_fine (w : World) (F : Nat → Prop) (v : Value) (ll : List Bs) (hl : BList w F v ll) (hf : Fine ll) :
    Calls Try.prog 40 #[v] w fun e w' => ∃ rv, e = .returned (.tuple #[rv, .agg #[.int .i64 0, .int .i64 0]]) ∧ OwnB w' w.heap.size rv (Tr.root (ll.map Tr.leafH)) ∧ Below w.heap.size w w' := by
  refine (Root_any w F v ll hl).mono ?_
  rintro e w' ⟨rv, rfl, h1, _, hx⟩
  exact ⟨rv, by rw [wrongS_zero ll ((wrongS_ok ll).2 hf)]; rfl, h1 hf, hx⟩
theorem Root_bad (w : World) (F : Nat → Prop) (v : Value) (ll : List Bs) (hl : BList w F v ll) (hf : ¬ Fine ll) :
    Calls Try.prog 40 #[v] w fun e w' => ∃ a b : Nat, e = .returned (.tuple #[.slice none 0 0, .agg #[.int .i64 (a : Int), .int .i64 (b : Int)]]) ∧ wrongS ll = (a, b) ∧ ((a : Int) != 0) = true ∧ Below w.heap.size w w' := by
  refine (Root_any w F v ll hl).mono ?_
  rintro e w' ⟨rv, rfl, _, h2, hx⟩
  refine ⟨(wrongS ll).1, (wrongS ll).2, by rw [h2 hf]; rfl, rfl, ?_, hx⟩
  rw [bne_iff_ne]
  intro h
  exact hf ((wrongS_ok ll).1 (by omega))
theorem Path_fine (w : World) (F : Nat → Prop) (v : Value) (ll : List Bs) (z : Int) (hl : BList w F v ll) (hf : Fine ll) (h0 : 0 ≤ z) (h1 : z < ll.length) :
    Calls Try.prog 41 #[v, .int .i64 z] w fun e w' => ∃ rv, e = .returned (.tuple #[rv, .agg #[.int .i64 0, .int .i64 0]]) ∧ OwnL w' w.heap.size rv (Tr.path (ll.map Tr.leafH) z.toNat) ∧ Below w.heap.size w w' := by
  have hp : pathF ll z = (0, 0) := by unfold pathF; rw [if_neg (by rw [(wrongS_ok ll).2 hf]; simp), if_pos ⟨h0, h1⟩]
  refine (Path_any w F v ll z hl).mono ?_
  rintro e w' ⟨rv, rfl, h1, _, hx⟩
  exact ⟨rv, by rw [hp]; rfl, h1 (by rw [hp]), hx⟩
theorem Path_none (w : World) (F : Nat → Prop) (v : Value) (ll : List Bs) (z : Int) (hl : BList w F v ll) (hf : Fine ll) (h0 : ¬ (0 ≤ z ∧ z < ll.length)) :
    Calls Try.prog 41 #[v, .int .i64 z] w fun e w' => e = .returned (.tuple #[.slice none 0 0, .agg #[.int .i64 6, .int .i64 0]]) ∧ Below w.heap.size w w' := by
  have hp : pathF ll z = (6, 0) := by unfold pathF; rw [if_neg (by rw [(wrongS_ok ll).2 hf]; simp), if_neg h0]
  refine (Path_any w F v ll z hl).mono ?_
  rintro e w' ⟨rv, rfl, _, h2, hx⟩
  exact ⟨by rw [hp, h2 (by rw [hp]; simp)]; rfl, hx⟩
theorem Path_bad (w : World) (F : Nat → Prop) (v : Value) (ll : List Bs) (z : Int) (hl : BList w F v ll) (hf : ¬ Fine ll) :
    Calls Try.prog 41 #[v, .int .i64 z] w fun e w' => ∃ a b : Nat, e = .returned (.tuple #[.slice none 0 0, .agg #[.int .i64 (a : Int), .int .i64 (b : Int)]]) ∧ wrongS ll = (a, b) ∧ ((a : Int) != 0) = true ∧ Below w.heap.size w w' := by
  have hw : (wrongS ll).1 ≠ 0 := fun h => hf ((wrongS_ok ll).1 h)
  have hp : pathF ll z = wrongS ll := by unfold pathF; rw [if_pos hw]
  refine (Path_any w F v ll z hl).mono ?_
  rintro e w' ⟨rv, rfl, _, h2, hx⟩
  exact ⟨(wrongS ll).1, (wrongS ll).2, by rw [hp, h2 (by rw [hp]; exact hw)]; rfl, rfl, by rw [bne_iff_ne]; omega, hx⟩
theorem Grows_fine (w : World) (F : Nat → Prop) (v : Value) (ll : List Bs) (z : Int) (hl : BList w F v ll) (hf : Fine ll) (h0 : 1 ≤ z) (h1 : z ≤ ll.length) :
    Calls Try.prog 42 #[v, .int .i64 z] w fun e w' => ∃ rv, e = .returned (.tuple #[rv, .agg #[.int .i64 0, .int .i64 0]]) ∧ OwnL w' w.heap.size rv (Tr.grows (ll.map Tr.leafH) z.toNat true) ∧ Below w.heap.size w w' := by
  have hp : growsF ll z = (0, 0) := by unfold growsF; rw [if_neg (by rw [(wrongS_ok ll).2 hf]; simp), if_pos ⟨h0, h1⟩]
  refine (Grows_any w F v ll z hl).mono ?_
  rintro e w' ⟨rv, rfl, h1, _, hx⟩
  exact ⟨rv, by rw [hp]; rfl, h1 (by rw [hp]), hx⟩
theorem Grows_none (w : World) (F : Nat → Prop) (v : Value) (ll : List Bs) (z : Int) (hl : BList w F v ll) (hf : Fine ll) (h0 : ¬ (1 ≤ z ∧ z ≤ ll.length)) :
    Calls Try.prog 42 #[v, .int .i64 z] w fun e w' => e = .returned (.tuple #[.slice none 0 0, .agg #[.int .i64 3, .int .i64 0]]) ∧ Below w.heap.size w w' := by
  have hp : growsF ll z = (3, 0) := by unfold growsF; rw [if_neg (by rw [(wrongS_ok ll).2 hf]; simp), if_neg h0]
  refine (Grows_any w F v ll z hl).mono ?_
  rintro e w' ⟨rv, rfl, _, h2, hx⟩
  exact ⟨by rw [hp, h2 (by rw [hp]; simp)]; rfl, hx⟩
theorem Grows_bad (w : World) (F : Nat → Prop) (v : Value) (ll : List Bs) (z : Int) (hl : BList w F v ll) (hf : ¬ Fine ll) :
    Calls Try.prog 42 #[v, .int .i64 z] w fun e w' => ∃ a b : Nat, e = .returned (.tuple #[.slice none 0 0, .agg #[.int .i64 (a : Int), .int .i64 (b : Int)]]) ∧ wrongS ll = (a, b) ∧ ((a : Int) != 0) = true ∧ Below w.heap.size w w' := by
  have hw : (wrongS ll).1 ≠ 0 := fun h => hf ((wrongS_ok ll).1 h)
  have hp : growsF ll z = wrongS ll := by unfold growsF; rw [if_pos hw]
  refine (Grows_any w F v ll z hl).mono ?_
  rintro e w' ⟨rv, rfl, _, h2, hx⟩
  exact ⟨(wrongS ll).1, (wrongS ll).2, by rw [hp, h2 (by rw [hp]; exact hw)]; rfl, rfl, by rw [bne_iff_ne]; omega, hx⟩

/-! all are digests -/
def D32 (l : List Bs) : Prop := ∀ d ∈ l, d.length = 32
theorem d32_leaves (ll : List Bs) : D32 (ll.map Tr.leafH) := fun d hd => by obtain ⟨x, _, rfl⟩ := List.mem_map.1 hd; exact Tr.length_leafH x
theorem D32.take {l : List Bs} (h : D32 l) (k : Nat) : D32 (l.take k) := fun d hd => h d (List.mem_of_mem_take hd)
theorem D32.drop {l : List Bs} (h : D32 l) (k : Nat) : D32 (l.drop k) := fun d hd => h d (List.mem_of_mem_drop hd)
theorem D32.snoc {l : List Bs} {x : Bs} (h : D32 l) (hx : x.length = 32) : D32 (l ++ [x]) := fun d hd => by
  rcases List.mem_append.1 hd with h1 | h1
  · exact h d h1
  · have : d = x := by simpa using h1
    subst this; exact hx
theorem D32.allD {l : List Bs} (h : D32 l) : allD l = true := (allD_iff l).2 h
theorem d32_path (n : Nat) : ∀ (l : List Bs) (i : Nat), l.length = n → D32 l → D32 (Tr.path l i) := by
  induction n using Nat.strongRecOn with
  | ind n ih =>
    intro l i hl hd
    by_cases h2 : 2 ≤ l.length
    · have g1 := Tr.split_lt h2
      have g0 := Tr.split_pos l.length
      by_cases hi : i < Tr.split l.length
      · rw [Tr.path_left h2 hi]
        exact (ih (Tr.split l.length) (by omega) _ i (by rw [List.length_take]; omega) (hd.take _)).snoc (Tr.length_root _ (hd.drop _))
      · rw [Tr.path_right h2 hi]
        exact (ih (l.length - Tr.split l.length) (by omega) _ _ (List.length_drop ..) (hd.drop _)).snoc (Tr.length_root _ (hd.take _))
    · rw [Tr.path_small h2]; intro d hd; cases hd
theorem d32_grows (n : Nat) : ∀ (l : List Bs) (m : Nat) (b : Bool), l.length = n → D32 l → D32 (Tr.grows l m b) := by
  induction n using Nat.strongRecOn with
  | ind n ih =>
    intro l m b hl hd
    by_cases hm : m < l.length ∧ 2 ≤ l.length
    · have g1 := Tr.split_lt hm.2
      have g0 := Tr.split_pos l.length
      by_cases hk : m ≤ Tr.split l.length
      · rw [Tr.grows_left hm.1 hm.2 hk]
        exact (ih (Tr.split l.length) (by omega) _ _ _ (by rw [List.length_take]; omega) (hd.take _)).snoc (Tr.length_root _ (hd.drop _))
      · rw [Tr.grows_right hm.1 hm.2 hk]
        exact (ih (l.length - Tr.split l.length) (by omega) _ _ _ (List.length_drop ..) (hd.drop _)).snoc (Tr.length_root _ (hd.take _))
    · rw [Tr.grows, dif_neg hm]
      split
      · intro d hd; cases hd
      · intro d hd'
        have : d = Tr.root l := by simpa using hd'
        subst this; exact Tr.length_root _ hd

/-- what stands there is shown -/
theorem standsS_path (ll : List Bs) (hf : Fine ll) (i : Nat) (b : Bs) (hb : ll[i]? = some b) : standsS (ll.length : Int) (Tr.root (ll.map Tr.leafH)) b (i : Int) (Tr.path (ll.map Tr.leafH) i) = true := by
  have hi : i < ll.length := by
    rcases Nat.lt_or_ge i ll.length with h | h
    · exact h
    · rw [List.getElem?_eq_none h] at hb; cases hb
  have hbl : b.length ≤ 200 := hf.2 b (List.mem_of_getElem? hb)
  have hn := hf.1
  unfold standsS
  rw [decide_eq_true ⟨by omega, by omega, by omega, by omega, hbl⟩, (d32_path _ _ i rfl (d32_leaves ll)).allD]
  have hu := Tr.up_path ll.length (ll.map Tr.leafH) i (by simp) hi
  have e : (ll.map Tr.leafH).getD i Tr.nilH = Tr.leafH b := by
    rw [List.getD_eq_getElem?_getD, List.getElem?_map, hb]; rfl
  rw [e] at hu
  simp only [Int.toNat_natCast, hu]
  simp
theorem grewS_grows (ll : List Bs) (hf : Fine ll) (m : Nat) (h1 : 1 ≤ m) (hm : m ≤ ll.length) :
    grewS (m : Int) (Tr.root ((ll.take m).map Tr.leafH)) (ll.length : Int) (Tr.root (ll.map Tr.leafH)) (Tr.grows (ll.map Tr.leafH) m true) = true := by
  have hn := hf.1
  unfold grewS
  rw [decide_eq_true ⟨by omega, by omega, by omega⟩, (d32_grows _ _ m true rfl (d32_leaves ll)).allD, decide_eq_true (Tr.length_root _ (d32_leaves (ll.take m)))]
  have ht := Tr.two_grows ll.length (ll.map Tr.leafH) m true (Tr.root ((ll.take m).map Tr.leafH)) (by simp) h1 hm (fun _ => by rw [List.map_take])
  simp only [Int.toNat_natCast]
  rw [ht, List.map_take]
  simp
theorem Fine.take {ll : List Bs} (h : Fine ll) (k : Nat) : Fine (ll.take k) := ⟨by rw [List.length_take]; have := h.1; omega, fun b hb => h.2 b (List.mem_of_mem_take hb)⟩
end Go.Proofs.Ytfdibjgmbdkbcaa

namespace Go.Proofs.Ytfdibjgmbdkbcaa
namespace Tr

theorem hash_leaf (b : Bs) : Sha.sha256 (0 :: b) = leafH b := rfl
def pairT (a b : Bs) : Bs := 1 :: (a ++ b)
def leafT (b : Bs) : Bs := 0 :: b
theorem hash_pair (a b : Bs) : Sha.sha256 (pairT a b) = nodeH a b := rfl
theorem pairT_inj {a b c d : Bs} (h : pairT a b = pairT c d) (hl : a.length = c.length) : a = c ∧ b = d := by
  unfold pairT at h
  injection h with _ h
  exact List.append_inj h hl
theorem leafT_inj {a b : Bs} (h : leafT a = leafT b) : a = b := by
  unfold leafT at h
  injection h
/-- two texts, unlike, with one digest; if they are -/
def clashOf (x y : Bs) : Option PB := if x ≠ y ∧ Sha.sha256 x = Sha.sha256 y then some (x, y) else none
/-- the first that there is -/
def orElse (t u : Option PB) : Option PB := match t with
  | some p => some p
  | none => u
/-- the root of leaves as they are -/
def rootL (l : List Bs) : Bs := root (l.map leafH)
theorem rootL_two {l : List Bs} (h : 2 ≤ l.length) : rootL l = nodeH (rootL (l.take (split l.length))) (rootL (l.drop (split l.length))) := by
  unfold rootL
  rw [root_two (by simpa using h), List.length_map, List.map_take, List.map_drop]
theorem length_rootL (l : List Bs) : (rootL l).length = 32 := length_root _ (by intro a ha; obtain ⟨b, _, rfl⟩ := List.mem_map.1 ha; exact length_leafH b)

def down (l : List Bs) (b : Bs) (i : Nat) (p : List Bs) : Option PB × Bs :=
  if _h : 2 ≤ l.length then
    if i < split l.length then
      let r := down (l.take (split l.length)) b i p.dropLast
      (orElse r.1 (clashOf (pairT (rootL (l.take (split l.length))) (rootL (l.drop (split l.length)))) (pairT r.2 (p.getLastD []))), nodeH r.2 (p.getLastD []))
    else
      let r := down (l.drop (split l.length)) b (i - split l.length) p.dropLast
      (orElse r.1 (clashOf (pairT (rootL (l.take (split l.length))) (rootL (l.drop (split l.length)))) (pairT (p.getLastD []) r.2)), nodeH (p.getLastD []) r.2)
  else (clashOf (leafT (l.getD 0 [])) (leafT b), leafH b)
termination_by l.length
decreasing_by
  · have := split_lt _h; rw [List.length_take]; omega
  · have := split_pos l.length; rw [List.length_drop]; omega
theorem down_one {l : List Bs} (h : ¬ 2 ≤ l.length) (b : Bs) (i : Nat) (p : List Bs) : down l b i p = (clashOf (leafT (l.getD 0 [])) (leafT b), leafH b) := by rw [down, dif_neg h]
theorem down_left {l : List Bs} (h : 2 ≤ l.length) (b : Bs) {i : Nat} (p : List Bs) (hi : i < split l.length) : down l b i p =
    (orElse (down (l.take (split l.length)) b i p.dropLast).1 (clashOf (pairT (rootL (l.take (split l.length))) (rootL (l.drop (split l.length)))) (pairT (down (l.take (split l.length)) b i p.dropLast).2 (p.getLastD []))),
      nodeH (down (l.take (split l.length)) b i p.dropLast).2 (p.getLastD [])) := by
  conv => lhs; rw [down, dif_pos h, if_pos hi]
theorem down_right {l : List Bs} (h : 2 ≤ l.length) (b : Bs) {i : Nat} (p : List Bs) (hi : ¬ i < split l.length) : down l b i p =
    (orElse (down (l.drop (split l.length)) b (i - split l.length) p.dropLast).1 (clashOf (pairT (rootL (l.take (split l.length))) (rootL (l.drop (split l.length)))) (pairT (p.getLastD []) (down (l.drop (split l.length)) b (i - split l.length) p.dropLast).2)),
      nodeH (p.getLastD []) (down (l.drop (split l.length)) b (i - split l.length) p.dropLast).2) := by
  conv => lhs; rw [down, dif_pos h, if_neg hi]
theorem clashOf_some {x y : Bs} {q : PB} (h : clashOf x y = some q) : q.1 ≠ q.2 ∧ Sha.sha256 q.1 = Sha.sha256 q.2 := by
  unfold clashOf at h
  split at h
  · injection h with h; subst h; assumption
  · cases h
theorem clashOf_none {x y : Bs} (h : clashOf x y = none) (hh : Sha.sha256 x = Sha.sha256 y) : x = y := by
  unfold clashOf at h
  split at h
  · cases h
  · rename_i hn
    by_cases e : x = y
    · exact e
    · exact absurd ⟨e, hh⟩ hn
theorem orElse_some {t u : Option PB} {q : PB} (h : orElse t u = some q) : t = some q ∨ u = some q := by
  cases t with
  | none => exact .inr h
  | some p => exact .inl h
theorem orElse_none {t u : Option PB} (h : orElse t u = none) : t = none ∧ u = none := by
  cases t with
  | none => exact ⟨rfl, h⟩
  | some p => cases h

/-- what is told is a clash -/
theorem down_some (n : Nat) : ∀ (l : List Bs) (b : Bs) (i : Nat) (p : List Bs) (q : PB), l.length = n → (down l b i p).1 = some q → q.1 ≠ q.2 ∧ Sha.sha256 q.1 = Sha.sha256 q.2 := by
  induction n using Nat.strongRecOn with
  | ind n ih =>
    intro l b i p q hl h
    by_cases h2 : 2 ≤ l.length
    · have g1 := split_lt h2
      have g0 := split_pos l.length
      by_cases hi : i < split l.length
      · rw [down_left h2 b p hi] at h
        rcases orElse_some h with h | h
        · exact ih (split l.length) (by omega) _ _ _ _ q (by rw [List.length_take]; omega) h
        · exact clashOf_some h
      · rw [down_right h2 b p hi] at h
        rcases orElse_some h with h | h
        · exact ih (l.length - split l.length) (by omega) _ _ _ _ q (List.length_drop ..) h
        · exact clashOf_some h
    · rw [down_one h2] at h
      exact clashOf_some h
/-- the digest is that of the path -/
theorem down_up (n : Nat) : ∀ (l : List Bs) (b : Bs) (i : Nat) (p : List Bs) (r : Bs), l.length = n → 1 ≤ n → i < n → up (leafH b) i n p = some r → (down l b i p).2 = r := by
  induction n using Nat.strongRecOn with
  | ind n ih =>
    intro l b i p r hl h1 hi h
    unfold up at h
    by_cases h2 : 2 ≤ n
    · have g1 := split_lt h2
      have g0 := split_pos n
      rcases List.eq_nil_or_concat p with rfl | ⟨q, top, rfl⟩
      · rw [upG_nil h2] at h; cases h
      · rw [List.concat_eq_append] at *
        by_cases hk : i < split n
        · rw [upG_left h2 _ hk] at h
          obtain ⟨d, hd, rfl⟩ := Option.map_eq_some_iff.1 h
          have e := ih (split n) g1 (l.take (split n)) b i q d (by rw [List.length_take]; omega) g0 hk hd
          rw [down_left (by omega) b _ (by rw [hl]; exact hk), hl]
          simp only [List.dropLast_concat, List.getLastD_concat]
          rw [e]
          rfl
        · rw [upG_right h2 _ hk] at h
          obtain ⟨d, hd, rfl⟩ := Option.map_eq_some_iff.1 h
          have e := ih (n - split n) (by omega) (l.drop (split n)) b (i - split n) q d (by rw [List.length_drop]; omega) (by omega) (by omega) hd
          rw [down_right (by omega) b _ (by rw [hl]; exact hk), hl]
          simp only [List.dropLast_concat, List.getLastD_concat]
          rw [e]
          rfl
    · have : n = 1 := by omega
      subst this
      rw [upG_one] at h
      rw [down_one (by omega)]
      split at h
      · injection h
      · cases h
theorem length_down (n : Nat) (l : List Bs) (b : Bs) (i : Nat) (p : List Bs) : l.length = n → (down l b i p).2.length = 32 := by
  intro hl
  by_cases h2 : 2 ≤ l.length
  · by_cases hi : i < split l.length
    · rw [down_left h2 b p hi]; exact length_nodeH _ _
    · rw [down_right h2 b p hi]; exact length_nodeH _ _
  · rw [down_one h2]; exact length_leafH _
/-- where none is told, the leaf is the leaf there -/
theorem down_none (n : Nat) : ∀ (l : List Bs) (b : Bs) (i : Nat) (p : List Bs), l.length = n → 1 ≤ n → i < n → p.length = depth i n → (∀ d ∈ p, d.length = 32) →
    (down l b i p).1 = none → (down l b i p).2 = rootL l → b = l.getD i [] := by
  induction n using Nat.strongRecOn with
  | ind n ih =>
    intro l b i p hl h1 hi hp h32 hn hr
    rw [depth] at hp
    by_cases h2 : 2 ≤ n
    · have g1 := split_lt h2
      have g0 := split_pos n
      rw [dif_pos h2] at hp
      rcases List.eq_nil_or_concat p with rfl | ⟨q, top, rfl⟩
      · simp at hp
      · rw [List.concat_eq_append] at *
        have htop : top.length = 32 := h32 top (by simp)
        have hq32 : ∀ d ∈ q, d.length = 32 := fun d hd => h32 d (by simp [hd])
        by_cases hk : i < split n
        · rw [if_pos hk, List.length_append] at hp
          rw [down_left (by omega) b _ (by rw [hl]; exact hk)] at hn hr
          simp only [List.dropLast_concat, List.getLastD_concat, hl] at hn hr
          obtain ⟨n1, n2⟩ := orElse_none hn
          rw [rootL_two (by omega), hl] at hr
          have e := clashOf_none n2 hr.symm
          obtain ⟨e1, e2⟩ := pairT_inj e (by rw [length_rootL, length_down _ _ _ _ _ rfl])
          have := ih (split n) g1 (l.take (split n)) b i q (by rw [List.length_take]; omega) g0 hk (by simp at hp; omega) hq32 n1 e1.symm
          rw [this, List.getD_eq_getElem?_getD, List.getD_eq_getElem?_getD, List.getElem?_take_of_lt hk]
        · rw [if_neg hk, List.length_append] at hp
          rw [down_right (by omega) b _ (by rw [hl]; exact hk)] at hn hr
          simp only [List.dropLast_concat, List.getLastD_concat, hl] at hn hr
          obtain ⟨n1, n2⟩ := orElse_none hn
          rw [rootL_two (by omega), hl] at hr
          have e := clashOf_none n2 hr.symm
          obtain ⟨e1, e2⟩ := pairT_inj e (by rw [length_rootL, htop])
          have := ih (n - split n) (by omega) (l.drop (split n)) b (i - split n) q (by rw [List.length_drop]; omega) (by omega) (by omega) (by simp at hp; omega) hq32 n1 e2.symm
          rw [this, List.getD_eq_getElem?_getD, List.getD_eq_getElem?_getD, List.getElem?_drop, show split n + (i - split n) = i by omega]
    · have : n = 1 := by omega
      subst this
      rw [down_one (by omega)] at hn hr
      match l, hl with
      | [a], _ =>
        have hr' : leafH b = rootL [a] := hr
        unfold rootL at hr'
        rw [List.map_singleton, root_one] at hr'
        have e := clashOf_none hn hr'.symm
        rw [show i = 0 by omega]
        exact (leafT_inj e).symm

/-- two roots, and a clash on the way -/
def down2 (l : List Bs) (m : Nat) (whole : Bool) (old : Bs) (p : List Bs) : Option PB × Bs × Bs :=
  if _h : m < l.length ∧ 2 ≤ l.length then
    if m ≤ split l.length then
      let r := down2 (l.take (split l.length)) m whole old p.dropLast
      (orElse r.1 (clashOf (pairT (rootL (l.take (split l.length))) (rootL (l.drop (split l.length)))) (pairT r.2.2 (p.getLastD []))), r.2.1, nodeH r.2.2 (p.getLastD []))
    else
      let r := down2 (l.drop (split l.length)) (m - split l.length) false old p.dropLast
      (orElse (orElse r.1 (clashOf (pairT (rootL (l.take (split l.length))) (rootL ((l.take m).drop (split l.length)))) (pairT (p.getLastD []) r.2.1)))
          (clashOf (pairT (rootL (l.take (split l.length))) (rootL (l.drop (split l.length)))) (pairT (p.getLastD []) r.2.2)),
        nodeH (p.getLastD []) r.2.1, nodeH (p.getLastD []) r.2.2)
  else if whole then (none, old, old) else (none, p.getD 0 [], p.getD 0 [])
termination_by l.length
decreasing_by
  · have := split_lt _h.2; rw [List.length_take]; omega
  · have := split_pos l.length; rw [List.length_drop]; omega
theorem down2_left {l : List Bs} {m : Nat} (h : m < l.length) (h2 : 2 ≤ l.length) (hm : m ≤ split l.length) (whole : Bool) (old : Bs) (p : List Bs) : down2 l m whole old p =
    (orElse (down2 (l.take (split l.length)) m whole old p.dropLast).1 (clashOf (pairT (rootL (l.take (split l.length))) (rootL (l.drop (split l.length)))) (pairT (down2 (l.take (split l.length)) m whole old p.dropLast).2.2 (p.getLastD []))),
      (down2 (l.take (split l.length)) m whole old p.dropLast).2.1, nodeH (down2 (l.take (split l.length)) m whole old p.dropLast).2.2 (p.getLastD [])) := by
  conv => lhs; rw [down2, dif_pos ⟨h, h2⟩, if_pos hm]
theorem down2_right {l : List Bs} {m : Nat} (h : m < l.length) (h2 : 2 ≤ l.length) (hm : ¬ m ≤ split l.length) (whole : Bool) (old : Bs) (p : List Bs) : down2 l m whole old p =
    (orElse (orElse (down2 (l.drop (split l.length)) (m - split l.length) false old p.dropLast).1 (clashOf (pairT (rootL (l.take (split l.length))) (rootL ((l.take m).drop (split l.length)))) (pairT (p.getLastD []) (down2 (l.drop (split l.length)) (m - split l.length) false old p.dropLast).2.1)))
          (clashOf (pairT (rootL (l.take (split l.length))) (rootL (l.drop (split l.length)))) (pairT (p.getLastD []) (down2 (l.drop (split l.length)) (m - split l.length) false old p.dropLast).2.2)),
        nodeH (p.getLastD []) (down2 (l.drop (split l.length)) (m - split l.length) false old p.dropLast).2.1, nodeH (p.getLastD []) (down2 (l.drop (split l.length)) (m - split l.length) false old p.dropLast).2.2) := by
  conv => lhs; rw [down2, dif_pos ⟨h, h2⟩, if_neg hm]
theorem down2_all {l : List Bs} {m : Nat} (h : ¬ m < l.length) (whole : Bool) (old : Bs) (p : List Bs) : down2 l m whole old p = if whole then (none, old, old) else (none, p.getD 0 [], p.getD 0 []) := by
  rw [down2, dif_neg (by omega)]

theorem down2_some (n : Nat) : ∀ (l : List Bs) (m : Nat) (whole : Bool) (old : Bs) (p : List Bs) (q : PB), l.length = n → (down2 l m whole old p).1 = some q → q.1 ≠ q.2 ∧ Sha.sha256 q.1 = Sha.sha256 q.2 := by
  induction n using Nat.strongRecOn with
  | ind n ih =>
    intro l m whole old p q hl h
    by_cases h2 : m < l.length ∧ 2 ≤ l.length
    · have g1 := split_lt h2.2
      have g0 := split_pos l.length
      by_cases hm : m ≤ split l.length
      · rw [down2_left h2.1 h2.2 hm] at h
        rcases orElse_some h with h | h
        · exact ih (split l.length) (by omega) _ _ _ _ _ q (by rw [List.length_take]; omega) h
        · exact clashOf_some h
      · rw [down2_right h2.1 h2.2 hm] at h
        rcases orElse_some h with h | h
        · rcases orElse_some h with h | h
          · exact ih (l.length - split l.length) (by omega) _ _ _ _ _ q (List.length_drop ..) h
          · exact clashOf_some h
        · exact clashOf_some h
    · rw [down2, dif_neg h2] at h
      split at h <;> cases h
theorem down2_two (n : Nat) : ∀ (l : List Bs) (m : Nat) (whole : Bool) (old : Bs) (p : List Bs) (ab : PB), l.length = n → m ≤ n → two m n whole old p = some ab → (down2 l m whole old p).2 = ab := by
  induction n using Nat.strongRecOn with
  | ind n ih =>
    intro l m whole old p ab hl hm h
    by_cases hlt : m < n
    · by_cases h2 : 2 ≤ n
      · have g1 := split_lt h2
        have g0 := split_pos n
        rcases List.eq_nil_or_concat p with rfl | ⟨q, top, rfl⟩
        · rw [two_nil hlt h2] at h; cases h
        · rw [List.concat_eq_append] at *
          by_cases hk : m ≤ split n
          · rw [two_left hlt h2 _ hk] at h
            obtain ⟨d, hd, rfl⟩ := Option.map_eq_some_iff.1 h
            have e := ih (split n) g1 (l.take (split n)) m whole old q d (by rw [List.length_take]; omega) hk hd
            rw [down2_left (by omega) (by omega) (by rw [hl]; exact hk), hl]
            simp only [List.dropLast_concat, List.getLastD_concat]
            rw [e]
            rfl
          · rw [two_right hlt h2 _ hk] at h
            obtain ⟨d, hd, rfl⟩ := Option.map_eq_some_iff.1 h
            have e := ih (n - split n) (by omega) (l.drop (split n)) (m - split n) false old q d (by rw [List.length_drop]; omega) (by omega) hd
            rw [down2_right (by omega) (by omega) (by rw [hl]; exact hk), hl]
            simp only [List.dropLast_concat, List.getLastD_concat]
            rw [e]
            rfl
      · have : n = 1 := by omega
        subst this
        rw [two, dif_neg (by omega)] at h
        rw [down2, dif_neg (by omega)]
        cases whole with
        | true =>
          simp only [if_true] at h ⊢
          split at h
          · injection h
          · cases h
        | false =>
          simp only [Bool.false_eq_true, if_false] at h ⊢
          match p, h with
          | [x], h => injection h
    · rw [two, dif_neg (by omega)] at h
      rw [down2, dif_neg (by omega)]
      cases whole with
      | true =>
        simp only [if_true] at h ⊢
        split at h
        · injection h
        · cases h
      | false =>
        simp only [Bool.false_eq_true, if_false] at h ⊢
        match p, h with
        | [x], h => injection h
theorem rootL_take {l : List Bs} {m n : Nat} (hl : l.length = n) (h2 : 2 ≤ n) (hm : m ≤ n) (hk : split n < m) : rootL (l.take m) = nodeH (rootL (l.take (split n))) (rootL ((l.take m).drop (split n))) := by
  have g0 := split_pos n
  have hs := split_same hk hm h2
  have hlen : (l.take m).length = m := by rw [List.length_take]; omega
  rw [rootL_two (l := l.take m) (by omega), hlen, hs]
  congr 2
  rw [List.take_take]
  congr 1
  omega
theorem two_lengths (n : Nat) : ∀ (m : Nat) (whole : Bool) (old : Bs) (p : List Bs) (ab : PB), (∀ d ∈ p, d.length = 32) → (whole = true → old.length = 32) → two m n whole old p = some ab → ab.1.length = 32 ∧ ab.2.length = 32 := by
  induction n using Nat.strongRecOn with
  | ind n ih =>
    intro m whole old p ab hp ho h
    by_cases hlt : m < n ∧ 2 ≤ n
    · have g1 := split_lt hlt.2
      have g0 := split_pos n
      rcases List.eq_nil_or_concat p with rfl | ⟨q, top, rfl⟩
      · rw [two_nil hlt.1 hlt.2] at h; cases h
      · rw [List.concat_eq_append] at *
        have hq : ∀ d ∈ q, d.length = 32 := fun d hd => hp d (by simp [hd])
        by_cases hk : m ≤ split n
        · rw [two_left hlt.1 hlt.2 _ hk] at h
          obtain ⟨d, hd, rfl⟩ := Option.map_eq_some_iff.1 h
          obtain ⟨a, b⟩ := ih _ g1 m whole old q d hq ho hd
          exact ⟨a, length_nodeH _ _⟩
        · rw [two_right hlt.1 hlt.2 _ hk] at h
          obtain ⟨d, hd, rfl⟩ := Option.map_eq_some_iff.1 h
          exact ⟨length_nodeH _ _, length_nodeH _ _⟩
    · rw [two, dif_neg hlt] at h
      cases whole with
      | true =>
        simp only [if_true] at h
        split at h
        · injection h with h; subst h; exact ⟨ho rfl, ho rfl⟩
        · cases h
      | false =>
        simp only [Bool.false_eq_true, if_false] at h
        match p, h with
        | [x], h => injection h with h; subst h; exact ⟨hp x (by simp), hp x (by simp)⟩
/-- where none is told, the first ones' root is theirs -/
theorem down2_none (n : Nat) : ∀ (l : List Bs) (m : Nat) (whole : Bool) (old : Bs) (p : List Bs) (ab : PB), l.length = n → 1 ≤ m → m ≤ n → (∀ d ∈ p, d.length = 32) → (whole = true → old.length = 32) →
    two m n whole old p = some ab → (down2 l m whole old p).1 = none → ab.2 = rootL l → ab.1 = rootL (l.take m) := by
  induction n using Nat.strongRecOn with
  | ind n ih =>
    intro l m whole old p ab hl h1 hm h32 ho h hn hr
    by_cases hlt : m < n
    · have h2 : 2 ≤ n := by omega
      have g1 := split_lt h2
      have g0 := split_pos n
      rcases List.eq_nil_or_concat p with rfl | ⟨q, top, rfl⟩
      · rw [two_nil hlt h2] at h; cases h
      · rw [List.concat_eq_append] at *
        have htop : top.length = 32 := h32 top (by simp)
        have hq : ∀ d ∈ q, d.length = 32 := fun d hd => h32 d (by simp [hd])
        by_cases hk : m ≤ split n
        · rw [two_left hlt h2 _ hk] at h
          obtain ⟨d, hd, rfl⟩ := Option.map_eq_some_iff.1 h
          have e := down2_two (split n) (l.take (split n)) m whole old q d (by rw [List.length_take]; omega) hk hd
          have hdl := two_lengths _ _ _ _ _ _ hq ho hd
          rw [down2_left (by omega) (by omega) (by rw [hl]; exact hk), hl] at hn
          simp only [List.dropLast_concat, List.getLastD_concat] at hn
          rw [e] at hn
          obtain ⟨n1, n2⟩ := orElse_none hn
          have hr' : nodeH d.2 top = rootL l := hr
          rw [rootL_two (by omega), hl] at hr'
          have e2 := clashOf_none n2 hr'.symm
          obtain ⟨e3, _⟩ := pairT_inj e2 (by rw [length_rootL, hdl.2])
          have := ih (split n) g1 (l.take (split n)) m whole old q d (by rw [List.length_take]; omega) h1 hk hq ho hd n1 e3.symm
          show d.1 = _
          rw [this, List.take_take]
          congr 2
          omega
        · rw [two_right hlt h2 _ hk] at h
          obtain ⟨d, hd, rfl⟩ := Option.map_eq_some_iff.1 h
          have e := down2_two (n - split n) (l.drop (split n)) (m - split n) false old q d (by rw [List.length_drop]; omega) (by omega) hd
          rw [down2_right (by omega) (by omega) (by rw [hl]; exact hk), hl] at hn
          simp only [List.dropLast_concat, List.getLastD_concat] at hn
          rw [e] at hn
          obtain ⟨n1, n2⟩ := orElse_none hn
          obtain ⟨n3, _⟩ := orElse_none n1
          have hr' : nodeH top d.2 = rootL l := hr
          rw [rootL_two (by omega), hl] at hr'
          have e2 := clashOf_none n2 hr'.symm
          obtain ⟨e3, e4⟩ := pairT_inj e2 (by rw [length_rootL, htop])
          have := ih (n - split n) (by omega) (l.drop (split n)) (m - split n) false old q d (by rw [List.length_drop]; omega) (by omega) (by omega) hq (fun e => by cases e) hd n3 e4.symm
          show nodeH top d.1 = _
          rw [rootL_take hl h2 hm (by omega), this, ← e3, ← List.drop_take]
    · have : m = n := by omega
      subst this
      have ht : l.take m = l := List.take_of_length_le (by omega)
      rw [ht, ← hr]
      rw [two, dif_neg (by omega)] at h
      cases whole with
      | true =>
        simp only [if_true] at h
        split at h
        · injection h with h; subst h; rfl
        · cases h
      | false =>
        simp only [Bool.false_eq_true, if_false] at h
        match p, h with
        | [x], h => injection h with h; subst h; rfl
end Tr
end Go.Proofs.Ytfdibjgmbdkbcaa
