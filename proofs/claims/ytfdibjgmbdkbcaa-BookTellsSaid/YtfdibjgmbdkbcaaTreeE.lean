/-
  THE WALKS of tree.path, grows. Conditions: what is read is a list of bytes, not too many, none too long.
-/
import Derived.Test.YtfdibjgmbdkbcaaTreeD
namespace Go.Proofs.Ytfdibjgmbdkbcaa
open Go.RowKit Go.Lib

theorem path_le {ll : List Bs} {n : Nat} (h : ll.length = n) (hn : n ≤ 128) (i : Nat) : (Tr.path ll i).length ≤ 7 := by
  rw [Tr.length_path n ll i h]
  exact Tr.depth_le 7 i n hn

set_option maxRecDepth 100000 in
set_option maxHeartbeats 1000000 in
theorem path_any (n : Nat) : ∀ (w : World) (F : Nat → Prop) (v : Value) (ll : List Bs) (i : Nat) (z : Int), BList w F v ll → ll.length = n → n ≤ 128 → i ≤ 128 → z = (i : Int) → Short ll →
    Calls Try.prog 101 #[v, .int .i64 z] w fun e w' => ∃ v, e = .returned v ∧ OwnL w' w.heap.size v (Tr.path ll i) ∧ Below w.heap.size w w' := by
  induction n using Nat.strongRecOn with
  | ind n ih =>
    intro w F v ll i z hl hn hn128 hi128 hz hs
    subst hz
    obtain ⟨i0, hi, hz0, hz1, hz2⟩ := info_parts info_bytes
    obtain ⟨A, c, hv, hnc, hcm, hA⟩ := hl.shape
    subst hv
    unfold maxLen at hcm
    by_cases h2 : 2 ≤ n
    · obtain ⟨b, off, rfl, hF, hb⟩ := hA (by omega)
      have hk1 := Tr.split_lt h2
      have hk0 := Tr.split_pos n
      have hl1 := hl.first (Tr.split n) (by omega)
      have hl2 := hl.rest (Tr.split n) (by omega)
      have hs1 := hs.take (Tr.split n)
      have hs2 := hs.drop (Tr.split n)
      have hn1 : (ll.take (Tr.split n)).length = Tr.split n := by rw [List.length_take]; omega
      have hn2 : (ll.drop (Tr.split n)).length = n - Tr.split n := by rw [List.length_drop]; omega
      have hq := half_any n (w := w) h2 hn128
      have HQ := Lib.hid hq
      have h2' : 2 ≤ ll.length := by omega
      have hp1 : i < Tr.split n → Tr.path ll i = Tr.path (ll.take (Tr.split n)) i ++ [Tr.root (ll.drop (Tr.split n))] := fun h => by
        rw [Tr.path_left h2' (by rw [hn]; exact h), hn]
      have hp2 : ¬ i < Tr.split n → Tr.path ll i = Tr.path (ll.drop (Tr.split n)) (i - Tr.split n) ++ [Tr.root (ll.take (Tr.split n))] := fun h => by
        rw [Tr.path_right h2' (by rw [hn]; exact h), hn]
      have ih1 := ih (Tr.split n) hk1
      have ih2 := ih (n - Tr.split n) (by omega)
      have r1 := root_tree (Tr.split n)
      have r2 := root_tree (n - Tr.split n)
      rw [hn] at hl2
      rw [hn]
      rw [hn] at hnc
      clear hn hA hq h2' ih
      generalize Tr.split n = k at *
      have hq1 := path_le hn1 (by omega) i
      have hq2 := path_le hn2 (by omega) (i - k)
      have HN1 := Lib.hid hn1
      have HN2 := Lib.hid hn2
      have HI1 := Lib.hid ih1
      have HI2 := Lib.hid ih2
      have HR1 := Lib.hid r1
      have HR2 := Lib.hid r2
      have HP1 := Lib.hid hp1
      have HP2 := Lib.hid hp2
      clear hn1 hn2 ih1 ih2 r1 r2 hp1 hp2
      have hnB : decide ((n : Int) < 2) = false := by simp; omega
      have k0 : (0 : Int) ≤ (k : Int) := by omega
      have k1 : (k : Int) ≤ (n : Int) := by omega
      have k2 : (k : Int) ≤ (c : Int) := by omega
      have k3 : (n : Int) ≤ (c : Int) := by omega
      have k4 : ((c : Int) == (k : Int)) = false := by rw [beq_eq_false_iff_ne]; omega
      have k5 : ¬ c = k := by omega
      by_cases hik : i < k
      · have hikB : (i : Int) < (k : Int) := by omega
        have HP := Lib.hid (HP1.out hik)
        clear HP1 HP2
        go_enter Try.func101, Try.ntmps101
        go_wp2_with fail
        refine HQ.out.mono ?_
        rintro e w' ⟨rfl, hw⟩
        subst hw
        go_wp2_with fail
        go_region_held3 (fun w'' : World => Below w'.heap.size w' w'') (first | assumption | exact (Below.refl _ _).drew)
          (first
            | ((with_reducible refine (HI1.out _ F (.slice (some ⟨b, off, none⟩) k c) (ll.take k) i _ (hl1.below (by assumption)) HN1.out (by omega) (by omega) (by omega) hs1).mono ?_)
               rintro e w1 ⟨v1, rfl, ⟨vs, hown1, hin1⟩, hx1⟩
               have hxa : Below w'.heap.size w' w1 := Below.trans (b := _) (by assumption) (hx1.mono (Below.size (by assumption))))
            | ((with_reducible refine (HR2.out _ F (.slice (some ⟨b, off + k, none⟩) (n - k) (c - k)) (ll.drop k) (hl2.below (by assumption)) HN2.out (by omega) hs2).mono ?_)
               rintro e w2 ⟨v2, rfl, hown2, hx2⟩
               obtain ⟨A3, c3, hv3, _, _⟩ := Own.shape hown2
               subst hv3
               have hxb : Below w'.heap.size w' w2 := Below.trans (b := _) (by assumption) (hx2.mono (Below.size (by assumption)))
               obtain ⟨g1, g2, g3⟩ := OwnL.prep (B := w'.heap.size) ((hown1.below hx2).mono (Nat.le_refl _)) (fun i b hb => by obtain ⟨u, hu, ho⟩ := hin1 i b hb; exact ⟨u, hu, OwnB.below ho hx2⟩) (OwnB.mono hown2 hxa.size)
               have hxc := hxb.alloc hxb.size (.cells #[.slice A3 (Tr.root (ll.drop k)).length c3] 22)
               have hsz := hxc.size)
            | (refine step_append_Own _ (by rfl) (.tmp 19) (.tmp 24) 40 (by rfl) w'.heap.size 22 i0 _ 1 24 Try.underlying40 hi hz0 hz1 hz2 (by rfl) (by omega) _ _ _ (by rfl) g1 _ _ _ _ (by rfl) g2 (by simp [Value.oneCell']) (by simp only [maxLen]; omega) (by omega) hsz ?_
               intro v4 w4 hown4 hgr4 hat4
               have hxd : Below w'.heap.size w' w4 := hxc.grown hgr4 hxc.size (fun k hk => (g1.lt k hk).1)
               have hL := g3 _ _ hown4 hgr4))
        go_wp2_with fail
        go_ret
        exact ⟨_, rfl, by rw [HP.out]; exact hL, hxd⟩
      · have hikB : decide ((i : Int) < (k : Int)) = false := by simp; omega
        have HP := Lib.hid (HP2.out hik)
        have kW : IntKind.i64.wrap ((i : Int) - (k : Int)) = (i : Int) - (k : Int) := IntWalk.i64_in _ (by omega)
        clear HP1 HP2
        go_enter Try.func101, Try.ntmps101
        go_wp2_with fail
        refine HQ.out.mono ?_
        rintro e w' ⟨rfl, hw⟩
        subst hw
        go_wp2_with fail
        go_region_held3 (fun w'' : World => Below w'.heap.size w' w'') (first | assumption | exact (Below.refl _ _).drew)
          (first
            | ((with_reducible refine (HI2.out _ F (.slice (some ⟨b, off + k, none⟩) (n - k) (c - k)) (ll.drop k) (i - k) _ (hl2.below (by assumption)) HN2.out (by omega) (by omega) (by omega) hs2).mono ?_)
               rintro e w1 ⟨v1, rfl, ⟨vs, hown1, hin1⟩, hx1⟩
               have hxa : Below w'.heap.size w' w1 := Below.trans (b := _) (by assumption) (hx1.mono (Below.size (by assumption))))
            | ((with_reducible refine (HR1.out _ F (.slice (some ⟨b, off, none⟩) k c) (ll.take k) (hl1.below (by assumption)) HN1.out (by omega) hs1).mono ?_)
               rintro e w2 ⟨v2, rfl, hown2, hx2⟩
               obtain ⟨A3, c3, hv3, _, _⟩ := Own.shape hown2
               subst hv3
               have hxb : Below w'.heap.size w' w2 := Below.trans (b := _) (by assumption) (hx2.mono (Below.size (by assumption)))
               obtain ⟨g1, g2, g3⟩ := OwnL.prep (B := w'.heap.size) ((hown1.below hx2).mono (Nat.le_refl _)) (fun i b hb => by obtain ⟨u, hu, ho⟩ := hin1 i b hb; exact ⟨u, hu, OwnB.below ho hx2⟩) (OwnB.mono hown2 hxa.size)
               have hxc := hxb.alloc hxb.size (.cells #[.slice A3 (Tr.root (ll.take k)).length c3] 22)
               have hsz := hxc.size)
            | (refine step_append_Own _ (by rfl) (.tmp 32) (.tmp 37) 40 (by rfl) w'.heap.size 22 i0 _ 1 24 Try.underlying40 hi hz0 hz1 hz2 (by rfl) (by omega) _ _ _ (by rfl) g1 _ _ _ _ (by rfl) g2 (by simp [Value.oneCell']) (by simp only [maxLen]; omega) (by omega) hsz ?_
               intro v4 w4 hown4 hgr4 hat4
               have hxd : Below w'.heap.size w' w4 := hxc.grown hgr4 hxc.size (fun k hk => (g1.lt k hk).1)
               have hL := g3 _ _ hown4 hgr4))
        go_wp2_with fail
        go_ret
        exact ⟨_, rfl, by rw [HP.out]; exact hL, hxd⟩
    · have HP := Lib.hid (Tr.path_small (l := ll) (by omega) i)
      have hnB : (n : Int) < 2 := by omega
      rw [hn]
      clear hn hA ih
      go_enter Try.func101, Try.ntmps101
      go_wp2_with fail
      go_ret
      exact ⟨_, rfl, by rw [HP.out]; exact OwnL.nil_ _ _, Below.refl _ _⟩

theorem grows_le7 {ll : List Bs} {n : Nat} (h : ll.length = n) (hn : n ≤ 128) (i : Nat) (b : Bool) : (Tr.grows ll i b).length ≤ 8 := Tr.grows_le 7 ll i b (by omega)

set_option maxRecDepth 100000 in
set_option maxHeartbeats 1000000 in
theorem grows_any (n : Nat) : ∀ (w : World) (F : Nat → Prop) (v : Value) (ll : List Bs) (i : Nat) (z : Int) (wh : Bool), BList w F v ll → ll.length = n → n ≤ 128 → 1 ≤ i → i ≤ n → z = (i : Int) → Short ll →
    Calls Try.prog 102 #[v, .int .i64 z, .bool wh] w fun e w' => ∃ v, e = .returned v ∧ OwnL w' w.heap.size v (Tr.grows ll i wh) ∧ Below w.heap.size w w' := by
  induction n using Nat.strongRecOn with
  | ind n ih =>
    intro w F v ll i z wh hl hn hn128 hi1 hi128 hz hs
    subst hz
    obtain ⟨i0, hi, hz0, hz1, hz2⟩ := info_parts info_bytes
    obtain ⟨A, c, hv, hnc, hcm, hA⟩ := hl.shape
    subst hv
    unfold maxLen at hcm
    by_cases hm : i < n
    · have h2 : 2 ≤ n := by omega
      obtain ⟨b, off, rfl, hF, hb⟩ := hA (by omega)
      have hk1 := Tr.split_lt h2
      have hk0 := Tr.split_pos n
      have hl1 := hl.first (Tr.split n) (by omega)
      have hl2 := hl.rest (Tr.split n) (by omega)
      have hs1 := hs.take (Tr.split n)
      have hs2 := hs.drop (Tr.split n)
      have hn1 : (ll.take (Tr.split n)).length = Tr.split n := by rw [List.length_take]; omega
      have hn2 : (ll.drop (Tr.split n)).length = n - Tr.split n := by rw [List.length_drop]; omega
      have hq := half_any n (w := w) h2 hn128
      have HQ := Lib.hid hq
      have h2' : 2 ≤ ll.length := by omega
      have hp1 : i ≤ Tr.split n → Tr.grows ll i wh = Tr.grows (ll.take (Tr.split n)) i wh ++ [Tr.root (ll.drop (Tr.split n))] := fun h => by
        rw [Tr.grows_left (by omega) h2' (by rw [hn]; exact h), hn]
      have hp2 : ¬ i ≤ Tr.split n → Tr.grows ll i wh = Tr.grows (ll.drop (Tr.split n)) (i - Tr.split n) false ++ [Tr.root (ll.take (Tr.split n))] := fun h => by
        rw [Tr.grows_right (by omega) h2' (by rw [hn]; exact h), hn]
      have ih1 := ih (Tr.split n) hk1
      have ih2 := ih (n - Tr.split n) (by omega)
      have r1 := root_tree (Tr.split n)
      have r2 := root_tree (n - Tr.split n)
      rw [hn] at hl2
      rw [hn]
      rw [hn] at hnc
      clear hn hA hq h2' ih
      generalize Tr.split n = k at *
      have hq1 := grows_le7 hn1 (by omega) i wh
      have hq2 := grows_le7 hn2 (by omega) (i - k) false
      have HN1 := Lib.hid hn1
      have HN2 := Lib.hid hn2
      have HI1 := Lib.hid ih1
      have HI2 := Lib.hid ih2
      have HR1 := Lib.hid r1
      have HR2 := Lib.hid r2
      have HP1 := Lib.hid hp1
      have HP2 := Lib.hid hp2
      clear hn1 hn2 ih1 ih2 r1 r2 hp1 hp2
      have hnB : ((i : Int) == (n : Int)) = false := by rw [beq_eq_false_iff_ne]; omega
      have k0 : (0 : Int) ≤ (k : Int) := by omega
      have k1 : (k : Int) ≤ (n : Int) := by omega
      have k2 : (k : Int) ≤ (c : Int) := by omega
      have k3 : (n : Int) ≤ (c : Int) := by omega
      have k4 : ((c : Int) == (k : Int)) = false := by rw [beq_eq_false_iff_ne]; omega
      have k5 : ¬ c = k := by omega
      by_cases hik : i ≤ k
      · have hikB : (i : Int) ≤ (k : Int) := by omega
        have HP := Lib.hid (HP1.out hik)
        clear HP1 HP2
        go_enter Try.func102, Try.ntmps102
        go_wp2_with fail
        refine HQ.out.mono ?_
        rintro e w' ⟨rfl, hw⟩
        subst hw
        go_wp2_with fail
        go_region_held3 (fun w'' : World => Below w'.heap.size w' w'') (first | assumption | exact (Below.refl _ _).drew)
          (first
            | ((with_reducible refine (HI1.out _ F (.slice (some ⟨b, off, none⟩) k c) (ll.take k) i _ wh (hl1.below (by assumption)) HN1.out (by omega) (by omega) (by omega) (by omega) hs1).mono ?_)
               rintro e w1 ⟨v1, rfl, ⟨vs, hown1, hin1⟩, hx1⟩
               have hxa : Below w'.heap.size w' w1 := Below.trans (b := _) (by assumption) (hx1.mono (Below.size (by assumption))))
            | ((with_reducible refine (HR2.out _ F (.slice (some ⟨b, off + k, none⟩) (n - k) (c - k)) (ll.drop k) (hl2.below (by assumption)) HN2.out (by omega) hs2).mono ?_)
               rintro e w2 ⟨v2, rfl, hown2, hx2⟩
               obtain ⟨A3, c3, hv3, _, _⟩ := Own.shape hown2
               subst hv3
               have hxb : Below w'.heap.size w' w2 := Below.trans (b := _) (by assumption) (hx2.mono (Below.size (by assumption)))
               obtain ⟨g1, g2, g3⟩ := OwnL.prep (B := w'.heap.size) ((hown1.below hx2).mono (Nat.le_refl _)) (fun i b hb => by obtain ⟨u, hu, ho⟩ := hin1 i b hb; exact ⟨u, hu, OwnB.below ho hx2⟩) (OwnB.mono hown2 hxa.size)
               have hxc := hxb.alloc hxb.size (.cells #[.slice A3 (Tr.root (ll.drop k)).length c3] 22)
               have hsz := hxc.size)
            | (refine step_append_Own _ (by rfl) (.tmp 27) (.tmp 32) 40 (by rfl) w'.heap.size 22 i0 _ 1 24 Try.underlying40 hi hz0 hz1 hz2 (by rfl) (by omega) _ _ _ (by rfl) g1 _ _ _ _ (by rfl) g2 (by simp [Value.oneCell']) (by simp only [maxLen]; omega) (by omega) hsz ?_
               intro v4 w4 hown4 hgr4 hat4
               have hxd : Below w'.heap.size w' w4 := hxc.grown hgr4 hxc.size (fun k hk => (g1.lt k hk).1)
               have hL := g3 _ _ hown4 hgr4))
        go_wp2_with fail
        go_ret
        exact ⟨_, rfl, by rw [HP.out]; exact hL, hxd⟩
      · have hikB : decide ((i : Int) ≤ (k : Int)) = false := by simp; omega
        have HP := Lib.hid (HP2.out hik)
        have kW : IntKind.i64.wrap ((i : Int) - (k : Int)) = (i : Int) - (k : Int) := IntWalk.i64_in _ (by omega)
        clear HP1 HP2
        go_enter Try.func102, Try.ntmps102
        go_wp2_with fail
        refine HQ.out.mono ?_
        rintro e w' ⟨rfl, hw⟩
        subst hw
        go_wp2_with fail
        go_region_held3 (fun w'' : World => Below w'.heap.size w' w'') (first | assumption | exact (Below.refl _ _).drew)
          (first
            | ((with_reducible refine (HI2.out _ F (.slice (some ⟨b, off + k, none⟩) (n - k) (c - k)) (ll.drop k) (i - k) _ false (hl2.below (by assumption)) HN2.out (by omega) (by omega) (by omega) (by omega) hs2).mono ?_)
               rintro e w1 ⟨v1, rfl, ⟨vs, hown1, hin1⟩, hx1⟩
               have hxa : Below w'.heap.size w' w1 := Below.trans (b := _) (by assumption) (hx1.mono (Below.size (by assumption))))
            | ((with_reducible refine (HR1.out _ F (.slice (some ⟨b, off, none⟩) k c) (ll.take k) (hl1.below (by assumption)) HN1.out (by omega) hs1).mono ?_)
               rintro e w2 ⟨v2, rfl, hown2, hx2⟩
               obtain ⟨A3, c3, hv3, _, _⟩ := Own.shape hown2
               subst hv3
               have hxb : Below w'.heap.size w' w2 := Below.trans (b := _) (by assumption) (hx2.mono (Below.size (by assumption)))
               obtain ⟨g1, g2, g3⟩ := OwnL.prep (B := w'.heap.size) ((hown1.below hx2).mono (Nat.le_refl _)) (fun i b hb => by obtain ⟨u, hu, ho⟩ := hin1 i b hb; exact ⟨u, hu, OwnB.below ho hx2⟩) (OwnB.mono hown2 hxa.size)
               have hxc := hxb.alloc hxb.size (.cells #[.slice A3 (Tr.root (ll.take k)).length c3] 22)
               have hsz := hxc.size)
            | (refine step_append_Own _ (by rfl) (.tmp 40) (.tmp 45) 40 (by rfl) w'.heap.size 22 i0 _ 1 24 Try.underlying40 hi hz0 hz1 hz2 (by rfl) (by omega) _ _ _ (by rfl) g1 _ _ _ _ (by rfl) g2 (by simp [Value.oneCell']) (by simp only [maxLen]; omega) (by omega) hsz ?_
               intro v4 w4 hown4 hgr4 hat4
               have hxd : Below w'.heap.size w' w4 := hxc.grown hgr4 hxc.size (fun k hk => (g1.lt k hk).1)
               have hL := g3 _ _ hown4 hgr4))
        go_wp2_with fail
        go_ret
        exact ⟨_, rfl, by rw [HP.out]; exact hL, hxd⟩
    · have hin : i = n := by omega
      subst hin
      have HP := Lib.hid (Tr.grows_all (l := ll) (m := i) (by omega) wh)
      have r0 := root_tree i
      have HR := Lib.hid r0
      have HN := Lib.hid hn
      have hin : (Value.slice A ll.length c) = .slice A i c := by rw [hn]
      rw [hin] at hl ⊢
      clear hn hA ih r0 hin
      have hnB : ((i : Int) == (i : Int)) = true := by simp
      cases wh with
      | true =>
        go_enter Try.func102, Try.ntmps102
        go_wp2_with fail
        go_ret
        exact ⟨_, rfl, by rw [HP.out]; exact OwnL.nil_ _ _, Below.refl _ _⟩
      | false =>
        go_enter Try.func102, Try.ntmps102
        go_wp2_with fail
        refine (HR.out w F _ ll hl HN.out (by omega) hs).mono ?_
        rintro e w1 ⟨v1, rfl, hown1, hx1⟩
        obtain ⟨A3, c3, hv3, _, _⟩ := Own.shape hown1
        subst hv3
        have ho := Own.new w1 w.heap.size 22 [.slice A3 (Tr.root ll).length c3] 1 rfl (by decide) hx1.size
        have ho1 := OwnB.alloc hown1 (.cells #[.slice A3 (Tr.root ll).length c3] 22)
        go_wp2_with fail
        go_ret
        refine ⟨_, rfl, ?_, hx1.alloc hx1.size _⟩
        rw [HP.out]
        refine ⟨_, ho, fun j b hj => ?_⟩
        match j, hj with
        | 0, hj => injection hj with hj; subst hj; exact ⟨_, rfl, ho1⟩
end Go.Proofs.Ytfdibjgmbdkbcaa
