/-
  THE WALKS of yearref2.Up, Two. Conditions: digests of 32 bytes, a hundred leaves at most.
-/
import Derived.Test.YtfdibjgmbdkbcaaR2B
namespace Go.Proofs.Ytfdibjgmbdkbcaa
open Go.RowKit Go.Lib

def UpPost (w : World) (d : Bs) (i n : Nat) (p : List Bs) (e : Ending) (w' : World) : Prop :=
  ∃ (v : Value) (ok : Bool) (x : Bs), e = .returned (.tuple #[v, .bool ok]) ∧ Bytes w' (fun _ => True) v x ∧ x.length ≤ 32 ∧ Tr.up d i n p = (if ok = true then some x else none) ∧ Below w.heap.size w w'
def TwoPostR (w : World) (m n : Nat) (wh : Bool) (old : Bs) (p : List Bs) (e : Ending) (w' : World) : Prop :=
  ∃ (v v' : Value) (ok : Bool) (x y : Bs), e = .returned (.tuple #[v, v', .bool ok]) ∧ Bytes w' (fun _ => True) v x ∧ Bytes w' (fun _ => True) v' y ∧ x.length ≤ 32 ∧ y.length ≤ 32 ∧ Tr.two m n wh old p = (if ok = true then some (x, y) else none) ∧ Below w.heap.size w w'
theorem last_split {p : List Bs} (h : 1 ≤ p.length) : p = p.take (p.length - 1) ++ [p[p.length - 1]] := by
  rw [← List.take_succ_eq_append_getElem (by omega), List.take_of_length_le (by omega)]
theorem pair_le2 {a b : Bs} (ha : a.length ≤ 32) (hb : b.length = 32) : (1 :: (a ++ b)).length ≤ 140737488355200 := by simp; omega
theorem pair_le3 {a b : Bs} (ha : a.length = 32) (hb : b.length ≤ 32) : (1 :: (a ++ b)).length ≤ 140737488355200 := by simp; omega

set_option maxRecDepth 100000 in
set_option maxHeartbeats 2000000 in
theorem rup_any (n : Nat) : ∀ (w : World) (F F' : Nat → Prop) (vd vp : Value) (d : Bs) (i : Nat) (zi zn : Int) (p : List Bs), Bytes w F vd d → BList w F' vp p → d.length ≤ 32 → (∀ x ∈ p, x.length = 32) → 1 ≤ n → n ≤ 100 → i ≤ 100 → zi = (i : Int) → zn = (n : Int) →
    Calls Try.prog 93 #[vd, .int .i64 zi, .int .i64 zn, vp] w (UpPost w d i n p) := by
  induction n using Nat.strongRecOn with
  | ind n ih =>
    intro w F F' vd vp d i zi zn p hd hp hd32 hp32 hn1 hn100 hi100 hzi hzn
    subst hzi hzn
    obtain ⟨A, c, hv, hpc, hcm, hA⟩ := hp.shape
    subst hv
    obtain ⟨Ad, cd, hvd, _, hcd⟩ := hd.form'
    subst hvd
    unfold maxLen at hcm hcd
    by_cases h1 : n = 1
    · subst h1
      by_cases hp0 : p = []
      · subst hp0
        have hU : Hid (Tr.up d i 1 [] = some d) := Lib.hid Tr.upG_one
        clear hA ih hp hp32
        simp only [List.length_nil] at *
        go_enter Try.func93, Try.ntmps93
        go_wp2_with fail
        go_ret2
        exact ⟨_, true, d, rfl, hd.weak (fun _ _ _ => trivial), hd32, hU.out, Below.refl _ _⟩
      · have hU : Hid (Tr.up d i 1 p = none) := Lib.hid (by unfold Tr.up; rw [Tr.upG_one, if_neg hp0])
        have hl0 : p.length ≠ 0 := fun h => hp0 (List.eq_nil_of_length_eq_zero h)
        have hB : ((p.length : Int) == 0) = false := by rw [beq_eq_false_iff_ne]; omega
        clear hA ih hp32 hp0 hl0
        go_enter Try.func93, Try.ntmps93
        go_wp2_with fail
        go_ret2
        exact ⟨_, false, d, rfl, hd.weak (fun _ _ _ => trivial), hd32, hU.out, Below.refl _ _⟩
    · have h2 : 2 ≤ n := by omega
      have hnB : ((n : Int) == 1) = false := by rw [beq_eq_false_iff_ne]; omega
      by_cases hp0 : p = []
      · subst hp0
        have hU : Hid (Tr.up d i n [] = none) := Lib.hid (Tr.upG_nil h2)
        clear hA ih hp hp32 h1
        simp only [List.length_nil] at *
        go_enter Try.func93, Try.ntmps93
        go_wp2_with fail
        go_ret2
        exact ⟨_, false, [], rfl, SlAt.nil_ _ _ _, by simp, hU.out, Below.refl _ _⟩
      · skip
        have hm1 : 1 ≤ p.length := by
          rcases Nat.eq_zero_or_pos p.length with h | h
          · exact absurd (List.eq_nil_of_length_eq_zero h) hp0
          · exact h
        obtain ⟨b, off, u, hA2, hc, hF, hb, hub⟩ := hp.at_ (j := p.length - 1) (by omega)
        subst hA2
        have hq := hp.first (p.length - 1) (by omega)
        have hpq := last_split hm1
        have htop := hp32 _ (List.getElem_mem (show p.length - 1 < p.length by omega))
        have hq32 : ∀ x ∈ p.take (p.length - 1), x.length = 32 := fun x hx => hp32 x (List.mem_of_mem_take hx)
        generalize p.take (p.length - 1) = q at *
        generalize p[p.length - 1] = top at *
        obtain ⟨At, ct, hvt, _, hct⟩ := hub.form'
        subst hvt
        rw [htop] at hub hc
        have hL : i < Tr.split n → Tr.up d i n p = (Tr.up d i (Tr.split n) q).map (Tr.nodeL · top) := fun h => by
          conv => lhs; rw [hpq]
          exact Tr.upG_left h2 top h
        have hR : ¬ i < Tr.split n → Tr.up d i n p = (Tr.up d (i - Tr.split n) (n - Tr.split n) q).map (Tr.nodeR · top) := fun h => by
          conv => lhs; rw [hpq]
          exact Tr.upG_right h2 top h
        have hk1 := Tr.split_lt h2
        have hk0 := Tr.split_pos n
        have hS := Split_any n w h2 (by omega)
        have ih1 := ih (Tr.split n) hk1
        have ih2 := ih (n - Tr.split n) (by omega)
        generalize p.length = l at *
        generalize Tr.split n = k at *
        have HL := Lib.hid hL
        have HR := Lib.hid hR
        have HI1 := Lib.hid ih1
        have HI2 := Lib.hid ih2
        have HS := Lib.hid hS
        have HT := Lib.hid htop
        clear hL hR ih1 ih2 ih hS htop hpq hp32 hp0 hp hA
        have lB : ((l : Int) == 0) = false := by rw [beq_eq_false_iff_ne]; omega
        have w1 : IntKind.i64.wrap ((l : Int) - 1) = (l : Int) - 1 := IntWalk.i64_in _ (by omega)
        have g0 : (0 : Int) ≤ (l : Int) - 1 := by omega
        have g1 : (l : Int) - 1 ≤ (c : Int) := by omega
        have g2 : (l : Int) - 1 < (l : Int) := by omega
        have g3 : ((l : Int) - 1).toNat = l - 1 := by omega
        have g4 : (1 : Int) ≤ (l : Int) := by omega
        have g5 : (l : Int) - 1 ≤ (l : Int) := by omega
        by_cases hik : i < k
        · have hikB : (i : Int) < (k : Int) := by omega
          have HU := Lib.hid (HL.out hik)
          clear HL HR
          go_enter Try.func93, Try.ntmps93
          go_wp2_with fail
          refine HS.out.mono ?_
          rintro e w' ⟨rfl, hw⟩
          subst hw
          go_wp2_with fail
          go_quiet (fail)
          have hx0 := below_drewN (Below.refl w'.heap.size w') nq
          have hd2 := SlAt.below hd hx0
          have hq2 := hq.below hx0
          have hub2 := SlAt.below hub hx0
          clear hd hq hub hc w1 g0 g1 g2 g3 g4 g5
          generalize w'.drewN nq = w2 at *
          go_wp2_with fail
          refine (HI1.out w2 _ _ _ _ d i _ _ q hd2 hq2 hd32 hq32 (by omega) (by omega) (by omega) (by omega) (by omega)).mono ?_
          rintro e w3 ⟨v3, ok, x, rfl, hx3b, hx32, hup, hx3⟩
          obtain ⟨A3, c3, hv3, _, _⟩ := hx3b.form'
          subst hv3
          have HUP := Lib.hid hup
          have hPl := pair_le2 hx32 HT.out
          have h64 : x.length + top.length ≤ 140737488355100 := by have := HT.out; omega
          have h65 : top.length + x.length ≤ 140737488355100 := by omega
          have hub3 := SlAt.below hub2 hx3
          rw [← HT.out] at hub3 ⊢
          clear hup
          go_wp2_with fail
          refine (Pair_any w3 _ _ _ _ x top hx3b hub3 (by assumption)).mono ?_
          rintro e w4 ⟨v4, rfl, hown4, hx4⟩
          go_wp2_with fail
          refine (refsum_any w4 _ _ (1 :: (x ++ top)) (OwnB.bytes hown4) hPl).mono ?_
          rintro e w5 ⟨v5, rfl, hown5, hx5⟩
          go_wp2_with fail
          go_ret2
          have hx345 := hx3.trans ((hx4.mono hx3.size).trans (hx5.mono (Nat.le_trans hx3.size hx4.size)))
          exact ⟨v5, ok, Tr.nodeL x top, rfl, (OwnB.bytes hown5).weak (fun _ _ _ => trivial), Nat.le_refl 32, by rw [HU.out, HUP.out]; cases ok <;> rfl, hx0.trans (hx345.mono hx0.size)⟩
        · have hikB : decide ((i : Int) < (k : Int)) = false := by simp; omega
          have HU := Lib.hid (HR.out hik)
          clear HL HR
          go_enter Try.func93, Try.ntmps93
          go_wp2_with fail
          refine HS.out.mono ?_
          rintro e w' ⟨rfl, hw⟩
          subst hw
          go_wp2_with fail
          go_quiet (fail)
          have hx0 := below_drewN (Below.refl w'.heap.size w') nq
          have hd2 := SlAt.below hd hx0
          have hq2 := hq.below hx0
          have hub2 := SlAt.below hub hx0
          clear hd hq hub hc w1 g0 g1 g2 g3 g4 g5
          generalize w'.drewN nq = w2 at *
          go_wp2_with fail
          refine (HI2.out w2 _ _ _ _ d (i - k) _ _ q hd2 hq2 hd32 hq32 (by omega) (by omega) (by omega) (by omega) (by omega)).mono ?_
          rintro e w3 ⟨v3, ok, x, rfl, hx3b, hx32, hup, hx3⟩
          obtain ⟨A3, c3, hv3, _, _⟩ := hx3b.form'
          subst hv3
          have HUP := Lib.hid hup
          have hPl := pair_le3 HT.out hx32
          have h64 : x.length + top.length ≤ 140737488355100 := by have := HT.out; omega
          have h65 : top.length + x.length ≤ 140737488355100 := by omega
          have hub3 := SlAt.below hub2 hx3
          rw [← HT.out] at hub3 ⊢
          clear hup
          go_wp2_with fail
          refine (Pair_any w3 _ _ _ _ top x hub3 hx3b (by assumption)).mono ?_
          rintro e w4 ⟨v4, rfl, hown4, hx4⟩
          go_wp2_with fail
          refine (refsum_any w4 _ _ (1 :: (top ++ x)) (OwnB.bytes hown4) hPl).mono ?_
          rintro e w5 ⟨v5, rfl, hown5, hx5⟩
          go_wp2_with fail
          go_ret2
          have hx345 := hx3.trans ((hx4.mono hx3.size).trans (hx5.mono (Nat.le_trans hx3.size hx4.size)))
          exact ⟨v5, ok, Tr.nodeR x top, rfl, (OwnB.bytes hown5).weak (fun _ _ _ => trivial), Nat.le_refl 32, by rw [HU.out, HUP.out]; cases ok <;> rfl, hx0.trans (hx345.mono hx0.size)⟩

set_option maxRecDepth 100000 in
set_option maxHeartbeats 2000000 in
theorem rtwo_any (n : Nat) : ∀ (w : World) (F F' : Nat → Prop) (vd vp : Value) (d : Bs) (i : Nat) (zi zn : Int) (wh : Bool) (p : List Bs), Bytes w F vd d → BList w F' vp p → d.length ≤ 32 → (∀ x ∈ p, x.length = 32) → 1 ≤ i → i ≤ n → n ≤ 100 → zi = (i : Int) → zn = (n : Int) →
    Calls Try.prog 94 #[.int .i64 zi, .int .i64 zn, .bool wh, vd, vp] w (TwoPostR w i n wh d p) := by
  induction n using Nat.strongRecOn with
  | ind n ih =>
    intro w F F' vd vp d i zi zn wh p hd hp hd32 hp32 hi1 hin hn100 hzi hzn
    subst hzi hzn
    obtain ⟨A, c, hv, hpc, hcm, hA⟩ := hp.shape
    subst hv
    obtain ⟨Ad, cd, hvd, _, hcd⟩ := hd.form'
    subst hvd
    unfold maxLen at hcm hcd
    by_cases h1 : i = n
    · subst h1
      have hnB : ((i : Int) == (i : Int)) = true := by simp
      cases wh with
      | true =>
        by_cases hp0 : p = []
        · subst hp0
          have hU : Hid (Tr.two i i true d [] = some (d, d)) := Lib.hid (by rw [Tr.two_whole (by omega)]; rfl)
          clear hA ih hp hp32
          simp only [List.length_nil] at *
          go_enter Try.func94, Try.ntmps94
          go_wp2_with fail
          go_ret3
          exact ⟨_, _, true, d, d, rfl, hd.weak (fun _ _ _ => trivial), hd.weak (fun _ _ _ => trivial), hd32, hd32, hU.out, Below.refl _ _⟩
        · have hU : Hid (Tr.two i i true d p = none) := Lib.hid (by rw [Tr.two_whole (by omega), if_neg hp0])
          have hl0 : p.length ≠ 0 := fun h => hp0 (List.eq_nil_of_length_eq_zero h)
          have hB : ((p.length : Int) == 0) = false := by rw [beq_eq_false_iff_ne]; omega
          clear hA ih hp32 hp0 hl0
          go_enter Try.func94, Try.ntmps94
          go_wp2_with fail
          go_ret3
          exact ⟨_, _, false, d, d, rfl, hd.weak (fun _ _ _ => trivial), hd.weak (fun _ _ _ => trivial), hd32, hd32, hU.out, Below.refl _ _⟩
      | false =>
        have hU : Hid (Tr.two i i false d p = Tr.only p) := Lib.hid (by rw [Tr.two_part (by omega)])
        by_cases hp1 : p.length = 1
        · obtain ⟨x, hx⟩ : ∃ x, p = [x] := by
            match p, hp1 with
            | [x], _ => exact ⟨x, rfl⟩
          subst hx
          obtain ⟨b, off, u, hA2, hc, hF, hb, hub⟩ := hp.at_ (j := 0) (by simp)
          subst hA2
          have hc' : w.cell? ⟨b, off, none⟩ = some u := hc
          have hub' : Bytes w F' u x := hub
          obtain ⟨At, ct, hvt, _, hct⟩ := hub'.form'
          subst hvt
          have hx32 : x.length ≤ 32 := Nat.le_of_eq (hp32 x (by simp))
          clear hA ih hp hp32 hp1 hc hub
          simp only [List.length_cons, List.length_nil] at *
          go_enter Try.func94, Try.ntmps94
          go_wp2_with fail
          go_quiet (fail)
          have hx0 := below_drewN (Below.refl w.heap.size w) nq
          have hub2 := SlAt.below hub' hx0
          generalize w.drewN nq = w2 at *
          go_wp2_with fail
          go_ret3
          exact ⟨_, _, true, x, x, rfl, hub2.weak (fun _ _ _ => trivial), hub2.weak (fun _ _ _ => trivial), hx32, hx32, hU.out, hx0⟩
        · have hU2 : Hid (Tr.two i i false d p = none) := Lib.hid (by
            rw [hU.out]
            match p, hp1 with
            | [], _ => rfl
            | [x], h => exact absurd rfl h
            | _ :: _ :: _, _ => rfl)
          have hB : ((p.length : Int) != 1) = true := by rw [bne_iff_ne]; omega
          have hB' : ((p.length : Int) == 1) = false := by rw [beq_eq_false_iff_ne]; omega
          clear hA ih hp32 hp1 hU
          go_enter Try.func94, Try.ntmps94
          go_wp2_with fail
          go_ret3
          exact ⟨_, _, false, [], [], rfl, SlAt.nil_ _ _ _, SlAt.nil_ _ _ _, by simp, by simp, hU2.out, Below.refl _ _⟩
    · have hlt : i < n := by omega
      have h2 : 2 ≤ n := by omega
      have hnB : ((i : Int) == (n : Int)) = false := by rw [beq_eq_false_iff_ne]; omega
      by_cases hp0 : p = []
      · subst hp0
        have hU : Hid (Tr.two i n wh d [] = none) := Lib.hid (Tr.two_nil hlt h2)
        clear hA ih hp hp32 h1
        simp only [List.length_nil] at *
        go_enter Try.func94, Try.ntmps94
        go_wp2_with fail
        go_ret3
        exact ⟨_, _, false, [], [], rfl, SlAt.nil_ _ _ _, SlAt.nil_ _ _ _, by simp, by simp, hU.out, Below.refl _ _⟩
      · skip
        have hm1 : 1 ≤ p.length := by
          rcases Nat.eq_zero_or_pos p.length with h | h
          · exact absurd (List.eq_nil_of_length_eq_zero h) hp0
          · exact h
        obtain ⟨b, off, u, hA2, hc, hF, hb, hub⟩ := hp.at_ (j := p.length - 1) (by omega)
        subst hA2
        have hq := hp.first (p.length - 1) (by omega)
        have hpq := last_split hm1
        have htop := hp32 _ (List.getElem_mem (show p.length - 1 < p.length by omega))
        have hq32 : ∀ x ∈ p.take (p.length - 1), x.length = 32 := fun x hx => hp32 x (List.mem_of_mem_take hx)
        generalize p.take (p.length - 1) = q at *
        generalize p[p.length - 1] = top at *
        obtain ⟨At, ct, hvt, _, hct⟩ := hub.form'
        subst hvt
        rw [htop] at hub hc
        have hL : i ≤ Tr.split n → Tr.two i n wh d p = (Tr.two i (Tr.split n) wh d q).map (Tr.pairL · top) := fun h => by
          conv => lhs; rw [hpq]
          exact Tr.two_left hlt h2 top h
        have hR : ¬ i ≤ Tr.split n → Tr.two i n wh d p = (Tr.two (i - Tr.split n) (n - Tr.split n) false d q).map (Tr.pairR · top) := fun h => by
          conv => lhs; rw [hpq]
          exact Tr.two_right hlt h2 top h
        have hk1 := Tr.split_lt h2
        have hk0 := Tr.split_pos n
        have hS := Split_any n w h2 (by omega)
        have ih1 := ih (Tr.split n) hk1
        have ih2 := ih (n - Tr.split n) (by omega)
        generalize p.length = l at *
        generalize Tr.split n = k at *
        have HL := Lib.hid hL
        have HR := Lib.hid hR
        have HI1 := Lib.hid ih1
        have HI2 := Lib.hid ih2
        have HS := Lib.hid hS
        have HT := Lib.hid htop
        clear hL hR ih1 ih2 ih hS htop hpq hp32 hp0 hp hA
        have lB : ((l : Int) == 0) = false := by rw [beq_eq_false_iff_ne]; omega
        have w1 : IntKind.i64.wrap ((l : Int) - 1) = (l : Int) - 1 := IntWalk.i64_in _ (by omega)
        have g0 : (0 : Int) ≤ (l : Int) - 1 := by omega
        have g1 : (l : Int) - 1 ≤ (c : Int) := by omega
        have g2 : (l : Int) - 1 < (l : Int) := by omega
        have g3 : ((l : Int) - 1).toNat = l - 1 := by omega
        have g4 : (1 : Int) ≤ (l : Int) := by omega
        have g5 : (l : Int) - 1 ≤ (l : Int) := by omega
        by_cases hik : i ≤ k
        · have hikB : (i : Int) ≤ (k : Int) := by omega
          have HU := Lib.hid (HL.out hik)
          clear HL HR
          go_enter Try.func94, Try.ntmps94
          go_wp2_with fail
          refine HS.out.mono ?_
          rintro e w' ⟨rfl, hw⟩
          subst hw
          go_wp2_with fail
          go_quiet (fail)
          have hx0 := below_drewN (Below.refl w'.heap.size w') nq
          have hd2 := SlAt.below hd hx0
          have hq2 := hq.below hx0
          have hub2 := SlAt.below hub hx0
          clear hd hq hub hc w1 g0 g1 g2 g3 g4 g5
          generalize w'.drewN nq = w2 at *
          go_wp2_with fail
          refine (HI1.out w2 _ _ _ _ d i _ _ wh q hd2 hq2 hd32 hq32 (by omega) (by omega) (by omega) (by omega) (by omega)).mono ?_
          rintro e w3 ⟨v3, v3', ok, x, y, rfl, hx3b, hy3b, hx32, hy32, hup, hx3⟩
          obtain ⟨A3, c3, hv3, _, _⟩ := hx3b.form'
          subst hv3
          obtain ⟨A4, c4, hv4, _, _⟩ := hy3b.form'
          subst hv4
          have HUP := Lib.hid hup
          have h64 : y.length + top.length ≤ 140737488355100 := by have := HT.out; omega
          have h65 : top.length + y.length ≤ 140737488355100 := by omega
          have h66 : top.length + x.length ≤ 140737488355100 := by have := HT.out; omega
          have hub3 := SlAt.below hub2 hx3
          rw [← HT.out] at hub3 ⊢
          clear hup
          go_wp2_with fail
          have hPl := pair_le2 hy32 HT.out
          refine (Pair_any w3 _ _ _ _ y top hy3b hub3 (by assumption)).mono ?_
          rintro e w4 ⟨v4, rfl, hown4, hx4⟩
          go_wp2_with fail
          refine (refsum_any w4 _ _ (1 :: (y ++ top)) (OwnB.bytes hown4) hPl).mono ?_
          rintro e w5 ⟨v5, rfl, hown5, hx5⟩
          go_wp2_with fail
          go_ret3
          have hx45 := hx4.trans (hx5.mono hx4.size)
          have hx345 := hx3.trans (hx45.mono hx3.size)
          exact ⟨_, v5, ok, x, Tr.nodeH y top, rfl, SlAt.below hx3b hx45, (OwnB.bytes hown5).weak (fun _ _ _ => trivial), hx32, Nat.le_refl 32, by rw [HU.out, HUP.out]; cases ok <;> rfl, hx0.trans (hx345.mono hx0.size)⟩
        · have hikB : decide ((i : Int) ≤ (k : Int)) = false := by simp; omega
          have HU := Lib.hid (HR.out hik)
          clear HL HR
          go_enter Try.func94, Try.ntmps94
          go_wp2_with fail
          refine HS.out.mono ?_
          rintro e w' ⟨rfl, hw⟩
          subst hw
          go_wp2_with fail
          go_quiet (fail)
          have hx0 := below_drewN (Below.refl w'.heap.size w') nq
          have hd2 := SlAt.below hd hx0
          have hq2 := hq.below hx0
          have hub2 := SlAt.below hub hx0
          clear hd hq hub hc w1 g0 g1 g2 g3 g4 g5
          generalize w'.drewN nq = w2 at *
          go_wp2_with fail
          refine (HI2.out w2 _ _ _ _ d (i - k) _ _ false q hd2 hq2 hd32 hq32 (by omega) (by omega) (by omega) (by omega) (by omega)).mono ?_
          rintro e w3 ⟨v3, v3', ok, x, y, rfl, hx3b, hy3b, hx32, hy32, hup, hx3⟩
          obtain ⟨A3, c3, hv3, _, _⟩ := hx3b.form'
          subst hv3
          obtain ⟨A4, c4, hv4, _, _⟩ := hy3b.form'
          subst hv4
          have HUP := Lib.hid hup
          have h64 : y.length + top.length ≤ 140737488355100 := by have := HT.out; omega
          have h65 : top.length + y.length ≤ 140737488355100 := by omega
          have h66 : top.length + x.length ≤ 140737488355100 := by have := HT.out; omega
          have hub3 := SlAt.below hub2 hx3
          rw [← HT.out] at hub3 ⊢
          clear hup
          go_wp2_with fail
          have hPl := pair_le3 HT.out hx32
          have hPl2 := pair_le3 HT.out hy32
          refine (Pair_any w3 _ _ _ _ top x hub3 hx3b (by assumption)).mono ?_
          rintro e w4 ⟨v4, rfl, hown4, hx4⟩
          go_wp2_with fail
          refine (refsum_any w4 _ _ (1 :: (top ++ x)) (OwnB.bytes hown4) hPl).mono ?_
          rintro e w5 ⟨v5, rfl, hown5, hx5⟩
          have hx45 := hx4.trans (hx5.mono hx4.size)
          have hub5 := SlAt.below hub3 hx45
          have hy5 := SlAt.below hy3b hx45
          go_wp2_with fail
          refine (Pair_any w5 _ _ _ _ top y hub5 hy5 (by assumption)).mono ?_
          rintro e w6 ⟨v6, rfl, hown6, hx6⟩
          go_wp2_with fail
          refine (refsum_any w6 _ _ (1 :: (top ++ y)) (OwnB.bytes hown6) hPl2).mono ?_
          rintro e w7 ⟨v7, rfl, hown7, hx7⟩
          go_wp2_with fail
          go_ret3
          have hx67 := hx6.trans (hx7.mono hx6.size)
          have hx47 := hx45.trans (hx67.mono hx45.size)
          have hx37 := hx3.trans (hx47.mono hx3.size)
          exact ⟨v5, v7, ok, Tr.nodeH top x, Tr.nodeH top y, rfl, SlAt.below ((OwnB.bytes hown5).weak (fun _ _ _ => trivial)) hx67, (OwnB.bytes hown7).weak (fun _ _ _ => trivial), Nat.le_refl 32, Nat.le_refl 32, by rw [HU.out, HUP.out]; cases ok <;> rfl, hx0.trans (hx37.mono hx0.size)⟩
end Go.Proofs.Ytfdibjgmbdkbcaa
