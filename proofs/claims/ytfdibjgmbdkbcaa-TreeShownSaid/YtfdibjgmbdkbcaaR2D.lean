/-
  THE WALKS of yearref2.Stands, Grew. Conditions: what comes in is read as bytes and lists of bytes.
-/
import Derived.Test.YtfdibjgmbdkbcaaR2C
import Derived.Test.YtfdibjgmbdkbcaaTreeI
import Derived.Test.YtfdibjgmbdkbcaaSame
namespace Go.Proofs.Ytfdibjgmbdkbcaa
open Go.RowKit Go.Lib

theorem allD_32 {p : List Bs} (h : allD p = true) : ∀ x ∈ p, x.length = 32 := (allD_iff p).1 h
def UpHeld (d : Bs) (i n : Nat) (p : List Bs) (v : Value) (ok : Bool) (x : Bs) (w w' : World) : Prop :=
  Bytes w' (fun _ => True) v x ∧ x.length ≤ 32 ∧ Tr.up d i n p = (if ok = true then some x else none) ∧ Below w.heap.size w w'

set_option maxRecDepth 100000 in
set_option maxHeartbeats 2000000 in
theorem rstands_any (w : World) (F F' F'' : Nat → Prop) (vr vb vp : Value) (n : Int) (r b : Bs) (i : Int) (p : List Bs) (hr : Bytes w F vr r) (hb : Bytes w F' vb b) (hp : BList w F'' vp p) :
    Calls Try.prog 26 #[.agg #[.int .i64 n, vr], vb, .int .i64 i, vp] w fun e w' => e = .returned (.bool (standsS n r b i p)) ∧ Below w.heap.size w w' := by
  obtain ⟨A, c, hvp, _, _, _⟩ := hp.shape
  subst hvp
  obtain ⟨A2, c2, hvb, _, hc2⟩ := hb.form'
  subst hvb
  obtain ⟨A3, c3, hvr, _, _⟩ := hr.form'
  subst hvr
  unfold maxLen at hc2
  have hx0 : Below w.heap.size w (w.alloc (.cells #[.int .i64 n, .slice A3 r.length c3] 39)) := (Below.refl _ _).alloc (Nat.le_refl _) _
  by_cases hall : 1 ≤ n ∧ n ≤ 100 ∧ 0 ≤ i ∧ i < n ∧ b.length ≤ 200
  · obtain ⟨a1, a2, a3, a4, a5⟩ := hall
    have hS : Hid (standsS n r b i p = (allD p && (Tr.up (Tr.leafH b) i.toNat n.toNat p == some r))) := Lib.hid (by unfold standsS; rw [decide_eq_true ⟨a1, a2, a3, a4, a5⟩]; rfl)
    have b1 : decide (n < 1) = false := by simp; omega
    have b2 : decide (100 < n) = false := by simp; omega
    have b3 : decide (i < 0) = false := by simp; omega
    have b4 : decide (n ≤ i) = false := by simp; omega
    have b5 : decide ((200 : Int) < (b.length : Int)) = false := by simp; omega
    have hd := Good_any (w.alloc (.cells #[.int .i64 n, .slice A3 r.length c3] 39)) F'' _ p (hp.alloc _)
    have HD := Lib.hid hd
    clear hd
    cases hal : allD p with
    | false =>
      rw [hal] at HD
      have HS : Hid (standsS n r b i p = false) := Lib.hid (by rw [hS.out, hal]; rfl)
      clear hS hal
      go_enter Try.func26, Try.ntmps26
      go_wp2_with fail
      refine HD.out.mono ?_
      rintro e w' ⟨rfl, hw⟩
      subst hw
      go_wp2_with fail
      go_ret
      exact ⟨by rw [HS.out]; rfl, hx0⟩
    | true =>
      rw [hal] at HD
      have hsp := allD_short hal
      have HS : Hid (standsS n r b i p = (Tr.up (Tr.leafH b) i.toNat n.toNat p == some r)) := Lib.hid (by rw [hS.out, hal]; rfl)
      have hal0 := hal
      clear hS hal
      obtain ⟨ni, hni⟩ : ∃ k : Nat, n = (k : Int) := ⟨n.toNat, by omega⟩
      obtain ⟨ii, hii⟩ : ∃ k : Nat, i = (k : Int) := ⟨i.toNat, by omega⟩
      subst hni hii
      have b4' : decide (ni ≤ ii) = false := by simp; omega
      have hp32 := allD_32 hal0
      have HS2 : Hid (standsS (ni : Int) r b (ii : Int) p = (Tr.up (Tr.leafH b) ii ni p == some r)) := Lib.hid (by rw [HS.out]; rfl)
      clear HS hal0
      go_enter Try.func26, Try.ntmps26
      go_wp2_with fail
      refine HD.out.mono ?_
      rintro e w' ⟨rfl, hw⟩
      have hw0 : w'.cell? ⟨w.heap.size, 0, none⟩ = some (.int .i64 ni) := by rw [hw, World.cell?_alloc_mark]; rfl
      have hw1 : w'.cell? ⟨w.heap.size, 1, none⟩ = some (.slice A3 r.length c3) := by rw [hw, World.cell?_alloc_mark]; rfl
      have hbw := hb.alloc (.cells #[.int .i64 ni, .slice A3 r.length c3] 39)
      have hpw := hp.alloc (.cells #[.int .i64 ni, .slice A3 r.length c3] 39)
      have hrw := hr.alloc (.cells #[.int .i64 ni, .slice A3 r.length c3] 39)
      have hsz : w.heap.size < w'.heap.size := by rw [hw]; simp
      rw [← hw] at hx0 hbw hpw hrw
      have hi2 : (0 :: b).length ≤ 140737488355200 := by simp; omega
      clear hw HD
      go_wp2_with fail
      go_region_held3 (fun w'' : World => w''.cell? ⟨w.heap.size, 0, none⟩ = some (.int .i64 ni) ∧ w''.cell? ⟨w.heap.size, 1, none⟩ = some (.slice A3 r.length c3) ∧ Below w'.heap.size w' w'') (first | assumption | exact ⟨hw0, hw1, (Below.refl _ _).drew⟩)
        (first
          | ((with_reducible refine (In_any _ F' (.slice A2 b.length c2) b (Bytes.below hbw (by exact And.right (And.right (by assumption)))) (by omega)).mono ?_)
             rintro e w1 ⟨v1, rfl, hown1, hx1⟩
             have hS1 := keep2 hsz (by assumption) hx1)
          | ((with_reducible refine (refsum_any _ _ _ (0 :: b) (OwnB.bytes hown1) hi2).mono ?_)
             rintro e w2 ⟨v2, rfl, hown2, hx2⟩
             have hS2 := keep2 hsz hS1 hx2
             have hown2' : OwnB w2 w1.heap.size v2 (Tr.leafH b) := hown2)
          | ((with_reducible refine (rup_any ni _ _ F'' _ _ (Tr.leafH b) ii _ _ p (OwnB.bytes hown2') (hpw.below (by exact hS2.2.2)) (Nat.le_of_eq (Tr.length_leafH b)) hp32 (by omega) (by omega) (by omega) rfl rfl).mono ?_)
             rintro e w3 ⟨v3, ok, x, rfl, hx3b, hx32, hup, hx3⟩
             have hS3 := keep2 hsz hS2 hx3
             have HUP := Lib.hid hup
             clear hup))
      obtain ⟨g0, g1, g2⟩ := hS3
      have hrw2 := SlAt.below hrw g2
      clear hS1 hS2
      cases ok with
      | false =>
        have HF : Hid (standsS (ni : Int) r b (ii : Int) p = false) := Lib.hid (by rw [HS2.out, HUP.out]; rfl)
        go_wp2_with fail
        go_ret
        exact ⟨by rw [HF.out]; rfl, hx0.trans (g2.mono hx0.size)⟩
      | true =>
        have HF : Hid (standsS (ni : Int) r b (ii : Int) p = (x == r)) := Lib.hid (by rw [HS2.out, HUP.out]; rfl)
        go_wp2_with fail
        refine (same_any w3 _ _ v3 _ x r hx3b hrw2).mono ?_
        rintro e w4 ⟨rfl, nd, rfl⟩
        go_wp2_with fail
        go_ret
        exact ⟨by rw [HF.out]; rfl, hx0.trans ((below_drewN g2 nd).mono hx0.size)⟩
  · have HS := Lib.hid (standsS_no (r := r) (p := p) hall)
    have hcase : n < 1 ∨ (¬ n < 1 ∧ 100 < n) ∨ (¬ n < 1 ∧ ¬ 100 < n ∧ i < 0) ∨ (¬ n < 1 ∧ ¬ 100 < n ∧ ¬ i < 0 ∧ n ≤ i) ∨ (¬ n < 1 ∧ ¬ 100 < n ∧ ¬ i < 0 ∧ ¬ n ≤ i ∧ (200 : Int) < (b.length : Int)) := by omega
    clear hall
    rcases hcase with h1 | ⟨h1, h2⟩ | ⟨h1, h2, h3⟩ | ⟨h1, h2, h3, h4⟩ | ⟨h1, h2, h3, h4, h5⟩
    · have b1 : decide (n < 1) = true := by simp; omega
      go_enter Try.func26, Try.ntmps26
      go_wp2_with fail
      go_ret
      exact ⟨by rw [HS.out]; rfl, hx0⟩
    · have b1 : decide (n < 1) = false := by simp; omega
      have b2 : decide (100 < n) = true := by simp; omega
      go_enter Try.func26, Try.ntmps26
      go_wp2_with fail
      go_ret
      exact ⟨by rw [HS.out]; rfl, hx0⟩
    · have b1 : decide (n < 1) = false := by simp; omega
      have b2 : decide (100 < n) = false := by simp; omega
      have b3 : decide (i < 0) = true := by simp; omega
      go_enter Try.func26, Try.ntmps26
      go_wp2_with fail
      go_ret
      exact ⟨by rw [HS.out]; rfl, hx0⟩
    · have b1 : decide (n < 1) = false := by simp; omega
      have b2 : decide (100 < n) = false := by simp; omega
      have b3 : decide (i < 0) = false := by simp; omega
      have b4 : decide (n ≤ i) = true := by simp; omega
      go_enter Try.func26, Try.ntmps26
      go_wp2_with fail
      go_ret
      exact ⟨by rw [HS.out]; rfl, hx0⟩
    · have b1 : decide (n < 1) = false := by simp; omega
      have b2 : decide (100 < n) = false := by simp; omega
      have b3 : decide (i < 0) = false := by simp; omega
      have b4 : decide (n ≤ i) = false := by simp; omega
      have b5 : decide ((200 : Int) < (b.length : Int)) = true := by simp; omega
      go_enter Try.func26, Try.ntmps26
      go_wp2_with fail
      go_ret
      exact ⟨by rw [HS.out]; rfl, hx0⟩

set_option maxRecDepth 100000 in
set_option maxHeartbeats 4000000 in
theorem rgrew_any (w : World) (F F' F'' : Nat → Prop) (vo vn vp : Value) (m n : Int) (ro rn : Bs) (p : List Bs) (hro : Bytes w F vo ro) (hrn : Bytes w F' vn rn) (hp : BList w F'' vp p) :
    Calls Try.prog 28 #[.agg #[.int .i64 m, vo], .agg #[.int .i64 n, vn], vp] w fun e w' => e = .returned (.bool (grewS m ro n rn p)) ∧ Below w.heap.size w w' := by
  obtain ⟨i0, hi, hz0, hz1, hz2⟩ := info_parts info_bytes
  obtain ⟨A, c, hvp, hpc, hcm, _⟩ := hp.shape
  subst hvp
  obtain ⟨A2, c2, hvo, _, hc2⟩ := hro.form'
  subst hvo
  obtain ⟨A3, c3, hvn, _, _⟩ := hrn.form'
  subst hvn
  unfold maxLen at hc2 hcm
  obtain ⟨W, hW⟩ : ∃ W, W = (w.alloc (.cells #[.int .i64 m, .slice A2 ro.length c2] 39)).alloc (.cells #[.int .i64 n, .slice A3 rn.length c3] 39) := ⟨_, rfl⟩
  have hx0 : Below w.heap.size w W := by rw [hW]; exact ((Below.refl _ _).alloc (Nat.le_refl _) _).alloc (by simp) _
  have hroW : Bytes W F (.slice A2 ro.length c2) ro := by rw [hW]; exact (hro.alloc _).alloc _
  have hrnW : Bytes W F' (.slice A3 rn.length c3) rn := by rw [hW]; exact (hrn.alloc _).alloc _
  have hpW : BList W F'' (.slice A p.length c) p := by rw [hW]; exact (hp.alloc _).alloc _
  have hbo : Blk W w.heap.size 39 #[.int .i64 m, .slice A2 ro.length c2] := by rw [hW]; exact Blk.alloc (heap_alloc_new w _) _
  have hbn : Blk W (w.heap.size + 1) 39 #[.int .i64 n, .slice A3 rn.length c3] := by rw [hW]; have := heap_alloc_new (w.alloc (.cells #[.int .i64 m, .slice A2 ro.length c2] 39)) (.cells #[.int .i64 n, .slice A3 rn.length c3] 39); rwa [World.size_alloc] at this
  have hWs : w.heap.size + 1 < W.heap.size := by rw [hW]; simp
  by_cases hall : 1 ≤ m ∧ m ≤ n ∧ n ≤ 100
  · obtain ⟨a1, a2, a3⟩ := hall
    have hS : Hid (grewS m ro n rn p = (allD p && (decide (ro.length = 32) && (match Tr.two m.toNat n.toNat true ro p with | none => false | some ab => ab.1 == ro && ab.2 == rn)))) := Lib.hid (by unfold grewS; rw [decide_eq_true ⟨a1, a2, a3⟩]; rfl)
    have b1 : decide (m < 1) = false := by simp; omega
    have b2 : decide (n < m) = false := by simp; omega
    have b3 : decide (100 < n) = false := by simp; omega
    have hd := Good_any W F'' _ p hpW
    have HD := Lib.hid hd
    clear hd
    cases hal : allD p with
    | false =>
      rw [hal] at HD
      have HS : Hid (grewS m ro n rn p = false) := Lib.hid (by rw [hS.out, hal]; rfl)
      have HW := Lib.hid hW
      clear hS hal hW
      go_enter Try.func28, Try.ntmps28
      go_wp2_with fail
      rw [← HW.out]
      refine HD.out.mono ?_
      rintro e w' ⟨rfl, hw⟩
      subst hw
      go_wp2_with fail
      go_ret
      exact ⟨by rw [HS.out]; rfl, hx0⟩
    | true =>
      rw [hal] at HD
      by_cases h32 : ro.length = 32
      · have b4 : ((ro.length : Int) != 32) = false := by rw [bne_eq_false_iff_eq]; omega
        have hsp := allD_short hal
        have hp32 := allD_32 hal
        have HS : Hid (grewS m ro n rn p = (match Tr.two m.toNat n.toNat true ro p with | none => false | some ab => ab.1 == ro && ab.2 == rn)) := Lib.hid (by rw [hS.out, hal, decide_eq_true h32]; rfl)
        have H32 := Lib.hid h32
        clear hS hal h32
        obtain ⟨ni, hni⟩ : ∃ k : Nat, n = (k : Int) := ⟨n.toNat, by omega⟩
        obtain ⟨mi, hmi⟩ : ∃ k : Nat, m = (k : Int) := ⟨m.toNat, by omega⟩
        subst hni hmi
        simp only [Int.toNat_natCast] at HS
        have b2' : decide (ni < mi) = false := by simp; omega
        have HW := Lib.hid hW
        have e0 : W.cell? ⟨w.heap.size, 0, none⟩ = some (.int .i64 mi) := hbo.cell 0
        have e1 : W.cell? ⟨w.heap.size, 1, none⟩ = some (.slice A2 ro.length c2) := hbo.cell 1
        have e2 : W.cell? ⟨w.heap.size + 1, 0, none⟩ = some (.int .i64 ni) := hbn.cell 0
        have e3 : W.cell? ⟨w.heap.size + 1, 1, none⟩ = some (.slice A3 rn.length c3) := hbn.cell 1
        clear hW
        go_enter Try.func28, Try.ntmps28
        go_wp2_with fail
        rw [← HW.out]
        refine HD.out.mono ?_
        rintro e w' ⟨rfl, hw⟩
        subst hw
        clear HD
        go_wp2_with fail
        refine (rtwo_any ni w' F F'' _ _ ro mi _ _ true p hroW hpW (Nat.le_of_eq H32.out) hp32 (by omega) (by omega) (by omega) rfl rfl).mono ?_
        rintro e w3 ⟨v3, v3', ok, x, y, rfl, hx3b, hy3b, hx32, hy32, hup, hx3⟩
        have HUP := Lib.hid hup
        have f1 : w3.cell? ⟨w.heap.size, 1, none⟩ = some (.slice A2 ro.length c2) := (hx3.cell (p := ⟨w.heap.size, 1, none⟩) (by show w.heap.size < _; omega)).trans e1
        have f3 : w3.cell? ⟨w.heap.size + 1, 1, none⟩ = some (.slice A3 rn.length c3) := (hx3.cell (p := ⟨w.heap.size + 1, 1, none⟩) hWs).trans e3
        have ro3 := SlAt.below hroW hx3
        have rn3 := SlAt.below hrnW hx3
        have hxw := hx0.trans (hx3.mono hx0.size)
        clear hup e0 e1 e2 e3 hbo hbn
        cases ok with
        | false =>
          have HF : Hid (grewS (mi : Int) ro (ni : Int) rn p = false) := Lib.hid (by rw [HS.out, HUP.out]; rfl)
          go_wp2_with fail
          go_ret
          exact ⟨by rw [HF.out]; rfl, hxw⟩
        | true =>
          have HF : Hid (grewS (mi : Int) ro (ni : Int) rn p = (x == ro && y == rn)) := Lib.hid (by rw [HS.out, HUP.out]; rfl)
          go_wp2_with fail
          refine (same_any w3 _ _ v3 _ x ro hx3b ro3).mono ?_
          rintro e w4 ⟨rfl, nd, rfl⟩
          cases hxr : (x == ro) with
          | false =>
            rw [hxr] at HF
            clear hxr
            go_wp2_with fail
            go_ret
            exact ⟨by rw [HF.out]; rfl, below_drewN hxw nd⟩
          | true =>
            rw [hxr] at HF
            clear hxr
            have hyd := SlAt.below hy3b (below_drewN (Below.refl w3.heap.size w3) nd)
            have rnd := SlAt.below rn3 (below_drewN (Below.refl w3.heap.size w3) nd)
            go_wp2_with fail
            refine (same_any (w3.drewN nd) _ _ v3' _ y rn hyd rnd).mono ?_
            rintro e w5 ⟨rfl, ne, rfl⟩
            go_wp2_with fail
            go_ret
            exact ⟨by rw [HF.out]; rfl, below_drewN hxw (nd + ne)⟩
      · have b4 : ((ro.length : Int) != 32) = true := by rw [bne_iff_ne]; omega
        have HS : Hid (grewS m ro n rn p = false) := Lib.hid (by rw [hS.out, hal, decide_eq_false h32]; rfl)
        have e1 : W.cell? ⟨w.heap.size, 1, none⟩ = some (.slice A2 ro.length c2) := hbo.cell 1
        have HW := Lib.hid hW
        clear hS hal h32 hW
        go_enter Try.func28, Try.ntmps28
        go_wp2_with fail
        rw [← HW.out]
        refine HD.out.mono ?_
        rintro e w' ⟨rfl, hw⟩
        subst hw
        go_wp2_with fail
        go_ret
        exact ⟨by rw [HS.out]; rfl, hx0⟩
  · have HS := Lib.hid (grewS_no (ro := ro) (rn := rn) (p := p) hall)
    have hcase : m < 1 ∨ (¬ m < 1 ∧ n < m) ∨ (¬ m < 1 ∧ ¬ n < m ∧ 100 < n) := by omega
    clear hall
    have HW := Lib.hid hW
    clear hW
    rcases hcase with h1 | ⟨h1, h2⟩ | ⟨h1, h2, h3⟩
    · have b1 : decide (m < 1) = true := by simp; omega
      go_enter Try.func28, Try.ntmps28
      go_wp2_with fail
      go_ret
      exact ⟨by rw [HS.out]; rfl, by rw [← HW.out]; exact hx0⟩
    · have b1 : decide (m < 1) = false := by simp; omega
      have b2 : decide (n < m) = true := by simp; omega
      go_enter Try.func28, Try.ntmps28
      go_wp2_with fail
      go_ret
      exact ⟨by rw [HS.out]; rfl, by rw [← HW.out]; exact hx0⟩
    · have b1 : decide (m < 1) = false := by simp; omega
      have b2 : decide (n < m) = false := by simp; omega
      have b3 : decide (100 < n) = true := by simp; omega
      go_enter Try.func28, Try.ntmps28
      go_wp2_with fail
      go_ret
      exact ⟨by rw [HS.out]; rfl, by rw [← HW.out]; exact hx0⟩
end Go.Proofs.Ytfdibjgmbdkbcaa
