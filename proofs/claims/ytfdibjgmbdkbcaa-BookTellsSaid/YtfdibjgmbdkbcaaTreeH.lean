/-
  THE WALK of tree.Stands. Conditions: what is read is bytes, and lists of bytes.
-/
import Derived.Test.YtfdibjgmbdkbcaaTreeG
namespace Go.Proofs.Ytfdibjgmbdkbcaa
open Go.RowKit Go.Lib

/-- whether a path shows a leaf -/
def standsS (n : Int) (r b : Bs) (i : Int) (p : List Bs) : Bool :=
  decide (1 ≤ n ∧ n ≤ 100 ∧ 0 ≤ i ∧ i < n ∧ b.length ≤ 200) && (allD p && (Tr.up (Tr.leafH b) i.toNat n.toNat p == some r))
theorem standsS_no {n : Int} {r b : Bs} {i : Int} {p : List Bs} (h : ¬ (1 ≤ n ∧ n ≤ 100 ∧ 0 ≤ i ∧ i < n ∧ b.length ≤ 200)) : standsS n r b i p = false := by
  unfold standsS
  rw [decide_eq_false h]
  rfl
theorem allD_short {p : List Bs} (h : allD p = true) : Short p := fun d hd => by have := (allD_iff p).1 h d hd; omega

theorem keep2 {w' W1 W2 : World} {g : Nat} {u v : Value} (hg : g < w'.heap.size) (h : W1.cell? ⟨g, 0, none⟩ = some u ∧ W1.cell? ⟨g, 1, none⟩ = some v ∧ Below w'.heap.size w' W1) (hx : Below W1.heap.size W1 W2) :
    W2.cell? ⟨g, 0, none⟩ = some u ∧ W2.cell? ⟨g, 1, none⟩ = some v ∧ Below w'.heap.size w' W2 := by
  have h1 := h.2.2.size
  exact ⟨(hx.cell (p := ⟨g, 0, none⟩) (by show g < _; omega)).trans h.1, (hx.cell (p := ⟨g, 1, none⟩) (by show g < _; omega)).trans h.2.1, h.2.2.trans (hx.mono h1)⟩

set_option maxRecDepth 100000 in
set_option maxHeartbeats 2000000 in
theorem stands_any (w : World) (F F' F'' : Nat → Prop) (vr vb vp : Value) (n : Int) (r b : Bs) (i : Int) (p : List Bs) (hr : Bytes w F vr r) (hb : Bytes w F' vb b) (hp : BList w F'' vp p) :
    Calls Try.prog 25 #[.agg #[.int .i64 n, vr], vb, .int .i64 i, vp] w fun e w' => e = .returned (.bool (standsS n r b i p)) ∧ Below w.heap.size w w' := by
  obtain ⟨A, c, hvp, _, _, _⟩ := hp.shape
  subst hvp
  obtain ⟨A2, c2, hvb, _, hc2⟩ := hb.form'
  subst hvb
  obtain ⟨A3, c3, hvr, _, _⟩ := hr.form'
  subst hvr
  unfold maxLen at hc2
  have hx0 : Below w.heap.size w (w.alloc (.cells #[.int .i64 n, .slice A3 r.length c3] 39)) := (Below.refl _ _).alloc (Nat.le_refl _) _
  by_cases hall : 1 ≤ n ∧ n ≤ 100 ∧ 0 ≤ i ∧ i < n ∧ b.length ≤ 200
  · obtain ⟨a1, a2, a3, a4, a5⟩ := hall
    have hS : Hid (standsS n r b i p = (allD p && (Tr.up (Tr.leafH b) i.toNat n.toNat p == some r))) := Lib.hid (by unfold standsS; rw [decide_eq_true ⟨a1, a2, a3, a4, a5⟩]; rfl)
    have b1 : decide (n < 1) = false := by simp; omega
    have b2 : decide (100 < n) = false := by simp; omega
    have b3 : decide (i < 0) = false := by simp; omega
    have b4 : decide (n ≤ i) = false := by simp; omega
    have b5 : decide ((200 : Int) < (b.length : Int)) = false := by simp; omega
    have hd := digests_any (w.alloc (.cells #[.int .i64 n, .slice A3 r.length c3] 39)) F'' _ p (hp.alloc _)
    have HD := Lib.hid hd
    clear hd
    cases hal : allD p with
    | false =>
      rw [hal] at HD
      have HS : Hid (standsS n r b i p = false) := Lib.hid (by rw [hS.out, hal]; rfl)
      clear hS hal
      go_enter Try.func25, Try.ntmps25
      go_wp2_with fail
      refine HD.out.mono ?_
      rintro e w' ⟨rfl, hw⟩
      subst hw
      go_wp2_with fail
      go_ret
      exact ⟨by rw [HS.out]; rfl, hx0⟩
    | true =>
      rw [hal] at HD
      have hsp := allD_short hal
      have HS : Hid (standsS n r b i p = (Tr.up (Tr.leafH b) i.toNat n.toNat p == some r)) := Lib.hid (by rw [hS.out, hal]; rfl)
      clear hS hal
      obtain ⟨ni, hni⟩ : ∃ k : Nat, n = (k : Int) := ⟨n.toNat, by omega⟩
      obtain ⟨ii, hii⟩ : ∃ k : Nat, i = (k : Int) := ⟨i.toNat, by omega⟩
      subst hni hii
      have HS2 : Hid (standsS (ni : Int) r b (ii : Int) p = (Tr.climb (Tr.leafH b) ii (ni - 1) p == some r)) := Lib.hid (by rw [HS.out, Tr.climb_up _ _ _ _ (by omega)]; congr 2; omega)
      have b4' : decide (ni ≤ ii) = false := by simp; omega
      clear HS
      go_enter Try.func25, Try.ntmps25
      go_wp2_with fail
      refine HD.out.mono ?_
      rintro e w' ⟨rfl, hw⟩
      have hw0 : w'.cell? ⟨w.heap.size, 0, none⟩ = some (.int .i64 ni) := by rw [hw, World.cell?_alloc_mark]; rfl
      have hw1 : w'.cell? ⟨w.heap.size, 1, none⟩ = some (.slice A3 r.length c3) := by rw [hw, World.cell?_alloc_mark]; rfl
      have hbw := hb.alloc (.cells #[.int .i64 ni, .slice A3 r.length c3] 39)
      have hpw := hp.alloc (.cells #[.int .i64 ni, .slice A3 r.length c3] 39)
      have hrw := hr.alloc (.cells #[.int .i64 ni, .slice A3 r.length c3] 39)
      have hsz : w.heap.size < w'.heap.size := by rw [hw]; simp
      rw [← hw] at hx0 hbw hpw hrw
      clear hw HD
      go_wp2_with fail
      go_region_held3 (fun w'' : World => w''.cell? ⟨w.heap.size, 0, none⟩ = some (.int .i64 ni) ∧ w''.cell? ⟨w.heap.size, 1, none⟩ = some (.slice A3 r.length c3) ∧ Below w'.heap.size w' w'') (first | assumption | exact ⟨hw0, hw1, (Below.refl _ _).drew⟩)
        (first
          | ((with_reducible refine (leaf_any _ F' (.slice A2 b.length c2) b (Bytes.below hbw (by exact And.right (And.right (by assumption)))) (by omega)).mono ?_)
             rintro e w1 ⟨v1, rfl, hown1, hx1⟩
             have hS1 := keep2 hsz (by assumption) hx1)
          | ((with_reducible refine (climb_any _ _ F'' _ _ (Tr.leafH b) ii ni p (OwnB.bytes hown1) (hpw.below (by exact hS1.2.2)) (by omega) (by omega) (by omega) (by rw [Tr.length_leafH]; omega) hsp).mono ?_)
             rintro e w2 ⟨v2, rfl, hres, hx2⟩
             have hS2 := keep2 hsz hS1 hx2))
      generalize Tr.climb (Tr.leafH b) ii (ni - 1) p = o at *
      cases o with
      | none =>
        go_wp2_with fail
        go_ret
        exact ⟨by rw [HS2.out]; rfl, hx0.trans (hS2.2.2.mono hx0.size)⟩
      | some x =>
        obtain ⟨hx2, _⟩ := hres x rfl
        obtain ⟨g0, g1, g2⟩ := hS2
        have hrw2 := SlAt.below hrw g2
        clear hres hS1
        go_wp2_with fail
        refine (equal_any w2 _ _ v2 _ x r hx2 hrw2).mono ?_
        rintro e w3 ⟨rfl, rfl⟩
        go_wp2_with fail
        go_ret
        exact ⟨by rw [HS2.out]; rfl, hx0.trans (g2.mono hx0.size)⟩
  · have HS := Lib.hid (standsS_no (r := r) (p := p) hall)
    have hcase : n < 1 ∨ (¬ n < 1 ∧ 100 < n) ∨ (¬ n < 1 ∧ ¬ 100 < n ∧ i < 0) ∨ (¬ n < 1 ∧ ¬ 100 < n ∧ ¬ i < 0 ∧ n ≤ i) ∨ (¬ n < 1 ∧ ¬ 100 < n ∧ ¬ i < 0 ∧ ¬ n ≤ i ∧ (200 : Int) < (b.length : Int)) := by omega
    clear hall
    rcases hcase with h1 | ⟨h1, h2⟩ | ⟨h1, h2, h3⟩ | ⟨h1, h2, h3, h4⟩ | ⟨h1, h2, h3, h4, h5⟩
    · have b1 : decide (n < 1) = true := by simp; omega
      go_enter Try.func25, Try.ntmps25
      go_wp2_with fail
      go_ret
      exact ⟨by rw [HS.out]; rfl, hx0⟩
    · have b1 : decide (n < 1) = false := by simp; omega
      have b2 : decide (100 < n) = true := by simp; omega
      go_enter Try.func25, Try.ntmps25
      go_wp2_with fail
      go_ret
      exact ⟨by rw [HS.out]; rfl, hx0⟩
    · have b1 : decide (n < 1) = false := by simp; omega
      have b2 : decide (100 < n) = false := by simp; omega
      have b3 : decide (i < 0) = true := by simp; omega
      go_enter Try.func25, Try.ntmps25
      go_wp2_with fail
      go_ret
      exact ⟨by rw [HS.out]; rfl, hx0⟩
    · have b1 : decide (n < 1) = false := by simp; omega
      have b2 : decide (100 < n) = false := by simp; omega
      have b3 : decide (i < 0) = false := by simp; omega
      have b4 : decide (n ≤ i) = true := by simp; omega
      go_enter Try.func25, Try.ntmps25
      go_wp2_with fail
      go_ret
      exact ⟨by rw [HS.out]; rfl, hx0⟩
    · have b1 : decide (n < 1) = false := by simp; omega
      have b2 : decide (100 < n) = false := by simp; omega
      have b3 : decide (i < 0) = false := by simp; omega
      have b4 : decide (n ≤ i) = false := by simp; omega
      have b5 : decide ((200 : Int) < (b.length : Int)) = true := by simp; omega
      go_enter Try.func25, Try.ntmps25
      go_wp2_with fail
      go_ret
      exact ⟨by rw [HS.out]; rfl, hx0⟩
end Go.Proofs.Ytfdibjgmbdkbcaa
