/-
  THE WALK of clash.two where the first ones are all. Conditions: what is read is bytes, and lists of bytes.
-/
import Derived.Test.YtaojgabiefkcaaaClashE
namespace Go.Proofs.Ytaojgabiefkcaaa
open Go.RowKit Go.Lib

/-- what clash.two tells -/
def TwoPost (B : Nat) (w : World) (o : Option Tr.PB) (ab : Tr.PB) (e : Ending) (w' : World) : Prop :=
  ∃ va vc v1 v2, e = .returned (.tuple #[.agg #[va, vc, .bool o.isSome], v1, v2]) ∧ OwnB w' w.heap.size va (fstO o) ∧ OwnB w' w.heap.size vc (sndO o) ∧ Bytes w' (fun k => k < B ∨ w.heap.size ≤ k) v1 ab.1 ∧ Bytes w' (fun k => k < B ∨ w.heap.size ≤ k) v2 ab.2 ∧ Below w.heap.size w w'

set_option maxRecDepth 100000 in
set_option maxHeartbeats 2000000 in
theorem two_base (B : Nat) (w : World) (F : Nat → Prop) (v vo vp : Value) (ll : List Bs) (old : Bs) (whole : Bool) (p : List Bs) (ab : Tr.PB) (hl : BList w F v ll) (ho : Bytes w (fun k => k < B) vo old) (hp : BList w (fun k => k < B) vp p) (h2 : Tr.two ll.length ll.length whole old p = some ab) :
    Calls Try.prog 66 #[v, .int .i64 (ll.length : Int), .bool whole, vo, vp] w (TwoPost B w none ab) := by
  obtain ⟨A, c, hv, hnc, hcm, _⟩ := hl.shape
  subst hv
  obtain ⟨A2, c2, rfl⟩ := ho.form
  have hx0 := (Below.refl w.heap.size w).alloc (Nat.le_refl _) (.cells #[.slice none 0 0, .slice none 0 0, .bool false] 81)
  have hk0 : Blk (w.alloc (.cells #[.slice none 0 0, .slice none 0 0, .bool false] 81)) w.heap.size 81 #[.slice none 0 0, .slice none 0 0, .bool false] := heap_alloc_new w _
  obtain ⟨s1, s2, _⟩ := store3 hk0 hx0 (Nat.le_refl _) (.slice none 0 0) (.slice none 0 0) (.bool false)
  cases whole with
  | true =>
    rw [Tr.two_whole (by omega)] at h2
    have hab : ab = (old, old) := by
      split at h2
      · injection h2 with h2; exact h2.symm
      · cases h2
    subst hab
    obtain ⟨Ap, cp, hvp, _⟩ := hp.shape
    subst hvp
    clear h2
    go_enter Try.func66, Try.ntmps66
    go_wp2_with fail
    have hb1 := (ho.alloc (.cells #[.slice none 0 0, .slice none 0 0, .bool false] 81)).weak (F' := fun k => k < B ∨ w.heap.size ≤ k) (fun k _ hk => .inl hk)
    clear s1 s2
    generalize w.alloc (.cells #[.slice none 0 0, .slice none 0 0, .bool false] 81) = W at *
    have g0 : W.cell? ⟨w.heap.size, 0, none⟩ = some (.slice none 0 0) := hk0.cell 0
    have g1 : W.cell? ⟨w.heap.size, 1, none⟩ = some (.slice none 0 0) := hk0.cell 1
    have g2 : W.cell? ⟨w.heap.size, 2, none⟩ = some (.bool false) := hk0.cell 2
    exact bodyPost_ret (v := .tuple #[.agg #[.slice none 0 0, .slice none 0 0, .bool false], .slice A2 old.length c2, .slice A2 old.length c2]) (by simp [results, Try.results66, go_sem, g0, g1, g2]) rfl ⟨_, _, _, _, rfl, Own.nil_ _ _ _ _, Own.nil_ _ _ _ _, hb1, hb1, hx0⟩
  | false =>
    rw [Tr.two_part (by omega)] at h2
    match p, h2, hp with
    | [d], h2, hp =>
      injection h2 with h2
      subst h2
      obtain ⟨Ap, cp, hvp, _⟩ := hp.shape
      subst hvp
      obtain ⟨g, off, u, hA', hc, _, hg, hub⟩ := hp.at_ (j := 0) (by simp)
      subst hA'
      go_enter Try.func66, Try.ntmps66
      go_wp2_with fail
      have hub0 : Bytes w (fun k => k < B) u d := hub.weak (fun k hk h => by first | exact h | exact h.1)
      have hcW : (w.alloc (.cells #[.slice none 0 0, .slice none 0 0, .bool false] 81)).cell? ⟨g, off, none⟩ = some u := (hx0.cell (p := ⟨g, off, none⟩) hg).trans hc
      clear s1 s2 hc
      generalize w.alloc (.cells #[.slice none 0 0, .slice none 0 0, .bool false] 81) = W at *
      obtain ⟨s1, s2, s3⟩ := store3 hk0 hx0 (Nat.le_refl _) (.slice none 0 0) (.slice none 0 0) (.bool false)
      have g0 : W.cell? ⟨w.heap.size, 0, none⟩ = some (.slice none 0 0) := hk0.cell 0
      have g1 : W.cell? ⟨w.heap.size, 1, none⟩ = some (.slice none 0 0) := hk0.cell 1
      have g2 : W.cell? ⟨w.heap.size, 2, none⟩ = some (.bool false) := hk0.cell 2
      have f0 := hk0.frozen 0
      have f1 := hk0.frozen 1
      have f2 := hk0.frozen 2
      obtain ⟨A3, c3, hu3⟩ := hub0.form
      subst hu3
      have hne : ¬ g = w.heap.size := by omega
      go_region
      go_wp2_with fail
      have hub5 := hub0.below s2
      generalize ((W.setCell ⟨w.heap.size, 0, none⟩ (.slice none 0 0)).setCell ⟨w.heap.size, 1, none⟩ (.slice none 0 0)).setCell ⟨w.heap.size, 2, none⟩ (.bool false) = W5 at *
      have hub6 : Bytes W5.drew (fun k => k < B ∨ w.heap.size ≤ k) (.slice A3 d.length c3) d := (hub5.weak (F' := fun k => k < B ∨ w.heap.size ≤ k) (fun k _ hk => .inl hk)).drewN 1
      have t0 : W5.drew.cell? ⟨w.heap.size, 0, none⟩ = some (.slice none 0 0) := s1.cell 0
      have t1 : W5.drew.cell? ⟨w.heap.size, 1, none⟩ = some (.slice none 0 0) := s1.cell 1
      have t2 : W5.drew.cell? ⟨w.heap.size, 2, none⟩ = some (.bool false) := s1.cell 2
      have hx5 := s2.drew
      generalize W5.drew = W6 at *
      exact bodyPost_ret (v := .tuple #[.agg #[.slice none 0 0, .slice none 0 0, .bool false], .slice A3 d.length c3, .slice A3 d.length c3]) (by simp [results, Try.results66, go_sem, t0, t1, t2]) rfl ⟨_, _, _, _, rfl, Own.nil_ _ _ _ _, Own.nil_ _ _ _ _, hub6, hub6, hx5⟩
end Go.Proofs.Ytaojgabiefkcaaa
