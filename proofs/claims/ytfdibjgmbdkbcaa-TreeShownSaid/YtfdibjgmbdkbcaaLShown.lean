/-
  THE WALK of yearlaw2.TreeShown. Conditions: what comes in is read as heads, bytes and lists of bytes.
-/
import Derived.Test.YtfdibjgmbdkbcaaR2D
namespace Go.Proofs.Ytfdibjgmbdkbcaa
open Go.RowKit Go.Lib

theorem keep4 {W z z' : World} {p q r s : Addr} {a b c d : Value} (hp : p.block < W.heap.size) (hq : q.block < W.heap.size) (hr : r.block < W.heap.size) (hs : s.block < W.heap.size)
    (h : z.cell? p = some a ∧ z.cell? q = some b ∧ z.cell? r = some c ∧ z.cell? s = some d ∧ Below W.heap.size W z) (hx : Below z.heap.size z z') :
    z'.cell? p = some a ∧ z'.cell? q = some b ∧ z'.cell? r = some c ∧ z'.cell? s = some d ∧ Below W.heap.size W z' := by
  obtain ⟨h1, h2, h3, h4, h5⟩ := h
  have hz := h5.size
  exact ⟨(hx.cell (p := p) (by omega)).trans h1, (hx.cell (p := q) (by omega)).trans h2, (hx.cell (p := r) (by omega)).trans h3, (hx.cell (p := s) (by omega)).trans h4, h5.trans (hx.mono hz)⟩

set_option maxRecDepth 100000 in
set_option maxHeartbeats 4000000 in
theorem treeShown_walk (w : World) (n : Int) (u : Value) (r : Bs) (hr : Bytes w (fun _ => True) u r) (v1 : Value) (b : Bs) (hb : Bytes w (fun _ => True) v1 b) (i : Int) (v3 : Value) (p : List Bs) (hp : BList w (fun _ => True) v3 p)
    (m : Int) (uo : Value) (ro : Bs) (hro : Bytes w (fun _ => True) uo ro) (v5 : Value) (q : List Bs) (hq : BList w (fun _ => True) v5 q) (hreach : q.length ≤ 5864062014634) :
    Calls Try.prog 5 #[.agg #[.int .i64 n, u], v1, .int .i64 i, v3, .agg #[.int .i64 m, uo], v5] w fun e w' => e = .returned (.bool true) ∧ Below w.heap.size w w' := by
  obtain ⟨A1, c1, hv1, _, _⟩ := hr.form'
  subst hv1
  obtain ⟨A2, c2, hv2, _, _⟩ := hb.form'
  subst hv2
  obtain ⟨A3, c3, hv3, _, _, _⟩ := hp.shape
  subst hv3
  obtain ⟨A4, c4, hv4, _, _⟩ := hro.form'
  subst hv4
  obtain ⟨A5, c5, hv5, _, _, _⟩ := hq.shape
  subst hv5
  obtain ⟨W, hW⟩ : ∃ W, W = (w.alloc (.cells #[.int .i64 n, .slice A1 r.length c1] 39)).alloc (.cells #[.int .i64 m, .slice A4 ro.length c4] 39) := ⟨_, rfl⟩
  have hx0 : Below w.heap.size w W := by rw [hW]; exact ((Below.refl _ _).alloc (Nat.le_refl _) _).alloc (by simp) _
  have hrW := SlAt.below hr hx0
  have hbW := SlAt.below hb hx0
  have hpW := hp.below hx0
  have hroW := SlAt.below hro hx0
  have hqW := hq.below hx0
  have hbo : Blk W w.heap.size 39 #[.int .i64 n, .slice A1 r.length c1] := by rw [hW]; exact Blk.alloc (heap_alloc_new w _) _
  have hbn : Blk W (w.heap.size + 1) 39 #[.int .i64 m, .slice A4 ro.length c4] := by rw [hW]; have := heap_alloc_new (w.alloc (.cells #[.int .i64 n, .slice A1 r.length c1] 39)) (.cells #[.int .i64 m, .slice A4 ro.length c4] 39); rw [World.size_alloc] at this; exact this
  have s1 : w.heap.size < W.heap.size := by rw [hW]; simp; omega
  have s2 : w.heap.size + 1 < W.heap.size := by rw [hW]; simp
  have e0 : W.cell? ⟨w.heap.size, 0, none⟩ = some (.int .i64 n) := hbo.cell 0
  have e1 : W.cell? ⟨w.heap.size, 1, none⟩ = some (.slice A1 r.length c1) := hbo.cell 1
  have e2 : W.cell? ⟨w.heap.size + 1, 0, none⟩ = some (.int .i64 m) := hbn.cell 0
  have e3 : W.cell? ⟨w.heap.size + 1, 1, none⟩ = some (.slice A4 ro.length c4) := hbn.cell 1
  have HT := Lib.hid (fun (z : World) (hz : Below W.heap.size W z) => stands_any z _ _ _ _ _ _ n r b i p (SlAt.below hrW hz) (SlAt.below hbW hz) (hpW.below hz))
  have HR := Lib.hid (fun (z : World) (hz : Below W.heap.size W z) => rstands_any z _ _ _ _ _ _ n r b i p (SlAt.below hrW hz) (SlAt.below hbW hz) (hpW.below hz))
  have HG := Lib.hid (fun (z : World) (hz : Below W.heap.size W z) => grew_any z _ _ _ _ _ _ m n ro r q (SlAt.below hroW hz) (SlAt.below hrW hz) (hqW.below hz) hreach)
  have HQ := Lib.hid (fun (z : World) (hz : Below W.heap.size W z) => rgrew_any z _ _ _ _ _ _ m n ro r q (SlAt.below hroW hz) (SlAt.below hrW hz) (hqW.below hz))
  generalize standsS n r b i p = b1 at HT HR
  generalize grewS m ro n r q = b2 at HG HQ
  have HW := Lib.hid hW
  clear hW hbo hbn hr hb hp hro hq hrW hbW hpW hroW hqW hreach
  go_enter Try.func5, Try.ntmps5
  go_wp2_with fail
  rw [← HW.out]
  go_region_held3 (fun z : World => z.cell? ⟨w.heap.size, 0, none⟩ = some (.int .i64 n) ∧ z.cell? ⟨w.heap.size, 1, none⟩ = some (.slice A1 r.length c1) ∧ z.cell? ⟨w.heap.size + 1, 0, none⟩ = some (.int .i64 m) ∧ z.cell? ⟨w.heap.size + 1, 1, none⟩ = some (.slice A4 ro.length c4) ∧ Below W.heap.size W z) (first | assumption | exact ⟨e0, e1, e2, e3, (Below.refl _ _).drew⟩)
    (first
      | ((with_reducible refine (HT.out _ (by exact And.right (And.right (And.right (And.right (by assumption)))))).mono ?_)
         rintro e w1 ⟨rfl, hx1⟩
         have hS1 := keep4 s1 s1 s2 s2 (by assumption) hx1)
      | ((with_reducible refine (HR.out _ hS1.2.2.2.2).mono ?_)
         rintro e w2 ⟨rfl, hx2⟩
         have hS2 := keep4 s1 s1 s2 s2 hS1 hx2)
      | ((with_reducible refine (HG.out _ hS2.2.2.2.2).mono ?_)
         rintro e w3 ⟨rfl, hx3⟩
         have hS3 := keep4 s1 s1 s2 s2 hS2 hx3)
      | ((with_reducible refine (HQ.out _ hS3.2.2.2.2).mono ?_)
         rintro e w4 ⟨rfl, hx4⟩
         have hS4 := keep4 s1 s1 s2 s2 hS3 hx4))
  go_wp2_with fail
  go_ret
  exact ⟨rfl, hx0.trans (hS4.2.2.2.2.mono hx0.size)⟩
end Go.Proofs.Ytfdibjgmbdkbcaa
