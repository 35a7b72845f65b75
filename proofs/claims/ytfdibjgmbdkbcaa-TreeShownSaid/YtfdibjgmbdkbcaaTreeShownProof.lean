/-
  TreeShown: Stands and Grew tell what any paths show of any heads. No conditions.
-/
import Derived.Test.YtfdibjgmbdkbcaaFrame
import Derived.Test.YtfdibjgmbdkbcaaLShown
import Derived.Test.YtfdibjgmbdkbcaaOpenH
namespace Go.Proofs.Ytfdibjgmbdkbcaa.treeShown
open Go.ChangeShapes Go.WideShapes Go.ChangeAt Go.RowKit

set_option maxRecDepth 100000 in
theorem lifted (os : Os) (started : os.Started) (H : Type) (enc : TypeId × Value → H) :
    ReturnsInHanded {} Try.checked os 5 .any (Rows.treeShownSpec.pre6 enc Try.prog Try.f5 Rows.treeShownRow.domain false) (Rows.treeShownSpec.post enc Try.prog Try.f5 false true false false) := by
  refine returnsInHanded_of_change_sized (C := Try.checked) ownProg started (by kernel_rfl) Try.func5
    (ChangeSpec.witness6 (enc := enc) (C := Try.checked) false ⟨#[], #[.agg #[.int .i64 0, .slice none 0 0], .slice none 0 0, .int .i64 0, .slice none 0 0, .agg #[.int .i64 0, .slice none 0 0], .slice none 0 0], []⟩ 8 (by kernel_rfl) (by kernel_rfl) (by kernel_rfl) (by kernel_rfl)) ?_
  intro W base args ds gs before hval0 hW hcnd hsz0 _
  have hval : ∀ (j : Nat) t v, Try.f5.params[j]? = some t → args[j]? = some v → Value.okWide Try.prog W .any base t v := hval0
  have hW' := hW
  obtain ⟨p, q, hA0, hV, rfl, hfz, hnd⟩ := hW
  have hA : DataW.TrodAll enc Try.prog W 0 (fun _ => true) true Try.f5.params.toList args.toList ds p := hA0
  rw [Try.params5] at hA hval
  obtain ⟨v0, vs0, d0, ds0, p0, q0, hargs0, rfl, rfl, h0, r0⟩ := trodAll_cons hA
  obtain ⟨v1, vs1, d1, ds1, p1, q1, hargs1, rfl, rfl, h1, r1⟩ := trodAll_cons r0
  obtain ⟨v2, vs2, d2, ds2, p2, q2, hargs2, rfl, rfl, h2, r2⟩ := trodAll_cons r1
  obtain ⟨v3, vs3, d3, ds3, p3, q3, hargs3, rfl, rfl, h3, r3⟩ := trodAll_cons r2
  obtain ⟨v4, vs4, d4, ds4, p4, q4, hargs4, rfl, rfl, h4, r4⟩ := trodAll_cons r3
  obtain ⟨v5, vs5, d5, ds5, p5, q5, hargs5, rfl, rfl, h5, r5⟩ := trodAll_cons r4
  obtain ⟨rfl, rfl, rfl⟩ := trodAll_nil r5
  obtain rfl : args = #[v0, v1, v2, v3, v4, v5] := by cases args; simp_all
  obtain ⟨rfl, rfl⟩ := trodVars_none hV
  have k0 := h0
  have lt0 : ∀ x ∈ p0, x.block < W.heap.size := by obtain ⟨m, hm⟩ := k0; exact DataW.trod_lt m _ _ _ hm
  have k1 := h1
  have lt1 : ∀ x ∈ p1, x.block < W.heap.size := by obtain ⟨m, hm⟩ := k1; exact DataW.trod_lt m _ _ _ hm
  have k2 := h2
  have lt2 : ∀ x ∈ p2, x.block < W.heap.size := by obtain ⟨m, hm⟩ := k2; exact DataW.trod_lt m _ _ _ hm
  have k3 := h3
  have lt3 : ∀ x ∈ p3, x.block < W.heap.size := by obtain ⟨m, hm⟩ := k3; exact DataW.trod_lt m _ _ _ hm
  have k4 := h4
  have lt4 : ∀ x ∈ p4, x.block < W.heap.size := by obtain ⟨m, hm⟩ := k4; exact DataW.trod_lt m _ _ _ hm
  have k5 := h5
  have lt5 : ∀ x ∈ p5, x.block < W.heap.size := by obtain ⟨m, hm⟩ := k5; exact DataW.trod_lt m _ _ _ hm
  have hsz : (DataW.weightsEach Try.prog [39, 22, 3, 40, 39, 40] [d0, d1, d2, d3, d4, d5]).all (· ≤ reachBytes) = true := hsz0
  obtain ⟨n0, u0, r0_, rfl, w0⟩ := trod_head (hval 0 39 v0 rfl rfl) h0
  obtain ⟨l1, w1⟩ : ∃ l, Bytes W (fun _ => True) v1 l := by
    obtain ⟨a0, len0, cap0, rfl⟩ := okWide_slice Try.underlying22 (hval 1 22 v1 rfl rfl)
    obtain ⟨fuel, hf⟩ := h1
    obtain ⟨l, hl, _⟩ := trod_bytes (x := (d1, p1)) (by simpa [Value.cells] using hf)
    exact ⟨l, hl⟩
  obtain ⟨n2, rfl, _, _, _⟩ := open_int Try.underlying3 (hval 2 3 v2 rfl rfl) h2
  obtain ⟨l3, w3⟩ : ∃ l, BList W (fun _ => True) v3 l := by
    obtain ⟨a0, len0, cap0, rfl⟩ := okWide_slice Try.underlying40 (hval 3 40 v3 rfl rfl)
    obtain ⟨fuel, hf⟩ := h3
    exact trod_blist (by simpa [Value.cells] using hf)
  obtain ⟨n4, u4, r4_, rfl, w4⟩ := trod_head (hval 4 39 v4 rfl rfl) h4
  obtain ⟨l5, w5, z5⟩ : ∃ l, BList W (fun _ => True) v5 l ∧ l.length ≤ 5864062014634 := by
    obtain ⟨l, hl, hx⟩ := open_blist (hval 5 40 v5 rfl rfl) h5
    refine ⟨l, hl, ?_⟩
    rcases hx with ⟨_, rfl⟩ | ⟨es, ss, hd, he⟩
    · simp
    · have hb := sized_slice hsz (j := 5) (t := 40) (e := 22) (elems := es) (spare := ss) rfl (by rw [← hd]; rfl) Try.underlying40
      rw [show Try.prog.bytesOf 22 = 24 from by kernel_rfl] at hb
      simp only [reachBytes] at hb
      omega
  clear hA0 hval0
  refine (treeShown_walk W n0 u0 r0_ w0 v1 l1 w1 n2 v3 l3 w3 n4 u4 r4_ w4 v5 l5 w5 z5).mono fun e W' ⟨he, bel⟩ => ?_
  subst he
  exact ⟨_, rfl, _, _, _, [], _, [], hW', trodAll_mk1 (shut_bool Try.underlying4 _), (trodAll_cons_mk (Below.trod laidOutProg (by kernel_rfl) (of_decide_eq_true (by kernel_rfl)) k0 bel lt0) (trodAll_cons_mk (Below.trod laidOutProg (by kernel_rfl) (of_decide_eq_true (by kernel_rfl)) k1 bel lt1) (trodAll_cons_mk (Below.trod laidOutProg (by kernel_rfl) (of_decide_eq_true (by kernel_rfl)) k2 bel lt2) (trodAll_cons_mk (Below.trod laidOutProg (by kernel_rfl) (of_decide_eq_true (by kernel_rfl)) k3 bel lt3) (trodAll_cons_mk (Below.trod laidOutProg (by kernel_rfl) (of_decide_eq_true (by kernel_rfl)) k4 bel lt4) (trodAll_cons_mk (Below.trod laidOutProg (by kernel_rfl) (of_decide_eq_true (by kernel_rfl)) k5 bel lt5) trodAll_mk0)))))), rfl, bel.frame _, fun h => by cases h⟩

theorem over : Rows.treeShownRow.holds Try.pinned (OpenSpec.ofChange Rows.treeShownSpec) :=
  OpenClaim.holds_of_wide 5 Try.f5 rfl rfl rfl rfl rfl rfl rfl ⟨rfl, rfl, rfl, rfl, rfl⟩ rfl rfl rfl rfl rfl (by kernel_rfl) Try.func5 (by kernel_rfl)
    (of_decide_eq_true (by kernel_rfl)) (by unfold Func.isWrapper; first | (rw [if_pos (by decide +kernel)]; kernel_rfl) | (rw [if_neg (by decide +kernel)]; exact ⟨rfl, rfl⟩))
    (fun os started H enc _ => lifted os started H enc)
end Go.Proofs.Ytfdibjgmbdkbcaa.treeShown
namespace Go.Proofs.Ytfdibjgmbdkbcaa
theorem treeShown_holds : Rows.TreeShownSaid := treeShown.over
end Go.Proofs.Ytfdibjgmbdkbcaa
