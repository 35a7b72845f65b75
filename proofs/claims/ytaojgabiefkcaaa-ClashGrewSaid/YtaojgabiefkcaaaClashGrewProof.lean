/-
  ClashGrew: a head that is shown to be the beginning of leaves is theirs, or two texts are told. No conditions.
-/
import Derived.Test.YtaojgabiefkcaaaFrame
import Derived.Test.YtaojgabiefkcaaaLaws2H
import Derived.Test.YtaojgabiefkcaaaOpenH
namespace Go.Proofs.Ytaojgabiefkcaaa.clashGrew
open Go.ChangeShapes Go.WideShapes Go.ChangeAt Go.RowKit

set_option maxRecDepth 100000 in
theorem lifted (os : Os) (started : os.Started) (H : Type) (enc : TypeId × Value → H) :
    ReturnsInHanded {} Try.checked os 13 .any (Rows.clashGrewSpec.pre6 enc Try.prog Try.f13 Rows.clashGrewRow.domain false) (Rows.clashGrewSpec.post enc Try.prog Try.f13 false true false false) := by
  refine returnsInHanded_of_change_sized (C := Try.checked) ownProg started (by kernel_rfl) Try.func13
    (ChangeSpec.witness6 (enc := enc) (C := Try.checked) false ⟨#[], #[.slice none 0 0, .agg #[.int .i64 0, .slice none 0 0], .slice none 0 0], []⟩ 8 (by kernel_rfl) (by kernel_rfl) (by kernel_rfl) (by kernel_rfl)) ?_
  intro W base args ds gs before hval0 hW hcnd hsz0 _
  have hval : ∀ (j : Nat) t v, Try.f13.params[j]? = some t → args[j]? = some v → Value.okWide Try.prog W .any base t v := hval0
  have hW' := hW
  obtain ⟨p, q, hA0, hV, rfl, hfz, hnd⟩ := hW
  have hA : DataW.TrodAll enc Try.prog W 0 (fun _ => true) true Try.f13.params.toList args.toList ds p := hA0
  rw [Try.params13] at hA hval
  obtain ⟨v0, vs0, d0, ds0, p0, q0, hargs0, rfl, rfl, h0, r0⟩ := trodAll_cons hA
  obtain ⟨v1, vs1, d1, ds1, p1, q1, hargs1, rfl, rfl, h1, r1⟩ := trodAll_cons r0
  obtain ⟨v2, vs2, d2, ds2, p2, q2, hargs2, rfl, rfl, h2, r2⟩ := trodAll_cons r1
  obtain ⟨rfl, rfl, rfl⟩ := trodAll_nil r2
  obtain rfl : args = #[v0, v1, v2] := by cases args; simp_all
  obtain ⟨rfl, rfl⟩ := trodVars_none hV
  have k0 := h0
  have lt0 : ∀ x ∈ p0, x.block < W.heap.size := by obtain ⟨m, hm⟩ := k0; exact DataW.trod_lt m _ _ _ hm
  have k1 := h1
  have lt1 : ∀ x ∈ p1, x.block < W.heap.size := by obtain ⟨m, hm⟩ := k1; exact DataW.trod_lt m _ _ _ hm
  have k2 := h2
  have lt2 : ∀ x ∈ p2, x.block < W.heap.size := by obtain ⟨m, hm⟩ := k2; exact DataW.trod_lt m _ _ _ hm
  have hsz : (DataW.weightsEach Try.prog [25, 24, 25] [d0, d1, d2]).all (· ≤ reachBytes) = true := hsz0
  obtain ⟨l0, w0⟩ : ∃ l, BList W (fun _ => True) v0 l := by
    obtain ⟨a0, len0, cap0, rfl⟩ := okWide_slice Try.underlying25 (hval 0 25 v0 rfl rfl)
    obtain ⟨fuel, hf⟩ := h0
    exact trod_blist (by simpa [Value.cells] using hf)
  obtain ⟨n1, u1, r1_, rfl, w1⟩ := trod_head (hval 1 24 v1 rfl rfl) h1
  obtain ⟨l2, w2, z2⟩ : ∃ l, BList W (fun _ => True) v2 l ∧ l.length ≤ 5864062014634 := by
    obtain ⟨l, hl, hx⟩ := open_blist (hval 2 25 v2 rfl rfl) h2
    refine ⟨l, hl, ?_⟩
    rcases hx with ⟨_, rfl⟩ | ⟨es, ss, hd, he⟩
    · simp
    · have hb := sized_slice hsz (j := 2) (t := 25) (e := 22) (elems := es) (spare := ss) rfl (by rw [← hd]; rfl) Try.underlying25
      rw [show Try.prog.bytesOf 22 = 24 from by kernel_rfl] at hb
      simp only [reachBytes] at hb
      omega
  clear hA0 hval0
  refine (clashGrew_walk W v0 l0 w0 n1 u1 r1_ w1 v2 l2 w2 z2).mono fun e W' ⟨he, bel⟩ => ?_
  subst he
  exact ⟨_, rfl, _, _, _, [], _, [], hW', trodAll_mk1 (shut_bool Try.underlying4 _), (trodAll_cons_mk (Below.trod laidOutProg (by kernel_rfl) (of_decide_eq_true (by kernel_rfl)) k0 bel lt0) (trodAll_cons_mk (Below.trod laidOutProg (by kernel_rfl) (of_decide_eq_true (by kernel_rfl)) k1 bel lt1) (trodAll_cons_mk (Below.trod laidOutProg (by kernel_rfl) (of_decide_eq_true (by kernel_rfl)) k2 bel lt2) trodAll_mk0))), rfl, bel.frame _, fun h => by cases h⟩

theorem over : Rows.clashGrewRow.holds Try.pinned (OpenSpec.ofChange Rows.clashGrewSpec) :=
  OpenClaim.holds_of_wide 13 Try.f13 rfl rfl rfl rfl rfl rfl rfl ⟨rfl, rfl, rfl, rfl, rfl⟩ rfl rfl rfl rfl rfl (by kernel_rfl) Try.func13 (by kernel_rfl)
    (of_decide_eq_true (by kernel_rfl)) (by unfold Func.isWrapper; first | (rw [if_pos (by decide +kernel)]; kernel_rfl) | (rw [if_neg (by decide +kernel)]; exact ⟨rfl, rfl⟩))
    (fun os started H enc _ => lifted os started H enc)
end Go.Proofs.Ytaojgabiefkcaaa.clashGrew
namespace Go.Proofs.Ytaojgabiefkcaaa
theorem clashGrew_holds : Rows.ClashGrewSaid := clashGrew.over
end Go.Proofs.Ytaojgabiefkcaaa
