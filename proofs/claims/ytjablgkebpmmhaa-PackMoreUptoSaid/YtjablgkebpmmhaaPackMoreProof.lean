/-
  PackMore: tokens one behind the other. No conditions.
-/
import Derived.Test.YtjablgkebpmmhaaFrame
import Derived.Test.YtjablgkebpmmhaaQMore
import Derived.JoinedCond
import Derived.Test.YtjablgkebpmmhaaQOpenT
namespace Go.Proofs.Ytjablgkebpmmhaa.packMore
open Go.ChangeShapes Go.WideShapes Go.ChangeAt Go.RowKit

theorem len_bulk {H : Type} : ∀ l : List (DataW H), l.length ≤ Rows.uptoBulkAll l
  | [] => by simp [Rows.uptoBulkAll]
  | d :: r => by
    have h1 := len_bulk r
    have h2 : 1 ≤ Rows.uptoBulk d := by
      cases d with
      | lit l => cases l <;> simp [Rows.uptoBulk]
      | nil => simp [Rows.uptoBulk]
      | ptr d => simp [Rows.uptoBulk]
      | slice elems spare => simp [Rows.uptoBulk]
      | agg parts => simp [Rows.uptoBulk]
      | iface t d => simp [Rows.uptoBulk]
      | map entries => simp [Rows.uptoBulk]
      | held h => simp [Rows.uptoBulk]
    simp only [Rows.uptoBulkAll, List.length_cons]
    omega
theorem two_bulk {H α : Type} {d0 d1 : DataW H} {l m : List α} (hk : Rows.uptoSmall H [d0, d1] = true) (h0 : (d0 = .nil ∧ l = []) ∨ ∃ es ss, d0 = .slice es ss ∧ es.length = l.length) (h1 : (d1 = .nil ∧ m = []) ∨ ∃ es ss, d1 = .slice es ss ∧ es.length = m.length) : l.length + m.length ≤ 1048576 := by
  have h : Rows.uptoBulkAll [d0, d1] ≤ 1048576 := of_decide_eq_true hk
  have hl : ∀ {d : DataW H} {l : List α}, ((d = .nil ∧ l = []) ∨ ∃ es ss, d = .slice es ss ∧ es.length = l.length) → l.length ≤ Rows.uptoBulk d := by
    rintro d l (⟨_, rfl⟩ | ⟨es, ss, rfl, he⟩)
    · simp
    · have := len_bulk es
      simp only [Rows.uptoBulk]
      omega
  have a0 := hl h0
  have a1 := hl h1
  simp only [Rows.uptoBulkAll] at h
  omega

set_option maxRecDepth 100000 in
theorem contract (H : Type) (enc : TypeId × Value → H) (W : World) (base : Nat) (args : Array Value) (ds gs : List (DataW H)) (before : List MemPlace)
    (hval0 : ∀ (j : Nat) t v, Try.f11.params[j]? = some t → args[j]? = some v → Value.okWide Try.prog W .any base t v)
    (hW : DataW.Whole enc Try.prog Try.f11.params.toList Rows.packMoreSpec.vars false W args.toList ds gs before) (hk : Rows.uptoSmall H (ds ++ gs) = true) :
    Calls Try.prog 11 args W fun e W' => ∃ v, e = .returned v ∧ Rows.packMoreSpec.post enc Try.prog Try.f11 false true false false W args v W' := by
  have hval : ∀ (j : Nat) t v, Try.f11.params[j]? = some t → args[j]? = some v → Value.okWide Try.prog W .any base t v := hval0
  have hW' := hW
  obtain ⟨p, q, hA0, hV, rfl, hfz, hnd⟩ := hW
  have hA : DataW.TrodAll enc Try.prog W 0 (fun _ => true) true Try.f11.params.toList args.toList ds p := hA0
  rw [Try.params11] at hA hval
  obtain ⟨v0, vs0, d0, ds0, p0, q0, hargs0, rfl, rfl, h0, r0⟩ := trodAll_cons hA
  obtain ⟨v1, vs1, d1, ds1, p1, q1, hargs1, rfl, rfl, h1, r1⟩ := trodAll_cons r0
  obtain ⟨rfl, rfl, rfl⟩ := trodAll_nil r1
  obtain rfl : args = #[v0, v1] := by cases args; simp_all
  obtain ⟨rfl, rfl⟩ := trodVars_none hV
  have k0 := h0
  have lt0 : ∀ x ∈ p0, x.block < W.heap.size := by obtain ⟨m, hm⟩ := k0; exact DataW.trod_lt m _ _ _ hm
  have k1 := h1
  have lt1 : ∀ x ∈ p1, x.block < W.heap.size := by obtain ⟨m, hm⟩ := k1; exact DataW.trod_lt m _ _ _ hm
  obtain ⟨l0, w0, b0⟩ := open_list Try.underlying33 opensToks (hval 0 33 v0 rfl rfl) h0
  obtain ⟨l1, w1, b1⟩ := open_list Try.underlying33 opensToks (hval 1 33 v1 rfl rfl) h1
  clear hA0 hval0
  refine (packMore_walk W v0 l0 w0 v1 l1 w1 (two_bulk (by simpa using hk) b0 b1)).mono fun e W' ⟨he, bel⟩ => ?_
  subst he
  exact ⟨_, rfl, _, _, _, [], _, [], hW', trodAll_mk1 (shut_bool Try.underlying4 _), (trodAll_cons_mk (Below.trod laidOutProg (by kernel_rfl) (of_decide_eq_true (by kernel_rfl)) k0 bel lt0) (trodAll_cons_mk (Below.trod laidOutProg (by kernel_rfl) (of_decide_eq_true (by kernel_rfl)) k1 bel lt1) trodAll_mk0)), rfl, bel.frame _, fun h => by cases h⟩

set_option maxRecDepth 100000 in
theorem lifted (os : Os) (started : os.Started) (H : Type) (enc : TypeId × Value → H) (F : Stop.Interp) :
    ReturnsInHanded {} Try.checked os 11 .any ((Rows.OpenSpec.upto Rows.packMoreSpec).pre6 enc Try.prog Try.f11 Rows.packMoreUptoRow.domain false) (((Rows.OpenSpec.upto Rows.packMoreSpec).at F).post enc Try.prog Try.f11 false true false false) := by
  refine returnsInHanded_of_cond (C := Try.checked) (s := Rows.OpenSpec.upto Rows.packMoreSpec) (k := Rows.uptoSmall) rfl ownProg started (by kernel_rfl) Try.func11
    (OpenSpec.witness (enc := enc) (C := Try.checked) (s := Rows.OpenSpec.upto Rows.packMoreSpec) (k := Rows.uptoSmall) rfl false ⟨#[], #[.slice none 0 0, .slice none 0 0], []⟩ 8 (by kernel_rfl) (by kernel_rfl) (by kernel_rfl)
      (x := ([.nil, .nil], [], [])) (by kernel_rfl) rfl (by kernel_rfl)) ?_
  intro W base args ds gs before hval hW _ hk _
  exact contract H enc W base args ds gs before hval hW hk

theorem over : Rows.packMoreUptoRow.holds Try.pinned (Rows.OpenSpec.upto Rows.packMoreSpec) :=
  OpenClaim.holds_of_cond 11 Try.f11 rfl rfl rfl rfl rfl rfl rfl ⟨rfl, rfl, rfl, rfl, rfl⟩ rfl rfl rfl rfl rfl (by kernel_rfl) Try.func11 (by kernel_rfl)
    (of_decide_eq_true (by kernel_rfl)) (by unfold Func.isWrapper; first | (rw [if_pos (by decide +kernel)]; kernel_rfl) | (rw [if_neg (by decide +kernel)]; exact ⟨rfl, rfl⟩))
    (fun os started H enc _ F => lifted os started H enc F)
end Go.Proofs.Ytjablgkebpmmhaa.packMore
namespace Go.Proofs.Ytjablgkebpmmhaa
theorem packMoreUpto_holds : Rows.PackMoreUptoSaid := packMore.over
end Go.Proofs.Ytjablgkebpmmhaa
