/-
  A region that draws its order, gone through by an invariant: what holds in each state, and that each operation that may come up leads from state to state. No conditions.
  A region that draws its order, gone through by an invariant: when nothing is left, all is listed. No conditions.
-/
import Derived.Test.YtfdibjgmbdkbcaaZStep
namespace Go.Proofs.Ytfdibjgmbdkbcaa
section
variable {P : Program} {ops : Array Oper} {Q : Exit → Act → World → Prop} {md : Region.Mode} {S : World → Prop}
/-- how many operations are still to come -/
def unl (ops : Array Oper) (l : Array Bool) : Nat := (List.range ops.size).countP fun i => !l.getD i true
theorem unl_pos {l : Array Bool} {i : Nat} (hi : i < ops.size) (h : l.getD i true = false) : 0 < unl ops l :=
  List.countP_pos_iff.2 ⟨i, List.mem_range.2 hi, by rw [h]; rfl⟩
theorem unl_set {l : Array Bool} {i : Nat} (hi : i < ops.size) (h : l.getD i true = false) : unl ops (l.setIfInBounds i true) < unl ops l := by
  unfold unl
  have hl : i < l.size := by
    rcases Nat.lt_or_ge i l.size with h1 | h1
    · exact h1
    · simp [Array.getD, Nat.not_lt.2 h1] at h
  have key : ∀ ks : List Nat, (∀ k ∈ ks, k ≠ i ∨ k = i) → (ks.countP fun k => !(l.setIfInBounds i true).getD k true) + (if i ∈ ks then 1 else 0) ≤ ks.countP fun k => !l.getD k true := by
    intro ks _
    induction ks with
    | nil => simp
    | cons k ks ih =>
      have ih := ih (fun k _ => by by_cases e : k = i; exact .inr e; exact .inl e)
      by_cases e : k = i
      · subst e
        have e1 : (l.setIfInBounds k true).getD k true = true := by simp [Array.getD, hl]
        rw [List.countP_cons, List.countP_cons, e1, h]
        have h1 : (if k ∈ ks then 1 else 0) ≤ 1 := by split <;> omega
        rw [if_pos (List.mem_cons_self ..)]
        simp only [Bool.not_true, Bool.not_false, if_true, Bool.false_eq_true, if_false, Nat.add_zero]
        omega
      · have e1 : (l.setIfInBounds i true).getD k true = l.getD k true := getD_set_ne true (Ne.symm e)
        rw [List.countP_cons, List.countP_cons, e1]
        have e2 : (if i ∈ k :: ks then 1 else 0) = if i ∈ ks then 1 else 0 := by simp [Ne.symm e]
        rw [e2]
        omega
  have h1 := key (List.range ops.size) (fun k _ => by by_cases e : k = i; exact .inr e; exact .inl e)
  rw [if_pos (List.mem_range.2 hi)] at h1
  omega
theorem ready_lt {l : Array Bool} {i : Nat} (h : i ∈ Region.ready md ops l) : i < ops.size ∧ l.getD i true = false := by
  obtain ⟨h1, o, ho, _⟩ := mem_ready.1 h
  exact ⟨(Array.getElem?_eq_some_iff.1 ho).1, h1⟩
theorem wpAnyH_inv (T : Array Bool → Act → World → Prop) (hS : ∀ l a w, T l a w → S w)
    (hstep : ∀ l a w i, T l a w → i ∈ Region.ready md ops l → wpOp P ops Q i (fun a' w' => T (l.setIfInBounds i true) a' w') a w)
    (hend : ∀ l a w, T l a w → Region.ready md ops l = [] → Q .normal a w) :
    ∀ (fuel : Nat) (l : Array Bool) (a : Act) (w : World), T l a w → unl ops l ≤ fuel → wpAnyH P md ops Q S fuel l a w := by
  intro fuel
  induction fuel with
  | zero =>
    intro l a w hT hu
    have hr : Region.ready md ops l = [] := by
      cases hh : Region.ready md ops l with
      | nil => rfl
      | cons i rs =>
        obtain ⟨h1, h2⟩ := ready_lt (md := md) (ops := ops) (l := l) (i := i) (by rw [hh]; exact List.mem_cons_self ..)
        have := unl_pos h1 h2
        omega
    exact ⟨hr, hend l a w hT hr⟩
  | succ fuel ih =>
    intro l a w hT hu
    refine ⟨fun hr => hend l a w hT hr, fun i hi => ?_⟩
    obtain ⟨h1, h2⟩ := ready_lt hi
    have h3 := unl_set h1 h2
    exact wpOp_mono (fun a' w' hT' => ⟨hS _ _ _ hT', ih _ a' w' hT' (by omega)⟩) (hstep l a w i hT hi)
end
end Go.Proofs.Ytfdibjgmbdkbcaa

namespace Go.Proofs.Ytfdibjgmbdkbcaa
section
variable {P : Program} {ops : Array Oper} {Q : Exit → Act → World → Prop} {md : Region.Mode} {S : World → Prop}
/-- each operation waits for elder ones alone -/
def elderB (md : Region.Mode) (ops : Array Oper) : Bool :=
  (List.range ops.size).all fun i => match ops[i]? with
    | some o => o.after.all fun e => !Region.binds md e || decide (e.on < i)
    | none => true
theorem all_listed (he : elderB md ops = true) {l : Array Bool} (hr : Region.ready md ops l = []) : ∀ i, i < ops.size → l.getD i true = true := by
  intro i
  induction i using Nat.strongRecOn with
  | ind i ih =>
    intro hi
    cases hl : l.getD i true with
    | true => rfl
    | false =>
      obtain ⟨o, ho⟩ : ∃ o, ops[i]? = some o := ⟨_, Array.getElem?_eq_getElem hi⟩
      have h1 := (List.all_eq_true.1 he) i (List.mem_range.2 hi)
      rw [ho] at h1
      simp only at h1
      have hm : i ∈ Region.ready md ops l := by
        refine mem_ready.2 ⟨hl, o, ho, fun e hem hb => ?_⟩
        have h2 := Array.all_eq_true_iff_forall_mem.1 h1 e hem
        simp only [hb, Bool.not_true, Bool.false_or, decide_eq_true_eq] at h2
        have h3 := ih e.on h2 (Nat.lt_trans h2 hi)
        have hil : i < l.size := by
          rcases Nat.lt_or_ge i l.size with h | h
          · exact h
          · simp [Array.getD, Nat.not_lt.2 h] at hl
        have h4 : e.on < l.size := Nat.lt_trans h2 hil
        simp only [Array.getD, h4, dif_pos] at h3 ⊢
        exact h3
      rw [hr] at hm
      cases hm
theorem wpAnyH_all (he : elderB md ops = true) (T : Array Bool → Act → World → Prop) (hS : ∀ l a w, T l a w → S w)
    (hstep : ∀ l a w i, T l a w → i ∈ Region.ready md ops l → wpOp P ops Q i (fun a' w' => T (l.setIfInBounds i true) a' w') a w)
    (hend : ∀ l a w, T l a w → (∀ i, i < ops.size → l.getD i true = true) → Q .normal a w)
    (fuel : Nat) (l : Array Bool) (a : Act) (w : World) (hT : T l a w) (hu : unl ops l ≤ fuel) : wpAnyH P md ops Q S fuel l a w :=
  wpAnyH_inv T hS hstep (fun l a w hT hr => hend l a w hT (all_listed he hr)) fuel l a w hT hu
theorem duty {T' : Act → World → Prop} {a : Act} {w : World} {i : Nat} {o : Oper} (hi : ops[i]? = some o) (hw : Region.wanted o (yielded ops a.tmps) = true)
    (h : ∀ K : Act → World → Prop, (∀ a' w', T' a' w' → K a' w') → Oper.wp P o a w K Q) : wpOp P ops Q i T' a w := by
  unfold wpOp
  simp only [hi, hw, if_true]
  exact .inl (h _ fun _ _ h => h)
/-- of one that may come up: it is not listed, and what it waits for is -/
theorem ready_flags {l : Array Bool} {i : Nat} {o : Oper} (h : i ∈ Region.ready md ops l) (ho : ops[i]? = some o) : l.getD i true = false ∧ ∀ e ∈ o.after, Region.binds md e = true → l.getD e.on false = true := by
  obtain ⟨h1, o', ho', h2⟩ := mem_ready.1 h
  rw [ho] at ho'
  injection ho' with ho'
  subst ho'
  exact ⟨h1, h2⟩
end
end Go.Proofs.Ytfdibjgmbdkbcaa
