/-
  Words for memory: lists of lists of bytes of the call's own; what string(..) of bytes gives. No conditions.
-/
import Derived.Test.YtfdibjgmbdkbcaaSum
import Derived.Test.YtfdibjgmbdkbcaaMem2
import Derived.Laws.BytesArg
import Derived.Laws.BytesString
import Derived.WalkKit
namespace Go.Proofs.Ytfdibjgmbdkbcaa
open Go.RowKit

/-- a list of the call's own, of bytes of its own -/
def OwnL (w : World) (B : Nat) (v : Value) (ll : List Bs) : Prop :=
  ∃ vs : List Value, Own w B 22 1 v ll.length vs ∧ ∀ (i : Nat) (b : Bs), ll[i]? = some b → ∃ u : Value, vs[i]? = some u ∧ OwnB w B u b

theorem Bytes.below {w w' : World} {F : Nat → Prop} {v : Value} {l : Bs} (h : Bytes w F v l) (hb : Below w.heap.size w w') : Bytes w' F v l := SlAt.below h hb
theorem Bytes.alloc {w : World} {F : Nat → Prop} {v : Value} {l : Bs} (h : Bytes w F v l) (o : Obj) : Bytes (w.alloc o) F v l := SlAt.alloc h o
theorem Bytes.drewN {w : World} {F : Nat → Prop} {v : Value} {l : Bs} (h : Bytes w F v l) (n : Nat) : Bytes (w.drewN n) F v l := h
theorem OwnB.below {w w' : World} {B : Nat} {v : Value} {l : Bs} (h : OwnB w B v l) (hb : Below w.heap.size w w') : OwnB w' B v l := Own.below h hb
theorem OwnB.mono {w : World} {B B' : Nat} {v : Value} {l : Bs} (h : OwnB w B v l) (hb : B' ≤ B) : OwnB w B' v l := Own.mono h hb
theorem OwnB.alloc {w : World} {B : Nat} {v : Value} {l : Bs} (h : OwnB w B v l) (o : Obj) : OwnB (w.alloc o) B v l := Own.alloc h o
theorem info_bytes : (Try.prog.info? 22).map (fun i => (i.zero, i.size, i.bytes)) = some (some (.slice none 0 0), 1, 24) := by kernel_rfl

theorem Own.type {w : World} {base : Nat} {e : TypeId} {size n : Nat} {v : Value} {xs : List Value} (h : Own w base e size v n xs) :
    ∀ k, v.ownBlock = some k → base ≤ k ∧ ∃ cur, w.heap[k]? = some (.cells cur e (0, 0)) := by
  obtain ⟨_, ⟨rfl, _⟩ | ⟨g, off, cap, cur, rfl, hb, hg, _⟩⟩ := h
  · intro k hk; simp [Value.ownBlock] at hk
  · intro k hk
    have : g = k := by simpa [Value.ownBlock] using hk
    subst this
    exact ⟨hb, cur, hg⟩
/-- rows of unlike elements lie apart -/
theorem Own.apart {w : World} {B B' : Nat} {e e' : TypeId} {s s' n n' : Nat} {u v : Value} {xs ys : List Value} (h : Own w B e s u n xs) (h' : Own w B' e' s' v n' ys) (hne : e ≠ e') : ∀ k, u.ownBlock = some k → v.ownBlock ≠ some k := by
  intro k hk hk'
  obtain ⟨_, c, h1⟩ := h.type k hk
  obtain ⟨_, c', h2⟩ := h'.type k hk'
  rw [h1] at h2
  injection h2 with h2
  injection h2 with _ h2
  exact hne h2
section
variable {w w' : World} {B : Nat} {v : Value} {ll : List Bs}
theorem OwnL.nil_ (w : World) (B : Nat) : OwnL w B (.slice none 0 0) [] := ⟨[], Own.nil_ _ _ _ _, fun i b hb => by simp at hb⟩
theorem OwnL.below (h : OwnL w B v ll) (hb : Below w.heap.size w w') : OwnL w' B v ll := by
  obtain ⟨vs, h1, h2⟩ := h
  refine ⟨vs, h1.below hb, fun i b hi => ?_⟩
  obtain ⟨u, hu, ho⟩ := h2 i b hi
  exact ⟨u, hu, Own.below ho hb⟩
theorem OwnL.drewN (h : OwnL w B v ll) (n : Nat) : OwnL (w.drewN n) B v ll := h
theorem OwnL.alloc (h : OwnL w B v ll) (o : Obj) : OwnL (w.alloc o) B v ll := h.below ((Below.refl _ _).alloc (Nat.le_refl _) o)
theorem OwnL.mono (h : OwnL w B v ll) {B' : Nat} (hb : B' ≤ B) : OwnL w B' v ll := by
  obtain ⟨vs, h1, h2⟩ := h
  refine ⟨vs, h1.mono hb, fun i b hi => ?_⟩
  obtain ⟨u, hu, ho⟩ := h2 i b hi
  exact ⟨u, hu, Own.mono ho hb⟩
theorem OwnL.blist (h : OwnL w B v ll) : BList w (fun k => B ≤ k ∧ k < w.heap.size) v ll := by
  obtain ⟨vs, h1, h2⟩ := h
  refine ⟨vs, h1.slAt (fun k hk => h1.lt k hk), fun i b hi => ?_⟩
  obtain ⟨u, hu, ho⟩ := h2 i b hi
  exact ⟨u, hu, OwnB.bytes ho⟩
/-- behind an append of one that is the call's own -/
theorem OwnL.snoc {vs : List Value} {u v' : Value} {b : Bs} (h : ∀ (i : Nat) (b : Bs), ll[i]? = some b → ∃ u : Value, vs[i]? = some u ∧ OwnB w B u b) (hvs : vs.length = ll.length) (hu : OwnB w B u b)
    (hv : Own w B 22 1 v ll.length vs) (hg : w.grownBy w' v.ownBlock) (hown : Own w' B 22 1 v' (ll.length + 1) (vs ++ [u])) : OwnL w' B v' (ll ++ [b]) := by
  have hk : ∀ (x : Value) (c : Bs), OwnB w B x c → OwnB w' B x c := fun x c ho =>
    Own.keep ho fun k hk hlt _ => hg.block k hlt (fun e => Own.apart ho hv (by decide) k hk e.symm)
  refine ⟨vs ++ [u], by rw [List.length_append]; exact hown, fun i c hi => ?_⟩
  rcases Nat.lt_or_ge i ll.length with hlt | hge
  · rw [List.getElem?_append_left hlt] at hi
    obtain ⟨x, hx, ho⟩ := h i c hi
    exact ⟨x, by rw [List.getElem?_append_left (by omega)]; exact hx, hk x c ho⟩
  · rw [List.getElem?_append_right hge] at hi
    have hi0 : i = ll.length := by
      rcases Nat.eq_or_lt_of_le hge with h | h
      · exact h.symm
      · rw [List.getElem?_eq_none (by simp; omega)] at hi; cases hi
    subst hi0
    simp only [Nat.sub_self, List.getElem?_cons_zero, Option.some.injEq] at hi
    subst hi
    exact ⟨u, by rw [← hvs, List.getElem?_append_right (Nat.le_refl _), Nat.sub_self]; rfl, hk u b hu⟩
end

/-- 'append(v, x)', x of the call's own: what the operation wants, and what it gives -/
theorem OwnL.prep {w : World} {B : Nat} {v : Value} {ll : List Bs} {vs : List Value} {A : Option Addr} {c : Nat} {b : Bs} (hown : Own w B 22 1 v ll.length vs)
    (hin : ∀ (i : Nat) (b : Bs), ll[i]? = some b → ∃ u : Value, vs[i]? = some u ∧ OwnB w B u b) (hb : OwnB w B (.slice A b.length c) b) :
    Own (w.alloc (.cells #[.slice A b.length c] 22)) B 22 1 v ll.length vs ∧
    SlAt (w.alloc (.cells #[.slice A b.length c] 22)) (fun k => k = w.heap.size) 1 (.slice (some ⟨w.heap.size, 0, none⟩) 1 1) 1 [.slice A b.length c] ∧
    ∀ v' w', Own w' B 22 1 v' (ll.length + 1) (vs ++ [.slice A b.length c]) → (w.alloc (.cells #[.slice A b.length c] 22)).grownBy w' v.ownBlock → OwnL w' B v' (ll ++ [b]) := by
  refine ⟨hown.alloc _, SlAt.new w 22 [.slice A b.length c] 1 rfl (by decide), fun v' w' h1 h2 => ?_⟩
  refine OwnL.snoc (w := w.alloc (.cells #[.slice A b.length c] 22)) (fun i b hb => ?_) (by have := hown.1; omega) (Own.alloc hb _) (hown.alloc _) h2 h1
  obtain ⟨u, hu, ho⟩ := hin i b hb
  exact ⟨u, hu, Own.alloc ho _⟩

/-- string(v) of bytes -/
theorem conv_str (w : World) (F : Nat → Prop) (v : Value) (l : Bs) (h : Bytes w F v l) :
    (convert 22 9 v).run Try.prog w = .ok (.string ⟨l.toArray⟩) w := by
  obtain ⟨A, c, rfl, hac, hcm, hal, hA⟩ := h
  rcases A with _ | a
  · have hl : l = [] := by
      rcases Nat.eq_zero_or_pos l.length with h0 | h0
      · exact List.eq_nil_of_length_eq_zero h0
      · obtain ⟨_, _, h1, _⟩ := hA h0; cases h1
    subst hl
    exact run_convert_bytes_nil w 22 5 Try.underlying22 Try.underlying5 _ c 9 Try.underlying9
  · have hcells : ∀ j u, (l.map bv)[j]? = some u → w.cell? (a.add j) = some u := by
      intro j u hu
      have hj : 0 < l.length := by
        rcases Nat.eq_zero_or_pos l.length with h0 | h0
        · rw [List.eq_nil_of_length_eq_zero h0] at hu; simp at hu
        · exact h0
      obtain ⟨b, off, h1, _, _, hc⟩ := hA hj
      injection h1 with h1
      subst h1
      rw [Addr.add_lit]
      exact hc j u hu
    have hm : l.map bv = (l.map fun x => (x.toNat : Int)).map (Value.int .u8) := by rw [List.map_map]; rfl
    have hl0 := run_loadCells_list (P := Try.prog) w a (l.map bv) hcells
    rw [hm, List.length_map, List.length_map] at hl0
    rw [run_convert_bytes_string w 22 9 5 _ l.length c Try.underlying22 Try.underlying5 Try.underlying9,
      run_bytesToString w a l.length c (l.map fun x => (x.toNat : Int)) hl0, foldl_push_bytes]
    have e : (l.map fun x => (x.toNat : Int)).map (fun n => UInt8.ofNat n.toNat) = l := by
      rw [List.map_map]
      conv => rhs; rw [← List.map_id l]
      apply List.map_congr_left
      intro x _
      simp
    rw [e]
    congr 2
    apply ByteArray.ext
    simp [ByteArray.empty, ByteArray.emptyWithCapacity]
    rfl

set_option maxHeartbeats 400000 in
/-- bytes.Equal -/
theorem equal_any (w : World) (F F' : Nat → Prop) (va vb : Value) (a b : Bs) (ha : Bytes w F va a) (hb : Bytes w F' vb b) :
    Calls Try.prog 91 #[va, vb] w fun e w' => e = .returned (.bool (a == b)) ∧ w' = w := by
  have h1 := conv_str w F va a ha
  have h2 := conv_str w F' vb b hb
  obtain ⟨A, c, rfl⟩ := ha.form
  obtain ⟨A', c', rfl⟩ := hb.form
  go_enter Try.func91, Try.ntmps91
  go_wp2
  go_ret
  exact ⟨rfl, rfl⟩
end Go.Proofs.Ytfdibjgmbdkbcaa
