/-
  THE WALK of a shard's entries; a row of cells is set. Conditions: what is read is a shard.
-/
import Derived.Test.YtfdibjgmbdkbcaaZBookE
import Derived.Test.YtfdibjgmbdkbcaaZGh
import Derived.Test.YtfdibjgmbdkbcaaZGq
import Derived.Test.YtfdibjgmbdkbcaaZGr
namespace Go.Proofs.Ytfdibjgmbdkbcaa
open Go.RowKit Go.Lib

/-- cells, one behind the other, are set -/
def setL : World → Nat → Nat → List Value → World
  | w, _, _, [] => w
  | w, g, i, v :: l => setL (w.setCell ⟨g, i, none⟩ v) g (i + 1) l
theorem setL_far {k g : Nat} (hk : k ≠ g) : ∀ (l : List Value) (w : World) (i : Nat), (setL w g i l).heap[k]? = w.heap[k]?
  | [], _, _ => rfl
  | v :: l, w, i => by rw [setL, setL_far hk l, Below.heap_setCell _ _ _ k hk]
theorem setL_size {g : Nat} : ∀ (l : List Value) (w : World) (i : Nat), (setL w g i l).heap.size = w.heap.size
  | [], _, _ => rfl
  | v :: l, w, i => by rw [setL, setL_size l]; simp
theorem setL_below {B g : Nat} {w0 : World} (hg : B ≤ g) : ∀ (l : List Value) (w : World) (i : Nat), Below B w0 w → Below B w0 (setL w g i l)
  | [], _, _, h => h
  | v :: l, _, i, h => setL_below hg l _ _ (h.setCell (p := ⟨g, i, none⟩) hg v)
theorem setL_blk {g : Nat} {t : TypeId} : ∀ (l old pre : List Value) (w : World), old.length = l.length → Blk w g t (pre ++ old).toArray → Blk (setL w g pre.length l) g t (pre ++ l).toArray
  | [], old, pre, w, hl, h => by
    have : old = [] := by simpa using hl
    subst this
    exact h
  | v :: l, [], pre, w, hl, h => by simp at hl
  | v :: l, x :: old, pre, w, hl, h => by
    have h1 := h.set_ pre.length v
    have e : ((pre ++ x :: old).toArray.setIfInBounds pre.length v) = ((pre ++ [v]) ++ old).toArray := by
      apply Array.toList_inj.1
      rw [Array.toList_setIfInBounds]
      simp
    rw [e] at h1
    have h2 := setL_blk l old (pre ++ [v]) _ (by simpa using hl) h1
    simpa [setL] using h2

set_option maxRecDepth 100000 in
set_option maxHeartbeats 1000000 in
theorem entries_any (w : World) (F F' F'' : Nat → Prop) (q o : Nat) (s : Shd) (ev vr vs : Value) (h2 : w.cell? ⟨q, o + 2, none⟩ = some (.int .i64 s.st)) (h3 : w.cell? ⟨q, o + 3, none⟩ = some ev) (h4 : w.cell? ⟨q, o + 4, none⟩ = some (.int .i64 s.man.size)) (h5 : w.cell? ⟨q, o + 5, none⟩ = some vr) (h6 : w.cell? ⟨q, o + 6, none⟩ = some vs)
    (he : BList w F ev s.ents) (hr : Bytes w F' vr s.man.root) (hs : RdL w F'' vs s.man.segs) :
    Calls Try.prog 116 #[.pointer (some ⟨q, o, none⟩)] w fun e w' => ∃ v, e = .returned (.tuple #[v, .int .i64 ((Fl.entsC s).1 : Int)]) ∧ BList w' (fun b => F b ∨ w.heap.size ≤ b) v (Fl.entsC s).2 ∧ Below w.heap.size w w' := by
  obtain ⟨A, c, hev, _, _, _⟩ := he.shape
  subst hev
  by_cases hst : s.st = 4
  · have hE : Fl.entsC s = ((Shf.verC s.man).1.1, (Shf.verC s.man).2) := by unfold Fl.entsC; rw [if_pos hst]
    rw [hE]
    rw [hst] at h2
    clear hst hE
    obtain ⟨a, b, hab⟩ : ∃ a b : Nat, (Shf.verC s.man).1 = (a, b) := ⟨_, _, rfl⟩
    have hfv : fv (Shf.verC s.man).1 = .agg #[.int .i64 (a : Int), .int .i64 (b : Int)] := by rw [hab]; rfl
    have ha1 : (Shf.verC s.man).1.1 = a := by rw [hab]
    have HV := Lib.hid (verify_any w _ _ vr vs s.man hr hs)
    have HA := Lib.hid ha1
    clear hab ha1
    go_enter Try.func116, Try.ntmps116
    go_wp2_with fail
    with_reducible refine HV.out.mono ?_
    rintro e w5 ⟨v5, rfl, ho5, hx5⟩
    rw [hfv]
    clear HV hfv
    go_upto_region 4 with (fail)
    have hx6 := hx5.alloc hx5.size (.cells #[.int .i64 (a : Int), .int .i64 (b : Int)] 32)
    have hflt : Blk (w5.alloc (.cells #[.int .i64 (a : Int), .int .i64 (b : Int)] 32)) w5.heap.size 32 #[.int .i64 (a : Int), .int .i64 (b : Int)] := heap_alloc_new w5 _
    have ho6 := ho5.blist.alloc (.cells #[.int .i64 (a : Int), .int .i64 (b : Int)] 32)
    generalize w5.alloc (.cells #[.int .i64 (a : Int), .int .i64 (b : Int)] 32) = w6 at *
    generalize w5.heap.size = gE at *
    have l0 : w6.cell? ⟨gE, 0, none⟩ = some (.int .i64 (a : Int)) := hflt.cell 0
    go_quiet (fail)
    go_wp2_with fail
    go_ret2
    exact ⟨v5, by rw [HA.out]; rfl, (ho6.weak (fun _ _ h => .inr h.1)), below_drewN hx6 _⟩
  · have hE : Fl.entsC s = (0, s.ents) := by unfold Fl.entsC; rw [if_neg hst]
    rw [hE]
    have hstB : (s.st != 4) = true := by rw [bne_iff_ne]; exact hst
    clear hst hE
    go_enter Try.func116, Try.ntmps116
    go_wp2_with fail
    go_ret2
    exact ⟨_, rfl, he.weak (fun _ _ h => .inl h), Below.refl _ _⟩
end Go.Proofs.Ytfdibjgmbdkbcaa
