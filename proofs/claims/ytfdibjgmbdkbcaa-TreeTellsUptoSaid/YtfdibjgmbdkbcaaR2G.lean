/-
  Both ways of a right edge and of leaves as one: what the program answers, and what yearref2 answers. Conditions: what comes in is read as lists of bytes.
-/
import Derived.Test.YtfdibjgmbdkbcaaR2F
import Derived.Test.YtfdibjgmbdkbcaaTreeJ
namespace Go.Proofs.Ytfdibjgmbdkbcaa
open Go.RowKit Go.Lib

theorem push_two (n : Int) (ps : List Bs) (b : Bs) : ∃ (nx : Int) (xs : List Bs) (k : Int),
    (∀ (w : World) (F F' : Nat → Prop) (vp vb : Value), BList w F vp ps → Bytes w F' vb b → Calls Try.prog 35 #[.agg #[.int .i64 n, vp], vb] w fun e w' => ∃ v, e = .returned (.tuple #[.agg #[.int .i64 nx, v], .int .i64 k]) ∧ BList w' (fun _ => True) v xs ∧ Below w.heap.size w w') ∧
    (∀ (w : World) (F F' : Nat → Prop) (vp vb : Value), BList w F vp ps → Bytes w F' vb b → Calls Try.prog 36 #[.agg #[.int .i64 n, vp], vb] w fun e w' => ∃ v, e = .returned (.tuple #[.agg #[.int .i64 nx, v], .int .i64 k]) ∧ BList w' (fun _ => True) v xs ∧ Below w.heap.size w w') := by
  by_cases he : edgeOk n ps 99
  · by_cases hb : b.length ≤ 200
    · refine ⟨n + 1, _, 0, fun w F F' vp vb hp hbb => (push_ok w F F' vp vb n ps b hp hbb he hb).mono ?_, fun w F F' vp vb hp hbb => rpush_ok w F F' vp vb n ps b hp hbb he hb⟩
      rintro e w' ⟨v, rfl, h, hx⟩
      exact ⟨v, rfl, h.blist.weak (fun _ _ _ => trivial), hx⟩
    · refine ⟨0, [], 4, fun w F F' vp vb hp hbb => (push_bad w F F' vp vb n ps b hp hbb (fun h => hb h.2)).mono ?_, fun w F F' vp vb hp hbb => (rpush_much w F F' vp vb n ps b hp hbb he hb).mono ?_⟩
      · rintro e w' ⟨⟨k, _, h4, _, rfl⟩, hx⟩
        obtain rfl := h4 he
        exact ⟨_, rfl, ⟨[], SlAt.nil_ _ _ _, fun i b h => by simp at h⟩, hx⟩
      · rintro e w' ⟨rfl, hx⟩
        exact ⟨_, rfl, ⟨[], SlAt.nil_ _ _ _, fun i b h => by simp at h⟩, hx⟩
  · refine ⟨0, [], 2, fun w F F' vp vb hp hbb => (push_bad w F F' vp vb n ps b hp hbb (fun h => he h.1)).mono ?_, fun w F F' vp vb hp hbb => (rpush_form w F F' vp vb n ps b hp hbb he).mono ?_⟩
    · rintro e w' ⟨⟨k, _, _, h2, rfl⟩, hx⟩
      obtain rfl := h2 he
      exact ⟨_, rfl, ⟨[], SlAt.nil_ _ _ _, fun i b h => by simp at h⟩, hx⟩
    · rintro e w' ⟨rfl, hx⟩
      exact ⟨_, rfl, ⟨[], SlAt.nil_ _ _ _, fun i b h => by simp at h⟩, hx⟩

theorem top_two (n : Int) (ps : List Bs) : ∃ (x : Bs) (k : Int),
    (∀ (w : World) (F : Nat → Prop) (vp : Value), BList w F vp ps → Calls Try.prog 37 #[.agg #[.int .i64 n, vp]] w fun e w' => ∃ v, e = .returned (.tuple #[v, .int .i64 k]) ∧ Bytes w' (fun _ => True) v x ∧ Below w.heap.size w w') ∧
    (∀ (w : World) (F : Nat → Prop) (vp : Value), BList w F vp ps → Calls Try.prog 38 #[.agg #[.int .i64 n, vp]] w fun e w' => ∃ v, e = .returned (.tuple #[v, .int .i64 k]) ∧ Bytes w' (fun _ => True) v x ∧ Below w.heap.size w w') := by
  by_cases he : edgeOk n ps 100
  · refine ⟨_, 0, fun w F vp hp => (top_ok w F vp n ps hp he).mono ?_, fun w F vp hp => rtop_ok w F vp n ps hp he⟩
    rintro e w' ⟨v, rfl, h, hx⟩
    exact ⟨v, rfl, (OwnB.bytes h).weak (fun _ _ _ => trivial), hx⟩
  · refine ⟨[], 2, fun w F vp hp => (top_bad w F vp n ps hp he).mono ?_, fun w F vp hp => (rtop_bad w F vp n ps hp he).mono ?_⟩
    · rintro e w' ⟨rfl, hx⟩
      exact ⟨_, rfl, SlAt.nil_ _ _ _, hx⟩
    · rintro e w' ⟨rfl, hx⟩
      exact ⟨_, rfl, SlAt.nil_ _ _ _, hx⟩

end Go.Proofs.Ytfdibjgmbdkbcaa
