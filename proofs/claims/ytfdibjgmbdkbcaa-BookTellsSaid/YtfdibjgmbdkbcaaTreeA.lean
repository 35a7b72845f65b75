/-
  THE WALKS of math/bits.Len, tree.half, Leaf, Node, digests, Wrong. Conditions: what is read is bytes; the numbers are small.
-/
import Derived.Test.YtfdibjgmbdkbcaaMem3
import Derived.Test.YtfdibjgmbdkbcaaTree
import Derived.Lib.Small
import Derived.Lib.Walk
import Derived.Lib.BitFns
import Derived.BigQuiet
import Derived.Deep.LoopGhost
namespace Go.Proofs.Ytfdibjgmbdkbcaa
open Go.RowKit Go.Lib

theorem wrap64_nat_small (n : Nat) (h : n ≤ 9223372036854775807) : wrap64 (n : Int) = (n : Int) := IntWalk.wrap64_in n ⟨by omega, by omega⟩
set_option maxHeartbeats 1000000 in
set_option maxRecDepth 100000 in
theorem len64_small (x : Int) (w : World) (h0 : 0 ≤ x) (h1 : x ≤ 255) :
    Calls Try.prog 151 #[.int .u64 x] w fun e w' => e = .returned (.int .i64 (Lib.bitLen x.toNat)) ∧ w' = w := by
  go_enter Try.func151, Try.ntmps151
  go_wp2
  all_goals (go_ret; refine ⟨congrArg Ending.returned (congrArg (Value.int IntKind.i64) ?_), rfl⟩)
  have h := Lib.len8_of x (by omega) (by omega)
  have l := Lib.bitLen_le8' x (by omega) (by omega)
  rw [h, wrap64_nat_small _ (by omega), wrap64_nat_small _ (by omega)]

theorem bitLen_log : ∀ n : Fin 129, 1 ≤ n.val → Lib.bitLen n.val = Nat.log2 n.val + 1 := by decide +kernel

theorem len_small (x : Int) (w : World) (h0 : 0 ≤ x) (h1 : x ≤ 255) :
    Calls Try.prog 142 #[.int .u64 x] w fun e w' => e = .returned (.int .i64 (Lib.bitLen x.toNat)) ∧ w' = w := by
  go_enter Try.func142, Try.ntmps142
  go_wp2_with (go_at_call 151; refine (len64_small x _ h0 h1).mono ?_; rintro e w' ⟨rfl, rfl⟩)
  go_ret
  exact ⟨rfl, rfl⟩

set_option maxHeartbeats 400000 in
theorem half_any (n : Nat) (w : World) (h2 : 2 ≤ n) (hn : n ≤ 128) :
    Calls Try.prog 131 #[.int .i64 (n : Int)] w fun e w' => e = .returned (.int .i64 (Tr.split n : Nat)) ∧ w' = w := by
  have hb := bitLen_log ⟨n - 1, by omega⟩ (by show 1 ≤ n - 1; omega)
  dsimp only at hb
  have hlog : Nat.log2 (n - 1) < 7 := (Nat.log2_lt (by omega)).2 (by omega)
  have hlen : Lib.bitLen ((n : Int) - 1).toNat = Nat.log2 (n - 1) + 1 := by rw [show ((n : Int) - 1).toNat = n - 1 by omega]; exact hb
  have hs : (2 : Int) ^ Nat.log2 (n - 1) = ((Tr.split n : Nat) : Int) := by unfold Tr.split; simp
  have hsl := Tr.split_lt h2
  generalize Nat.log2 (n - 1) = L at *
  generalize Tr.split n = s at *
  have HL := Lib.hid hlen
  have HS := Lib.hid hs
  clear hb hlen hs
  go_enter Try.func131, Try.ntmps131
  go_wp2_with fail
  refine (len_small ((n : Int) - 1) _ (by omega) (by omega)).mono ?_
  rintro e w' ⟨rfl, rfl⟩
  rw [HL.out]
  go_wp2_with fail
  go_ret
  refine ⟨congrArg (fun x => Ending.returned (.int .i64 x)) ?_, rfl⟩
  rw [HS.out, wrap64_nat_small _ (by omega)]

/-- [][]byte{{c}, a} and the like lie in new blocks -/
theorem blist_new (w : World) (F : Nat → Prop) (vs : List Value) (ll : List Bs) (hl : vs.length = ll.length) (hm : ll.length ≤ maxLen) (h : ∀ (i : Nat) (b : Bs), ll[i]? = some b → ∃ u : Value, vs[i]? = some u ∧ Bytes w F u b) :
    BList (w.alloc (.cells vs.toArray 22)) (fun _ => True) (.slice (some ⟨w.heap.size, 0, none⟩) ll.length ll.length) ll :=
  ⟨vs, (SlAt.new w 22 vs ll.length hl hm).weak (fun _ _ _ => trivial), fun i b hb => by
    obtain ⟨u, hu, hub⟩ := h i b hb
    exact ⟨u, hu, (hub.alloc _).weak (fun _ _ _ => trivial)⟩⟩

theorem blist2 {w : World} {F F' : Nat → Prop} {va vb : Value} {a b : Bs} (ha : Bytes w F va a) (hb : Bytes w F' vb b) :
    BList (w.alloc (.cells #[va, vb] 22)) (fun _ => True) (.slice (some ⟨w.heap.size, 0, none⟩) 2 2) [a, b] := by
  refine blist_new w (fun _ => True) [va, vb] [a, b] rfl (by simp [maxLen]) (fun i b hi => ?_)
  match i, hi with
  | 0, hi => injection hi with hi; subst hi; exact ⟨_, rfl, ha.weak (fun _ _ _ => trivial)⟩
  | 1, hi => injection hi with hi; subst hi; exact ⟨_, rfl, hb.weak (fun _ _ _ => trivial)⟩
theorem blist3 {w : World} {F F' F'' : Nat → Prop} {va vb vc : Value} {a b c : Bs} (ha : Bytes w F va a) (hb : Bytes w F' vb b) (hc : Bytes w F'' vc c) :
    BList (w.alloc (.cells #[va, vb, vc] 22)) (fun _ => True) (.slice (some ⟨w.heap.size, 0, none⟩) 3 3) [a, b, c] := by
  refine blist_new w (fun _ => True) [va, vb, vc] [a, b, c] rfl (by simp [maxLen]) (fun i b hi => ?_)
  match i, hi with
  | 0, hi => injection hi with hi; subst hi; exact ⟨_, rfl, ha.weak (fun _ _ _ => trivial)⟩
  | 1, hi => injection hi with hi; subst hi; exact ⟨_, rfl, hb.weak (fun _ _ _ => trivial)⟩
  | 2, hi => injection hi with hi; subst hi; exact ⟨_, rfl, hc.weak (fun _ _ _ => trivial)⟩
theorem bytes1 (w : World) (x : UInt8) : Bytes (w.alloc (.cells #[bv x] 5)) (fun _ => True) (.slice (some ⟨w.heap.size, 0, none⟩) 1 1) [x] :=
  (SlAt.new w 5 [bv x] 1 rfl (by decide)).weak (fun _ _ _ => trivial)

set_option maxHeartbeats 1000000 in
theorem leaf_any (w : World) (F : Nat → Prop) (v : Value) (b : Bs) (hb : Bytes w F v b) (hlen : b.length ≤ 140737488355000) :
    Calls Try.prog 31 #[v] w fun e w' => ∃ v, e = .returned v ∧ OwnB w' w.heap.size v (Tr.leafH b) ∧ Below w.heap.size w w' := by
  obtain ⟨A, c, rfl⟩ := hb.form
  have hl := blist2 (bytes1 w 0) (hb.alloc (.cells #[bv 0] 5))
  rw [World.size_alloc] at hl
  have hx : Below w.heap.size w ((w.alloc (.cells #[bv 0] 5)).alloc (.cells #[.slice (some ⟨w.heap.size, 0, none⟩) 1 1, .slice A b.length c] 22)) := ((Below.refl _ _).alloc (Nat.le_refl _) _).alloc (by simp) _
  go_enter Try.func31, Try.ntmps31
  go_wp2_with fail
  refine (parts_any _ _ _ _ hl (by simp; omega)).mono ?_
  rintro e w2 ⟨vr, rfl, hown, hx2⟩
  go_wp2_with fail
  go_ret
  refine ⟨_, rfl, ?_, hx.trans (hx2.mono hx.size)⟩
  have e1 : Sha.sha256 ([[0], b].flatten) = Tr.leafH b := by simp [Tr.leafH]
  rw [e1] at hown
  exact hown.mono hx.size

set_option maxHeartbeats 1000000 in
theorem node_any (w : World) (F F' : Nat → Prop) (va vb : Value) (a b : Bs) (ha : Bytes w F va a) (hb : Bytes w F' vb b) (hlen : a.length + b.length ≤ 140737488355000) :
    Calls Try.prog 33 #[va, vb] w fun e w' => ∃ v, e = .returned v ∧ OwnB w' w.heap.size v (Tr.nodeH a b) ∧ Below w.heap.size w w' := by
  obtain ⟨A, c, rfl⟩ := ha.form
  obtain ⟨A', c', rfl⟩ := hb.form
  have hl := blist3 (bytes1 w 1) (ha.alloc (.cells #[bv 1] 5)) (hb.alloc (.cells #[bv 1] 5))
  rw [World.size_alloc] at hl
  have hx : Below w.heap.size w ((w.alloc (.cells #[bv 1] 5)).alloc (.cells #[.slice (some ⟨w.heap.size, 0, none⟩) 1 1, .slice A a.length c, .slice A' b.length c'] 22)) := ((Below.refl _ _).alloc (Nat.le_refl _) _).alloc (by simp) _
  go_enter Try.func33, Try.ntmps33
  go_wp2_with fail
  refine (parts_any _ _ _ _ hl (by simp; omega)).mono ?_
  rintro e w2 ⟨vr, rfl, hown, hx2⟩
  go_wp2_with fail
  go_ret
  refine ⟨_, rfl, ?_, hx.trans (hx2.mono hx.size)⟩
  have e1 : Sha.sha256 ([[1], a, b].flatten) = Tr.nodeH a b := by simp [Tr.nodeH]
  rw [e1] at hown
  exact hown.mono hx.size

end Go.Proofs.Ytfdibjgmbdkbcaa
