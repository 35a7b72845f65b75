/-
  THE WALKS of clash.leaf, pair, half, root. Conditions: what is read is bytes, and lists of bytes; not too many.
-/
import Derived.Test.YtgbjfilkecmmgaaZClashA
namespace Go.Proofs.Ytgbjfilkecmmgaa
open Go.RowKit Go.Lib

set_option maxHeartbeats 1000000 in
theorem leafC_any (w : World) (F : Nat → Prop) (v : Value) (b : Bs) (hb : Bytes w F v b) (hlen : b.length ≤ 100000) :
    Calls Try.prog 91 #[v] w fun e w' => ∃ v, e = .returned v ∧ OwnB w' w.heap.size v (Tr.leafT b) ∧ Below w.heap.size w w' := by
  obtain ⟨A, c, rfl⟩ := hb.form
  have hl := blist2 (bytes1 w 0) (hb.alloc (.cells #[bv 0] 5))
  rw [World.size_alloc] at hl
  have hx : Below w.heap.size w ((w.alloc (.cells #[bv 0] 5)).alloc (.cells #[.slice (some ⟨w.heap.size, 0, none⟩) 1 1, .slice A b.length c] 22)) := ((Below.refl _ _).alloc (Nat.le_refl _) _).alloc (by simp) _
  go_enter Try.func91, Try.ntmps91
  go_wp2_with fail
  refine (concat_any _ _ _ _ hl (by simp) (by simp; omega)).mono ?_
  rintro e w2 ⟨vr, rfl, hown, hx2⟩
  go_wp2_with fail
  go_ret
  refine ⟨_, rfl, ?_, hx.trans (hx2.mono hx.size)⟩
  have e1 : [[0], b].flatten = Tr.leafT b := by simp [Tr.leafT]
  rw [e1] at hown
  exact hown.mono hx.size

set_option maxHeartbeats 1000000 in
theorem pairC_any (w : World) (F F' : Nat → Prop) (va vb : Value) (a b : Bs) (ha : Bytes w F va a) (hb : Bytes w F' vb b) (hlen : a.length + b.length ≤ 100000) :
    Calls Try.prog 93 #[va, vb] w fun e w' => ∃ v, e = .returned v ∧ OwnB w' w.heap.size v (Tr.pairT a b) ∧ Below w.heap.size w w' := by
  obtain ⟨A, c, rfl⟩ := ha.form
  obtain ⟨A', c', rfl⟩ := hb.form
  have hl := blist3 (bytes1 w 1) (ha.alloc (.cells #[bv 1] 5)) (hb.alloc (.cells #[bv 1] 5))
  rw [World.size_alloc] at hl
  have hx : Below w.heap.size w ((w.alloc (.cells #[bv 1] 5)).alloc (.cells #[.slice (some ⟨w.heap.size, 0, none⟩) 1 1, .slice A a.length c, .slice A' b.length c'] 22)) := ((Below.refl _ _).alloc (Nat.le_refl _) _).alloc (by simp) _
  go_enter Try.func93, Try.ntmps93
  go_wp2_with fail
  refine (concat_any _ _ _ _ hl (by simp) (by simp; omega)).mono ?_
  rintro e w2 ⟨vr, rfl, hown, hx2⟩
  go_wp2_with fail
  go_ret
  refine ⟨_, rfl, ?_, hx.trans (hx2.mono hx.size)⟩
  have e1 : [[1], a, b].flatten = Tr.pairT a b := by simp [Tr.pairT]
  rw [e1] at hown
  exact hown.mono hx.size

set_option maxHeartbeats 400000 in
theorem halfC_any (n : Nat) (w : World) (h2 : 2 ≤ n) (hn : n ≤ 128) :
    Calls Try.prog 92 #[.int .i64 (n : Int)] w fun e w' => e = .returned (.int .i64 (Tr.split n : Nat)) ∧ w' = w := by
  have hb := bitLen_log ⟨n - 1, by omega⟩ (by show 1 ≤ n - 1; omega)
  dsimp only at hb
  have hlog : Nat.log2 (n - 1) < 7 := (Nat.log2_lt (by omega)).2 (by omega)
  have hlen : Lib.bitLen ((n : Int) - 1).toNat = Nat.log2 (n - 1) + 1 := by rw [show ((n : Int) - 1).toNat = n - 1 by omega]; exact hb
  have hs : (2 : Int) ^ Nat.log2 (n - 1) = ((Tr.split n : Nat) : Int) := by unfold Tr.split; simp
  have hsl := Tr.split_lt h2
  generalize Nat.log2 (n - 1) = L at *
  generalize Tr.split n = s at *
  have HL := Lib.hid hlen
  have HS := Lib.hid hs
  clear hb hlen hs
  go_enter Try.func92, Try.ntmps92
  go_wp2_with fail
  refine (len_small ((n : Int) - 1) _ (by omega) (by omega)).mono ?_
  rintro e w' ⟨rfl, rfl⟩
  rw [HL.out]
  go_wp2_with fail
  go_ret
  refine ⟨congrArg (fun x => Ending.returned (.int .i64 x)) ?_, rfl⟩
  rw [HS.out, wrap64_nat_small _ (by omega)]

set_option maxHeartbeats 1000000 in
theorem rootC_any (w : World) (F : Nat → Prop) (v : Value) (ll : List Bs) (hl : BList w F v ll) (hf : Fine ll) :
    Calls Try.prog 94 #[v] w fun e w' => ∃ v, e = .returned v ∧ OwnB w' w.heap.size v (Tr.rootL ll) ∧ Below w.heap.size w w' := by
  have HR := Lib.hid (Root_fine w F v ll hl hf)
  obtain ⟨A, c, rfl⟩ := hl.form
  go_enter Try.func94, Try.ntmps94
  go_wp2_with fail
  refine HR.out.mono ?_
  rintro e w1 ⟨v1, rfl, hown, hx⟩
  go_wp2_with fail
  go_ret
  exact ⟨_, rfl, hown.alloc _, hx.alloc hx.size _⟩

theorem length_leafT (b : Bs) : (Tr.leafT b).length = b.length + 1 := rfl
theorem length_pairT (a b : Bs) : (Tr.pairT a b).length = a.length + b.length + 1 := by simp [Tr.pairT]
/-- what of two texts is told, if they are -/
def fstO (o : Option Tr.PB) : Bs := (o.map Prod.fst).getD []
def sndO (o : Option Tr.PB) : Bs := (o.map Prod.snd).getD []
def tex (va vb : Value) (o : Option Tr.PB) : Value := .agg #[va, vb, .bool o.isSome]
end Go.Proofs.Ytgbjfilkecmmgaa
