/-
  THE WALKS of slices.Grow, slices.Concat, clash.leaf, pair, half, root. Conditions: what is read is bytes, and lists of bytes; not too many.
-/
import Derived.Lib.AppendZeros
import Derived.Test.YtgbjfilkecmmgaaZGf
namespace Go.Proofs.Ytgbjfilkecmmgaa
open Go.RowKit Go.Lib

set_option maxRecDepth 100000 in
set_option maxHeartbeats 1000000 in
theorem grow_any (w : World) (n : Nat) (h0 : 0 < n) (hn : n ≤ 140737488355000) :
    Calls Try.prog 109 #[.slice none 0 0, .int .i64 (n : Int)] w fun e w' => ∃ v, e = .returned v ∧ OwnB w' w.heap.size v [] ∧ Below w.heap.size w w' := by
  obtain ⟨i0, hi, hz0, hz1, hz2⟩ := info_parts info_u8
  have hrun : ∀ w : World, ∀ ty, (Builtin.append_ #[22, 3] ty #[.slice none 0 0, .int .i64 (n : Int)]).run Try.prog w = .ok (.slice (some ⟨w.heap.size, 0, none⟩) n (grownCap w n 0 5)) (w.drew.alloc (.cells (Builtin.zeroCells (Value.int .u8 0).cells n ++ Builtin.zeroCells (Value.int .u8 0).cells (grownCap w n 0 5 - n)) 5)) :=
    fun w ty => Lib.run_append_nil_zeros w 22 3 ty 5 i0 (.int .u8 0) .i64 .i64 Try.underlying22 Try.underlying3 hi hz0 n h0 (by omega) (by omega) (by rw [hz2]; omega)
  have hge := grownCap_ge w n 0 5
  have hcm := grownCap_le_maxLen w n 0 5 (by simp only [maxLen]; omega)
  have hr := hrun w
  have hcells : (Builtin.zeroCells (Value.int .u8 0).cells n ++ Builtin.zeroCells (Value.int .u8 0).cells (grownCap w n 0 5 - n)).size = grownCap w n 0 5 := by
    rw [Array.size_append, size_zeroCells, size_zeroCells, show (Value.int .u8 0).cells.size = 1 from rfl]; omega
  generalize grownCap w n 0 5 = G at *
  generalize Builtin.zeroCells (Value.int .u8 0).cells n ++ Builtin.zeroCells (Value.int .u8 0).cells (G - n) = cs at *
  have h1 : ¬ ((n : Int) < 0) := by omega
  have h4 : (0 : Int) < (n : Int) := by omega
  have hown : Own (w.drew.alloc (.cells cs 5)) w.heap.size 5 1 (.slice (some ⟨w.heap.size, 0, none⟩) 0 G) 0 [] :=
    ⟨rfl, .inr ⟨w.heap.size, 0, G, cs, rfl, Nat.le_refl _, heap_alloc_new w.drew _, Nat.zero_le _, hcm, by omega, rfl⟩⟩
  have hx : Below w.heap.size w (w.drew.alloc (.cells cs 5)) := ((Below.refl _ w).drew).alloc (Nat.le_refl _) _
  have HR := Lib.hid hr
  have hGI : (n : Int) ≤ (G : Int) := by omega
  unfold maxLen at hcm
  clear hrun hr hcells
  go_enter Try.func109, Try.ntmps109
  go_wp2_with (at_builtin; refine Lib.wpList_append_run _ rfl _ _ _ _ rfl _ _ rfl rfl _ _ (HR.out _) ?_)
  go_ret
  exact ⟨_, rfl, hown, hx⟩

set_option maxRecDepth 100000 in
set_option maxHeartbeats 1000000 in
theorem concat_any (w : World) (F : Nat → Prop) (v : Value) (ll : List Bs) (hl : BList w F v ll) (h0 : 0 < ll.flatten.length) (hn : ll.flatten.length ≤ 140737488355000) :
    Calls Try.prog 103 #[v] w fun e w' => ∃ v, e = .returned v ∧ OwnB w' w.heap.size v ll.flatten ∧ Below w.heap.size w w' := by
  obtain ⟨i0, hi, hz0, hz1, hz2⟩ := info_parts info_u8
  obtain ⟨A, c, hv, hlc, hcm, _⟩ := hl.shape
  subst hv
  unfold maxLen at hcm
  go_enter Try.func103, Try.ntmps103
  go_wp2_with fail
  go_loopg [3, 11] ll.length (fun k us ui wr => ∃ (j S : Nat), j + k = ll.length ∧ ui = .int .i64 (j : Int) ∧ us = .int .i64 (S : Int) ∧ Hid (S = (ll.take j).flatten.length) ∧ S ≤ 140737488355000 ∧ wr = w)
  case atStart => exact ⟨0, 0, by omega, rfl, rfl, Lib.hid rfl, by omega, rfl⟩
  case round =>
    obtain ⟨j, S, hj, rfl, rfl, HS, hS, rfl⟩ := hrel
    by_cases hlt : j < ll.length
    · obtain ⟨b, off, u, hA, hc, _, hb, hub⟩ := hl.at_ hlt
      subst hA
      obtain ⟨A2, c2, hv2, hac2, hcm2⟩ := hub.form'
      subst hv2
      unfold maxLen at hcm2
      have hltB : (j : Int) < (ll.length : Int) := by omega
      have hs := flatten_take_succ ll j ll[j] (List.getElem?_eq_getElem hlt)
      have hle := flatten_take_le ll (j + 1)
      rw [hs, List.length_append, ← HS.out] at hle
      generalize ll[j] = x at *
      have HS2 : Hid (S + x.length = (ll.take (j + 1)).flatten.length) := Lib.hid (by rw [hs, List.length_append, ← HS.out])
      have hneg : decide ((S : Int) + (x.length : Int) < 0) = false := decide_eq_false (by omega)
      clear hs HS
      go_wp2_with fail
      go_roundg (gk - 1)
      case measure => omega
      case rel => exact ⟨j + 1, S + x.length, by omega, by go_num, congrArg (Value.int .i64) (by omega), HS2, by omega, rfl⟩
    · have hltB : decide ((j : Int) < (ll.length : Int)) = false := decide_eq_false (by omega)
      have hSt : S = ll.flatten.length := by rw [HS.out, List.take_of_length_le (by omega)]
      have hS0 : 0 < S := by omega
      have HT := Lib.hid hSt
      clear HS hSt
      go_wp2_with fail
      refine (grow_any wr S hS0 hS).mono ?_
      rintro e w1 ⟨v1, rfl, hown1, hx1⟩
      go_wp2_with fail
      generalize gk = gk0 at *
      obtain ⟨w0, HW⟩ : ∃ w0 : World, Hid (w0 = wr) := ⟨wr, Lib.hid rfl⟩
      have hl0 : BList w0 F (.slice A ll.length c) ll := by rw [HW.out]; exact hl
      have hown0 : OwnB w1 w0.heap.size v1 [] := by rw [HW.out]; exact hown1
      have hx0 : Below w0.heap.size w0 w1 := by rw [HW.out]; exact hx1
      clear hl hown1 hx1
      go_loopg [6, 27] ll.length (fun k us ui wq => ∃ (j : Nat) (all : Bs), j + k = ll.length ∧ Hid (all = (ll.take j).flatten) ∧ ui = .int .i64 (j : Int) ∧ OwnB wq w0.heap.size us all ∧ all.length ≤ 140737488355000 ∧ Below w0.heap.size w0 wq)
      case atStart => exact ⟨0, [], by omega, Lib.hid rfl, rfl, hown0, by simp, hx0⟩
      case round =>
        clear hx0 hown0
        obtain ⟨j, all, hj, HALL, rfl, hown, hle, hx⟩ := hrel
        obtain ⟨A1, c1, hv1, hac1, hcm1⟩ := Own.shape hown
        subst hv1
        unfold maxLen at hcm1
        by_cases hlt : j < ll.length
        · obtain ⟨b, off, u, hA, hc, _, hb, hub⟩ := hl0.at_ hlt
          subst hA
          obtain ⟨A2, c2, hv2, hac2, hcm2⟩ := hub.form'
          subst hv2
          unfold maxLen at hcm2
          have hc' := (hx.cell (p := ⟨b, off + j, none⟩) hb).trans hc
          have hltB : (j : Int) < (ll.length : Int) := by omega
          have hub' : Bytes wr (fun k => k < w0.heap.size) _ ll[j] := ((hub.weak (F' := fun k => k < w0.heap.size) (fun k hk _ => hk))).below_of hx (fun _ h => h)
          have hs := flatten_take_succ ll j ll[j] (List.getElem?_eq_getElem hlt)
          have hsum : all.length + ll[j].length ≤ 140737488355000 := by
            have := flatten_take_le ll (j + 1)
            rw [hs, List.length_append, ← HALL.out] at this
            have := HT.out
            omega
          have HS := Lib.hid hs
          clear hs hc
          generalize ll[j] = x at *
          unfold OwnB at hown
          go_wp2_with (at_builtin
                       refine wpList_append_Own _ rfl (.tmp 31) (.tmp 32) 22 rfl w0.heap.size 5 i0 _ 1 1 Try.underlying22 hi hz0 hz1 hz2 rfl (by omega) _ _ _ rfl hown _ _ _ _ rfl hub' (map_oneCell x) (by simp only [maxLen]; omega) (by omega) hx.size ?_
                       intro v1 w2 hown1 hgr1 hat1
                       have hx2 : Below w0.heap.size w0 w2 := hx.grown hgr1 hx.size (fun k hk => (hown.lt k hk).1))
          go_roundg (gk - 1)
          case measure => omega
          case rel =>
            refine ⟨j + 1, all ++ x, by omega, Lib.hid (by rw [HS.out, HALL.out]), by go_num, ?_, by rw [List.length_append]; omega, hx2⟩
            unfold OwnB
            rw [List.map_append, List.length_append]
            exact hown1
        · have hltB : decide ((j : Int) < (ll.length : Int)) = false := decide_eq_false (by omega)
          have hall : all = ll.flatten := by rw [HALL.out, List.take_of_length_le (by omega)]
          subst hall
          go_wp2_with fail
          go_ret
          rw [HW.out] at hown hx
          exact ⟨_, rfl, hown, hx⟩
end Go.Proofs.Ytgbjfilkecmmgaa
