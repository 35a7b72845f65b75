/-
  THE WALKS of slices.Grow, slices.Concat, clash.leaf, pair, half, root. Conditions: what is read is bytes, and lists of bytes; not too many.
  THE WALKS of clash.leaf, pair, half, root. Conditions: what is read is bytes, and lists of bytes; not too many.
  THE WALK of clash.down at a leaf. Conditions: what is read is bytes, and lists of bytes; leaves as a tree may have.
  THE WALK of clash.down. Conditions: what is read is bytes, and lists of bytes; leaves as a tree may have; a path of the leaf's length.
-/
import Derived.Lib.AppendZeros
import Derived.Test.YtnpfmboolbhpaaaZGf
namespace Go.Proofs.Ytnpfmboolbhpaaa
open Go.RowKit Go.Lib

set_option maxRecDepth 100000 in
set_option maxHeartbeats 1000000 in
theorem grow_any (w : World) (n : Nat) (h0 : 0 < n) (hn : n ≤ 140737488355000) :
    Calls Try.prog 128 #[.slice none 0 0, .int .i64 (n : Int)] w fun e w' => ∃ v, e = .returned v ∧ OwnB w' w.heap.size v [] ∧ Below w.heap.size w w' := by
  obtain ⟨i0, hi, hz0, hz1, hz2⟩ := info_parts info_u8
  have hrun : ∀ w : World, ∀ ty, (Builtin.append_ #[24, 3] ty #[.slice none 0 0, .int .i64 (n : Int)]).run Try.prog w = .ok (.slice (some ⟨w.heap.size, 0, none⟩) n (grownCap w n 0 5)) (w.drew.alloc (.cells (Builtin.zeroCells (Value.int .u8 0).cells n ++ Builtin.zeroCells (Value.int .u8 0).cells (grownCap w n 0 5 - n)) 5)) :=
    fun w ty => Lib.run_append_nil_zeros w 24 3 ty 5 i0 (.int .u8 0) .i64 .i64 Try.underlying24 Try.underlying3 hi hz0 n h0 (by omega) (by omega) (by rw [hz2]; omega)
  have hge := grownCap_ge w n 0 5
  have hcm := grownCap_le_maxLen w n 0 5 (by simp only [maxLen]; omega)
  have hr := hrun w
  have hcells : (Builtin.zeroCells (Value.int .u8 0).cells n ++ Builtin.zeroCells (Value.int .u8 0).cells (grownCap w n 0 5 - n)).size = grownCap w n 0 5 := by
    rw [Array.size_append, size_zeroCells, size_zeroCells, show (Value.int .u8 0).cells.size = 1 from rfl]; omega
  generalize grownCap w n 0 5 = G at *
  generalize Builtin.zeroCells (Value.int .u8 0).cells n ++ Builtin.zeroCells (Value.int .u8 0).cells (G - n) = cs at *
  have h1 : ¬ ((n : Int) < 0) := by omega
  have h4 : (0 : Int) < (n : Int) := by omega
  have hown : Own (w.drew.alloc (.cells cs 5)) w.heap.size 5 1 (.slice (some ⟨w.heap.size, 0, none⟩) 0 G) 0 [] :=
    ⟨rfl, .inr ⟨w.heap.size, 0, G, cs, rfl, Nat.le_refl _, heap_alloc_new w.drew _, Nat.zero_le _, hcm, by omega, rfl⟩⟩
  have hx : Below w.heap.size w (w.drew.alloc (.cells cs 5)) := ((Below.refl _ w).drew).alloc (Nat.le_refl _) _
  have HR := Lib.hid hr
  have hGI : (n : Int) ≤ (G : Int) := by omega
  unfold maxLen at hcm
  clear hrun hr hcells
  go_enter Try.func128, Try.ntmps128
  go_wp2_with (at_builtin; refine Lib.wpList_append_run _ rfl _ _ _ _ rfl _ _ rfl rfl _ _ (HR.out _) ?_)
  go_ret
  exact ⟨_, rfl, hown, hx⟩

set_option maxRecDepth 100000 in
set_option maxHeartbeats 1000000 in
theorem concat_any (w : World) (F : Nat → Prop) (v : Value) (ll : List Bs) (hl : BList w F v ll) (h0 : 0 < ll.flatten.length) (hn : ll.flatten.length ≤ 140737488355000) :
    Calls Try.prog 116 #[v] w fun e w' => ∃ v, e = .returned v ∧ OwnB w' w.heap.size v ll.flatten ∧ Below w.heap.size w w' := by
  obtain ⟨i0, hi, hz0, hz1, hz2⟩ := info_parts info_u8
  obtain ⟨A, c, hv, hlc, hcm, _⟩ := hl.shape
  subst hv
  unfold maxLen at hcm
  go_enter Try.func116, Try.ntmps116
  go_wp2_with fail
  go_loopg [3, 11] ll.length (fun k us ui wr => ∃ (j S : Nat), j + k = ll.length ∧ ui = .int .i64 (j : Int) ∧ us = .int .i64 (S : Int) ∧ Hid (S = (ll.take j).flatten.length) ∧ S ≤ 140737488355000 ∧ wr = w)
  case atStart => exact ⟨0, 0, by omega, rfl, rfl, Lib.hid rfl, by omega, rfl⟩
  case round =>
    obtain ⟨j, S, hj, rfl, rfl, HS, hS, rfl⟩ := hrel
    by_cases hlt : j < ll.length
    · obtain ⟨b, off, u, hA, hc, _, hb, hub⟩ := hl.at_ hlt
      subst hA
      obtain ⟨A2, c2, hv2, hac2, hcm2⟩ := hub.form'
      subst hv2
      unfold maxLen at hcm2
      have hltB : (j : Int) < (ll.length : Int) := by omega
      have hs := flatten_take_succ ll j ll[j] (List.getElem?_eq_getElem hlt)
      have hle := flatten_take_le ll (j + 1)
      rw [hs, List.length_append, ← HS.out] at hle
      generalize ll[j] = x at *
      have HS2 : Hid (S + x.length = (ll.take (j + 1)).flatten.length) := Lib.hid (by rw [hs, List.length_append, ← HS.out])
      have hneg : decide ((S : Int) + (x.length : Int) < 0) = false := decide_eq_false (by omega)
      clear hs HS
      go_wp2_with fail
      go_roundg (gk - 1)
      case measure => omega
      case rel => exact ⟨j + 1, S + x.length, by omega, by go_num, congrArg (Value.int .i64) (by omega), HS2, by omega, rfl⟩
    · have hltB : decide ((j : Int) < (ll.length : Int)) = false := decide_eq_false (by omega)
      have hSt : S = ll.flatten.length := by rw [HS.out, List.take_of_length_le (by omega)]
      have hS0 : 0 < S := by omega
      have HT := Lib.hid hSt
      clear HS hSt
      go_wp2_with fail
      refine (grow_any wr S hS0 hS).mono ?_
      rintro e w1 ⟨v1, rfl, hown1, hx1⟩
      go_wp2_with fail
      generalize gk = gk0 at *
      obtain ⟨w0, HW⟩ : ∃ w0 : World, Hid (w0 = wr) := ⟨wr, Lib.hid rfl⟩
      have hl0 : BList w0 F (.slice A ll.length c) ll := by rw [HW.out]; exact hl
      have hown0 : OwnB w1 w0.heap.size v1 [] := by rw [HW.out]; exact hown1
      have hx0 : Below w0.heap.size w0 w1 := by rw [HW.out]; exact hx1
      clear hl hown1 hx1
      go_loopg [6, 27] ll.length (fun k us ui wq => ∃ (j : Nat) (all : Bs), j + k = ll.length ∧ Hid (all = (ll.take j).flatten) ∧ ui = .int .i64 (j : Int) ∧ OwnB wq w0.heap.size us all ∧ all.length ≤ 140737488355000 ∧ Below w0.heap.size w0 wq)
      case atStart => exact ⟨0, [], by omega, Lib.hid rfl, rfl, hown0, by simp, hx0⟩
      case round =>
        clear hx0 hown0
        obtain ⟨j, all, hj, HALL, rfl, hown, hle, hx⟩ := hrel
        obtain ⟨A1, c1, hv1, hac1, hcm1⟩ := Own.shape hown
        subst hv1
        unfold maxLen at hcm1
        by_cases hlt : j < ll.length
        · obtain ⟨b, off, u, hA, hc, _, hb, hub⟩ := hl0.at_ hlt
          subst hA
          obtain ⟨A2, c2, hv2, hac2, hcm2⟩ := hub.form'
          subst hv2
          unfold maxLen at hcm2
          have hc' := (hx.cell (p := ⟨b, off + j, none⟩) hb).trans hc
          have hltB : (j : Int) < (ll.length : Int) := by omega
          have hub' : Bytes wr (fun k => k < w0.heap.size) _ ll[j] := ((hub.weak (F' := fun k => k < w0.heap.size) (fun k hk _ => hk))).below_of hx (fun _ h => h)
          have hs := flatten_take_succ ll j ll[j] (List.getElem?_eq_getElem hlt)
          have hsum : all.length + ll[j].length ≤ 140737488355000 := by
            have := flatten_take_le ll (j + 1)
            rw [hs, List.length_append, ← HALL.out] at this
            have := HT.out
            omega
          have HS := Lib.hid hs
          clear hs hc
          generalize ll[j] = x at *
          unfold OwnB at hown
          go_wp2_with (at_builtin
                       refine wpList_append_Own _ rfl (.tmp 31) (.tmp 32) 24 rfl w0.heap.size 5 i0 _ 1 1 Try.underlying24 hi hz0 hz1 hz2 rfl (by omega) _ _ _ rfl hown _ _ _ _ rfl hub' (map_oneCell x) (by simp only [maxLen]; omega) (by omega) hx.size ?_
                       intro v1 w2 hown1 hgr1 hat1
                       have hx2 : Below w0.heap.size w0 w2 := hx.grown hgr1 hx.size (fun k hk => (hown.lt k hk).1))
          go_roundg (gk - 1)
          case measure => omega
          case rel =>
            refine ⟨j + 1, all ++ x, by omega, Lib.hid (by rw [HS.out, HALL.out]), by go_num, ?_, by rw [List.length_append]; omega, hx2⟩
            unfold OwnB
            rw [List.map_append, List.length_append]
            exact hown1
        · have hltB : decide ((j : Int) < (ll.length : Int)) = false := decide_eq_false (by omega)
          have hall : all = ll.flatten := by rw [HALL.out, List.take_of_length_le (by omega)]
          subst hall
          go_wp2_with fail
          go_ret
          rw [HW.out] at hown hx
          exact ⟨_, rfl, hown, hx⟩
end Go.Proofs.Ytnpfmboolbhpaaa

namespace Go.Proofs.Ytnpfmboolbhpaaa
open Go.RowKit Go.Lib

set_option maxHeartbeats 1000000 in
theorem leafC_any (w : World) (F : Nat → Prop) (v : Value) (b : Bs) (hb : Bytes w F v b) (hlen : b.length ≤ 100000) :
    Calls Try.prog 92 #[v] w fun e w' => ∃ v, e = .returned v ∧ OwnB w' w.heap.size v (Tr.leafT b) ∧ Below w.heap.size w w' := by
  obtain ⟨A, c, rfl⟩ := hb.form
  have hl := blist2 (bytes1 w 0) (hb.alloc (.cells #[bv 0] 5))
  rw [World.size_alloc] at hl
  have hx : Below w.heap.size w ((w.alloc (.cells #[bv 0] 5)).alloc (.cells #[.slice (some ⟨w.heap.size, 0, none⟩) 1 1, .slice A b.length c] 24)) := ((Below.refl _ _).alloc (Nat.le_refl _) _).alloc (by simp) _
  go_enter Try.func92, Try.ntmps92
  go_wp2_with fail
  refine (concat_any _ _ _ _ hl (by simp) (by simp; omega)).mono ?_
  rintro e w2 ⟨vr, rfl, hown, hx2⟩
  go_wp2_with fail
  go_ret
  refine ⟨_, rfl, ?_, hx.trans (hx2.mono hx.size)⟩
  have e1 : [[0], b].flatten = Tr.leafT b := by simp [Tr.leafT]
  rw [e1] at hown
  exact hown.mono hx.size

set_option maxHeartbeats 1000000 in
theorem pairC_any (w : World) (F F' : Nat → Prop) (va vb : Value) (a b : Bs) (ha : Bytes w F va a) (hb : Bytes w F' vb b) (hlen : a.length + b.length ≤ 100000) :
    Calls Try.prog 94 #[va, vb] w fun e w' => ∃ v, e = .returned v ∧ OwnB w' w.heap.size v (Tr.pairT a b) ∧ Below w.heap.size w w' := by
  obtain ⟨A, c, rfl⟩ := ha.form
  obtain ⟨A', c', rfl⟩ := hb.form
  have hl := blist3 (bytes1 w 1) (ha.alloc (.cells #[bv 1] 5)) (hb.alloc (.cells #[bv 1] 5))
  rw [World.size_alloc] at hl
  have hx : Below w.heap.size w ((w.alloc (.cells #[bv 1] 5)).alloc (.cells #[.slice (some ⟨w.heap.size, 0, none⟩) 1 1, .slice A a.length c, .slice A' b.length c'] 24)) := ((Below.refl _ _).alloc (Nat.le_refl _) _).alloc (by simp) _
  go_enter Try.func94, Try.ntmps94
  go_wp2_with fail
  refine (concat_any _ _ _ _ hl (by simp) (by simp; omega)).mono ?_
  rintro e w2 ⟨vr, rfl, hown, hx2⟩
  go_wp2_with fail
  go_ret
  refine ⟨_, rfl, ?_, hx.trans (hx2.mono hx.size)⟩
  have e1 : [[1], a, b].flatten = Tr.pairT a b := by simp [Tr.pairT]
  rw [e1] at hown
  exact hown.mono hx.size

set_option maxHeartbeats 400000 in
theorem halfC_any (n : Nat) (w : World) (h2 : 2 ≤ n) (hn : n ≤ 128) :
    Calls Try.prog 93 #[.int .i64 (n : Int)] w fun e w' => e = .returned (.int .i64 (Tr.split n : Nat)) ∧ w' = w := by
  have hb := bitLen_log ⟨n - 1, by omega⟩ (by show 1 ≤ n - 1; omega)
  dsimp only at hb
  have hlog : Nat.log2 (n - 1) < 7 := (Nat.log2_lt (by omega)).2 (by omega)
  have hlen : Lib.bitLen ((n : Int) - 1).toNat = Nat.log2 (n - 1) + 1 := by rw [show ((n : Int) - 1).toNat = n - 1 by omega]; exact hb
  have hs : (2 : Int) ^ Nat.log2 (n - 1) = ((Tr.split n : Nat) : Int) := by unfold Tr.split; simp
  have hsl := Tr.split_lt h2
  generalize Nat.log2 (n - 1) = L at *
  generalize Tr.split n = s at *
  have HL := Lib.hid hlen
  have HS := Lib.hid hs
  clear hb hlen hs
  go_enter Try.func93, Try.ntmps93
  go_wp2_with fail
  refine (len_small ((n : Int) - 1) _ (by omega) (by omega)).mono ?_
  rintro e w' ⟨rfl, rfl⟩
  rw [HL.out]
  go_wp2_with fail
  go_ret
  refine ⟨congrArg (fun x => Ending.returned (.int .i64 x)) ?_, rfl⟩
  rw [HS.out, wrap64_nat_small _ (by omega)]

set_option maxHeartbeats 1000000 in
theorem rootC_any (w : World) (F : Nat → Prop) (v : Value) (ll : List Bs) (hl : BList w F v ll) (hf : Fine ll) :
    Calls Try.prog 95 #[v] w fun e w' => ∃ v, e = .returned v ∧ OwnB w' w.heap.size v (Tr.rootL ll) ∧ Below w.heap.size w w' := by
  have HR := Lib.hid (Root_fine w F v ll hl hf)
  obtain ⟨A, c, rfl⟩ := hl.form
  go_enter Try.func95, Try.ntmps95
  go_wp2_with fail
  refine HR.out.mono ?_
  rintro e w1 ⟨v1, rfl, hown, hx⟩
  go_wp2_with fail
  go_ret
  exact ⟨_, rfl, hown.alloc _, hx.alloc hx.size _⟩

theorem length_leafT (b : Bs) : (Tr.leafT b).length = b.length + 1 := rfl
theorem length_pairT (a b : Bs) : (Tr.pairT a b).length = a.length + b.length + 1 := by simp [Tr.pairT]
/-- what of two texts is told, if they are -/
def fstO (o : Option Tr.PB) : Bs := (o.map Prod.fst).getD []
def sndO (o : Option Tr.PB) : Bs := (o.map Prod.snd).getD []
def tex (va vb : Value) (o : Option Tr.PB) : Value := .agg #[va, vb, .bool o.isSome]
end Go.Proofs.Ytnpfmboolbhpaaa

namespace Go.Proofs.Ytnpfmboolbhpaaa
open Go.RowKit Go.Lib

/-- three cells of a block of two texts are laid anew -/
theorem store3 {w w4 : World} {g : Nat} {x0 x1 x2 : Value} (hb : Blk w4 g 115 #[x0, x1, x2]) (hx : Below w.heap.size w w4) (hg : w.heap.size ≤ g) (a b c : Value) :
    Blk (((w4.setCell ⟨g, 0, none⟩ a).setCell ⟨g, 1, none⟩ b).setCell ⟨g, 2, none⟩ c) g 115 #[a, b, c] ∧
    Below w.heap.size w (((w4.setCell ⟨g, 0, none⟩ a).setCell ⟨g, 1, none⟩ b).setCell ⟨g, 2, none⟩ c) ∧
    (∀ B v l, OwnB w4 B v l → OwnB (((w4.setCell ⟨g, 0, none⟩ a).setCell ⟨g, 1, none⟩ b).setCell ⟨g, 2, none⟩ c) B v l) := by
  refine ⟨((hb.set_ 0 a).set_ 1 b).set_ 2 c, ((hx.setCell (p := ⟨g, 0, none⟩) hg _).setCell (p := ⟨g, 1, none⟩) hg _).setCell (p := ⟨g, 2, none⟩) hg _, fun B v l h => ?_⟩
  have hne := Own.ne_blk h hb (by decide)
  exact ((Own.setCell (p := ⟨g, 0, none⟩) h hne a).setCell (p := ⟨g, 1, none⟩) hne b).setCell (p := ⟨g, 2, none⟩) hne c
/-- another block is as it was -/
theorem store3_far {w4 : World} {g h : Nat} {t : TypeId} {cs : Array Value} (hb : Blk w4 h t cs) (hne : h ≠ g) (a b c : Value) :
    Blk (((w4.setCell ⟨g, 0, none⟩ a).setCell ⟨g, 1, none⟩ b).setCell ⟨g, 2, none⟩ c) h t cs :=
  ((hb.far (p := ⟨g, 0, none⟩) hne a).far (p := ⟨g, 1, none⟩) hne b).far (p := ⟨g, 2, none⟩) hne c

set_option maxRecDepth 100000 in
set_option maxHeartbeats 2000000 in
theorem down_base (w : World) (F F' : Nat → Prop) (v vb vp : Value) (x b : Bs) (z : Int) (hl : BList w F v [x]) (hb : Bytes w F' vb b) (hx : x.length ≤ 200) (hb200 : b.length ≤ 200) :
    Calls Try.prog 67 #[v, vb, .int .i64 z, vp] w fun e w' => ∃ va vc vd, e = .returned (.tuple #[tex va vc (Tr.clashOf (Tr.leafT x) (Tr.leafT b)), vd]) ∧
      OwnB w' w.heap.size va (fstO (Tr.clashOf (Tr.leafT x) (Tr.leafT b))) ∧ OwnB w' w.heap.size vc (sndO (Tr.clashOf (Tr.leafT x) (Tr.leafT b))) ∧ OwnB w' w.heap.size vd (Tr.leafH b) ∧ Below w.heap.size w w' := by
  obtain ⟨A, c, hv, hnc, hcm, _⟩ := hl.shape
  subst hv
  obtain ⟨bk, off, u, hA, hc, _, hbk, hub⟩ := hl.at_ (j := 0) (by simp)
  have hub' : Bytes w F u x := hub.weak (fun k hk h => by first | exact h | exact h.1)
  subst hA
  obtain ⟨A2, c2, rfl⟩ := hb.form
  obtain ⟨A3, c3, rfl⟩ := hub'.form
  have hub0 := hub'.alloc (.cells #[.slice none 0 0, .slice none 0 0, .bool false] 115)
  have hb0 := hb.alloc (.cells #[.slice none 0 0, .slice none 0 0, .bool false] 115)
  have hx0 := (Below.refl w.heap.size w).alloc (Nat.le_refl _) (.cells #[.slice none 0 0, .slice none 0 0, .bool false] 115)
  have hk0 : Blk (w.alloc (.cells #[.slice none 0 0, .slice none 0 0, .bool false] 115)) w.heap.size 115 #[.slice none 0 0, .slice none 0 0, .bool false] := heap_alloc_new w _
  have hc0 : (w.alloc (.cells #[.slice none 0 0, .slice none 0 0, .bool false] 115)).cell? ⟨bk, off, none⟩ = some (.slice A3 x.length c3) := (hx0.cell (p := ⟨bk, off, none⟩) hbk).trans hc
  have hxl : (Tr.leafT x).length ≤ 201 := by rw [length_leafT]; omega
  have hbl : (Tr.leafT b).length ≤ 201 := by rw [length_leafT]; omega
  clear hc hub hub' hb
  obtain ⟨o, HO⟩ : ∃ o, Hid (o = Tr.clashOf (Tr.leafT x) (Tr.leafT b)) := ⟨_, Lib.hid rfl⟩
  rw [← HO.out]
  go_enter Try.func67, Try.ntmps67
  go_wp2_with fail
  refine (leafC_any _ _ _ x hub0 (by omega)).mono ?_
  rintro e w1 ⟨v1, rfl, hown1, hx1⟩
  have hb1 := hb0.below hx1
  have hxa := hx0.trans (hx1.mono hx0.size)
  have hk1 := hk0.below hx1 hk0.lt
  go_wp2_with fail
  refine (leafC_any w1 _ _ b hb1 (by omega)).mono ?_
  rintro e w2 ⟨v2, rfl, hown2, hx2⟩
  have hxb := hxa.trans (hx2.mono hxa.size)
  have hk2 := hk1.below hx2 hk1.lt
  have ho1 := (OwnB.below hown1 hx2).mono hx0.size
  have ho2 := OwnB.mono hown2 hxa.size
  clear hown1 hown2 hb1 hub0 hb0
  obtain ⟨A4, c4, hv4, _, _⟩ := Own.shape ho1
  obtain ⟨A5, c5, hv5, _, _⟩ := Own.shape ho2
  subst hv4 hv5
  go_wp2_with fail
  refine (equal_any w2 _ _ _ _ _ _ ho1.bytes ho2.bytes).mono ?_
  rintro e w3 ⟨rfl, hw⟩
  subst hw
  have hend : ∀ w4 : World, Below w3.heap.size w3 w4 → w4.cell? ⟨w.heap.size, 0, none⟩ = some (.slice none 0 0) ∧ w4.cell? ⟨w.heap.size, 1, none⟩ = some (.slice none 0 0) ∧ w4.cell? ⟨w.heap.size, 2, none⟩ = some (.bool false) ∧
      w4.frozen? ⟨w.heap.size, 0, none⟩ = false ∧ w4.frozen? ⟨w.heap.size, 1, none⟩ = false ∧ w4.frozen? ⟨w.heap.size, 2, none⟩ = false ∧ Blk w4 w.heap.size 115 #[.slice none 0 0, .slice none 0 0, .bool false] := fun w4 h => by
    have hb := hk2.below h hk2.lt
    exact ⟨hb.cell 0, hb.cell 1, hb.cell 2, hb.frozen 0, hb.frozen 1, hb.frozen 2, hb⟩
  have HE := Lib.hid hend
  clear hend
  by_cases he : Tr.leafT x = Tr.leafT b
  · have hco : Tr.clashOf (Tr.leafT x) (Tr.leafT b) = none := by unfold Tr.clashOf; rw [if_neg (fun h => h.1 he)]
    have hbB : (Tr.leafT x == Tr.leafT b) = true := beq_iff_eq.2 he
    have ho := HO.out.trans hco
    rw [hbB]
    clear he HO hco
    subst ho
    go_wp2_with fail
    refine (sum_any w3 _ _ _ ho2.bytes (by omega)).mono ?_
    rintro e w4 ⟨v4, rfl, hown4, hx4⟩
    obtain ⟨e0, e1, e2, f0, f1, f2, hk4⟩ := HE.out w4 hx4
    obtain ⟨s1, s2, s3⟩ := store3 hk4 (hxb.trans (hx4.mono hxb.size)) (Nat.le_refl _) (.slice none 0 0) (.slice none 0 0) (.bool false)
    have ho4 := s3 _ _ _ (OwnB.mono hown4 hxb.size)
    go_wp2_with fail
    generalize ((w4.setCell ⟨w.heap.size, 0, none⟩ (.slice none 0 0)).setCell ⟨w.heap.size, 1, none⟩ (.slice none 0 0)).setCell ⟨w.heap.size, 2, none⟩ (.bool false) = w5 at *
    have g0 : w5.cell? ⟨w.heap.size, 0, none⟩ = some (.slice none 0 0) := s1.cell 0
    have g1 : w5.cell? ⟨w.heap.size, 1, none⟩ = some (.slice none 0 0) := s1.cell 1
    have g2 : w5.cell? ⟨w.heap.size, 2, none⟩ = some (.bool false) := s1.cell 2
    exact bodyPost_ret (v := .tuple #[.agg #[.slice none 0 0, .slice none 0 0, .bool false], v4]) (by simp [results, Try.results67, go_sem, g0, g1, g2]) rfl ⟨_, _, _, rfl, Own.nil_ _ _ _ _, Own.nil_ _ _ _ _, ho4, s2⟩
  · have hbB : (Tr.leafT x == Tr.leafT b) = false := beq_eq_false_iff_ne.2 he
    rw [hbB]
    have HNE := Lib.hid he
    clear he
    go_wp2_with fail
    refine (sum_any w3 _ _ _ ho1.bytes (by omega)).mono ?_
    rintro e w4 ⟨v4, rfl, hown4, hx4⟩
    go_wp2_with fail
    refine (sum_any w4 _ _ _ (ho2.bytes.below hx4) (by omega)).mono ?_
    rintro e w5 ⟨v5, rfl, hown5, hx5⟩
    have hx45 := hx4.trans (hx5.mono hx4.size)
    have hs1 : Bytes w5 _ v4 _ := hown4.bytes.below hx5
    go_wp2_with fail
    refine (equal_any w5 _ _ _ _ _ _ hs1 hown5.bytes).mono ?_
    rintro e w6 ⟨rfl, hw⟩
    subst hw
    by_cases hs : Sha.sha256 (Tr.leafT x) = Sha.sha256 (Tr.leafT b)
    · have hco : Tr.clashOf (Tr.leafT x) (Tr.leafT b) = some (Tr.leafT x, Tr.leafT b) := by unfold Tr.clashOf; rw [if_pos ⟨HNE.out, hs⟩]
      have hsB : (Sha.sha256 (Tr.leafT x) == Sha.sha256 (Tr.leafT b)) = true := beq_iff_eq.2 hs
      have ho := HO.out.trans hco
      rw [hsB]
      clear hs HO hco
      subst ho
      go_wp2_with fail
      refine (sum_any w6 _ _ _ (ho2.bytes.below hx45) (by omega)).mono ?_
      rintro e w7 ⟨v7, rfl, hown7, hx7⟩
      have hx47 := hx45.trans (hx7.mono hx45.size)
      obtain ⟨e0, e1, e2, f0, f1, f2, hk4⟩ := HE.out w7 hx47
      obtain ⟨s1, s2, s3⟩ := store3 hk4 (hxb.trans (hx47.mono hxb.size)) (Nat.le_refl _) (.slice A4 (Tr.leafT x).length c4) (.slice A5 (Tr.leafT b).length c5) (.bool true)
      have ho4 := s3 _ _ _ (OwnB.mono hown7 (Nat.le_trans hxb.size hx45.size))
      have ho5 := s3 _ _ _ (OwnB.below ho1 hx47)
      have ho6 := s3 _ _ _ (OwnB.below ho2 hx47)
      go_wp2_with fail
      generalize ((w7.setCell ⟨w.heap.size, 0, none⟩ (.slice A4 (Tr.leafT x).length c4)).setCell ⟨w.heap.size, 1, none⟩ (.slice A5 (Tr.leafT b).length c5)).setCell ⟨w.heap.size, 2, none⟩ (.bool true) = w8 at *
      have g0 : w8.cell? ⟨w.heap.size, 0, none⟩ = some (.slice A4 (Tr.leafT x).length c4) := s1.cell 0
      have g1 : w8.cell? ⟨w.heap.size, 1, none⟩ = some (.slice A5 (Tr.leafT b).length c5) := s1.cell 1
      have g2 : w8.cell? ⟨w.heap.size, 2, none⟩ = some (.bool true) := s1.cell 2
      exact bodyPost_ret (v := .tuple #[.agg #[.slice A4 (Tr.leafT x).length c4, .slice A5 (Tr.leafT b).length c5, .bool true], v7]) (by simp [results, Try.results67, go_sem, g0, g1, g2]) rfl ⟨_, _, _, rfl, ho5, ho6, ho4, s2⟩
    · have hco : Tr.clashOf (Tr.leafT x) (Tr.leafT b) = none := by unfold Tr.clashOf; rw [if_neg (fun h => hs h.2)]
      have hsB : (Sha.sha256 (Tr.leafT x) == Sha.sha256 (Tr.leafT b)) = false := beq_eq_false_iff_ne.2 hs
      have ho := HO.out.trans hco
      rw [hsB]
      clear hs HO hco
      subst ho
      go_wp2_with fail
      refine (sum_any w6 _ _ _ (ho2.bytes.below hx45) (by omega)).mono ?_
      rintro e w7 ⟨v7, rfl, hown7, hx7⟩
      have hx47 := hx45.trans (hx7.mono hx45.size)
      obtain ⟨e0, e1, e2, f0, f1, f2, hk4⟩ := HE.out w7 hx47
      obtain ⟨s1, s2, s3⟩ := store3 hk4 (hxb.trans (hx47.mono hxb.size)) (Nat.le_refl _) (.slice none 0 0) (.slice none 0 0) (.bool false)
      have ho4 := s3 _ _ _ (OwnB.mono hown7 (Nat.le_trans hxb.size hx45.size))
      go_wp2_with fail
      generalize ((w7.setCell ⟨w.heap.size, 0, none⟩ (.slice none 0 0)).setCell ⟨w.heap.size, 1, none⟩ (.slice none 0 0)).setCell ⟨w.heap.size, 2, none⟩ (.bool false) = w8 at *
      have g0 : w8.cell? ⟨w.heap.size, 0, none⟩ = some (.slice none 0 0) := s1.cell 0
      have g1 : w8.cell? ⟨w.heap.size, 1, none⟩ = some (.slice none 0 0) := s1.cell 1
      have g2 : w8.cell? ⟨w.heap.size, 2, none⟩ = some (.bool false) := s1.cell 2
      exact bodyPost_ret (v := .tuple #[.agg #[.slice none 0 0, .slice none 0 0, .bool false], v7]) (by simp [results, Try.results67, go_sem, g0, g1, g2]) rfl ⟨_, _, _, rfl, Own.nil_ _ _ _ _, Own.nil_ _ _ _ _, ho4, s2⟩
end Go.Proofs.Ytnpfmboolbhpaaa

namespace Go.Proofs.Ytnpfmboolbhpaaa
open Go.RowKit Go.Lib

theorem OwnB.drewN {w : World} {B : Nat} {v : Value} {l : Bs} (h : OwnB w B v l) (n : Nat) : OwnB (w.drewN n) B v l := h
theorem getLastD_at {p : List Bs} {m : Nat} (h : p.length = m + 1) : p.getLastD [] = p[m]'(by omega) := by
  rcases List.eq_nil_or_concat p with rfl | ⟨q, x, rfl⟩
  · simp at h
  · simp at h
    subst h
    simp
theorem dropLast_at {p : List Bs} {m : Nat} (h : p.length = m + 1) : p.dropLast = p.take m := by rw [List.dropLast_eq_take, h]; rfl
theorem Fine.drop {ll : List Bs} (h : Fine ll) {k : Nat} (hk : k < ll.length) : Fine (ll.drop k) := ⟨by rw [List.length_drop]; have := h.1; omega, fun b hb => h.2 b (List.mem_of_mem_drop hb)⟩
abbrev T0 : Array Value := #[.slice none 0 0, .slice none 0 0, .bool false]
/-- what clash.down tells -/
def DownPost (w : World) (o : Option Tr.PB) (d : Bs) (e : Ending) (w' : World) : Prop :=
  ∃ va vc vd, e = .returned (.tuple #[.agg #[va, vc, .bool o.isSome], vd]) ∧ OwnB w' w.heap.size va (fstO o) ∧ OwnB w' w.heap.size vc (sndO o) ∧ OwnB w' w.heap.size vd d ∧ Below w.heap.size w w'

set_option maxRecDepth 100000 in
set_option maxHeartbeats 4000000 in
theorem down_step (w : World) (F F' F'' : Nat → Prop) (g off c gp offp cp c2 ct n k m M i : Nat) (HMM : Hid (M = m + 1)) (A2 At : Option Addr) (b t : Bs) (l1 l2 q : List Bs) (R : Option Tr.PB × Bs) (th : Bs)
    (h2 : 2 ≤ n) (hn100 : n ≤ 100) (hk0 : 0 < k) (hk1 : k < n) (hi : i < n) (hm7 : m ≤ 100) (_hb200 : b.length ≤ 200) (hR32 : R.2.length = 32) (hth : th.length = 65) (ht32 : t.length = 32)
    (HC1 : Hid (i < k → th = Tr.pairT R.2 t ∧ ∀ (w : World) (F F' F'' : Nat → Prop) (v vb vp : Value), BList w F v l1 → Bytes w F' vb b → BList w F'' vp q → Calls Try.prog 67 #[v, vb, .int .i64 (i : Int), vp] w (DownPost w R.1 R.2)))
    (HC2 : Hid (¬ i < k → th = Tr.pairT t R.2 ∧ ∀ (w : World) (F F' F'' : Nat → Prop) (v vb vp : Value) (z : Int), z = (i : Int) - (k : Nat) → BList w F v l2 → Bytes w F' vb b → BList w F'' vp q → Calls Try.prog 67 #[v, vb, .int .i64 z, vp] w (DownPost w R.1 R.2)))
    (hnc : n ≤ c) (_hcm : c ≤ 9223372036854775807) (hpc : M ≤ cp) (_hcpm : cp ≤ 9223372036854775807) (hb : Bytes w F' (.slice A2 b.length c2) b) (_hg : g < w.heap.size) (hgp : gp < w.heap.size)
    (hcu : w.cell? ⟨gp, offp + m, none⟩ = some (.slice At t.length ct)) (hub : Bytes w F'' (.slice At t.length ct) t)
    (hl1 : BList w F (.slice (some ⟨g, off, none⟩) k c) l1) (hl2 : BList w F (.slice (some ⟨g, off + k, none⟩) (n - k) (c - k)) l2) (hp1 : BList w F'' (.slice (some ⟨gp, offp, none⟩) m cp) q)
    (HQ : Hid (Calls Try.prog 93 #[.int .i64 (n : Int)] (w.alloc (.cells #[.slice none 0 0, .slice none 0 0, .bool false] 115)) fun e w' => e = .returned (.int .i64 (k : Nat)) ∧ w' = w.alloc (.cells #[.slice none 0 0, .slice none 0 0, .bool false] 115)))
    (hf1 : Fine l1) (hf2 : Fine l2) :
    Calls Try.prog 67 #[.slice (some ⟨g, off, none⟩) n c, .slice A2 b.length c2, .int .i64 (i : Int), .slice (some ⟨gp, offp, none⟩) M cp] w
      (DownPost w (Tr.orElse R.1 (Tr.clashOf (Tr.pairT (Tr.rootL l1) (Tr.rootL l2)) th)) (Sha.sha256 th)) := by
  have hx0 := (Below.refl w.heap.size w).alloc (Nat.le_refl _) (.cells #[.slice none 0 0, .slice none 0 0, .bool false] 115)
  have hk0' : Blk (w.alloc (.cells #[.slice none 0 0, .slice none 0 0, .bool false] 115)) w.heap.size 115 #[.slice none 0 0, .slice none 0 0, .bool false] := heap_alloc_new w _
  have hnB : ((n : Int) == 1) = false := by rw [beq_eq_false_iff_ne]; omega
  obtain ⟨O, HO⟩ : ∃ O, Hid (O = Tr.orElse R.1 (Tr.clashOf (Tr.pairT (Tr.rootL l1) (Tr.rootL l2)) th)) := ⟨_, Lib.hid rfl⟩
  rw [← HO.out]
  obtain ⟨MT, HM⟩ : ∃ MT, Hid (MT = Tr.pairT (Tr.rootL l1) (Tr.rootL l2)) := ⟨_, Lib.hid rfl⟩
  have hml : MT.length = 65 := by rw [HM.out, length_pairT, Tr.length_rootL, Tr.length_rootL]
  have m0 : (0 : Int) ≤ (m : Int) := by omega
  have hMM := HMM.out
  have m1 : (m : Int) ≤ (M : Int) := by omega
  have m1' : (m : Int) < (M : Int) := by omega
  have m2 : (m : Int) ≤ (cp : Int) := by omega
  have m3 : (M : Int) ≤ (cp : Int) := by omega
  have m4 : (M : Int) - 1 = (m : Int) := by omega
  have mW : IntKind.i64.wrap ((M : Int) - 1) = (m : Int) := by rw [m4]; exact IntWalk.i64_in _ (by omega)
  clear hMM m4
  have k0 : (0 : Int) ≤ (k : Int) := by omega
  have kk1 : (k : Int) ≤ (n : Int) := by omega
  have k2 : (k : Int) ≤ (c : Int) := by omega
  have k3 : (n : Int) ≤ (c : Int) := by omega
  have k4 : ((c : Int) == (k : Int)) = false := by rw [beq_eq_false_iff_ne]; omega
  have k5 : ¬ c = k := by omega
  have hz0 : w.heap.size < (w.alloc (.cells #[.slice none 0 0, .slice none 0 0, .bool false] 115)).heap.size := by simp
  have hcu0 : (w.alloc (.cells #[.slice none 0 0, .slice none 0 0, .bool false] 115)).cell? ⟨gp, offp + m, none⟩ = some (.slice At t.length ct) := (hx0.cell (p := ⟨gp, offp + m, none⟩) hgp).trans hcu
  go_enter Try.func67, Try.ntmps67
  go_wp2_with fail
  refine HQ.out.mono ?_
  rintro e w' ⟨rfl, hw⟩
  rw [← hw] at hx0 hk0' hz0 hcu0
  clear hw HQ
  have HT32 := Lib.hid ht32
  have HTH := Lib.hid hth
  have HR32 := Lib.hid hR32
  have hT := hub
  clear ht32 hth hR32 hub
  go_upto_if 57 with (fail)
  have hxW := hx0.alloc hx0.size (.cells #[.slice none 0 0, .slice none 0 0, .bool false] 115)
  have hkW := hk0'.alloc (.cells #[.slice none 0 0, .slice none 0 0, .bool false] 115)
  have hkN : Blk (w'.alloc (.cells #[.slice none 0 0, .slice none 0 0, .bool false] 115)) w'.heap.size 115 #[.slice none 0 0, .slice none 0 0, .bool false] := heap_alloc_new w' _
  generalize w'.alloc (.cells #[.slice none 0 0, .slice none 0 0, .bool false] 115) = W at *
  generalize w'.heap.size = g1 at *
  clear hx0 hk0' hcu0 hcu
  have hlW1 : BList W.drew F (.slice (some ⟨g, off, none⟩) k c) l1 := (hl1.below hxW).drewN 1
  have hlW2 : BList W.drew F (.slice (some ⟨g, off + k, none⟩) (n - k) (c - k)) l2 := (hl2.below hxW).drewN 1
  have hbW : Bytes W.drew F' (.slice A2 b.length c2) b := (hb.below hxW).drewN 1
  have hpW : BList W.drew F'' (.slice (some ⟨gp, offp, none⟩) m cp) q := (hp1.below hxW).drewN 1
  go_cut [15, 17] (fun ud uth wq => ∃ va vc : Value, OwnB wq w.heap.size uth th ∧ Blk wq w.heap.size 115 #[.slice none 0 0, .slice none 0 0, .bool false] ∧ Blk wq g1 115 #[va, vc, .bool R.1.isSome] ∧ OwnB wq w.heap.size va (fstO R.1) ∧ OwnB wq w.heap.size vc (sndO R.1) ∧ Below w.heap.size w wq)
  case first =>
    by_cases hik : i < k
    · have hikB : (i : Int) < (k : Int) := by omega
      obtain ⟨hTe, hC⟩ := HC1.out hik
      have HTE := Lib.hid hTe
      have HC := Lib.hid hC
      clear hTe hC HC1 HC2
      go_wp2_with fail
      go_region_held3 (fun z : World => Blk z w.heap.size 115 #[.slice none 0 0, .slice none 0 0, .bool false] ∧ Below w.heap.size w z) (first | assumption | exact ⟨hkW.drewN 1, hxW.drew⟩ | exact hSe)
        (((with_reducible refine (HC.out W.drew F F' F'' _ _ _ hlW1 hbW hpW).mono ?_)
          rintro e w1 ⟨va, vc, vd, rfl, ho1, ho2, ho3, hx1⟩
          obtain ⟨A6, c6, hva, _, _⟩ := Own.shape ho1
          obtain ⟨A7, c7, hvc, _, _⟩ := Own.shape ho2
          subst hva hvc
          have hkA : Blk w1 w.heap.size 115 #[.slice none 0 0, .slice none 0 0, .bool false] := (hkW.drewN 1).below hx1 hkW.lt
          have hkB : Blk w1 g1 115 #[.slice none 0 0, .slice none 0 0, .bool false] := (hkN.drewN 1).below hx1 hkN.lt
          have hxA : Below w.heap.size w w1 := hxW.drew.trans (hx1.mono hxW.size)
          have hS1 : Blk w1 w.heap.size 115 #[.slice none 0 0, .slice none 0 0, .bool false] ∧ Below w.heap.size w w1 := ⟨hkA, hxA⟩
          have e0 : w1.cell? ⟨g1, 0, none⟩ = some (.slice none 0 0) := hkB.cell 0
          have e1 : w1.cell? ⟨g1, 1, none⟩ = some (.slice none 0 0) := hkB.cell 1
          have e2 : w1.cell? ⟨g1, 2, none⟩ = some (.bool false) := hkB.cell 2
          have f0 := hkB.frozen 0
          have f1 := hkB.frozen 1
          have f2 := hkB.frozen 2
          obtain ⟨s1, s2, s3⟩ := store3 hkB hxA (Nat.le_of_lt hz0) (.slice A6 (fstO R.1).length c6) (.slice A7 (sndO R.1).length c7) (.bool R.1.isSome)
          have hSe : Blk (((w1.setCell ⟨g1, 0, none⟩ (.slice A6 (fstO R.1).length c6)).setCell ⟨g1, 1, none⟩ (.slice A7 (sndO R.1).length c7)).setCell ⟨g1, 2, none⟩ (.bool R.1.isSome)) w.heap.size 115 #[.slice none 0 0, .slice none 0 0, .bool false] ∧ Below w.heap.size w (((w1.setCell ⟨g1, 0, none⟩ (.slice A6 (fstO R.1).length c6)).setCell ⟨g1, 1, none⟩ (.slice A7 (sndO R.1).length c7)).setCell ⟨g1, 2, none⟩ (.bool R.1.isSome)) := ⟨store3_far hkA (by omega) _ _ _, s2⟩))
      have hp1' := s3 _ _ _ (OwnB.mono ho1 hxW.size)
      have hp2' := s3 _ _ _ (OwnB.mono ho2 hxW.size)
      have hp3' := s3 _ _ _ (OwnB.mono ho3 hxW.size)
      clear s3 s2 ho1 ho2 ho3
      generalize ((w1.setCell ⟨g1, 0, none⟩ (.slice A6 (fstO R.1).length c6)).setCell ⟨g1, 1, none⟩ (.slice A7 (sndO R.1).length c7)).setCell ⟨g1, 2, none⟩ (.bool R.1.isSome) = w2 at *
      obtain ⟨hk2, hx2⟩ := hSe
      have ht2 : Bytes w2 F'' (.slice At t.length ct) t := hT.below hx2
      go_wp2_with fail
      refine (pairC_any w2 _ _ _ _ R.2 t hp3'.bytes ht2 (by have := HR32.out; have := HT32.out; omega)).mono ?_
      rintro e w3 ⟨v3, rfl, hown3, hx3⟩
      have hx23 := hx2.trans (hx3.mono hx2.size)
      go_wp2_with fail
      go_meet
      exact ⟨_, _, by rw [HTE.out]; exact hown3.mono hx2.size, hk2.below hx3 hk2.lt, s1.below hx3 s1.lt, OwnB.below hp1' hx3, OwnB.below hp2' hx3, hx23⟩
    · have hikB : decide ((i : Int) < (k : Int)) = false := decide_eq_false (by omega)
      have hikN : decide (i < k) = false := decide_eq_false (by omega)
      have iW : IntKind.i64.wrap ((i : Int) - (k : Int)) = (i : Int) - (k : Int) := IntWalk.i64_in _ (by omega)
      obtain ⟨hTe, hC⟩ := HC2.out hik
      have HTE := Lib.hid hTe
      have HC := Lib.hid hC
      clear hTe hC HC1 HC2
      go_wp2_with fail
      go_region_held3 (fun z : World => Blk z w.heap.size 115 #[.slice none 0 0, .slice none 0 0, .bool false] ∧ Below w.heap.size w z) (first | assumption | exact ⟨hkW.drewN 1, hxW.drew⟩ | exact hSe)
        (((with_reducible refine (HC.out W.drew F F' F'' _ _ _ _ rfl hlW2 hbW hpW).mono ?_)
          rintro e w1 ⟨va, vc, vd, rfl, ho1, ho2, ho3, hx1⟩
          obtain ⟨A6, c6, hva, _, _⟩ := Own.shape ho1
          obtain ⟨A7, c7, hvc, _, _⟩ := Own.shape ho2
          subst hva hvc
          have hkA : Blk w1 w.heap.size 115 #[.slice none 0 0, .slice none 0 0, .bool false] := (hkW.drewN 1).below hx1 hkW.lt
          have hkB : Blk w1 g1 115 #[.slice none 0 0, .slice none 0 0, .bool false] := (hkN.drewN 1).below hx1 hkN.lt
          have hxA : Below w.heap.size w w1 := hxW.drew.trans (hx1.mono hxW.size)
          have hS1 : Blk w1 w.heap.size 115 #[.slice none 0 0, .slice none 0 0, .bool false] ∧ Below w.heap.size w w1 := ⟨hkA, hxA⟩
          have e0 : w1.cell? ⟨g1, 0, none⟩ = some (.slice none 0 0) := hkB.cell 0
          have e1 : w1.cell? ⟨g1, 1, none⟩ = some (.slice none 0 0) := hkB.cell 1
          have e2 : w1.cell? ⟨g1, 2, none⟩ = some (.bool false) := hkB.cell 2
          have f0 := hkB.frozen 0
          have f1 := hkB.frozen 1
          have f2 := hkB.frozen 2
          obtain ⟨s1, s2, s3⟩ := store3 hkB hxA (Nat.le_of_lt hz0) (.slice A6 (fstO R.1).length c6) (.slice A7 (sndO R.1).length c7) (.bool R.1.isSome)
          have hSe : Blk (((w1.setCell ⟨g1, 0, none⟩ (.slice A6 (fstO R.1).length c6)).setCell ⟨g1, 1, none⟩ (.slice A7 (sndO R.1).length c7)).setCell ⟨g1, 2, none⟩ (.bool R.1.isSome)) w.heap.size 115 #[.slice none 0 0, .slice none 0 0, .bool false] ∧ Below w.heap.size w (((w1.setCell ⟨g1, 0, none⟩ (.slice A6 (fstO R.1).length c6)).setCell ⟨g1, 1, none⟩ (.slice A7 (sndO R.1).length c7)).setCell ⟨g1, 2, none⟩ (.bool R.1.isSome)) := ⟨store3_far hkA (by omega) _ _ _, s2⟩))
      have hp1' := s3 _ _ _ (OwnB.mono ho1 hxW.size)
      have hp2' := s3 _ _ _ (OwnB.mono ho2 hxW.size)
      have hp3' := s3 _ _ _ (OwnB.mono ho3 hxW.size)
      clear s3 s2 ho1 ho2 ho3
      generalize ((w1.setCell ⟨g1, 0, none⟩ (.slice A6 (fstO R.1).length c6)).setCell ⟨g1, 1, none⟩ (.slice A7 (sndO R.1).length c7)).setCell ⟨g1, 2, none⟩ (.bool R.1.isSome) = w2 at *
      obtain ⟨hk2, hx2⟩ := hSe
      have ht2 : Bytes w2 F'' (.slice At t.length ct) t := hT.below hx2
      go_wp2_with fail
      refine (pairC_any w2 _ _ _ _ t R.2 ht2 hp3'.bytes (by have := HR32.out; have := HT32.out; omega)).mono ?_
      rintro e w3 ⟨v3, rfl, hown3, hx3⟩
      have hx23 := hx2.trans (hx3.mono hx2.size)
      go_wp2_with fail
      go_meet
      exact ⟨_, _, by rw [HTE.out]; exact hown3.mono hx2.size, hk2.below hx3 hk2.lt, s1.below hx3 s1.lt, OwnB.below hp1' hx3, OwnB.below hp2' hx3, hx23⟩
  case rest =>
    obtain ⟨va, vc, hoT, hk2, hkN2, ho1, ho2, hx2⟩ := hcut
    obtain ⟨A6, c6, hva, _, _⟩ := Own.shape ho1
    obtain ⟨A7, c7, hvc, _, _⟩ := Own.shape ho2
    obtain ⟨A8, c8, hvT, _, _⟩ := Own.shape hoT
    subst hva hvc hvT
    have hl1c : BList wc F (.slice (some ⟨g, off, none⟩) k c) l1 := hl1.below hx2
    have hl2c : BList wc F (.slice (some ⟨g, off + k, none⟩) (n - k) (c - k)) l2 := hl2.below hx2
    clear HC1 HC2 hlW1 hlW2 hbW hpW hl1 hl2 hp1 hb hT HR32 hkW hkN hxW
    generalize R.1 = r1 at *
    go_wp2_with fail
    go_region_held3 (fun z : World => Below wc.heap.size wc z) (first | assumption | exact (Below.refl _ _).drew)
      (first
        | ((with_reducible refine (rootC_any _ F (.slice (some ⟨g, off, none⟩) k c) l1 (hl1c.below (by assumption)) hf1).mono ?_)
           rintro e w3 ⟨v3, rfl, hown3, hx3⟩
           have hxa : Below wc.heap.size wc w3 := Below.trans (b := _) (by assumption) (hx3.mono (Below.size (by assumption))))
        | ((with_reducible refine (rootC_any _ F (.slice (some ⟨g, off + k, none⟩) (n - k) (c - k)) l2 (hl2c.below (by assumption)) hf2).mono ?_)
           rintro e w4 ⟨v4, rfl, hown4, hx4⟩
           have hxb : Below wc.heap.size wc w4 := Below.trans (b := _) (by assumption) (hx4.mono (Below.size (by assumption)))
           have hown34 := OwnB.below hown3 hx4)
        | ((with_reducible refine (pairC_any _ _ _ _ _ _ _ hown34.bytes hown4.bytes (by rw [Tr.length_rootL, Tr.length_rootL]; omega)).mono ?_)
           rintro e w5 ⟨v5, rfl, hown5, hx5⟩
           have hxc : Below wc.heap.size wc w5 := hxb.trans (hx5.mono hxb.size)))
    have hx5' := hx2.trans (hxc.mono hx2.size)
    have hkA := hk2.below hxc hk2.lt
    have hkB := hkN2.below hxc hkN2.lt
    have hoT5 := OwnB.below hoT hxc
    have ho15 := OwnB.below ho1 hxc
    have ho25 := OwnB.below ho2 hxc
    have hM5 : OwnB w5 w.heap.size v5 MT := by rw [HM.out]; exact OwnB.mono hown5 (Nat.le_trans hx2.size hxb.size)
    obtain ⟨A9, c9, hv9, _, _⟩ := Own.shape hM5
    subst hv9
    clear hown3 hown4 hown34 hown5 hx3 hx4 hx5 hxa hxb hk2 hkN2 hoT ho1 ho2 hl1c hl2c hxc hx2
    have e2 : w5.cell? ⟨g1, 2, none⟩ = some (.bool r1.isSome) := hkB.cell 2
    have hMl : MT.length ≤ 100 := by omega
    have hTl : th.length ≤ 100 := by have := HTH.out; omega
    clear hml
    go_upto_region 17 with (fail)
    go_cut [118] (fun u wq => ∃ bb : Bool, u = .bool bb ∧ Hid (bb = (r1.isNone && (Tr.clashOf MT th).isSome)) ∧ Below w5.heap.size w5 wq)
    case first =>
      cases r1 with
      | some r =>
        have e3 : w5.cell? ⟨g1, 2, none⟩ = some (.bool true) := e2
        clear e2
        go_wp2_with fail
        go_meet
        exact ⟨_, rfl, Lib.hid rfl, Below.refl _ _⟩
      | none =>
        have e3 : w5.cell? ⟨g1, 2, none⟩ = some (.bool false) := e2
        clear e2
        go_wp2_with fail
        refine (equal_any w5 _ _ _ _ _ _ hM5.bytes hoT5.bytes).mono ?_
        rintro e w6 ⟨rfl, hw⟩
        subst hw
        by_cases he : MT = th
        · have hbB : (MT == th) = true := beq_iff_eq.2 he
          have hco : (Tr.clashOf MT th).isSome = false := by unfold Tr.clashOf; rw [if_neg (fun h => h.1 he)]; rfl
          have HCO := Lib.hid hco
          clear hco he
          rw [hbB]
          go_wp2_with fail
          go_meet
          exact ⟨_, rfl, Lib.hid (by rw [HCO.out]; rfl), Below.refl _ _⟩
        · have hbB : (MT == th) = false := beq_eq_false_iff_ne.2 he
          have HNE := Lib.hid he
          clear he
          rw [hbB]
          go_wp2_with fail
          refine (sum_any w6 _ _ _ hM5.bytes (by omega)).mono ?_
          rintro e w7 ⟨v7, rfl, hown7, hx7⟩
          go_wp2_with fail
          refine (sum_any w7 _ _ _ (hoT5.bytes.below hx7) (by omega)).mono ?_
          rintro e w8 ⟨v8, rfl, hown8, hx8⟩
          have hx68 := hx7.trans (hx8.mono hx7.size)
          have hs1 : Bytes w8 _ v7 _ := hown7.bytes.below hx8
          go_wp2_with fail
          refine (equal_any w8 _ _ _ _ _ _ hs1 hown8.bytes).mono ?_
          rintro e w9 ⟨rfl, hw⟩
          subst hw
          have hco : (Sha.sha256 MT == Sha.sha256 th) = (Tr.clashOf MT th).isSome := by
            unfold Tr.clashOf
            by_cases hs : Sha.sha256 MT = Sha.sha256 th
            · rw [if_pos ⟨HNE.out, hs⟩, beq_iff_eq.2 hs]; rfl
            · rw [if_neg (fun h => hs h.2), beq_eq_false_iff_ne.2 hs]; rfl
          rw [hco]
          generalize hcc : (Tr.clashOf MT th).isSome = cc
          have HCC := Lib.hid hcc
          clear hcc hco
          go_wp2_with fail
          go_meet
          exact ⟨_, rfl, Lib.hid (by rw [HCC.out]; rfl), hx68⟩
    case rest =>
      obtain ⟨bb, rfl, HB, hxq⟩ := hcut
      have hxw := hx5'.trans (hxq.mono hx5'.size)
      have hkA2 := hkA.below hxq hkA.lt
      have hkB2 := hkB.below hxq hkB.lt
      have hoT2 := OwnB.below hoT5 hxq
      have ho12 := OwnB.below ho15 hxq
      have ho22 := OwnB.below ho25 hxq
      have hM2 := OwnB.below hM5 hxq
      clear hkA hkB hoT5 ho15 ho25 hM5 hxq hx5' e2
      have hOO : O = Tr.orElse r1 (Tr.clashOf MT th) := by rw [HM.out]; exact HO.out
      have HOO := Lib.hid hOO
      clear hOO HO
      go_upto_if 118 with (fail)
      go_cut [16] (fun u16 wq => ∃ va vc : Value, Blk wq w.heap.size 115 #[.slice none 0 0, .slice none 0 0, .bool false] ∧ Blk wq g1 115 #[va, vc, .bool O.isSome] ∧ OwnB wq w.heap.size va (fstO O) ∧ OwnB wq w.heap.size vc (sndO O) ∧ OwnB wq w.heap.size (.slice A8 th.length c8) th ∧ Below w.heap.size w wq)
      case first =>
        cases bb with
        | true =>
          have hO : O = some (MT, th) := by
            have h1 := HB.out
            have h2 := HOO.out
            cases r1 with
            | some r => cases h1
            | none =>
              rw [h2]
              show Tr.clashOf MT th = _
              unfold Tr.clashOf at h1 ⊢
              split
              · rfl
              · rename_i hn; rw [if_neg hn] at h1; cases h1
          have e0 : wc.cell? ⟨g1, 0, none⟩ = some (.slice A6 (fstO r1).length c6) := hkB2.cell 0
          have e1 : wc.cell? ⟨g1, 1, none⟩ = some (.slice A7 (sndO r1).length c7) := hkB2.cell 1
          have e2 : wc.cell? ⟨g1, 2, none⟩ = some (.bool r1.isSome) := hkB2.cell 2
          have f0 := hkB2.frozen 0
          have f1 := hkB2.frozen 1
          have f2 := hkB2.frozen 2
          obtain ⟨s1, s2, s3⟩ := store3 hkB2 hxw (Nat.le_of_lt hz0) (.slice A9 MT.length c9) (.slice A8 th.length c8) (.bool true)
          have s4 := store3_far hkA2 (show w.heap.size ≠ g1 by omega) (.slice A9 MT.length c9) (.slice A8 th.length c8) (.bool true)
          have hm2 := s3 _ _ _ hM2
          have hot := s3 _ _ _ hoT2
          clear s3
          have HOs := Lib.hid hO
          clear hO HOO
          go_wp2_with fail
          generalize ((wc.setCell ⟨g1, 0, none⟩ (.slice A9 MT.length c9)).setCell ⟨g1, 1, none⟩ (.slice A8 th.length c8)).setCell ⟨g1, 2, none⟩ (.bool true) = w2 at *
          go_meet
          rw [HOs.out]
          exact ⟨_, _, s4, s1, hm2, hot, hot, s2⟩
        | false =>
          have hO : O = r1 := by
            have h1 := HB.out
            have h2 := HOO.out
            cases r1 with
            | some r => exact h2
            | none =>
              rw [h2]
              show Tr.clashOf MT th = _
              cases hc : Tr.clashOf MT th with
              | none => rfl
              | some x => rw [hc] at h1; cases h1
          have HOs := Lib.hid hO
          clear hO HOO
          go_wp2_with fail
          go_meet
          rw [HOs.out]
          exact ⟨_, _, hkA2, hkB2, ho12, ho22, hoT2, hxw⟩
      case rest =>
        obtain ⟨va, vc, hkA3, hkB3, hoa, hoc, hoT3, hxf⟩ := hcut
        clear hkA2 hkB2 hoT2 ho12 ho22 hM2 hxw HB HOO
        obtain ⟨A10, c10, hva, _, _⟩ := Own.shape hoa
        obtain ⟨A11, c11, hvc, _, _⟩ := Own.shape hoc
        subst hva hvc
        have e0 : wc.cell? ⟨g1, 0, none⟩ = some (.slice A10 (fstO O).length c10) := hkB3.cell 0
        have e1 : wc.cell? ⟨g1, 1, none⟩ = some (.slice A11 (sndO O).length c11) := hkB3.cell 1
        have e2 : wc.cell? ⟨g1, 2, none⟩ = some (.bool O.isSome) := hkB3.cell 2
        have hTd : Bytes wc.drew _ (.slice A8 th.length c8) th := hoT3.bytes.drewN 1
        go_wp2_with fail
        go_region_held3 (fun z : World => z.cell? ⟨g1, 0, none⟩ = some (.slice A10 (fstO O).length c10) ∧ z.cell? ⟨g1, 1, none⟩ = some (.slice A11 (sndO O).length c11) ∧ z.cell? ⟨g1, 2, none⟩ = some (.bool O.isSome) ∧ Below w.heap.size w z) (first | assumption | exact ⟨e0, e1, e2, hxf.drew⟩ | exact hSe)
          (((with_reducible refine (sum_any wc.drew _ _ th hTd (by omega)).mono ?_)
            rintro e w7 ⟨v7, rfl, hown7, hx7⟩
            have hkC : Blk w7 w.heap.size 115 #[.slice none 0 0, .slice none 0 0, .bool false] := (hkA3.drewN 1).below hx7 hkA3.lt
            have hkD : Blk w7 g1 115 #[(.slice A10 (fstO O).length c10), (.slice A11 (sndO O).length c11), .bool O.isSome] := (hkB3.drewN 1).below hx7 hkB3.lt
            have hxC : Below w.heap.size w w7 := hxf.drew.trans (hx7.mono hxf.size)
            have hS7 : w7.cell? ⟨g1, 0, none⟩ = some (.slice A10 (fstO O).length c10) ∧ w7.cell? ⟨g1, 1, none⟩ = some (.slice A11 (sndO O).length c11) ∧ w7.cell? ⟨g1, 2, none⟩ = some (.bool O.isSome) ∧ Below w.heap.size w w7 := ⟨hkD.cell 0, hkD.cell 1, hkD.cell 2, hxC⟩
            have a0 : w7.cell? ⟨w.heap.size, 0, none⟩ = some (.slice none 0 0) := hkC.cell 0
            have a1 : w7.cell? ⟨w.heap.size, 1, none⟩ = some (.slice none 0 0) := hkC.cell 1
            have a2 : w7.cell? ⟨w.heap.size, 2, none⟩ = some (.bool false) := hkC.cell 2
            have b0 := hkC.frozen 0
            have b1 := hkC.frozen 1
            have b2 := hkC.frozen 2
            obtain ⟨s1, s2, s3⟩ := store3 hkC hxC (Nat.le_refl _) (.slice A10 (fstO O).length c10) (.slice A11 (sndO O).length c11) (.bool O.isSome)
            have s4 := store3_far hkD (show g1 ≠ w.heap.size by omega) (.slice A10 (fstO O).length c10) (.slice A11 (sndO O).length c11) (.bool O.isSome)
            have hSe : (((w7.setCell ⟨w.heap.size, 0, none⟩ (.slice A10 (fstO O).length c10)).setCell ⟨w.heap.size, 1, none⟩ (.slice A11 (sndO O).length c11)).setCell ⟨w.heap.size, 2, none⟩ (.bool O.isSome)).cell? ⟨g1, 0, none⟩ = some (.slice A10 (fstO O).length c10) ∧ (((w7.setCell ⟨w.heap.size, 0, none⟩ (.slice A10 (fstO O).length c10)).setCell ⟨w.heap.size, 1, none⟩ (.slice A11 (sndO O).length c11)).setCell ⟨w.heap.size, 2, none⟩ (.bool O.isSome)).cell? ⟨g1, 1, none⟩ = some (.slice A11 (sndO O).length c11) ∧ (((w7.setCell ⟨w.heap.size, 0, none⟩ (.slice A10 (fstO O).length c10)).setCell ⟨w.heap.size, 1, none⟩ (.slice A11 (sndO O).length c11)).setCell ⟨w.heap.size, 2, none⟩ (.bool O.isSome)).cell? ⟨g1, 2, none⟩ = some (.bool O.isSome) ∧ Below w.heap.size w (((w7.setCell ⟨w.heap.size, 0, none⟩ (.slice A10 (fstO O).length c10)).setCell ⟨w.heap.size, 1, none⟩ (.slice A11 (sndO O).length c11)).setCell ⟨w.heap.size, 2, none⟩ (.bool O.isSome)) := ⟨s4.cell 0, s4.cell 1, s4.cell 2, s2⟩))
        go_wp2_with fail
        have hr1 := s3 _ _ _ (OwnB.below (OwnB.drewN hoa 1) hx7)
        have hr2 := s3 _ _ _ (OwnB.below (OwnB.drewN hoc 1) hx7)
        have hr3 := s3 _ _ _ (OwnB.mono hown7 hxf.size)
        clear s3 hSe s4
        generalize ((w7.setCell ⟨w.heap.size, 0, none⟩ (.slice A10 (fstO O).length c10)).setCell ⟨w.heap.size, 1, none⟩ (.slice A11 (sndO O).length c11)).setCell ⟨w.heap.size, 2, none⟩ (.bool O.isSome) = wz at *
        have g0 : wz.cell? ⟨w.heap.size, 0, none⟩ = some (.slice A10 (fstO O).length c10) := s1.cell 0
        have g1' : wz.cell? ⟨w.heap.size, 1, none⟩ = some (.slice A11 (sndO O).length c11) := s1.cell 1
        have g2 : wz.cell? ⟨w.heap.size, 2, none⟩ = some (.bool O.isSome) := s1.cell 2
        exact bodyPost_ret (v := .tuple #[.agg #[(.slice A10 (fstO O).length c10), (.slice A11 (sndO O).length c11), .bool O.isSome], v7]) (by simp [results, Try.results67, go_sem, g0, g1', g2]) rfl ⟨_, _, _, rfl, hr1, hr2, hr3, s2⟩

set_option maxRecDepth 100000 in
set_option maxHeartbeats 4000000 in
theorem down_any (n : Nat) : ∀ (w : World) (F F' F'' : Nat → Prop) (v vb vp : Value) (ll : List Bs) (b : Bs) (i : Nat) (z : Int) (p : List Bs), BList w F v ll → Bytes w F' vb b → BList w F'' vp p → ll.length = n → 1 ≤ n → i < n → z = (i : Int) →
      p.length = Tr.depth i n → D32 p → Fine ll → b.length ≤ 200 →
    Calls Try.prog 67 #[v, vb, .int .i64 z, vp] w (DownPost w (Tr.down ll b i p).1 (Tr.down ll b i p).2) := by
  induction n using Nat.strongRecOn with
  | ind n ih =>
    intro w F F' F'' v vb vp ll b i z p hl hb hp hn h1 hi hz hpl hd32 hf hb200
    subst hz
    by_cases h2 : 2 ≤ n
    · have hk1 := Tr.split_lt h2
      have hk0 := Tr.split_pos n
      have hn100 : n ≤ 100 := by have := hf.1; omega
      have hm7 : p.length ≤ 101 := by
        have := Tr.depth_le 7 i n (by omega)
        omega
      rw [Tr.depth, dif_pos h2] at hpl
      obtain ⟨m, hm⟩ : ∃ m, p.length = m + 1 := ⟨p.length - 1, by split at hpl <;> omega⟩
      have hmlt : m < p.length := by omega
      have hq1 : i < Tr.split n → (p.take m).length = Tr.depth i (Tr.split n) := fun h => by rw [if_pos h] at hpl; rw [List.length_take]; omega
      have hq2 : ¬ i < Tr.split n → (p.take m).length = Tr.depth (i - Tr.split n) (n - Tr.split n) := fun h => by rw [if_neg h] at hpl; rw [List.length_take]; omega
      have hdl := dropLast_at hm
      have hlast := getLastD_at hm
      have ht32 : (p[m]'hmlt).length = 32 := hd32 _ (List.getElem_mem _)
      obtain ⟨t, ht⟩ : ∃ t, p[m]'hmlt = t := ⟨_, rfl⟩
      rw [ht] at ht32 hlast
      have hD : ∃ (R : Option Tr.PB × Bs) (th : Bs), Hid (Tr.down ll b i p = (Tr.orElse R.1 (Tr.clashOf (Tr.pairT (Tr.rootL (ll.take (Tr.split n))) (Tr.rootL (ll.drop (Tr.split n)))) th), Sha.sha256 th)) ∧ R.2.length = 32 ∧ th.length = 65 ∧
          (i < Tr.split n → th = Tr.pairT R.2 t ∧ ∀ (w : World) (F F' F'' : Nat → Prop) (v vb vp : Value), BList w F v (ll.take (Tr.split n)) → Bytes w F' vb b → BList w F'' vp (p.take m) → Calls Try.prog 67 #[v, vb, .int .i64 (i : Int), vp] w (DownPost w R.1 R.2)) ∧
          (¬ i < Tr.split n → th = Tr.pairT t R.2 ∧ ∀ (w : World) (F F' F'' : Nat → Prop) (v vb vp : Value) (z : Int), z = (i : Int) - (Tr.split n : Nat) → BList w F v (ll.drop (Tr.split n)) → Bytes w F' vb b → BList w F'' vp (p.take m) → Calls Try.prog 67 #[v, vb, .int .i64 z, vp] w (DownPost w R.1 R.2)) := by
        by_cases hik : i < Tr.split n
        · refine ⟨Tr.down (ll.take (Tr.split n)) b i (p.take m), _, Lib.hid ?_, Tr.length_down _ _ _ _ _ rfl, ?_, fun _ => ⟨rfl, fun w F F' F'' v vb vp h1 h2 h3 => ih (Tr.split n) hk1 w F F' F'' v vb vp _ b i _ _ h1 h2 h3 (by rw [List.length_take]; omega) hk0 hik rfl (hq1 hik) (hd32.take m) (hf.take _) hb200⟩, fun h => absurd hik h⟩
          · rw [Tr.down_left (by omega) b p (by rw [hn]; exact hik), hn, hdl, hlast]; rfl
          · rw [length_pairT, Tr.length_down _ _ _ _ _ rfl, ht32]
        · refine ⟨Tr.down (ll.drop (Tr.split n)) b (i - Tr.split n) (p.take m), _, Lib.hid ?_, Tr.length_down _ _ _ _ _ rfl, ?_, fun h => absurd h hik, fun _ => ⟨rfl, fun w F F' F'' v vb vp z hz h1 h2 h3 => ih (n - Tr.split n) (by omega) w F F' F'' v vb vp _ b (i - Tr.split n) _ _ h1 h2 h3 (by rw [List.length_drop]; omega) (by omega) (by omega) (by omega) (hq2 hik) (hd32.take m) (hf.drop (by omega)) hb200⟩⟩
          · rw [Tr.down_right (by omega) b p (by rw [hn]; exact hik), hn, hdl, hlast]; rfl
          · rw [length_pairT, Tr.length_down _ _ _ _ _ rfl, ht32]
      obtain ⟨R, th, HD, hR32, hth, hC1, hC2⟩ := hD
      rw [HD.out]
      obtain ⟨A, c, hv, hnc, hcm, hA⟩ := hl.shape
      subst hv
      obtain ⟨Ap, cp, hvp, hpc, hcpm, _⟩ := hp.shape
      subst hvp
      obtain ⟨A2, c2, hvb⟩ := hb.form
      subst hvb
      obtain ⟨g, off, rfl, hF, hg⟩ := hA (by omega)
      obtain ⟨gp, offp, u, rfl, hcu, _, hgp, hub⟩ := hp.at_ (j := m) (by omega)
      rw [ht] at hub
      have hub' : Bytes w F'' u t := hub.weak (fun k hk h => by first | exact h | exact h.1)
      obtain ⟨At, ct, hvu⟩ := hub'.form
      subst hvu
      have hl1 := hl.first (Tr.split n) (by omega)
      have hl2 := hl.rest (Tr.split n) (by omega)
      have hp1 := hp.first m (by omega)
      have hq := halfC_any n (w := w.alloc (.cells #[.slice none 0 0, .slice none 0 0, .bool false] 115)) h2 (by omega)
      unfold maxLen at hcm hcpm
      rw [hn] at hl2 hnc
      rw [hn]
      exact down_step w F F' F'' g off c gp offp cp c2 ct n (Tr.split n) m p.length i (Lib.hid hm) A2 At b t _ _ _ R th h2 hn100 hk0 hk1 hi (by omega) hb200 hR32 hth ht32 (Lib.hid hC1) (Lib.hid hC2) hnc hcm hpc hcpm hb hg hgp hcu hub' hl1 hl2 hp1 (Lib.hid hq) (hf.take _) (hf.drop (by omega))
    · have : n = 1 := by omega
      subst this
      match ll, hn with
      | [x], _ =>
        rw [Tr.down_one (by simp)]
        refine (down_base w F F' v vb vp x b _ hl hb (hf.2 x (by simp)) hb200).mono ?_
        rintro e w' ⟨va, vc, vd, rfl, h1, h2, h3, h4⟩
        exact ⟨va, vc, vd, rfl, h1, h2, h3, h4⟩
end Go.Proofs.Ytnpfmboolbhpaaa
