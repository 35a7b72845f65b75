/-
  THE WALK of yearlaw4.PackTells. Conditions: what comes in is read as bytes and tokens.
-/
import Derived.Test.YtfdibjgmbdkbcaaPackF
import Derived.Test.YtfdibjgmbdkbcaaR4B
import Derived.Test.YtfdibjgmbdkbcaaR4C
import Derived.Test.YtfdibjgmbdkbcaaR4D
import Derived.Test.YtfdibjgmbdkbcaaSame
namespace Go.Proofs.Ytfdibjgmbdkbcaa
open Go.RowKit Go.Lib

set_option maxRecDepth 100000 in
set_option maxHeartbeats 2000000 in
theorem sameT_yes (w : World) (F F' : Nat → Prop) (va vb : Value) (l : List Pk.Tok) (ha : RdL w F va l) (hb : RdL w F' vb l) :
    Calls Try.prog 18 #[va, vb] w fun e w' => e = .returned (.bool true) ∧ ∃ n, w' = w.drewN n := by
  obtain ⟨A, c, hv, hlc, hcm⟩ := ha.form
  obtain ⟨A', c', hv', hlc', hcm'⟩ := hb.form
  subst hv hv'
  unfold maxLen at hcm hcm'
  go_enter Try.func18, Try.ntmps18
  go_wp2_with fail
  go_loopg [13] l.length (fun k i wr => ∃ j m : Nat, j + k = l.length ∧ i = .int .i64 (j : Int) ∧ wr = w.drewN m)
  case atStart => exact ⟨0, 0, by omega, rfl, rfl⟩
  case round =>
    obtain ⟨j, m, hj, rfl, rfl⟩ := hrel
    by_cases hlt : j < l.length
    · obtain ⟨b1, off1, d1, hA1, _, _, p0, p1, p2⟩ := tok_at ha hlt
      injection hA1 with hA1 _ hc1
      subst hA1 hc1
      obtain ⟨b2, off2, d2, hA2, _, _, q0, q1, q2⟩ := tok_at hb hlt
      injection hA2 with hA2 _ hc2
      subst hA2 hc2
      have hltB : (j : Int) < (l.length : Int) := by omega
      generalize l[j] = t at *
      obtain ⟨tl, tb, ty⟩ := t
      simp only at p0 p1 p2 q0 q1 q2
      go_upto_region 6 with (fail)
      go_region
      all_goals go_wp2_with fail
      all_goals go_roundg (gk - 1)
      all_goals first
        | omega
        | exact ⟨j + 1, m + 1, by omega, by go_num, rfl⟩
    · have hltB : decide ((j : Int) < (l.length : Int)) = false := by simp; omega
      go_wp2_with fail
      go_ret
      exact ⟨rfl, m, rfl⟩

/-- tokens, both ways -/
theorem tokens_two (b : Bs) : ∃ (T : List Pk.Tok) (k : Int),
    (∀ (w : World) (F : Nat → Prop) (v : Value), Bytes w F v b → Calls Try.prog 16 #[v] w fun e w' => ∃ v, e = .returned (.tuple #[v, .int .i64 k]) ∧ RdL w' (fun _ => True) v T ∧ Below w.heap.size w w') ∧
    (∀ (w : World) (F : Nat → Prop) (v : Value), Bytes w F v b → Calls Try.prog 17 #[v] w fun e w' => ∃ v, e = .returned (.tuple #[v, .int .i64 k]) ∧ RdL w' (fun _ => True) v T ∧ Below w.heap.size w w') := by
  by_cases hl : b.length ≤ 4000
  · refine ⟨Pk.toks b, 0, fun w F v hb => (tokens_any w F v b hb hl).mono ?_, fun w F v hb => (rtokens_any w F v b hb hl).mono ?_⟩
    · rintro e w' ⟨v, rfl, h, hx⟩
      exact ⟨v, rfl, h.rd (fun _ _ => trivial), hx⟩
    · rintro e w' ⟨v, rfl, h, hx⟩
      exact ⟨v, rfl, h.rd (fun _ _ => trivial), hx⟩
  · refine ⟨[], 4, fun w F v hb => (tokens_much w F v b hb hl).mono ?_, fun w F v hb => (rtokens_much w F v b hb hl).mono ?_⟩
    · rintro e w' ⟨rfl, rfl⟩
      exact ⟨_, rfl, RdL.nil_ _ _ _, Below.refl _ _⟩
    · rintro e w' ⟨rfl, rfl⟩
      exact ⟨_, rfl, RdL.nil_ _ _ _, Below.refl _ _⟩
/-- packing, both ways -/
theorem pack_two (b : Bs) : ∃ (P : Bs) (k : Int),
    (∀ (w : World) (F : Nat → Prop) (v : Value), Bytes w F v b → Calls Try.prog 21 #[v] w fun e w' => ∃ v, e = .returned (.tuple #[v, .int .i64 k]) ∧ Bytes w' (fun _ => True) v P ∧ Below w.heap.size w w') ∧
    (∀ (w : World) (F : Nat → Prop) (v : Value), Bytes w F v b → Calls Try.prog 22 #[v] w fun e w' => ∃ v, e = .returned (.tuple #[v, .int .i64 k]) ∧ Bytes w' (fun _ => True) v P ∧ Below w.heap.size w w') := by
  by_cases hl : b.length ≤ 4000
  · refine ⟨Pk.pack b, 0, fun w F v hb => (pack_any w F v b hb hl).mono ?_, fun w F v hb => (rpack_any w F v b hb hl).mono ?_⟩
    · rintro e w' ⟨v, rfl, h, hx⟩
      exact ⟨v, rfl, (OwnB.bytes h).weak (fun _ _ _ => trivial), hx⟩
    · rintro e w' ⟨v, rfl, h, hx⟩
      exact ⟨v, rfl, (OwnB.bytes h).weak (fun _ _ _ => trivial), hx⟩
  · refine ⟨[], 4, fun w F v hb => (pack_much w F v b hb hl).mono ?_, fun w F v hb => (rpack_much w F v b hb hl).mono ?_⟩
    · rintro e w' ⟨rfl, rfl⟩
      exact ⟨_, rfl, SlAt.nil_ _ _ _, Below.refl _ _⟩
    · rintro e w' ⟨rfl, rfl⟩
      exact ⟨_, rfl, SlAt.nil_ _ _ _, Below.refl _ _⟩
theorem bs_same (x : Bs) : (x == x) = true := by simp

set_option maxRecDepth 100000 in
set_option maxHeartbeats 8000000 in
theorem packTells_walk (w : World) (v0 : Value) (b : Bs) (hb : Bytes w (fun _ => True) v0 b) (v1 : Value) (l : List Pk.Tok) (hl : RdL w (fun _ => True) v1 l) (v2 : Value) (p : Bs) (hp : Bytes w (fun _ => True) v2 p) :
    Calls Try.prog 4 #[v0, v1, v2] w fun e w' => e = .returned (.bool true) ∧ Below w.heap.size w w' := by
  obtain ⟨A0, c0, hv0, _, _⟩ := hb.form'
  subst hv0
  obtain ⟨A1, c1, hv1, _, _⟩ := hl.form
  subst hv1
  obtain ⟨A2, c2, hv2, _, _⟩ := hp.form'
  subst hv2
  obtain ⟨T, kt, ht1, ht2⟩ := tokens_two b
  obtain ⟨P, kp, hp1, hp2⟩ := pack_two b
  have HT1 := Lib.hid ht1
  have HT2 := Lib.hid ht2
  have HP1 := Lib.hid hp1
  have HP2 := Lib.hid hp2
  obtain ⟨fa, fb, hf⟩ : ∃ fa fb : Nat, textV l = (fa, fb) := ⟨_, _, rfl⟩
  have HFV := Lib.hid hf
  obtain ⟨ku, hku⟩ : ∃ k, (Pk.unpack p).1 = k := ⟨_, rfl⟩
  have HKU := Lib.hid hku
  clear ht1 ht2 hp1 hp2 hf hku
  go_enter Try.func4, Try.ntmps4
  go_wp2_with fail
  refine (HT1.out w _ _ hb).mono ?_
  rintro e w1 ⟨x1, rfl, hx1r, hz1⟩
  go_wp2_with fail
  refine (HT2.out w1 _ _ (SlAt.below hb hz1)).mono ?_
  rintro e w2 ⟨x2, rfl, hx2r, hx2⟩
  have hz2 := hz1.trans (hx2.mono hz1.size)
  have hx1s := hx1r.below hx2
  clear hx1r hx2
  go_wp2_with fail
  refine (sameT_yes w2 _ _ _ _ T hx1s hx2r).mono ?_
  rintro e w3 ⟨rfl, n3, rfl⟩
  have hz3 := below_drewN hz2 n3
  clear hx1s hx2r hz1 hz2
  generalize w2.drewN n3 = w3 at *
  go_wp2_with fail
  refine (text_any w3 _ _ l (hl.below hz3)).mono ?_
  rintro e w4 ⟨x4, rfl, hx4r, hx4⟩
  have hz4 := hz3.trans (hx4.mono hz3.size)
  have hb4 := (OwnB.bytes hx4r).weak (F' := fun _ => True) (fun _ _ _ => trivial)
  rw [HFV.out]
  unfold fv
  have hz5 := hz4.alloc hz4.size (.cells #[.int .i64 (fa : Int), .int .i64 (fb : Int)] 32)
  have hk5 : Blk (w4.alloc (.cells #[.int .i64 (fa : Int), .int .i64 (fb : Int)] 32)) w4.heap.size 32 #[.int .i64 (fa : Int), .int .i64 (fb : Int)] := heap_alloc_new w4 _
  have hb5 := SlAt.alloc hb4 (.cells #[.int .i64 (fa : Int), .int .i64 (fb : Int)] 32)
  have hl5 : w4.heap.size < (w4.alloc (.cells #[.int .i64 (fa : Int), .int .i64 (fb : Int)] 32)).heap.size := by simp
  clear hx4 hx4r hb4 hz3 hz4
  dsimp only
  go_wp2_with fail
  generalize w4.alloc _ = w5 at *
  generalize w4.heap.size = g5 at *
  refine (rtext_any w5 _ _ l (hl.below hz5)).mono ?_
  rintro e w6 ⟨x6, rfl, hx6r, hx6⟩
  have hz6 := hz5.trans (hx6.mono hz5.size)
  have hb6 := (OwnB.bytes hx6r).weak (F' := fun _ => True) (fun _ _ _ => trivial)
  have hb56 := SlAt.below hb5 hx6
  have hk56 := hk5.below hx6 hl5
  rw [HFV.out]
  unfold fv
  obtain ⟨w7, hw7⟩ : ∃ z, z = w6.alloc (.cells #[.int .i64 (fa : Int), .int .i64 (fb : Int)] 32) := ⟨_, rfl⟩
  have hz7 : Below w.heap.size w w7 := by rw [hw7]; exact hz6.alloc hz6.size _
  have hk7 : Blk w7 w6.heap.size 32 #[.int .i64 (fa : Int), .int .i64 (fb : Int)] := by rw [hw7]; exact heap_alloc_new w6 _
  have hk57 : Blk w7 g5 32 #[.int .i64 (fa : Int), .int .i64 (fb : Int)] := by rw [hw7]; exact hk56.alloc _
  have hb67 : Bytes w7 (fun _ => True) x6 (textB l) := by rw [hw7]; exact SlAt.alloc hb6 _
  have hb57 : Bytes w7 (fun _ => True) x4 (textB l) := by rw [hw7]; exact SlAt.alloc hb56 _
  have HW7 := Lib.hid hw7
  clear hw7 hz5 hk5 hb5 hl5 hx6r hx6 hz6 hb6 hb56 hk56
  dsimp only
  go_upto_region 7 with (fail)
  first | rw [← HW7.out] | skip
  have d0 : w7.cell? ⟨g5, 0, none⟩ = some (.int .i64 (fa : Int)) := hk57.cell 0
  have d1 : w7.cell? ⟨g5, 1, none⟩ = some (.int .i64 (fb : Int)) := hk57.cell 1
  have d2 : w7.cell? ⟨w6.heap.size, 0, none⟩ = some (.int .i64 (fa : Int)) := hk7.cell 0
  have d3 : w7.cell? ⟨w6.heap.size, 1, none⟩ = some (.int .i64 (fb : Int)) := hk7.cell 1
  go_wp2_with fail
  refine (same_any w7 _ _ x4 x6 _ _ hb57 hb67).mono ?_
  rintro e w8 ⟨rfl, n8, rfl⟩
  rw [bs_same]
  have hz8 := below_drewN hz7 n8
  clear d0 d1 d2 d3 hz7 hk7 hk57 hb67 hb57
  generalize w7.drewN n8 = w8 at *
  go_wp2_with fail
  refine (HP1.out w8 _ _ (SlAt.below hb hz8)).mono ?_
  rintro e w9 ⟨x9, rfl, hb9, hx9⟩
  have hz9 := hz8.trans (hx9.mono hz8.size)
  go_wp2_with fail
  refine (HP2.out w9 _ _ (SlAt.below hb hz9)).mono ?_
  rintro e w10 ⟨x10, rfl, hb10, hx10⟩
  have hz10 := hz9.trans (hx10.mono hz9.size)
  have hb9' := SlAt.below hb9 hx10
  clear hz8 hx9 hz9 hx10 hb9
  go_wp2_with fail
  refine (same_any w10 _ _ x9 x10 _ _ hb9' hb10).mono ?_
  rintro e w11 ⟨rfl, n11, rfl⟩
  rw [bs_same]
  have hz11 := below_drewN hz10 n11
  clear hz10 hb9' hb10
  generalize w10.drewN n11 = w11 at *
  go_wp2_with fail
  refine (unpack_any w11 _ _ p (SlAt.below hp hz11)).mono ?_
  rintro e w12 ⟨x12, rfl, ho12, hx12⟩
  have hz12 := hz11.trans (hx12.mono hz11.size)
  have hb12 := OwnB.bytes ho12
  rw [HKU.out]
  clear ho12 hx12 hz11
  go_wp2_with fail
  refine (runpack_any w12 _ _ p (SlAt.below hp hz12)).mono ?_
  rintro e w13 ⟨x13, rfl, ho13, hx13⟩
  have hz13 := hz12.trans (hx13.mono hz12.size)
  have hb13 := OwnB.bytes ho13
  have hb123 := SlAt.below hb12 hx13
  rw [HKU.out]
  clear ho13 hx13 hz12 hb12
  go_wp2_with fail
  refine (same_any w13 _ _ x12 x13 _ _ hb123 hb13).mono ?_
  rintro e w14 ⟨rfl, n14, rfl⟩
  rw [bs_same]
  have hz14 := below_drewN hz13 n14
  clear hz13 hb123 hb13
  generalize w13.drewN n14 = w14 at *
  go_wp2_with fail
  go_ret
  exact ⟨rfl, hz14⟩
end Go.Proofs.Ytfdibjgmbdkbcaa
