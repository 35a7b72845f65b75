/-
  THE WALKS of yearlaw4.alive, PackTurns. Conditions: what comes in is read as bytes.
-/
import Derived.Test.YtjablgkebpmmhaaQF
import Derived.Test.YtjablgkebpmmhaaLaws1
namespace Go.Proofs.Ytjablgkebpmmhaa
open Go.RowKit Go.Lib

def abc : Bs := [97, 98, 99, 97, 98, 99, 97, 98, 99, 97, 98, 99]
theorem abc_len : abc.length = 12 := rfl
theorem pack_abc : (Pk.pack abc).length = 8 := by decide +kernel

set_option maxRecDepth 100000 in
set_option maxHeartbeats 2000000 in
theorem alive4 (w : World) : Calls Try.prog 28 #[] w fun e w' => e = .returned (.bool true) ∧ Below w.heap.size w w' := by
  have kc := fun (w : World) (C : Array Value) (n c : Nat) => Lib.run_convert_bytes_const (P := Try.prog) w 24 5 C n c Try.underlying24 Try.underlying5
  go_enter Try.func28, Try.ntmps28
  go_wp2_with fail
  have hb := Bytes.const w 5 (12, 13) abc 12 rfl (by decide) _ rfl
  refine (pack_any _ _ _ abc hb (by rw [abc_len]; decide)).mono ?_
  rintro e w1 ⟨v1, rfl, ho1, hx1⟩
  have hxa : Below w.heap.size w w1 := ((Below.refl _ w).alloc (Nat.le_refl _) _).trans (hx1.mono (by simp))
  have hb1 := hb.below hx1
  clear hb hx1
  obtain ⟨A1, c1, hv1, _, _⟩ := Own.shape ho1
  subst hv1
  have hu := Pk.unpack_pack abc (by rw [abc_len]; decide)
  have hpl := pack_abc
  generalize Pk.pack abc = p at *
  have HU := Lib.hid hu
  have hpB : ((p.length : Int) == 8) = true := by rw [hpl]; rfl
  have HPB := Lib.hid hpB
  clear hu hpB hpl
  go_wp2_with fail
  refine (unpack_any w1 _ _ p (OwnB.bytes ho1)).mono ?_
  rintro e w2 ⟨v2, rfl, ho2, hx2⟩
  rw [HU.out] at ho2 ⊢
  obtain ⟨A2, c2, hv2, _, _⟩ := Own.shape ho2
  subst hv2
  have hxb := hxa.trans (hx2.mono hxa.size)
  have hb2 := hb1.below hx2
  have hs1 := conv_str w2 _ _ _ hb2
  have hs2 := conv_str w2 _ _ _ (OwnB.bytes ho2)
  have hpB := HPB.out
  have hz0 : (((0 : Nat) : Int) == 0) = true := rfl
  go_wp2_with fail
  go_ret
  exact ⟨rfl, hxb⟩

set_option maxRecDepth 100000 in
set_option maxHeartbeats 2000000 in
theorem packTurns_walk (w : World) (v0 : Value) (b : Bs) (h0 : Bytes w (fun _ => True) v0 b) :
    Calls Try.prog 8 #[v0] w fun e w' => e = .returned (.bool true) ∧ Below w.heap.size w w' := by
  obtain ⟨A, c, hv, hbc, hcm⟩ := h0.form'
  subst hv
  unfold maxLen at hcm
  go_enter Try.func8, Try.ntmps8
  go_wp2_with fail
  refine (alive4 w).mono ?_
  rintro e w1 ⟨rfl, hx1⟩
  have hb1 := h0.below hx1
  go_wp2_with fail
  by_cases hl : b.length ≤ 4000
  · refine (tokens_any w1 _ _ b hb1 hl).mono ?_
    rintro e w2 ⟨v2, rfl, ho2, hx2⟩
    obtain ⟨A2, c2, hv2, _, _⟩ := OwnR.shape ho2
    subst hv2
    have htx := Pk.text_toks b hl
    have hpk := Pk.unpack_pack b hl
    have hrd := OwnR.rd (F := fun _ => True) ho2 (fun _ _ => trivial)
    have hxa := hx1.trans (hx2.mono hx1.size)
    have hb2 := hb1.below hx2
    generalize Pk.toks b = T at *
    have HTX := Lib.hid htx
    have HPK := Lib.hid hpk
    clear htx hpk ho2
    go_wp2_with fail
    refine (text_any w2 _ _ T hrd).mono ?_
    rintro e w3 ⟨v3, rfl, ho3, hx3⟩
    have et : textV T = (0, 0) := by unfold textV; rw [HTX.out]
    have eb : textB T = b := by unfold textB; rw [HTX.out]
    have ef : fv (0, 0) = .agg #[.int .i64 0, .int .i64 0] := rfl
    rw [et, ef]
    rw [eb] at ho3
    clear et eb ef hrd
    obtain ⟨A3, c3, hv3, _, _⟩ := Own.shape ho3
    subst hv3
    have hxb := hxa.trans (hx3.mono hxa.size)
    have hb3 := hb2.below hx3
    have hxc := hxb.alloc hxb.size (.cells #[.int .i64 0, .int .i64 0] 39)
    have hb4 := hb3.alloc (.cells #[.int .i64 0, .int .i64 0] 39)
    have ho4 := ho3.alloc (.cells #[.int .i64 0, .int .i64 0] 39)
    have hf4 : Blk (w3.alloc (.cells #[.int .i64 0, .int .i64 0] 39)) w3.heap.size 39 #[.int .i64 0, .int .i64 0] := heap_alloc_new w3 _
    clear ho3 hb3 hxb
    go_wp2_with fail
    generalize w3.alloc (.cells #[.int .i64 0, .int .i64 0] 39) = w4 at *
    generalize w3.heap.size = g at *
    refine (pack_any w4 _ _ b hb4 hl).mono ?_
    rintro e w5 ⟨v5, rfl, ho5, hx5⟩
    obtain ⟨A5, c5, hv5, _, _⟩ := Own.shape ho5
    subst hv5
    generalize Pk.pack b = p at *
    have hxd := hxc.trans (hx5.mono hxc.size)
    have hb5 := hb4.below hx5
    have hs5 := ho4.below hx5
    have hf5 := hf4.below hx5 hf4.lt
    go_wp2_with fail
    refine (unpack_any w5 _ _ p (OwnB.bytes ho5)).mono ?_
    rintro e w6 ⟨v6, rfl, ho6, hx6⟩
    rw [HPK.out] at ho6 ⊢
    obtain ⟨A6, c6, hv6, _, _⟩ := Own.shape ho6
    subst hv6
    have hxe := hxd.trans (hx6.mono hxd.size)
    have hb6 := hb5.below hx6
    have hs6 := hs5.below hx6
    have hf6 := hf5.below hx6 hf5.lt
    have d0 : w6.cell? ⟨g, 0, none⟩ = some (.int .i64 0) := hf6.cell 0
    go_wp2_with fail
    refine (same_any w6 _ _ _ _ b b (OwnB.bytes hs6) hb6).mono ?_
    rintro e w7 ⟨rfl, n7, hw7⟩
    have hbb : (b == b) = true := by simp
    rw [hbb]
    have hx7 : Below w.heap.size w w7 := by rw [hw7]; exact below_drewN hxe n7
    have hb7 : Bytes w7 (fun _ => True) (.slice A b.length c) b := by rw [hw7]; exact hb6.drewN n7
    have ho7 : OwnB w7 w5.heap.size (.slice A6 b.length c6) b := by rw [hw7]; exact Own.drewN ho6 n7
    clear hw7 hbb
    go_wp2_with fail
    refine (same_any w7 _ _ _ _ b b (OwnB.bytes ho7) hb7).mono ?_
    rintro e w8 ⟨rfl, n8, hw8⟩
    have hbb : (b == b) = true := by simp
    rw [hbb]
    have hx8 : Below w.heap.size w w8 := by rw [hw8]; exact below_drewN hx7 n8
    clear hw8 hbb
    go_wp2_with fail
    go_ret
    exact ⟨rfl, hx8⟩
  · refine (tokens_much w1 _ _ b hb1 hl).mono ?_
    rintro e w2 ⟨rfl, hw⟩
    subst hw
    have hB : (4000 : Int) < (b.length : Int) := by omega
    go_wp2_with fail
    go_ret
    exact ⟨rfl, hx1⟩
end Go.Proofs.Ytjablgkebpmmhaa
