/-
  THE WALK of yearlaw6.BookTells. Conditions: what comes in is read as a record, bytes and a list of records.
-/
import Derived.Test.YtfdibjgmbdkbcaaR5B
import Derived.Test.YtfdibjgmbdkbcaaR5C
import Derived.Test.YtfdibjgmbdkbcaaBookC
import Derived.Test.YtfdibjgmbdkbcaaBookE
import Derived.Test.YtfdibjgmbdkbcaaSameH
import Derived.Test.YtfdibjgmbdkbcaaSame2
import Derived.Test.YtfdibjgmbdkbcaaR2B
import Derived.Deep.Cut
namespace Go.Proofs.Ytfdibjgmbdkbcaa
open Go.RowKit Go.Lib

theorem bytesR_all (w : World) (F : Nat → Prop) (sh fr tt sz : Int) (A : Option Addr) (c : Nat) (root : Bs) (hr : Bytes w F (.slice A root.length c) root) :
    Calls Try.prog 49 #[.agg #[.int .i64 sh, .int .i64 fr, .int .i64 tt, .int .i64 sz, .slice A root.length c]] w fun e w' => ∃ (A1 : Option Addr) (c1 : Nat) (row : Bs), e = .returned (.tuple #[.slice A1 row.length c1, .int .i64 (Bk.wrongR ⟨sh, fr, tt, sz, root⟩ : Nat)]) ∧ Hid (row = if Bk.wrongR ⟨sh, fr, tt, sz, root⟩ = 0 then Bk.rowR ⟨sh, fr, tt, sz, root⟩ else []) ∧ Bytes w' (fun _ => True) (.slice A1 row.length c1) row ∧ Below w.heap.size w w' := by
  by_cases h : Bk.wrongR ⟨sh, fr, tt, sz, root⟩ = 0
  · refine (bytesR_ok w F sh fr tt sz A c root hr h).mono ?_
    rintro e w' ⟨v, rfl, ho, hx⟩
    obtain ⟨A1, c1, hv, _, _⟩ := Own.shape ho
    subst hv
    exact ⟨A1, c1, _, by rw [h]; rfl, Lib.hid (by rw [if_pos h]), (OwnB.bytes ho).weak (fun _ _ _ => trivial), hx⟩
  · refine (bytesR_bad w sh fr tt sz A c root h).mono ?_
    rintro e w' ⟨rfl, hx⟩
    exact ⟨none, 0, [], rfl, Lib.hid (by rw [if_neg h]), SlAt.nil_ _ _ _, hx⟩
theorem rrows_fine (w : World) (F : Nat → Prop) (v : Value) (l : List Rec) (hl : RdL w F v l) (hf : Bk.FineB l) :
    Calls Try.prog 54 #[v] w fun e w' => ∃ v, e = .returned (.tuple #[v, .agg #[.int .i64 0, .int .i64 0]]) ∧ OwnL w' w.heap.size v (Bk.rows l) ∧ Below w.heap.size w w' := by
  have h0 := Bk.wrongB_zero l ((Bk.wrongB_ok l).2 hf)
  refine (rrows_any w F v l hl).mono ?_
  rintro e w' ⟨rv, rfl, h1, hx⟩
  rw [h0, if_pos rfl] at h1
  exact ⟨rv, by rw [h0]; rfl, h1, hx⟩
theorem rrows_bad (w : World) (F : Nat → Prop) (v : Value) (l : List Rec) (hl : RdL w F v l) (hf : ¬ Bk.FineB l) :
    Calls Try.prog 54 #[v] w fun e w' => ∃ (rv : Value) (a b : Nat), e = .returned (.tuple #[rv, .agg #[.int .i64 (a : Int), .int .i64 (b : Int)]]) ∧ Bk.wrongB l = (a, b) ∧ ((a : Int) != 0) = true ∧ Below w.heap.size w w' := by
  refine (rrows_any w F v l hl).mono ?_
  rintro e w' ⟨rv, rfl, h1, hx⟩
  refine ⟨rv, (Bk.wrongB l).1, (Bk.wrongB l).2, rfl, rfl, ?_, hx⟩
  rw [bne_iff_ne]
  intro h
  exact hf ((Bk.wrongB_ok l).1 (by omega))
theorem BPath_all (w : World) (F : Nat → Prop) (v : Value) (l : List Rec) (z : Int) (hl : RdL w F v l) (hf : Bk.FineB l) :
    Calls Try.prog 56 #[v, .int .i64 z] w fun e w' => ∃ (A : Option Addr) (c : Nat) (P : List Bs) (fe : Int), e = .returned (.tuple #[.slice A P.length c, .agg #[.int .i64 fe, .int .i64 0]]) ∧ Hid (((0 ≤ z ∧ z < l.length) → fe = 0 ∧ P = Tr.path ((Bk.rows l).map Tr.leafH) z.toNat) ∧ (¬ (0 ≤ z ∧ z < l.length) → fe = 6 ∧ P = [])) ∧ BList w' (fun _ => True) (.slice A P.length c) P ∧ Below w.heap.size w w' := by
  by_cases h : 0 ≤ z ∧ z < l.length
  · refine (BPath_fine w F v l z hl hf h.1 h.2).mono ?_
    rintro e w' ⟨v, rfl, ho, hx⟩
    have hb := ho.blist.weak (F' := fun _ => True) (fun _ _ _ => trivial)
    obtain ⟨A, c, hv, _, _, _⟩ := hb.shape
    subst hv
    exact ⟨A, c, _, 0, rfl, Lib.hid ⟨fun _ => ⟨rfl, rfl⟩, fun h' => absurd h h'⟩, hb, hx⟩
  · refine (BPath_none w F v l z hl hf h).mono ?_
    rintro e w' ⟨rfl, hx⟩
    exact ⟨none, 0, [], 6, rfl, Lib.hid ⟨fun h' => absurd h' h, fun _ => ⟨rfl, rfl⟩⟩, (OwnL.nil_ w' w.heap.size).blist.weak (fun _ _ _ => trivial), hx⟩
theorem BGrows_all (w : World) (F : Nat → Prop) (v : Value) (l : List Rec) (z : Int) (hl : RdL w F v l) (hf : Bk.FineB l) :
    Calls Try.prog 57 #[v, .int .i64 z] w fun e w' => ∃ (A : Option Addr) (c : Nat) (P : List Bs) (fe : Int), e = .returned (.tuple #[.slice A P.length c, .agg #[.int .i64 fe, .int .i64 0]]) ∧ Hid (((1 ≤ z ∧ z ≤ l.length) → fe = 0 ∧ P = Tr.grows ((Bk.rows l).map Tr.leafH) z.toNat true) ∧ (¬ (1 ≤ z ∧ z ≤ l.length) → fe = 3 ∧ P = [])) ∧ BList w' (fun _ => True) (.slice A P.length c) P ∧ Below w.heap.size w w' := by
  by_cases h : 1 ≤ z ∧ z ≤ l.length
  · refine (BGrows_fine w F v l z hl hf h.1 h.2).mono ?_
    rintro e w' ⟨v, rfl, ho, hx⟩
    have hb := ho.blist.weak (F' := fun _ => True) (fun _ _ _ => trivial)
    obtain ⟨A, c, hv, _, _, _⟩ := hb.shape
    subst hv
    exact ⟨A, c, _, 0, rfl, Lib.hid ⟨fun _ => ⟨rfl, rfl⟩, fun h' => absurd h h'⟩, hb, hx⟩
  · refine (BGrows_none w F v l z hl hf h).mono ?_
    rintro e w' ⟨rfl, hx⟩
    exact ⟨none, 0, [], 3, rfl, Lib.hid ⟨fun h' => absurd h' h, fun _ => ⟨rfl, rfl⟩⟩, (OwnL.nil_ w' w.heap.size).blist.weak (fun _ _ _ => trivial), hx⟩
theorem recS {W z : World} {g : Nat} {a0 a1 a2 a3 a4 : Value} (hk : Blk W g 61 #[a0, a1, a2, a3, a4]) (hx : Below W.heap.size W z) :
    z.cell? ⟨g, 0, none⟩ = some a0 ∧ z.cell? ⟨g, 1, none⟩ = some a1 ∧ z.cell? ⟨g, 2, none⟩ = some a2 ∧ z.cell? ⟨g, 3, none⟩ = some a3 ∧ z.cell? ⟨g, 4, none⟩ = some a4 ∧ Below W.heap.size W z :=
  have h := hk.below hx hk.lt
  ⟨h.cell 0, h.cell 1, h.cell 2, h.cell 3, h.cell 4, hx⟩
theorem hdS {W z : World} {g f : Nat} {a0 a1 b0 b1 : Value} (hk : Blk W g 39 #[a0, a1]) (hf : Blk W f 32 #[b0, b1]) (hx : Below W.heap.size W z) :
    z.cell? ⟨g, 0, none⟩ = some a0 ∧ z.cell? ⟨g, 1, none⟩ = some a1 ∧ z.cell? ⟨f, 0, none⟩ = some b0 ∧ Below W.heap.size W z :=
  ⟨(hk.below hx hk.lt).cell 0, (hk.below hx hk.lt).cell 1, (hf.below hx hf.lt).cell 0, hx⟩

set_option maxRecDepth 100000 in
set_option maxHeartbeats 20000000 in
theorem bookTells_walk (w : World) (cs : List Value) (r : Rec) (h0 : Rp.rd w (fun _ => True) cs r) (v1 : Value) (b : Bs) (h1 : Bytes w (fun _ => True) v1 b) (v2 : Value) (l : List Rec) (h2 : RdL w (fun _ => True) v2 l) (i m : Int) :
    Calls Try.prog 7 #[.agg cs.toArray, v1, v2, .int .i64 i, .int .i64 m] w fun e w' => e = .returned (.bool true) ∧ Below w.heap.size w w' := by
  obtain ⟨A, c, hcs, hr⟩ := rd_rec h0
  subst hcs
  obtain ⟨A1, c1, rfl⟩ := h1.form
  obtain ⟨A2, c2, hv2, hlc2, hcm2⟩ := h2.form
  subst hv2
  unfold maxLen at hcm2
  obtain ⟨sh, fr, tt, sz, root⟩ := r
  simp only at hr ⊢
  obtain ⟨W, hW⟩ : ∃ W, W = w.alloc (.cells #[.int .i64 sh, .int .i64 fr, .int .i64 tt, .int .i64 sz, .slice A root.length c] 61) := ⟨_, rfl⟩
  have hx0 : Below w.heap.size w W := by rw [hW]; exact (Below.refl _ _).alloc (Nat.le_refl _) _
  have hk0 : Blk W w.heap.size 61 #[.int .i64 sh, .int .i64 fr, .int .i64 tt, .int .i64 sz, .slice A root.length c] := by rw [hW]; exact heap_alloc_new w _
  have hrW := SlAt.below hr hx0
  have hbW := SlAt.below h1 hx0
  have hlW := h2.below hx0
  have HW := Lib.hid hW
  obtain ⟨x, hX⟩ : ∃ x, x = Bk.wrongR ⟨sh, fr, tt, sz, root⟩ := ⟨_, rfl⟩
  have hwa := fun z : World => wrongR_any z sh fr tt sz A c root
  have hwb := fun z : World => rwrongR_any z sh fr tt sz A c root
  have hwc := fun (z : World) (hz : Below W.heap.size W z) => bytesR_all z _ sh fr tt sz A c root (SlAt.below hrW hz)
  rw [← hX] at hwa hwb hwc
  have HA := Lib.hid hwa
  have HB := Lib.hid hwb
  have HC := Lib.hid hwc
  have HX := Lib.hid hX
  clear hW h0 h1 h2 hr hwa hwb hwc hX
  go_enter Try.func7, Try.ntmps7
  go_upto_region 1 with (fail)
  rw [← HW.out]
  have hs0 := recS hk0 (Below.refl W.heap.size W).drew
  go_region_held3 (fun z : World => z.cell? ⟨w.heap.size, 0, none⟩ = some (.int .i64 sh) ∧ z.cell? ⟨w.heap.size, 1, none⟩ = some (.int .i64 fr) ∧ z.cell? ⟨w.heap.size, 2, none⟩ = some (.int .i64 tt) ∧ z.cell? ⟨w.heap.size, 3, none⟩ = some (.int .i64 sz) ∧ z.cell? ⟨w.heap.size, 4, none⟩ = some (.slice A root.length c) ∧ Below W.heap.size W z) (first | assumption | exact hs0)
    (first
      | ((with_reducible refine (HA.out W.drew).mono ?_)
         rintro e y1 ⟨rfl, hy1⟩
         have hz1 := (Below.refl W.heap.size W).drew.trans hy1
         have hs1 := recS hk0 hz1)
      | ((with_reducible refine (HB.out y1).mono ?_)
         rintro e y2 ⟨rfl, hy2⟩
         have hz2 := hz1.trans (hy2.mono hz1.size)
         have hs2 := recS hk0 hz2))
  have hk2 := hk0.below hz2 hk0.lt
  have lt2 : w.heap.size < y2.heap.size := by have := hz2.size; have := hk0.lt; omega
  clear hs0 hz1 hs1 hs2 hy1 hy2
  have c0_0 : y2.cell? ⟨w.heap.size, 0, none⟩ = some (.int .i64 sh) := hk2.cell 0
  have c0_1 : y2.cell? ⟨w.heap.size, 1, none⟩ = some (.int .i64 fr) := hk2.cell 1
  have c0_2 : y2.cell? ⟨w.heap.size, 2, none⟩ = some (.int .i64 tt) := hk2.cell 2
  have c0_3 : y2.cell? ⟨w.heap.size, 3, none⟩ = some (.int .i64 sz) := hk2.cell 3
  have c0_4 : y2.cell? ⟨w.heap.size, 4, none⟩ = some (.slice A root.length c) := hk2.cell 4
  go_wp2_with fail
  refine (HC.out y2 hz2).mono ?_
  rintro e w3 ⟨A3, c3, row, rfl, HROW, hrow, hx3⟩
  have hz3 := hz2.trans (hx3.mono hz2.size)
  have hb3_0 := hk2.below hx3 lt2
  have lt3_0 : w.heap.size < w3.heap.size := by have := hx3.size; omega
  clear hz2 hk2 lt2 hx3
  clear c0_0 c0_1 c0_2 c0_3 c0_4
  go_upto_region 4 with (fail)
  go_cut [57] (fun u57 wq => u57 = .bool false ∧ Below W.heap.size W wq)
  case first =>
    by_cases hx : x = 0
    · have hw0 : Bk.wrongR ⟨sh, fr, tt, sz, root⟩ = 0 := by rw [← HX.out]; exact hx
      have hrw := HROW.out
      rw [if_pos hx] at hrw
      have HRW := Lib.hid hrw
      have hB0 : ((x : Int) == 0) = true := by rw [hx]; rfl
      have hB1 : ((x : Int) != 0) = false := by rw [hx]; rfl
      have HW0 := Lib.hid hw0
      clear hrw hw0 hx
      have c0_0 : w3.cell? ⟨w.heap.size, 0, none⟩ = some (.int .i64 sh) := hb3_0.cell 0
      have c0_1 : w3.cell? ⟨w.heap.size, 1, none⟩ = some (.int .i64 fr) := hb3_0.cell 1
      have c0_2 : w3.cell? ⟨w.heap.size, 2, none⟩ = some (.int .i64 tt) := hb3_0.cell 2
      have c0_3 : w3.cell? ⟨w.heap.size, 3, none⟩ = some (.int .i64 sz) := hb3_0.cell 3
      have c0_4 : w3.cell? ⟨w.heap.size, 4, none⟩ = some (.slice A root.length c) := hb3_0.cell 4
      go_wp2_with fail
      refine (HB.out w3).mono ?_
      rintro e w4 ⟨rfl, hx4⟩
      have hz4 := hz3.trans (hx4.mono hz3.size)
      have hb4_0 := hb3_0.below hx4 lt3_0
      have lt4_0 : w.heap.size < w4.heap.size := by have := hx4.size; omega
      have hd4_0 := SlAt.below hrow hx4
      clear hz3 hb3_0 lt3_0 hrow hx4
      clear c0_0 c0_1 c0_2 c0_3 c0_4
      have c0_0 : w4.cell? ⟨w.heap.size, 0, none⟩ = some (.int .i64 sh) := hb4_0.cell 0
      have c0_1 : w4.cell? ⟨w.heap.size, 1, none⟩ = some (.int .i64 fr) := hb4_0.cell 1
      have c0_2 : w4.cell? ⟨w.heap.size, 2, none⟩ = some (.int .i64 tt) := hb4_0.cell 2
      have c0_3 : w4.cell? ⟨w.heap.size, 3, none⟩ = some (.int .i64 sz) := hb4_0.cell 3
      have c0_4 : w4.cell? ⟨w.heap.size, 4, none⟩ = some (.slice A root.length c) := hb4_0.cell 4
      go_wp2_with fail
      refine (rrow_any w4 _ sh fr tt sz A c root (SlAt.below hrW hz4) HW0.out).mono ?_
      rintro e w5 ⟨rv, rfl, hro, hx5⟩
      have hz5 := hz4.trans (hx5.mono hz4.size)
      have hb5_0 := hb4_0.below hx5 lt4_0
      have lt5_0 : w.heap.size < w5.heap.size := by have := hx5.size; omega
      have hd5_0 := SlAt.below hd4_0 hx5
      clear hz4 hb4_0 lt4_0 hd4_0 hx5
      clear c0_0 c0_1 c0_2 c0_3 c0_4
      rw [← HRW.out] at hro
      go_wp2_with fail
      refine (same_any w5 _ _ _ rv row row hd5_0 (OwnB.bytes hro)).mono ?_
      rintro e w_ ⟨rfl, n6, rfl⟩
      rw [show (row == row) = true by simp]
      clear hro
      have hx6 := below_drewN (Below.refl w5.heap.size w5) n6
      have hz6 := below_drewN hz5 n6
      have hb6_0 := hb5_0.drewN n6
      have lt6_0 : w.heap.size < (w5.drewN n6).heap.size := lt5_0
      have hd6_0 := SlAt.below hd5_0 hx6
      clear hz5 hb5_0 lt5_0 hd5_0 hx6
      generalize w5.drewN n6 = w6 at *
      go_wp2_with fail
      go_meet
      exact ⟨rfl, hz6⟩
    · have hrw := HROW.out
      rw [if_neg hx] at hrw
      subst hrw
      have hB0 : ((x : Int) == 0) = false := by rw [beq_eq_false_iff_ne]; omega
      have hB1 : ((x : Int) != 0) = true := by rw [bne_iff_ne]; omega
      clear hx
      have c0_0 : w3.cell? ⟨w.heap.size, 0, none⟩ = some (.int .i64 sh) := hb3_0.cell 0
      have c0_1 : w3.cell? ⟨w.heap.size, 1, none⟩ = some (.int .i64 fr) := hb3_0.cell 1
      have c0_2 : w3.cell? ⟨w.heap.size, 2, none⟩ = some (.int .i64 tt) := hb3_0.cell 2
      have c0_3 : w3.cell? ⟨w.heap.size, 3, none⟩ = some (.int .i64 sz) := hb3_0.cell 3
      have c0_4 : w3.cell? ⟨w.heap.size, 4, none⟩ = some (.slice A root.length c) := hb3_0.cell 4
      go_wp2_with fail
      refine (HB.out w3).mono ?_
      rintro e w4 ⟨rfl, hx4⟩
      have hz4 := hz3.trans (hx4.mono hz3.size)
      have hb4_0 := hb3_0.below hx4 lt3_0
      have lt4_0 : w.heap.size < w4.heap.size := by have := hx4.size; omega
      have hd4_0 := SlAt.below hrow hx4
      clear hz3 hb3_0 lt3_0 hrow hx4
      clear c0_0 c0_1 c0_2 c0_3 c0_4
      go_wp2_with fail
      go_meet
      exact ⟨rfl, hz4⟩
  case rest =>
    obtain ⟨rfl, hzc⟩ := hcut
    clear HA HB HC HX HROW hrow hrW
    have hpa := fun (z : World) (hz : Below W.heap.size W z) => parseR_any z _ _ b (SlAt.below hbW hz)
    have hpb := fun (z : World) (hz : Below W.heap.size W z) => rparse_any z _ _ b (SlAt.below hbW hz)
    unfold ParsePost recV at hpa
    unfold RowPost recV at hpb
    generalize Bk.parseR b = pr at *
    generalize Bk.wrongP b = px at *
    obtain ⟨s1, f1, t1, z1, r1⟩ := pr
    simp only at hpa hpb
    have HPA := Lib.hid hpa
    have HPB := Lib.hid hpb
    clear hpa hpb
    go_wp2_with fail
    refine (HPA.out wc hzc).mono ?_
    rintro e w21 ⟨pv, rfl, hpo, hx21⟩
    have hz21 := hzc.trans (hx21.mono hzc.size)
    clear hzc hx21
    obtain ⟨A5, c5, hpv, _, _⟩ := Own.shape hpo
    subst hpv
    have hp5 := (OwnB.bytes hpo).weak (F' := fun _ => True) (fun _ _ _ => trivial)
    clear hpo
    have hz22 := hz21.alloc hz21.size (.cells #[.int .i64 s1, .int .i64 f1, .int .i64 t1, .int .i64 z1, .slice A5 r1.length c5] 61)
    have hB22 : Blk (w21.alloc (.cells #[.int .i64 s1, .int .i64 f1, .int .i64 t1, .int .i64 z1, .slice A5 r1.length c5] 61)) w21.heap.size 61 #[.int .i64 s1, .int .i64 f1, .int .i64 t1, .int .i64 z1, .slice A5 r1.length c5] := heap_alloc_new w21 _
    have lB22 : w21.heap.size < (w21.alloc (.cells #[.int .i64 s1, .int .i64 f1, .int .i64 t1, .int .i64 z1, .slice A5 r1.length c5] 61)).heap.size := by simp
    have hd22_0 := SlAt.alloc hp5 (.cells #[.int .i64 s1, .int .i64 f1, .int .i64 t1, .int .i64 z1, .slice A5 r1.length c5] 61)
    clear hz21 hp5
    go_wp2_with fail
    generalize w21.alloc _ = w22 at *
    generalize w21.heap.size = g22 at *
    refine (HPB.out w22 hz22).mono ?_
    rintro e w23 ⟨qv, rfl, hq6, hx23⟩
    have hz23 := hz22.trans (hx23.mono hz22.size)
    have hb23_0 := hB22.below hx23 lB22
    have lt23_0 : g22 < w23.heap.size := by have := hx23.size; omega
    have hd23_0 := SlAt.below hd22_0 hx23
    clear hz22 hB22 lB22 hd22_0 hx23
    obtain ⟨A6, c6, hqv⟩ := Bytes.form hq6
    subst hqv
    have hz24 := hz23.alloc hz23.size (.cells #[.int .i64 s1, .int .i64 f1, .int .i64 t1, .int .i64 z1, .slice A6 r1.length c6] 61)
    have hB24 : Blk (w23.alloc (.cells #[.int .i64 s1, .int .i64 f1, .int .i64 t1, .int .i64 z1, .slice A6 r1.length c6] 61)) w23.heap.size 61 #[.int .i64 s1, .int .i64 f1, .int .i64 t1, .int .i64 z1, .slice A6 r1.length c6] := heap_alloc_new w23 _
    have lB24 : w23.heap.size < (w23.alloc (.cells #[.int .i64 s1, .int .i64 f1, .int .i64 t1, .int .i64 z1, .slice A6 r1.length c6] 61)).heap.size := by simp
    have hb24_0 := hb23_0.alloc (.cells #[.int .i64 s1, .int .i64 f1, .int .i64 t1, .int .i64 z1, .slice A6 r1.length c6] 61)
    have lt24_0 : g22 < (w23.alloc (.cells #[.int .i64 s1, .int .i64 f1, .int .i64 t1, .int .i64 z1, .slice A6 r1.length c6] 61)).heap.size := by simp; omega
    have hd24_0 := SlAt.alloc hd23_0 (.cells #[.int .i64 s1, .int .i64 f1, .int .i64 t1, .int .i64 z1, .slice A6 r1.length c6] 61)
    have hd24_1 := SlAt.alloc hq6 (.cells #[.int .i64 s1, .int .i64 f1, .int .i64 t1, .int .i64 z1, .slice A6 r1.length c6] 61)
    clear hz23 hb23_0 lt23_0 hd23_0 hq6
    go_upto_region 8 with (fail)
    generalize w23.alloc _ = w24 at *
    generalize w23.heap.size = g24 at *
    have c0_0 : w24.cell? ⟨g22, 0, none⟩ = some (.int .i64 s1) := hb24_0.cell 0
    have c0_1 : w24.cell? ⟨g22, 1, none⟩ = some (.int .i64 f1) := hb24_0.cell 1
    have c0_2 : w24.cell? ⟨g22, 2, none⟩ = some (.int .i64 t1) := hb24_0.cell 2
    have c0_3 : w24.cell? ⟨g22, 3, none⟩ = some (.int .i64 z1) := hb24_0.cell 3
    have c0_4 : w24.cell? ⟨g22, 4, none⟩ = some (.slice A5 r1.length c5) := hb24_0.cell 4
    have c1_0 : w24.cell? ⟨g24, 0, none⟩ = some (.int .i64 s1) := hB24.cell 0
    have c1_1 : w24.cell? ⟨g24, 1, none⟩ = some (.int .i64 f1) := hB24.cell 1
    have c1_2 : w24.cell? ⟨g24, 2, none⟩ = some (.int .i64 t1) := hB24.cell 2
    have c1_3 : w24.cell? ⟨g24, 3, none⟩ = some (.int .i64 z1) := hB24.cell 3
    have c1_4 : w24.cell? ⟨g24, 4, none⟩ = some (.slice A6 r1.length c6) := hB24.cell 4
    go_wp2_with fail
    refine (sameRec_yes w24 _ _ s1 f1 t1 z1 _ _ r1 hd24_0 hd24_1).mono ?_
    rintro e w25 ⟨rfl, hx25⟩
    have hz25 := hz24.trans (hx25.mono hz24.size)
    have hb25_0 := hb24_0.below hx25 lt24_0
    have lt25_0 : g22 < w25.heap.size := by have := hx25.size; omega
    have hb25_1 := hB24.below hx25 lB24
    have lt25_1 : g24 < w25.heap.size := by have := hx25.size; omega
    have hd25_0 := SlAt.below hd24_0 hx25
    have hd25_1 := SlAt.below hd24_1 hx25
    clear hz24 hb24_0 lt24_0 hB24 lB24 hd24_0 hd24_1 hx25
    clear c0_0 c0_1 c0_2 c0_3 c0_4 c1_0 c1_1 c1_2 c1_3 c1_4 HPA HPB
    clear hb25_0 lt25_0 hb25_1 lt25_1 hd25_0 hd25_1
    go_wp2_with fail
    obtain ⟨fa, fb, hfv⟩ : ∃ fa fb : Nat, Bk.wrongB l = (fa, fb) := ⟨_, _, rfl⟩
    have HFV := Lib.hid hfv
    clear hfv
    by_cases hf : Bk.FineB l
    · have hfr := fine_rows hf
      have hsh := hfr.short
      have hl100 := hfr.1
      have hrl : (Bk.rows l).length = l.length := by unfold Bk.rows; rw [List.length_map]
      have HRL := Lib.hid hrl
      clear hrl
      refine (rrows_fine w25 _ _ l (hlW.below hz25) hf).mono ?_
      rintro e w26 ⟨av, rfl, hao, hx26⟩
      have hz26 := hz25.trans (hx26.mono hz25.size)
      clear hz25 hx26
      have ha := hao.blist.weak (F' := fun _ => True) (fun _ _ _ => trivial)
      obtain ⟨A7, c7, hav, _, _, _⟩ := ha.shape
      subst hav
      clear hao
      have hz27 := hz26.alloc hz26.size (.cells #[.int .i64 0, .int .i64 0] 32)
      have hB27 : Blk (w26.alloc (.cells #[.int .i64 0, .int .i64 0] 32)) w26.heap.size 32 #[.int .i64 0, .int .i64 0] := heap_alloc_new w26 _
      have lB27 : w26.heap.size < (w26.alloc (.cells #[.int .i64 0, .int .i64 0] 32)).heap.size := by simp
      have hd27_0 := ha.alloc (.cells #[.int .i64 0, .int .i64 0] 32)
      clear hz26 ha
      go_wp2_with fail
      generalize w26.alloc _ = w27 at *
      generalize w26.heap.size = g27 at *
      refine (Head_fine w27 _ _ l (hlW.below hz27) hf).mono ?_
      rintro e w28 ⟨rv, rfl, ho, hx28⟩
      have hz28 := hz27.trans (hx28.mono hz27.size)
      have hb28_0 := hB27.below hx28 lB27
      have lt28_0 : g27 < w28.heap.size := by have := hx28.size; omega
      have hd28_0 := hd27_0.below hx28
      clear hz27 hB27 lB27 hd27_0 hx28
      obtain ⟨A8, c8, hrv, _, _⟩ := Own.shape ho
      subst hrv
      have hr0 := (OwnB.bytes ho).weak (F' := fun _ => True) (fun _ _ _ => trivial)
      clear ho
      obtain ⟨R, hR⟩ : ∃ R, Tr.root ((Bk.rows l).map Tr.leafH) = R := ⟨_, rfl⟩
      rw [hR] at hr0 ⊢
      have HR := Lib.hid hR
      clear hR
      have hz29 := (hz28.alloc hz28.size (.cells #[.int .i64 (l.length : Int), .slice A8 R.length c8] 39)).alloc (by simp; have := hz28.size; omega) (.cells #[.int .i64 0, .int .i64 0] 32)
      have hB29 : Blk ((w28.alloc (.cells #[.int .i64 (l.length : Int), .slice A8 R.length c8] 39)).alloc (.cells #[.int .i64 0, .int .i64 0] 32)) w28.heap.size 39 #[.int .i64 (l.length : Int), .slice A8 R.length c8] := Blk.alloc (heap_alloc_new w28 _) _
      have lB29 : w28.heap.size < ((w28.alloc (.cells #[.int .i64 (l.length : Int), .slice A8 R.length c8] 39)).alloc (.cells #[.int .i64 0, .int .i64 0] 32)).heap.size := by simp; omega
      have hC29 : Blk ((w28.alloc (.cells #[.int .i64 (l.length : Int), .slice A8 R.length c8] 39)).alloc (.cells #[.int .i64 0, .int .i64 0] 32)) (w28.heap.size + 1) 32 #[.int .i64 0, .int .i64 0] := by
        have h := heap_alloc_new (w28.alloc (.cells #[.int .i64 (l.length : Int), .slice A8 R.length c8] 39)) (.cells #[.int .i64 0, .int .i64 0] 32)
        rwa [World.size_alloc] at h
      have lC29 : w28.heap.size + 1 < ((w28.alloc (.cells #[.int .i64 (l.length : Int), .slice A8 R.length c8] 39)).alloc (.cells #[.int .i64 0, .int .i64 0] 32)).heap.size := by simp
      have hb29_0 := (hb28_0.alloc (.cells #[.int .i64 (l.length : Int), .slice A8 R.length c8] 39)).alloc (.cells #[.int .i64 0, .int .i64 0] 32)
      have lt29_0 : g27 < ((w28.alloc (.cells #[.int .i64 (l.length : Int), .slice A8 R.length c8] 39)).alloc (.cells #[.int .i64 0, .int .i64 0] 32)).heap.size := by simp; omega
      have hd29_0 := (hd28_0.alloc (.cells #[.int .i64 (l.length : Int), .slice A8 R.length c8] 39)).alloc (.cells #[.int .i64 0, .int .i64 0] 32)
      have hd29_1 := SlAt.alloc (SlAt.alloc hr0 (.cells #[.int .i64 (l.length : Int), .slice A8 R.length c8] 39)) (.cells #[.int .i64 0, .int .i64 0] 32)
      clear hz28 hb28_0 lt28_0 hd28_0 hr0
      go_wp2_with fail
      generalize (w28.alloc _).alloc _ = w29 at *
      generalize w28.heap.size = g29 at *
      refine (BPath_all w29 _ _ l i (hlW.below hz29) hf).mono ?_
      rintro e w30 ⟨A9, c9, PL, pe, rfl, HPL, hpl, hx30⟩
      have hz30 := hz29.trans (hx30.mono hz29.size)
      have hb30_0 := hb29_0.below hx30 lt29_0
      have lt30_0 : g27 < w30.heap.size := by have := hx30.size; omega
      have hb30_1 := hB29.below hx30 lB29
      have lt30_1 : g29 < w30.heap.size := by have := hx30.size; omega
      have hb30_2 := hC29.below hx30 lC29
      have lt30_2 : (g29 + 1) < w30.heap.size := by have := hx30.size; omega
      have hd30_0 := hd29_0.below hx30
      have hd30_1 := SlAt.below hd29_1 hx30
      clear hz29 hb29_0 lt29_0 hB29 lB29 hC29 lC29 hd29_0 hd29_1 hx30
      have hz31 := hz30.alloc hz30.size (.cells #[.int .i64 pe, .int .i64 0] 32)
      have hB31 : Blk (w30.alloc (.cells #[.int .i64 pe, .int .i64 0] 32)) w30.heap.size 32 #[.int .i64 pe, .int .i64 0] := heap_alloc_new w30 _
      have lB31 : w30.heap.size < (w30.alloc (.cells #[.int .i64 pe, .int .i64 0] 32)).heap.size := by simp
      have hb31_0 := hb30_0.alloc (.cells #[.int .i64 pe, .int .i64 0] 32)
      have lt31_0 : g27 < (w30.alloc (.cells #[.int .i64 pe, .int .i64 0] 32)).heap.size := by simp; omega
      have hb31_1 := hb30_1.alloc (.cells #[.int .i64 pe, .int .i64 0] 32)
      have lt31_1 : g29 < (w30.alloc (.cells #[.int .i64 pe, .int .i64 0] 32)).heap.size := by simp; omega
      have hb31_2 := hb30_2.alloc (.cells #[.int .i64 pe, .int .i64 0] 32)
      have lt31_2 : (g29 + 1) < (w30.alloc (.cells #[.int .i64 pe, .int .i64 0] 32)).heap.size := by simp; omega
      have hd31_0 := hd30_0.alloc (.cells #[.int .i64 pe, .int .i64 0] 32)
      have hd31_1 := SlAt.alloc hd30_1 (.cells #[.int .i64 pe, .int .i64 0] 32)
      have hd31_2 := hpl.alloc (.cells #[.int .i64 pe, .int .i64 0] 32)
      clear hz30 hb30_0 lt30_0 hb30_1 lt30_1 hb30_2 lt30_2 hd30_0 hd30_1 hpl
      go_wp2_with fail
      generalize w30.alloc _ = w31 at *
      generalize w30.heap.size = g31 at *
      refine (BGrows_all w31 _ _ l m (hlW.below hz31) hf).mono ?_
      rintro e w32 ⟨A10, c10, QL, qe, rfl, HQL, hql, hx32⟩
      have hz32 := hz31.trans (hx32.mono hz31.size)
      have hb32_0 := hb31_0.below hx32 lt31_0
      have lt32_0 : g27 < w32.heap.size := by have := hx32.size; omega
      have hb32_1 := hb31_1.below hx32 lt31_1
      have lt32_1 : g29 < w32.heap.size := by have := hx32.size; omega
      have hb32_2 := hb31_2.below hx32 lt31_2
      have lt32_2 : (g29 + 1) < w32.heap.size := by have := hx32.size; omega
      have hb32_3 := hB31.below hx32 lB31
      have lt32_3 : g31 < w32.heap.size := by have := hx32.size; omega
      have hd32_0 := hd31_0.below hx32
      have hd32_1 := SlAt.below hd31_1 hx32
      have hd32_2 := hd31_2.below hx32
      clear hz31 hb31_0 lt31_0 hb31_1 lt31_1 hb31_2 lt31_2 hB31 lB31 hd31_0 hd31_1 hd31_2 hx32
      have hz33 := hz32.alloc hz32.size (.cells #[.int .i64 qe, .int .i64 0] 32)
      have hB33 : Blk (w32.alloc (.cells #[.int .i64 qe, .int .i64 0] 32)) w32.heap.size 32 #[.int .i64 qe, .int .i64 0] := heap_alloc_new w32 _
      have lB33 : w32.heap.size < (w32.alloc (.cells #[.int .i64 qe, .int .i64 0] 32)).heap.size := by simp
      have hb33_0 := hb32_0.alloc (.cells #[.int .i64 qe, .int .i64 0] 32)
      have lt33_0 : g27 < (w32.alloc (.cells #[.int .i64 qe, .int .i64 0] 32)).heap.size := by simp; omega
      have hb33_1 := hb32_1.alloc (.cells #[.int .i64 qe, .int .i64 0] 32)
      have lt33_1 : g29 < (w32.alloc (.cells #[.int .i64 qe, .int .i64 0] 32)).heap.size := by simp; omega
      have hb33_2 := hb32_2.alloc (.cells #[.int .i64 qe, .int .i64 0] 32)
      have lt33_2 : (g29 + 1) < (w32.alloc (.cells #[.int .i64 qe, .int .i64 0] 32)).heap.size := by simp; omega
      have hb33_3 := hb32_3.alloc (.cells #[.int .i64 qe, .int .i64 0] 32)
      have lt33_3 : g31 < (w32.alloc (.cells #[.int .i64 qe, .int .i64 0] 32)).heap.size := by simp; omega
      have hd33_0 := hd32_0.alloc (.cells #[.int .i64 qe, .int .i64 0] 32)
      have hd33_1 := SlAt.alloc hd32_1 (.cells #[.int .i64 qe, .int .i64 0] 32)
      have hd33_2 := hd32_2.alloc (.cells #[.int .i64 qe, .int .i64 0] 32)
      have hd33_3 := hql.alloc (.cells #[.int .i64 qe, .int .i64 0] 32)
      clear hz32 hb32_0 lt32_0 hb32_1 lt32_1 hb32_2 lt32_2 hb32_3 lt32_3 hd32_0 hd32_1 hd32_2 hql
      go_upto_region 14 with (fail)
      generalize w32.alloc _ = w33 at *
      generalize w32.heap.size = g33 at *
      have c0_0 : w33.cell? ⟨g27, 0, none⟩ = some (.int .i64 0) := hb33_0.cell 0
      have c0_1 : w33.cell? ⟨g27, 1, none⟩ = some (.int .i64 0) := hb33_0.cell 1
      have c1_0 : w33.cell? ⟨g29, 0, none⟩ = some (.int .i64 (l.length : Int)) := hb33_1.cell 0
      have c1_1 : w33.cell? ⟨g29, 1, none⟩ = some (.slice A8 R.length c8) := hb33_1.cell 1
      have c2_0 : w33.cell? ⟨(g29 + 1), 0, none⟩ = some (.int .i64 0) := hb33_2.cell 0
      have c2_1 : w33.cell? ⟨(g29 + 1), 1, none⟩ = some (.int .i64 0) := hb33_2.cell 1
      have c3_0 : w33.cell? ⟨g31, 0, none⟩ = some (.int .i64 pe) := hb33_3.cell 0
      have c3_1 : w33.cell? ⟨g31, 1, none⟩ = some (.int .i64 0) := hb33_3.cell 1
      have c4_0 : w33.cell? ⟨g33, 0, none⟩ = some (.int .i64 qe) := hB33.cell 0
      have c4_1 : w33.cell? ⟨g33, 1, none⟩ = some (.int .i64 0) := hB33.cell 1
      have HL100 := Lib.hid hl100
      go_upto_region 16 with (fail)
      have hs0 := hdS hb33_1 hb33_2 (Below.refl w33.heap.size w33).drew
      go_region_held3 (fun z : World => z.cell? ⟨g29, 0, none⟩ = some (.int .i64 (l.length : Int)) ∧ z.cell? ⟨g29, 1, none⟩ = some (.slice A8 R.length c8) ∧ z.cell? ⟨(g29 + 1), 0, none⟩ = some (.int .i64 0) ∧ Below w33.heap.size w33 z) (first | assumption | exact hs0)
        (first
          | ((with_reducible refine (root_ref (Bk.rows l).length w33.drew _ _ (Bk.rows l) (hd33_0.below (Below.refl w33.heap.size w33).drew) rfl (by have := HL100.out; omega) hsh).mono ?_)
             rintro e y1 ⟨mv, rfl, hmo, hy1⟩
             have hz1 := (Below.refl w33.heap.size w33).drew.trans hy1
             rw [HR.out] at hmo
             obtain ⟨Am, cm, hmv, _, _⟩ := Own.shape hmo
             subst hmv
             have hmb := OwnB.bytes hmo
             have hra : Bytes y1 (fun _ => True) (.slice A8 R.length c8) R := SlAt.below hd33_1 hz1
             have hs1 := hdS hb33_1 hb33_2 hz1)
          | ((with_reducible refine (sameHead_yes y1 _ _ (l.length : Int) (.slice A8 R.length c8) (.slice Am R.length cm) R hra hmb).mono ?_)
             rintro e y2 ⟨rfl, hy2⟩
             have hz2 := hz1.trans (hy2.mono hz1.size)
             have hs2 := hdS hb33_1 hb33_2 hz2))
      clear c0_0 c0_1 c1_0 c1_1 c2_0 c2_1 c3_0 c3_1 c4_0 c4_1
      have hzF := hz33.trans (hz2.mono hz33.size)
      have hbF_0 := hb33_0.below hz2 lt33_0
      have ltF_0 : g27 < y2.heap.size := by have := hz2.size; omega
      have hbF_1 := hb33_1.below hz2 lt33_1
      have ltF_1 : g29 < y2.heap.size := by have := hz2.size; omega
      have hbF_2 := hb33_2.below hz2 lt33_2
      have ltF_2 : (g29 + 1) < y2.heap.size := by have := hz2.size; omega
      have hbF_3 := hb33_3.below hz2 lt33_3
      have ltF_3 : g31 < y2.heap.size := by have := hz2.size; omega
      have hbF_4 := hB33.below hz2 lB33
      have ltF_4 : g33 < y2.heap.size := by have := hz2.size; omega
      have hdF_0 := hd33_0.below hz2
      have hdF_1 := SlAt.below hd33_1 hz2
      have hdF_2 := hd33_2.below hz2
      have hdF_3 := hd33_3.below hz2
      clear hb33_0 lt33_0 hb33_1 lt33_1 hb33_2 lt33_2 hb33_3 lt33_3 hB33 lB33 hd33_0 hd33_1 hd33_2 hd33_3 hz33 hs0 hs1 hs2 hz1 hz2 hmo hmb hra hy1 hy2
      rcases (show (0 ≤ i ∧ i < (l.length : Int)) ∨ i < 0 ∨ (¬ i < 0 ∧ (l.length : Int) ≤ i) by omega) with hin | hi1 | ⟨hi1, hi2⟩
      · as_aux_lemma =>
        obtain ⟨rfl, hP⟩ := HPL.out.1 hin
        have HP := Lib.hid hP
        have HI := Lib.hid hin
        clear HPL hP
        have bi1 : decide (i < 0) = false := decide_eq_false (by have := hin.1; omega)
        have bi2 : decide ((l.length : Int) ≤ i) = false := decide_eq_false (by have := hin.2; omega)
        clear hin
        have c0_0 : y2.cell? ⟨g27, 0, none⟩ = some (.int .i64 0) := hbF_0.cell 0
        have c0_1 : y2.cell? ⟨g27, 1, none⟩ = some (.int .i64 0) := hbF_0.cell 1
        have c1_0 : y2.cell? ⟨g29, 0, none⟩ = some (.int .i64 (l.length : Int)) := hbF_1.cell 0
        have c1_1 : y2.cell? ⟨g29, 1, none⟩ = some (.slice A8 R.length c8) := hbF_1.cell 1
        have c2_0 : y2.cell? ⟨(g29 + 1), 0, none⟩ = some (.int .i64 0) := hbF_2.cell 0
        have c2_1 : y2.cell? ⟨(g29 + 1), 1, none⟩ = some (.int .i64 0) := hbF_2.cell 1
        have c3_0 : y2.cell? ⟨g31, 0, none⟩ = some (.int .i64 0) := hbF_3.cell 0
        have c3_1 : y2.cell? ⟨g31, 1, none⟩ = some (.int .i64 0) := hbF_3.cell 1
        have c4_0 : y2.cell? ⟨g33, 0, none⟩ = some (.int .i64 qe) := hbF_4.cell 0
        have c4_1 : y2.cell? ⟨g33, 1, none⟩ = some (.int .i64 0) := hbF_4.cell 1
        go_wp2_with fail
        refine (rpath_any (Bk.rows l).length y2 _ _ (Bk.rows l) i.toNat _ hdF_0 rfl (by omega) (by have := HI.out.2; rw [← HRL.out] at this; omega) (by have := HI.out.1; omega) hsh).mono ?_
        rintro e w34 ⟨yv, rfl, hyo, hx34⟩
        have hz34 := hzF.trans (hx34.mono hzF.size)
        have hb34_0 := hbF_0.below hx34 ltF_0
        have lt34_0 : g27 < w34.heap.size := by have := hx34.size; omega
        have hb34_1 := hbF_1.below hx34 ltF_1
        have lt34_1 : g29 < w34.heap.size := by have := hx34.size; omega
        have hb34_2 := hbF_2.below hx34 ltF_2
        have lt34_2 : (g29 + 1) < w34.heap.size := by have := hx34.size; omega
        have hb34_3 := hbF_3.below hx34 ltF_3
        have lt34_3 : g31 < w34.heap.size := by have := hx34.size; omega
        have hb34_4 := hbF_4.below hx34 ltF_4
        have lt34_4 : g33 < w34.heap.size := by have := hx34.size; omega
        have hd34_0 := hdF_0.below hx34
        have hd34_1 := SlAt.below hdF_1 hx34
        have hd34_2 := hdF_2.below hx34
        have hd34_3 := hdF_3.below hx34
        clear hzF hbF_0 ltF_0 hbF_1 ltF_1 hbF_2 ltF_2 hbF_3 ltF_3 hbF_4 ltF_4 hdF_0 hdF_1 hdF_2 hdF_3 hx34
        clear c0_0 c0_1 c1_0 c1_1 c2_0 c2_1 c3_0 c3_1 c4_0 c4_1
        rw [← HP.out] at hyo
        go_wp2_with fail
        refine (same2_yes w34 _ _ _ yv PL hd34_2 hyo.blist).mono ?_
        rintro e w_ ⟨rfl, n35, rfl⟩
        clear hyo
        have hx35 := below_drewN (Below.refl w34.heap.size w34) n35
        have hz35 := below_drewN hz34 n35
        have hb35_0 := hb34_0.drewN n35
        have lt35_0 : g27 < (w34.drewN n35).heap.size := lt34_0
        have hb35_1 := hb34_1.drewN n35
        have lt35_1 : g29 < (w34.drewN n35).heap.size := lt34_1
        have hb35_2 := hb34_2.drewN n35
        have lt35_2 : (g29 + 1) < (w34.drewN n35).heap.size := lt34_2
        have hb35_3 := hb34_3.drewN n35
        have lt35_3 : g31 < (w34.drewN n35).heap.size := lt34_3
        have hb35_4 := hb34_4.drewN n35
        have lt35_4 : g33 < (w34.drewN n35).heap.size := lt34_4
        have hd35_0 := hd34_0.below hx35
        have hd35_1 := SlAt.below hd34_1 hx35
        have hd35_2 := hd34_2.below hx35
        have hd35_3 := hd34_3.below hx35
        clear hz34 hb34_0 lt34_0 hb34_1 lt34_1 hb34_2 lt34_2 hb34_3 lt34_3 hb34_4 lt34_4 hd34_0 hd34_1 hd34_2 hd34_3 hx35
        generalize w34.drewN n35 = w35 at *
        go_upto_region 23 with (fail)
        rcases (show (1 ≤ m ∧ m ≤ (l.length : Int)) ∨ m < 1 ∨ (¬ m < 1 ∧ (l.length : Int) < m) by omega) with hmn | hm1 | ⟨hm1, hm2⟩
        · skip
          obtain ⟨rfl, hQ⟩ := HQL.out.1 hmn
          have HQ := Lib.hid hQ
          have HM := Lib.hid hmn
          clear HQL hQ
          have bm1 : decide (m < 1) = false := decide_eq_false (by have := hmn.1; omega)
          have bm2 : decide ((l.length : Int) < m) = false := decide_eq_false (by have := hmn.2; omega)
          clear hmn
          have c0_0 : w35.cell? ⟨g27, 0, none⟩ = some (.int .i64 0) := hb35_0.cell 0
          have c0_1 : w35.cell? ⟨g27, 1, none⟩ = some (.int .i64 0) := hb35_0.cell 1
          have c1_0 : w35.cell? ⟨g29, 0, none⟩ = some (.int .i64 (l.length : Int)) := hb35_1.cell 0
          have c1_1 : w35.cell? ⟨g29, 1, none⟩ = some (.slice A8 R.length c8) := hb35_1.cell 1
          have c2_0 : w35.cell? ⟨(g29 + 1), 0, none⟩ = some (.int .i64 0) := hb35_2.cell 0
          have c2_1 : w35.cell? ⟨(g29 + 1), 1, none⟩ = some (.int .i64 0) := hb35_2.cell 1
          have c3_0 : w35.cell? ⟨g31, 0, none⟩ = some (.int .i64 0) := hb35_3.cell 0
          have c3_1 : w35.cell? ⟨g31, 1, none⟩ = some (.int .i64 0) := hb35_3.cell 1
          have c4_0 : w35.cell? ⟨g33, 0, none⟩ = some (.int .i64 0) := hb35_4.cell 0
          have c4_1 : w35.cell? ⟨g33, 1, none⟩ = some (.int .i64 0) := hb35_4.cell 1
          go_wp2_with fail
          refine (rproof_any (Bk.rows l).length w35 _ _ (Bk.rows l) m.toNat _ true hd35_0 rfl (by omega) (by have := HM.out.1; omega) (by rw [HRL.out]; have := HM.out; omega) (by have := HM.out.1; omega) hsh).mono ?_
          rintro e w36 ⟨zv, rfl, hzo, hx36⟩
          have hz36 := hz35.trans (hx36.mono hz35.size)
          have hb36_0 := hb35_0.below hx36 lt35_0
          have lt36_0 : g27 < w36.heap.size := by have := hx36.size; omega
          have hb36_1 := hb35_1.below hx36 lt35_1
          have lt36_1 : g29 < w36.heap.size := by have := hx36.size; omega
          have hb36_2 := hb35_2.below hx36 lt35_2
          have lt36_2 : (g29 + 1) < w36.heap.size := by have := hx36.size; omega
          have hb36_3 := hb35_3.below hx36 lt35_3
          have lt36_3 : g31 < w36.heap.size := by have := hx36.size; omega
          have hb36_4 := hb35_4.below hx36 lt35_4
          have lt36_4 : g33 < w36.heap.size := by have := hx36.size; omega
          have hd36_0 := hd35_0.below hx36
          have hd36_1 := SlAt.below hd35_1 hx36
          have hd36_2 := hd35_2.below hx36
          have hd36_3 := hd35_3.below hx36
          clear hz35 hb35_0 lt35_0 hb35_1 lt35_1 hb35_2 lt35_2 hb35_3 lt35_3 hb35_4 lt35_4 hd35_0 hd35_1 hd35_2 hd35_3 hx36
          clear c0_0 c0_1 c1_0 c1_1 c2_0 c2_1 c3_0 c3_1 c4_0 c4_1
          rw [← HQ.out] at hzo
          go_wp2_with fail
          refine (same2_yes w36 _ _ _ zv QL hd36_3 hzo.blist).mono ?_
          rintro e w_ ⟨rfl, n37, rfl⟩
          clear hzo
          have hx37 := below_drewN (Below.refl w36.heap.size w36) n37
          have hz37 := below_drewN hz36 n37
          have hb37_0 := hb36_0.drewN n37
          have lt37_0 : g27 < (w36.drewN n37).heap.size := lt36_0
          have hb37_1 := hb36_1.drewN n37
          have lt37_1 : g29 < (w36.drewN n37).heap.size := lt36_1
          have hb37_2 := hb36_2.drewN n37
          have lt37_2 : (g29 + 1) < (w36.drewN n37).heap.size := lt36_2
          have hb37_3 := hb36_3.drewN n37
          have lt37_3 : g31 < (w36.drewN n37).heap.size := lt36_3
          have hb37_4 := hb36_4.drewN n37
          have lt37_4 : g33 < (w36.drewN n37).heap.size := lt36_4
          have hd37_0 := hd36_0.below hx37
          have hd37_1 := SlAt.below hd36_1 hx37
          have hd37_2 := hd36_2.below hx37
          have hd37_3 := hd36_3.below hx37
          clear hz36 hb36_0 lt36_0 hb36_1 lt36_1 hb36_2 lt36_2 hb36_3 lt36_3 hb36_4 lt36_4 hd36_0 hd36_1 hd36_2 hd36_3 hx37
          generalize w36.drewN n37 = w37 at *
          go_wp2_with fail
          go_ret
          exact ⟨rfl, hx0.trans (hz37.mono hx0.size)⟩
        · skip
          obtain ⟨rfl, hQ⟩ := HQL.out.2 (by omega)
          subst hQ
          clear HQL
          have bm1 : decide (m < 1) = true := decide_eq_true (by omega)
          have c0_0 : w35.cell? ⟨g27, 0, none⟩ = some (.int .i64 0) := hb35_0.cell 0
          have c0_1 : w35.cell? ⟨g27, 1, none⟩ = some (.int .i64 0) := hb35_0.cell 1
          have c1_0 : w35.cell? ⟨g29, 0, none⟩ = some (.int .i64 (l.length : Int)) := hb35_1.cell 0
          have c1_1 : w35.cell? ⟨g29, 1, none⟩ = some (.slice A8 R.length c8) := hb35_1.cell 1
          have c2_0 : w35.cell? ⟨(g29 + 1), 0, none⟩ = some (.int .i64 0) := hb35_2.cell 0
          have c2_1 : w35.cell? ⟨(g29 + 1), 1, none⟩ = some (.int .i64 0) := hb35_2.cell 1
          have c3_0 : w35.cell? ⟨g31, 0, none⟩ = some (.int .i64 0) := hb35_3.cell 0
          have c3_1 : w35.cell? ⟨g31, 1, none⟩ = some (.int .i64 0) := hb35_3.cell 1
          have c4_0 : w35.cell? ⟨g33, 0, none⟩ = some (.int .i64 3) := hb35_4.cell 0
          have c4_1 : w35.cell? ⟨g33, 1, none⟩ = some (.int .i64 0) := hb35_4.cell 1
          go_wp2_with fail
          go_ret
          exact ⟨rfl, hx0.trans (hz35.mono hx0.size)⟩
        · skip
          obtain ⟨rfl, hQ⟩ := HQL.out.2 (by omega)
          subst hQ
          clear HQL
          have bm1 : decide (m < 1) = false := decide_eq_false (by omega)
          have bm2 : decide ((l.length : Int) < m) = true := decide_eq_true (by omega)
          have c0_0 : w35.cell? ⟨g27, 0, none⟩ = some (.int .i64 0) := hb35_0.cell 0
          have c0_1 : w35.cell? ⟨g27, 1, none⟩ = some (.int .i64 0) := hb35_0.cell 1
          have c1_0 : w35.cell? ⟨g29, 0, none⟩ = some (.int .i64 (l.length : Int)) := hb35_1.cell 0
          have c1_1 : w35.cell? ⟨g29, 1, none⟩ = some (.slice A8 R.length c8) := hb35_1.cell 1
          have c2_0 : w35.cell? ⟨(g29 + 1), 0, none⟩ = some (.int .i64 0) := hb35_2.cell 0
          have c2_1 : w35.cell? ⟨(g29 + 1), 1, none⟩ = some (.int .i64 0) := hb35_2.cell 1
          have c3_0 : w35.cell? ⟨g31, 0, none⟩ = some (.int .i64 0) := hb35_3.cell 0
          have c3_1 : w35.cell? ⟨g31, 1, none⟩ = some (.int .i64 0) := hb35_3.cell 1
          have c4_0 : w35.cell? ⟨g33, 0, none⟩ = some (.int .i64 3) := hb35_4.cell 0
          have c4_1 : w35.cell? ⟨g33, 1, none⟩ = some (.int .i64 0) := hb35_4.cell 1
          go_wp2_with fail
          go_ret
          exact ⟨rfl, hx0.trans (hz35.mono hx0.size)⟩
      · as_aux_lemma =>
        obtain ⟨rfl, hP⟩ := HPL.out.2 (by omega)
        subst hP
        clear HPL
        have bi1 : decide (i < 0) = true := decide_eq_true (by omega)
        have c0_0 : y2.cell? ⟨g27, 0, none⟩ = some (.int .i64 0) := hbF_0.cell 0
        have c0_1 : y2.cell? ⟨g27, 1, none⟩ = some (.int .i64 0) := hbF_0.cell 1
        have c1_0 : y2.cell? ⟨g29, 0, none⟩ = some (.int .i64 (l.length : Int)) := hbF_1.cell 0
        have c1_1 : y2.cell? ⟨g29, 1, none⟩ = some (.slice A8 R.length c8) := hbF_1.cell 1
        have c2_0 : y2.cell? ⟨(g29 + 1), 0, none⟩ = some (.int .i64 0) := hbF_2.cell 0
        have c2_1 : y2.cell? ⟨(g29 + 1), 1, none⟩ = some (.int .i64 0) := hbF_2.cell 1
        have c3_0 : y2.cell? ⟨g31, 0, none⟩ = some (.int .i64 6) := hbF_3.cell 0
        have c3_1 : y2.cell? ⟨g31, 1, none⟩ = some (.int .i64 0) := hbF_3.cell 1
        have c4_0 : y2.cell? ⟨g33, 0, none⟩ = some (.int .i64 qe) := hbF_4.cell 0
        have c4_1 : y2.cell? ⟨g33, 1, none⟩ = some (.int .i64 0) := hbF_4.cell 1
        go_upto_region 23 with (fail)
        clear c0_0 c0_1 c1_0 c1_1 c2_0 c2_1 c3_0 c3_1 c4_0 c4_1
        rcases (show (1 ≤ m ∧ m ≤ (l.length : Int)) ∨ m < 1 ∨ (¬ m < 1 ∧ (l.length : Int) < m) by omega) with hmn | hm1 | ⟨hm1, hm2⟩
        · skip
          obtain ⟨rfl, hQ⟩ := HQL.out.1 hmn
          have HQ := Lib.hid hQ
          have HM := Lib.hid hmn
          clear HQL hQ
          have bm1 : decide (m < 1) = false := decide_eq_false (by have := hmn.1; omega)
          have bm2 : decide ((l.length : Int) < m) = false := decide_eq_false (by have := hmn.2; omega)
          clear hmn
          have c0_0 : y2.cell? ⟨g27, 0, none⟩ = some (.int .i64 0) := hbF_0.cell 0
          have c0_1 : y2.cell? ⟨g27, 1, none⟩ = some (.int .i64 0) := hbF_0.cell 1
          have c1_0 : y2.cell? ⟨g29, 0, none⟩ = some (.int .i64 (l.length : Int)) := hbF_1.cell 0
          have c1_1 : y2.cell? ⟨g29, 1, none⟩ = some (.slice A8 R.length c8) := hbF_1.cell 1
          have c2_0 : y2.cell? ⟨(g29 + 1), 0, none⟩ = some (.int .i64 0) := hbF_2.cell 0
          have c2_1 : y2.cell? ⟨(g29 + 1), 1, none⟩ = some (.int .i64 0) := hbF_2.cell 1
          have c3_0 : y2.cell? ⟨g31, 0, none⟩ = some (.int .i64 6) := hbF_3.cell 0
          have c3_1 : y2.cell? ⟨g31, 1, none⟩ = some (.int .i64 0) := hbF_3.cell 1
          have c4_0 : y2.cell? ⟨g33, 0, none⟩ = some (.int .i64 0) := hbF_4.cell 0
          have c4_1 : y2.cell? ⟨g33, 1, none⟩ = some (.int .i64 0) := hbF_4.cell 1
          go_wp2_with fail
          refine (rproof_any (Bk.rows l).length y2 _ _ (Bk.rows l) m.toNat _ true hdF_0 rfl (by omega) (by have := HM.out.1; omega) (by rw [HRL.out]; have := HM.out; omega) (by have := HM.out.1; omega) hsh).mono ?_
          rintro e w34 ⟨zv, rfl, hzo, hx34⟩
          have hz34 := hzF.trans (hx34.mono hzF.size)
          have hb34_0 := hbF_0.below hx34 ltF_0
          have lt34_0 : g27 < w34.heap.size := by have := hx34.size; omega
          have hb34_1 := hbF_1.below hx34 ltF_1
          have lt34_1 : g29 < w34.heap.size := by have := hx34.size; omega
          have hb34_2 := hbF_2.below hx34 ltF_2
          have lt34_2 : (g29 + 1) < w34.heap.size := by have := hx34.size; omega
          have hb34_3 := hbF_3.below hx34 ltF_3
          have lt34_3 : g31 < w34.heap.size := by have := hx34.size; omega
          have hb34_4 := hbF_4.below hx34 ltF_4
          have lt34_4 : g33 < w34.heap.size := by have := hx34.size; omega
          have hd34_0 := hdF_0.below hx34
          have hd34_1 := SlAt.below hdF_1 hx34
          have hd34_2 := hdF_2.below hx34
          have hd34_3 := hdF_3.below hx34
          clear hzF hbF_0 ltF_0 hbF_1 ltF_1 hbF_2 ltF_2 hbF_3 ltF_3 hbF_4 ltF_4 hdF_0 hdF_1 hdF_2 hdF_3 hx34
          clear c0_0 c0_1 c1_0 c1_1 c2_0 c2_1 c3_0 c3_1 c4_0 c4_1
          rw [← HQ.out] at hzo
          go_wp2_with fail
          refine (same2_yes w34 _ _ _ zv QL hd34_3 hzo.blist).mono ?_
          rintro e w_ ⟨rfl, n35, rfl⟩
          clear hzo
          have hx35 := below_drewN (Below.refl w34.heap.size w34) n35
          have hz35 := below_drewN hz34 n35
          have hb35_0 := hb34_0.drewN n35
          have lt35_0 : g27 < (w34.drewN n35).heap.size := lt34_0
          have hb35_1 := hb34_1.drewN n35
          have lt35_1 : g29 < (w34.drewN n35).heap.size := lt34_1
          have hb35_2 := hb34_2.drewN n35
          have lt35_2 : (g29 + 1) < (w34.drewN n35).heap.size := lt34_2
          have hb35_3 := hb34_3.drewN n35
          have lt35_3 : g31 < (w34.drewN n35).heap.size := lt34_3
          have hb35_4 := hb34_4.drewN n35
          have lt35_4 : g33 < (w34.drewN n35).heap.size := lt34_4
          have hd35_0 := hd34_0.below hx35
          have hd35_1 := SlAt.below hd34_1 hx35
          have hd35_2 := hd34_2.below hx35
          have hd35_3 := hd34_3.below hx35
          clear hz34 hb34_0 lt34_0 hb34_1 lt34_1 hb34_2 lt34_2 hb34_3 lt34_3 hb34_4 lt34_4 hd34_0 hd34_1 hd34_2 hd34_3 hx35
          generalize w34.drewN n35 = w35 at *
          go_wp2_with fail
          go_ret
          exact ⟨rfl, hx0.trans (hz35.mono hx0.size)⟩
        · skip
          obtain ⟨rfl, hQ⟩ := HQL.out.2 (by omega)
          subst hQ
          clear HQL
          have bm1 : decide (m < 1) = true := decide_eq_true (by omega)
          have c0_0 : y2.cell? ⟨g27, 0, none⟩ = some (.int .i64 0) := hbF_0.cell 0
          have c0_1 : y2.cell? ⟨g27, 1, none⟩ = some (.int .i64 0) := hbF_0.cell 1
          have c1_0 : y2.cell? ⟨g29, 0, none⟩ = some (.int .i64 (l.length : Int)) := hbF_1.cell 0
          have c1_1 : y2.cell? ⟨g29, 1, none⟩ = some (.slice A8 R.length c8) := hbF_1.cell 1
          have c2_0 : y2.cell? ⟨(g29 + 1), 0, none⟩ = some (.int .i64 0) := hbF_2.cell 0
          have c2_1 : y2.cell? ⟨(g29 + 1), 1, none⟩ = some (.int .i64 0) := hbF_2.cell 1
          have c3_0 : y2.cell? ⟨g31, 0, none⟩ = some (.int .i64 6) := hbF_3.cell 0
          have c3_1 : y2.cell? ⟨g31, 1, none⟩ = some (.int .i64 0) := hbF_3.cell 1
          have c4_0 : y2.cell? ⟨g33, 0, none⟩ = some (.int .i64 3) := hbF_4.cell 0
          have c4_1 : y2.cell? ⟨g33, 1, none⟩ = some (.int .i64 0) := hbF_4.cell 1
          go_wp2_with fail
          go_ret
          exact ⟨rfl, hx0.trans (hzF.mono hx0.size)⟩
        · skip
          obtain ⟨rfl, hQ⟩ := HQL.out.2 (by omega)
          subst hQ
          clear HQL
          have bm1 : decide (m < 1) = false := decide_eq_false (by omega)
          have bm2 : decide ((l.length : Int) < m) = true := decide_eq_true (by omega)
          have c0_0 : y2.cell? ⟨g27, 0, none⟩ = some (.int .i64 0) := hbF_0.cell 0
          have c0_1 : y2.cell? ⟨g27, 1, none⟩ = some (.int .i64 0) := hbF_0.cell 1
          have c1_0 : y2.cell? ⟨g29, 0, none⟩ = some (.int .i64 (l.length : Int)) := hbF_1.cell 0
          have c1_1 : y2.cell? ⟨g29, 1, none⟩ = some (.slice A8 R.length c8) := hbF_1.cell 1
          have c2_0 : y2.cell? ⟨(g29 + 1), 0, none⟩ = some (.int .i64 0) := hbF_2.cell 0
          have c2_1 : y2.cell? ⟨(g29 + 1), 1, none⟩ = some (.int .i64 0) := hbF_2.cell 1
          have c3_0 : y2.cell? ⟨g31, 0, none⟩ = some (.int .i64 6) := hbF_3.cell 0
          have c3_1 : y2.cell? ⟨g31, 1, none⟩ = some (.int .i64 0) := hbF_3.cell 1
          have c4_0 : y2.cell? ⟨g33, 0, none⟩ = some (.int .i64 3) := hbF_4.cell 0
          have c4_1 : y2.cell? ⟨g33, 1, none⟩ = some (.int .i64 0) := hbF_4.cell 1
          go_wp2_with fail
          go_ret
          exact ⟨rfl, hx0.trans (hzF.mono hx0.size)⟩
      · as_aux_lemma =>
        obtain ⟨rfl, hP⟩ := HPL.out.2 (by omega)
        subst hP
        clear HPL
        have bi1 : decide (i < 0) = false := decide_eq_false (by omega)
        have bi2 : decide ((l.length : Int) ≤ i) = true := decide_eq_true (by omega)
        have c0_0 : y2.cell? ⟨g27, 0, none⟩ = some (.int .i64 0) := hbF_0.cell 0
        have c0_1 : y2.cell? ⟨g27, 1, none⟩ = some (.int .i64 0) := hbF_0.cell 1
        have c1_0 : y2.cell? ⟨g29, 0, none⟩ = some (.int .i64 (l.length : Int)) := hbF_1.cell 0
        have c1_1 : y2.cell? ⟨g29, 1, none⟩ = some (.slice A8 R.length c8) := hbF_1.cell 1
        have c2_0 : y2.cell? ⟨(g29 + 1), 0, none⟩ = some (.int .i64 0) := hbF_2.cell 0
        have c2_1 : y2.cell? ⟨(g29 + 1), 1, none⟩ = some (.int .i64 0) := hbF_2.cell 1
        have c3_0 : y2.cell? ⟨g31, 0, none⟩ = some (.int .i64 6) := hbF_3.cell 0
        have c3_1 : y2.cell? ⟨g31, 1, none⟩ = some (.int .i64 0) := hbF_3.cell 1
        have c4_0 : y2.cell? ⟨g33, 0, none⟩ = some (.int .i64 qe) := hbF_4.cell 0
        have c4_1 : y2.cell? ⟨g33, 1, none⟩ = some (.int .i64 0) := hbF_4.cell 1
        go_upto_region 23 with (fail)
        clear c0_0 c0_1 c1_0 c1_1 c2_0 c2_1 c3_0 c3_1 c4_0 c4_1
        rcases (show (1 ≤ m ∧ m ≤ (l.length : Int)) ∨ m < 1 ∨ (¬ m < 1 ∧ (l.length : Int) < m) by omega) with hmn | hm1 | ⟨hm1, hm2⟩
        · skip
          obtain ⟨rfl, hQ⟩ := HQL.out.1 hmn
          have HQ := Lib.hid hQ
          have HM := Lib.hid hmn
          clear HQL hQ
          have bm1 : decide (m < 1) = false := decide_eq_false (by have := hmn.1; omega)
          have bm2 : decide ((l.length : Int) < m) = false := decide_eq_false (by have := hmn.2; omega)
          clear hmn
          have c0_0 : y2.cell? ⟨g27, 0, none⟩ = some (.int .i64 0) := hbF_0.cell 0
          have c0_1 : y2.cell? ⟨g27, 1, none⟩ = some (.int .i64 0) := hbF_0.cell 1
          have c1_0 : y2.cell? ⟨g29, 0, none⟩ = some (.int .i64 (l.length : Int)) := hbF_1.cell 0
          have c1_1 : y2.cell? ⟨g29, 1, none⟩ = some (.slice A8 R.length c8) := hbF_1.cell 1
          have c2_0 : y2.cell? ⟨(g29 + 1), 0, none⟩ = some (.int .i64 0) := hbF_2.cell 0
          have c2_1 : y2.cell? ⟨(g29 + 1), 1, none⟩ = some (.int .i64 0) := hbF_2.cell 1
          have c3_0 : y2.cell? ⟨g31, 0, none⟩ = some (.int .i64 6) := hbF_3.cell 0
          have c3_1 : y2.cell? ⟨g31, 1, none⟩ = some (.int .i64 0) := hbF_3.cell 1
          have c4_0 : y2.cell? ⟨g33, 0, none⟩ = some (.int .i64 0) := hbF_4.cell 0
          have c4_1 : y2.cell? ⟨g33, 1, none⟩ = some (.int .i64 0) := hbF_4.cell 1
          go_wp2_with fail
          refine (rproof_any (Bk.rows l).length y2 _ _ (Bk.rows l) m.toNat _ true hdF_0 rfl (by omega) (by have := HM.out.1; omega) (by rw [HRL.out]; have := HM.out; omega) (by have := HM.out.1; omega) hsh).mono ?_
          rintro e w34 ⟨zv, rfl, hzo, hx34⟩
          have hz34 := hzF.trans (hx34.mono hzF.size)
          have hb34_0 := hbF_0.below hx34 ltF_0
          have lt34_0 : g27 < w34.heap.size := by have := hx34.size; omega
          have hb34_1 := hbF_1.below hx34 ltF_1
          have lt34_1 : g29 < w34.heap.size := by have := hx34.size; omega
          have hb34_2 := hbF_2.below hx34 ltF_2
          have lt34_2 : (g29 + 1) < w34.heap.size := by have := hx34.size; omega
          have hb34_3 := hbF_3.below hx34 ltF_3
          have lt34_3 : g31 < w34.heap.size := by have := hx34.size; omega
          have hb34_4 := hbF_4.below hx34 ltF_4
          have lt34_4 : g33 < w34.heap.size := by have := hx34.size; omega
          have hd34_0 := hdF_0.below hx34
          have hd34_1 := SlAt.below hdF_1 hx34
          have hd34_2 := hdF_2.below hx34
          have hd34_3 := hdF_3.below hx34
          clear hzF hbF_0 ltF_0 hbF_1 ltF_1 hbF_2 ltF_2 hbF_3 ltF_3 hbF_4 ltF_4 hdF_0 hdF_1 hdF_2 hdF_3 hx34
          clear c0_0 c0_1 c1_0 c1_1 c2_0 c2_1 c3_0 c3_1 c4_0 c4_1
          rw [← HQ.out] at hzo
          go_wp2_with fail
          refine (same2_yes w34 _ _ _ zv QL hd34_3 hzo.blist).mono ?_
          rintro e w_ ⟨rfl, n35, rfl⟩
          clear hzo
          have hx35 := below_drewN (Below.refl w34.heap.size w34) n35
          have hz35 := below_drewN hz34 n35
          have hb35_0 := hb34_0.drewN n35
          have lt35_0 : g27 < (w34.drewN n35).heap.size := lt34_0
          have hb35_1 := hb34_1.drewN n35
          have lt35_1 : g29 < (w34.drewN n35).heap.size := lt34_1
          have hb35_2 := hb34_2.drewN n35
          have lt35_2 : (g29 + 1) < (w34.drewN n35).heap.size := lt34_2
          have hb35_3 := hb34_3.drewN n35
          have lt35_3 : g31 < (w34.drewN n35).heap.size := lt34_3
          have hb35_4 := hb34_4.drewN n35
          have lt35_4 : g33 < (w34.drewN n35).heap.size := lt34_4
          have hd35_0 := hd34_0.below hx35
          have hd35_1 := SlAt.below hd34_1 hx35
          have hd35_2 := hd34_2.below hx35
          have hd35_3 := hd34_3.below hx35
          clear hz34 hb34_0 lt34_0 hb34_1 lt34_1 hb34_2 lt34_2 hb34_3 lt34_3 hb34_4 lt34_4 hd34_0 hd34_1 hd34_2 hd34_3 hx35
          generalize w34.drewN n35 = w35 at *
          go_wp2_with fail
          go_ret
          exact ⟨rfl, hx0.trans (hz35.mono hx0.size)⟩
        · skip
          obtain ⟨rfl, hQ⟩ := HQL.out.2 (by omega)
          subst hQ
          clear HQL
          have bm1 : decide (m < 1) = true := decide_eq_true (by omega)
          have c0_0 : y2.cell? ⟨g27, 0, none⟩ = some (.int .i64 0) := hbF_0.cell 0
          have c0_1 : y2.cell? ⟨g27, 1, none⟩ = some (.int .i64 0) := hbF_0.cell 1
          have c1_0 : y2.cell? ⟨g29, 0, none⟩ = some (.int .i64 (l.length : Int)) := hbF_1.cell 0
          have c1_1 : y2.cell? ⟨g29, 1, none⟩ = some (.slice A8 R.length c8) := hbF_1.cell 1
          have c2_0 : y2.cell? ⟨(g29 + 1), 0, none⟩ = some (.int .i64 0) := hbF_2.cell 0
          have c2_1 : y2.cell? ⟨(g29 + 1), 1, none⟩ = some (.int .i64 0) := hbF_2.cell 1
          have c3_0 : y2.cell? ⟨g31, 0, none⟩ = some (.int .i64 6) := hbF_3.cell 0
          have c3_1 : y2.cell? ⟨g31, 1, none⟩ = some (.int .i64 0) := hbF_3.cell 1
          have c4_0 : y2.cell? ⟨g33, 0, none⟩ = some (.int .i64 3) := hbF_4.cell 0
          have c4_1 : y2.cell? ⟨g33, 1, none⟩ = some (.int .i64 0) := hbF_4.cell 1
          go_wp2_with fail
          go_ret
          exact ⟨rfl, hx0.trans (hzF.mono hx0.size)⟩
        · skip
          obtain ⟨rfl, hQ⟩ := HQL.out.2 (by omega)
          subst hQ
          clear HQL
          have bm1 : decide (m < 1) = false := decide_eq_false (by omega)
          have bm2 : decide ((l.length : Int) < m) = true := decide_eq_true (by omega)
          have c0_0 : y2.cell? ⟨g27, 0, none⟩ = some (.int .i64 0) := hbF_0.cell 0
          have c0_1 : y2.cell? ⟨g27, 1, none⟩ = some (.int .i64 0) := hbF_0.cell 1
          have c1_0 : y2.cell? ⟨g29, 0, none⟩ = some (.int .i64 (l.length : Int)) := hbF_1.cell 0
          have c1_1 : y2.cell? ⟨g29, 1, none⟩ = some (.slice A8 R.length c8) := hbF_1.cell 1
          have c2_0 : y2.cell? ⟨(g29 + 1), 0, none⟩ = some (.int .i64 0) := hbF_2.cell 0
          have c2_1 : y2.cell? ⟨(g29 + 1), 1, none⟩ = some (.int .i64 0) := hbF_2.cell 1
          have c3_0 : y2.cell? ⟨g31, 0, none⟩ = some (.int .i64 6) := hbF_3.cell 0
          have c3_1 : y2.cell? ⟨g31, 1, none⟩ = some (.int .i64 0) := hbF_3.cell 1
          have c4_0 : y2.cell? ⟨g33, 0, none⟩ = some (.int .i64 3) := hbF_4.cell 0
          have c4_1 : y2.cell? ⟨g33, 1, none⟩ = some (.int .i64 0) := hbF_4.cell 1
          go_wp2_with fail
          go_ret
          exact ⟨rfl, hx0.trans (hzF.mono hx0.size)⟩
    · as_aux_lemma =>
      refine (rrows_bad w25 _ _ l (hlW.below hz25) hf).mono ?_
      rintro e w201 ⟨rv, a0, b0, rfl, hab0, hne0, hx201⟩
      have hz201 := hz25.trans (hx201.mono hz25.size)
      clear hz25 hx201
      obtain ⟨e1_, e2_⟩ : a0 = fa ∧ b0 = fb := by have h2 := hab0.symm.trans HFV.out; injection h2 with h3 h4; exact ⟨h3, h4⟩
      rw [e1_] at hne0
      rw [e1_, e2_]
      clear e1_ e2_ hab0
      have hz202 := hz201.alloc hz201.size (.cells #[.int .i64 (fa : Int), .int .i64 (fb : Int)] 32)
      have hB202 : Blk (w201.alloc (.cells #[.int .i64 (fa : Int), .int .i64 (fb : Int)] 32)) w201.heap.size 32 #[.int .i64 (fa : Int), .int .i64 (fb : Int)] := heap_alloc_new w201 _
      have lB202 : w201.heap.size < (w201.alloc (.cells #[.int .i64 (fa : Int), .int .i64 (fb : Int)] 32)).heap.size := by simp
      clear hz201
      go_wp2_with fail
      generalize w201.alloc _ = w202 at *
      generalize w201.heap.size = g202 at *
      refine (Head_bad w202 _ _ l (hlW.below hz202) hf).mono ?_
      rintro e w203 ⟨a1, b1, rfl, hab1, hne1, hx203⟩
      have hz203 := hz202.trans (hx203.mono hz202.size)
      have hb203_0 := hB202.below hx203 lB202
      have lt203_0 : g202 < w203.heap.size := by have := hx203.size; omega
      clear hz202 hB202 lB202 hx203
      obtain ⟨e1_, e2_⟩ : a1 = fa ∧ b1 = fb := by have h2 := hab1.symm.trans HFV.out; injection h2 with h3 h4; exact ⟨h3, h4⟩
      rw [e1_] at hne1
      rw [e1_, e2_]
      clear e1_ e2_ hab1 hne1
      have hz204 := (hz203.alloc hz203.size (.cells #[.int .i64 0, .slice none 0 0] 39)).alloc (by simp; have := hz203.size; omega) (.cells #[.int .i64 (fa : Int), .int .i64 (fb : Int)] 32)
      have hB204 : Blk ((w203.alloc (.cells #[.int .i64 0, .slice none 0 0] 39)).alloc (.cells #[.int .i64 (fa : Int), .int .i64 (fb : Int)] 32)) w203.heap.size 39 #[.int .i64 0, .slice none 0 0] := Blk.alloc (heap_alloc_new w203 _) _
      have lB204 : w203.heap.size < ((w203.alloc (.cells #[.int .i64 0, .slice none 0 0] 39)).alloc (.cells #[.int .i64 (fa : Int), .int .i64 (fb : Int)] 32)).heap.size := by simp; omega
      have hC204 : Blk ((w203.alloc (.cells #[.int .i64 0, .slice none 0 0] 39)).alloc (.cells #[.int .i64 (fa : Int), .int .i64 (fb : Int)] 32)) (w203.heap.size + 1) 32 #[.int .i64 (fa : Int), .int .i64 (fb : Int)] := by
        have h := heap_alloc_new (w203.alloc (.cells #[.int .i64 0, .slice none 0 0] 39)) (.cells #[.int .i64 (fa : Int), .int .i64 (fb : Int)] 32)
        rwa [World.size_alloc] at h
      have lC204 : w203.heap.size + 1 < ((w203.alloc (.cells #[.int .i64 0, .slice none 0 0] 39)).alloc (.cells #[.int .i64 (fa : Int), .int .i64 (fb : Int)] 32)).heap.size := by simp
      have hb204_0 := (hb203_0.alloc (.cells #[.int .i64 0, .slice none 0 0] 39)).alloc (.cells #[.int .i64 (fa : Int), .int .i64 (fb : Int)] 32)
      have lt204_0 : g202 < ((w203.alloc (.cells #[.int .i64 0, .slice none 0 0] 39)).alloc (.cells #[.int .i64 (fa : Int), .int .i64 (fb : Int)] 32)).heap.size := by simp; omega
      clear hz203 hb203_0 lt203_0
      go_wp2_with fail
      generalize (w203.alloc _).alloc _ = w204 at *
      generalize w203.heap.size = g204 at *
      refine (BPath_bad w204 _ _ l i (hlW.below hz204) hf).mono ?_
      rintro e w205 ⟨a2, b2, rfl, hab2, hne2, hx205⟩
      have hz205 := hz204.trans (hx205.mono hz204.size)
      have hb205_0 := hb204_0.below hx205 lt204_0
      have lt205_0 : g202 < w205.heap.size := by have := hx205.size; omega
      have hb205_1 := hB204.below hx205 lB204
      have lt205_1 : g204 < w205.heap.size := by have := hx205.size; omega
      have hb205_2 := hC204.below hx205 lC204
      have lt205_2 : (g204 + 1) < w205.heap.size := by have := hx205.size; omega
      clear hz204 hb204_0 lt204_0 hB204 lB204 hC204 lC204 hx205
      obtain ⟨e1_, e2_⟩ : a2 = fa ∧ b2 = fb := by have h2 := hab2.symm.trans HFV.out; injection h2 with h3 h4; exact ⟨h3, h4⟩
      rw [e1_] at hne2
      rw [e1_, e2_]
      clear e1_ e2_ hab2 hne2
      have hz206 := hz205.alloc hz205.size (.cells #[.int .i64 (fa : Int), .int .i64 (fb : Int)] 32)
      have hB206 : Blk (w205.alloc (.cells #[.int .i64 (fa : Int), .int .i64 (fb : Int)] 32)) w205.heap.size 32 #[.int .i64 (fa : Int), .int .i64 (fb : Int)] := heap_alloc_new w205 _
      have lB206 : w205.heap.size < (w205.alloc (.cells #[.int .i64 (fa : Int), .int .i64 (fb : Int)] 32)).heap.size := by simp
      have hb206_0 := hb205_0.alloc (.cells #[.int .i64 (fa : Int), .int .i64 (fb : Int)] 32)
      have lt206_0 : g202 < (w205.alloc (.cells #[.int .i64 (fa : Int), .int .i64 (fb : Int)] 32)).heap.size := by simp; omega
      have hb206_1 := hb205_1.alloc (.cells #[.int .i64 (fa : Int), .int .i64 (fb : Int)] 32)
      have lt206_1 : g204 < (w205.alloc (.cells #[.int .i64 (fa : Int), .int .i64 (fb : Int)] 32)).heap.size := by simp; omega
      have hb206_2 := hb205_2.alloc (.cells #[.int .i64 (fa : Int), .int .i64 (fb : Int)] 32)
      have lt206_2 : (g204 + 1) < (w205.alloc (.cells #[.int .i64 (fa : Int), .int .i64 (fb : Int)] 32)).heap.size := by simp; omega
      clear hz205 hb205_0 lt205_0 hb205_1 lt205_1 hb205_2 lt205_2
      go_wp2_with fail
      generalize w205.alloc _ = w206 at *
      generalize w205.heap.size = g206 at *
      refine (BGrows_bad w206 _ _ l m (hlW.below hz206) hf).mono ?_
      rintro e w207 ⟨a3, b3, rfl, hab3, hne3, hx207⟩
      have hz207 := hz206.trans (hx207.mono hz206.size)
      have hb207_0 := hb206_0.below hx207 lt206_0
      have lt207_0 : g202 < w207.heap.size := by have := hx207.size; omega
      have hb207_1 := hb206_1.below hx207 lt206_1
      have lt207_1 : g204 < w207.heap.size := by have := hx207.size; omega
      have hb207_2 := hb206_2.below hx207 lt206_2
      have lt207_2 : (g204 + 1) < w207.heap.size := by have := hx207.size; omega
      have hb207_3 := hB206.below hx207 lB206
      have lt207_3 : g206 < w207.heap.size := by have := hx207.size; omega
      clear hz206 hb206_0 lt206_0 hb206_1 lt206_1 hb206_2 lt206_2 hB206 lB206 hx207
      obtain ⟨e1_, e2_⟩ : a3 = fa ∧ b3 = fb := by have h2 := hab3.symm.trans HFV.out; injection h2 with h3 h4; exact ⟨h3, h4⟩
      rw [e1_] at hne3
      rw [e1_, e2_]
      clear e1_ e2_ hab3 hne3
      have hz208 := hz207.alloc hz207.size (.cells #[.int .i64 (fa : Int), .int .i64 (fb : Int)] 32)
      have hB208 : Blk (w207.alloc (.cells #[.int .i64 (fa : Int), .int .i64 (fb : Int)] 32)) w207.heap.size 32 #[.int .i64 (fa : Int), .int .i64 (fb : Int)] := heap_alloc_new w207 _
      have lB208 : w207.heap.size < (w207.alloc (.cells #[.int .i64 (fa : Int), .int .i64 (fb : Int)] 32)).heap.size := by simp
      have hb208_0 := hb207_0.alloc (.cells #[.int .i64 (fa : Int), .int .i64 (fb : Int)] 32)
      have lt208_0 : g202 < (w207.alloc (.cells #[.int .i64 (fa : Int), .int .i64 (fb : Int)] 32)).heap.size := by simp; omega
      have hb208_1 := hb207_1.alloc (.cells #[.int .i64 (fa : Int), .int .i64 (fb : Int)] 32)
      have lt208_1 : g204 < (w207.alloc (.cells #[.int .i64 (fa : Int), .int .i64 (fb : Int)] 32)).heap.size := by simp; omega
      have hb208_2 := hb207_2.alloc (.cells #[.int .i64 (fa : Int), .int .i64 (fb : Int)] 32)
      have lt208_2 : (g204 + 1) < (w207.alloc (.cells #[.int .i64 (fa : Int), .int .i64 (fb : Int)] 32)).heap.size := by simp; omega
      have hb208_3 := hb207_3.alloc (.cells #[.int .i64 (fa : Int), .int .i64 (fb : Int)] 32)
      have lt208_3 : g206 < (w207.alloc (.cells #[.int .i64 (fa : Int), .int .i64 (fb : Int)] 32)).heap.size := by simp; omega
      clear hz207 hb207_0 lt207_0 hb207_1 lt207_1 hb207_2 lt207_2 hb207_3 lt207_3
      go_upto_region 14 with (fail)
      generalize w207.alloc _ = w208 at *
      generalize w207.heap.size = g208 at *
      have c0_0 : w208.cell? ⟨g202, 0, none⟩ = some (.int .i64 (fa : Int)) := hb208_0.cell 0
      have c0_1 : w208.cell? ⟨g202, 1, none⟩ = some (.int .i64 (fb : Int)) := hb208_0.cell 1
      have c1_0 : w208.cell? ⟨g204, 0, none⟩ = some (.int .i64 0) := hb208_1.cell 0
      have c1_1 : w208.cell? ⟨g204, 1, none⟩ = some (.slice none 0 0) := hb208_1.cell 1
      have c2_0 : w208.cell? ⟨(g204 + 1), 0, none⟩ = some (.int .i64 (fa : Int)) := hb208_2.cell 0
      have c2_1 : w208.cell? ⟨(g204 + 1), 1, none⟩ = some (.int .i64 (fb : Int)) := hb208_2.cell 1
      have c3_0 : w208.cell? ⟨g206, 0, none⟩ = some (.int .i64 (fa : Int)) := hb208_3.cell 0
      have c3_1 : w208.cell? ⟨g206, 1, none⟩ = some (.int .i64 (fb : Int)) := hb208_3.cell 1
      have c4_0 : w208.cell? ⟨g208, 0, none⟩ = some (.int .i64 (fa : Int)) := hB208.cell 0
      have c4_1 : w208.cell? ⟨g208, 1, none⟩ = some (.int .i64 (fb : Int)) := hB208.cell 1
      go_wp2_with fail
      refine (sameHead_yes w208 (fun _ => True) (fun _ => True) 0 (.slice none 0 0) (.slice none 0 0) [] (SlAt.nil_ _ _ _) (SlAt.nil_ _ _ _)).mono ?_
      rintro e w209 ⟨rfl, hx209⟩
      have hz209 := hz208.trans (hx209.mono hz208.size)
      have hb209_0 := hb208_0.below hx209 lt208_0
      have lt209_0 : g202 < w209.heap.size := by have := hx209.size; omega
      have hb209_1 := hb208_1.below hx209 lt208_1
      have lt209_1 : g204 < w209.heap.size := by have := hx209.size; omega
      have hb209_2 := hb208_2.below hx209 lt208_2
      have lt209_2 : (g204 + 1) < w209.heap.size := by have := hx209.size; omega
      have hb209_3 := hb208_3.below hx209 lt208_3
      have lt209_3 : g206 < w209.heap.size := by have := hx209.size; omega
      have hb209_4 := hB208.below hx209 lB208
      have lt209_4 : g208 < w209.heap.size := by have := hx209.size; omega
      clear hz208 hb208_0 lt208_0 hb208_1 lt208_1 hb208_2 lt208_2 hb208_3 lt208_3 hB208 lB208 hx209
      go_wp2_with fail
      go_ret
      exact ⟨by simp, hx0.trans (hz209.mono hx0.size)⟩
end Go.Proofs.Ytfdibjgmbdkbcaa
