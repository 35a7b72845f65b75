/-
  THE WALK of yearlaw2.TreeTells. Conditions: what comes in is read as lists of bytes, an edge and bytes, not too many.
-/
import Derived.Test.YtfdibjgmbdkbcaaR2G
namespace Go.Proofs.Ytfdibjgmbdkbcaa
open Go.RowKit Go.Lib

theorem u64_same (x : Bs) : (x == x) = true := by simp

set_option maxRecDepth 100000 in
set_option maxHeartbeats 40000000 in
theorem treeTells_walk (w : World) (v0 : Value) (ll : List Bs) (hl : BList w (fun _ => True) v0 ll) (i m : Int) (n : Int) (vp : Value) (ps : List Bs) (hp : BList w (fun _ => True) vp ps) (v4 : Value) (b : Bs) (hb : Bytes w (fun _ => True) v4 b) (hz : b.length + b.length ≤ 140737488355000) :
    Calls Try.prog 6 #[v0, .int .i64 i, .int .i64 m, .agg #[.int .i64 n, vp], v4] w fun e w' => e = .returned (.bool true) ∧ Below w.heap.size w w' := by
  obtain ⟨A0, c0, hv0, hac0, hcm0, _⟩ := hl.shape
  subst hv0
  obtain ⟨Ap, cp, hvp, _, _, _⟩ := hp.shape
  subst hvp
  obtain ⟨Ab, cb, hvb, _, _⟩ := hb.form'
  subst hvb
  unfold maxLen at hcm0
  obtain ⟨W, hW⟩ : ∃ W, W = w.alloc (.cells #[.int .i64 n, .slice Ap ps.length cp] 45) := ⟨_, rfl⟩
  have hx0 : Below w.heap.size w W := by rw [hW]; exact (Below.refl _ _).alloc (Nat.le_refl _) _
  have hbe : Blk W w.heap.size 45 #[.int .i64 n, .slice Ap ps.length cp] := by rw [hW]; exact heap_alloc_new w _
  have hgs : w.heap.size < W.heap.size := by rw [hW]; simp
  have hlW := hl.below hx0
  have hpW := hp.below hx0
  have hbW := SlAt.below hb hx0
  have HW := Lib.hid hW
  obtain ⟨fa, fb, hfv⟩ : ∃ fa fb : Nat, wrongS ll = (fa, fb) := ⟨_, _, rfl⟩
  have hw1 := fun (z : World) (hz : Below W.heap.size W z) => wrong_any z _ _ ll (hlW.below hz)
  have hw2 := fun (z : World) (hz : Below W.heap.size W z) => rwrong_any z _ _ ll (hlW.below hz)
  rw [hfv] at hw1 hw2
  have HW1 := Lib.hid hw1
  have HW2 := Lib.hid hw2
  have HFV := Lib.hid hfv
  obtain ⟨nx, xs, kx, hpu1, hpu2⟩ := push_two n ps b
  obtain ⟨tx, kt, hto1, hto2⟩ := top_two n ps
  have HPU1 := Lib.hid hpu1
  have HPU2 := Lib.hid hpu2
  have HTO1 := Lib.hid hto1
  have HTO2 := Lib.hid hto2
  have hin2 : (0 :: b).length ≤ 140737488355200 := by simp; omega
  have hpa2 : (1 :: (b ++ b)).length ≤ 140737488355200 := by simp; omega
  have hbl : b.length ≤ 140737488355000 := by omega
  have hbl2' : b.length ≤ 140737488355100 := by omega
  have hbl2 : b.length + b.length ≤ 140737488355100 := by omega
  clear hW hw1 hw2 hfv hpu1 hpu2 hto1 hto2 hl hp hb
  go_enter Try.func6, Try.ntmps6
  go_wp2_with fail
  rw [← HW.out]
  refine (HW1.out W (Below.refl _ _)).mono ?_
  rintro e w1 ⟨rfl, hz1⟩
  unfold fv
  go_wp2_with fail
  refine (HW2.out w1 hz1).mono ?_
  rintro e w2 ⟨rfl, hx2⟩
  have hz2 := hz1.trans (hx2.mono hz1.size)
  unfold fv
  go_wp2_with fail
  refine (leaf_any w2 _ _ b (SlAt.below hbW hz2) hbl).mono ?_
  rintro e w3 ⟨v3, rfl, hown3, hx3⟩
  have hz3 := hz2.trans (hx3.mono hz2.size)
  obtain ⟨A3, c3, hv3, _, _⟩ := Own.shape hown3
  subst hv3
  have hb3 := OwnB.bytes hown3
  go_wp2_with fail
  refine (In_any w3 _ _ b (SlAt.below hbW hz3) hbl2').mono ?_
  rintro e w4 ⟨v4, rfl, hown4, hx4⟩
  have hz4 := hz3.trans (hx4.mono hz3.size)
  have hb4 := SlAt.below hb3 hx4
  go_wp2_with fail
  refine (refsum_any w4 _ _ (0 :: b) (OwnB.bytes hown4) hin2).mono ?_
  rintro e w5 ⟨v5, rfl, hown5, hx5⟩
  have hz5 := hz4.trans (hx5.mono hz4.size)
  have hb5 := SlAt.below hb4 hx5
  have hs5 : OwnB w5 w4.heap.size v5 (Tr.leafH b) := hown5
  clear hown3 hown4 hb3 hb4 hx2 hx3 hx4 hx5 hown5
  go_wp2_with fail
  refine (same_any w5 _ _ _ v5 _ _ hb5 (OwnB.bytes hs5)).mono ?_
  rintro e w6 ⟨rfl, n6, rfl⟩
  rw [u64_same]
  have hz6 := below_drewN hz5 n6
  clear hb5 hs5
  generalize w5.drewN n6 = w6 at *
  go_wp2_with fail
  refine (node_any w6 _ _ _ _ b b (SlAt.below hbW hz6) (SlAt.below hbW hz6) hz).mono ?_
  rintro e w7 ⟨v7, rfl, hown7, hx7⟩
  have hz7 := hz6.trans (hx7.mono hz6.size)
  obtain ⟨A7, c7, hv7, _, _⟩ := Own.shape hown7
  subst hv7
  have hb7 := OwnB.bytes hown7
  go_wp2_with fail
  refine (Pair_any w7 _ _ _ _ b b (SlAt.below hbW hz7) (SlAt.below hbW hz7) hbl2).mono ?_
  rintro e w8 ⟨v8, rfl, hown8, hx8⟩
  have hz8 := hz7.trans (hx8.mono hz7.size)
  have hb8 := SlAt.below hb7 hx8
  go_wp2_with fail
  refine (refsum_any w8 _ _ (1 :: (b ++ b)) (OwnB.bytes hown8) hpa2).mono ?_
  rintro e w9 ⟨v9, rfl, hown9, hx9⟩
  have hz9 := hz8.trans (hx9.mono hz8.size)
  have hb9 := SlAt.below hb8 hx9
  have hs9 : OwnB w9 w8.heap.size v9 (Tr.nodeH b b) := hown9
  clear hown7 hown8 hb7 hb8 hx7 hx8 hx9 hown9
  go_wp2_with fail
  refine (same_any w9 _ _ _ v9 _ _ hb9 (OwnB.bytes hs9)).mono ?_
  rintro e w10 ⟨rfl, n10, rfl⟩
  rw [u64_same]
  have hz10 := below_drewN hz9 n10
  clear hb9 hs9 hz1 hz2 hz3 hz4 hz5 hz6 hz7 hz8 hz9
  generalize w9.drewN n10 = w10 at *
  have e0 : w10.cell? ⟨w.heap.size, 0, none⟩ = some (.int .i64 n) := (hz10.cell (p := ⟨w.heap.size, 0, none⟩) hgs).trans (hbe.cell 0)
  have e1 : w10.cell? ⟨w.heap.size, 1, none⟩ = some (.slice Ap ps.length cp) := (hz10.cell (p := ⟨w.heap.size, 1, none⟩) hgs).trans (hbe.cell 1)
  go_wp2_with fail
  refine (HPU1.out w10 _ _ _ _ (hpW.below hz10) (SlAt.below hbW hz10)).mono ?_
  rintro e w11 ⟨v11, rfl, hx11l, hx11⟩
  have hz11 := hz10.trans (hx11.mono hz10.size)
  obtain ⟨A11, c11, hv11, _, _, _⟩ := hx11l.shape
  subst hv11
  have hzA := hz11.alloc hz11.size (.cells #[.int .i64 nx, .slice A11 xs.length c11] 45)
  have hbA : Blk (w11.alloc (.cells #[.int .i64 nx, .slice A11 xs.length c11] 45)) w11.heap.size 45 #[.int .i64 nx, .slice A11 xs.length c11] := heap_alloc_new w11 _
  have hlA := hx11l.alloc (.cells #[.int .i64 nx, .slice A11 xs.length c11] 45)
  have hgA : w11.heap.size < (w11.alloc (.cells #[.int .i64 nx, .slice A11 xs.length c11] 45)).heap.size := by simp
  have hgW : W.heap.size ≤ w11.heap.size := hz11.size
  have e0 := (hzA.cell (p := ⟨w.heap.size, 0, none⟩) hgs).trans (hbe.cell 0)
  have e1 := (hzA.cell (p := ⟨w.heap.size, 1, none⟩) hgs).trans (hbe.cell 1)
  simp only [List.getElem?_toArray, List.getElem?_cons_zero, List.getElem?_cons_succ] at e0 e1
  clear hx11 hz11 hx11l
  go_wp2_with fail
  generalize w11.alloc _ = wA at *
  generalize w11.heap.size = gA at *
  refine (HPU2.out wA _ _ _ _ (hpW.below hzA) (SlAt.below hbW hzA)).mono ?_
  rintro e w12 ⟨v12, rfl, hx12l, hx12⟩
  have hz12 := hzA.trans (hx12.mono hzA.size)
  have hb12 := hbA.below hx12 hgA
  have hl12 := hlA.below hx12
  have hg12 : gA < w12.heap.size := by have := hx12.size; omega
  obtain ⟨A12, c12, hv12, _, _, _⟩ := hx12l.shape
  subst hv12
  clear e0 e1 hzA hbA hlA hgA hx12
  have hzB := hz12.alloc hz12.size (.cells #[.int .i64 nx, .slice A12 xs.length c12] 45)
  have hbB : Blk (w12.alloc (.cells #[.int .i64 nx, .slice A12 xs.length c12] 45)) w12.heap.size 45 #[.int .i64 nx, .slice A12 xs.length c12] := heap_alloc_new w12 _
  have hb12B := hb12.alloc (.cells #[.int .i64 nx, .slice A12 xs.length c12] 45)
  have hl12B := hl12.alloc (.cells #[.int .i64 nx, .slice A12 xs.length c12] 45)
  have hx12B := hx12l.alloc (.cells #[.int .i64 nx, .slice A12 xs.length c12] 45)
  have hgB : w12.heap.size < (w12.alloc (.cells #[.int .i64 nx, .slice A12 xs.length c12] 45)).heap.size := by simp
  have hgBA : gA < (w12.alloc (.cells #[.int .i64 nx, .slice A12 xs.length c12] 45)).heap.size := by simp; omega
  have e0 := (hzB.cell (p := ⟨w.heap.size, 0, none⟩) hgs).trans (hbe.cell 0)
  have e1 := (hzB.cell (p := ⟨w.heap.size, 1, none⟩) hgs).trans (hbe.cell 1)
  simp only [List.getElem?_toArray, List.getElem?_cons_zero, List.getElem?_cons_succ] at e0 e1
  clear hz12 hb12 hl12 hx12l hg12
  go_wp2_with fail
  generalize w12.alloc _ = wB at *
  generalize w12.heap.size = gB at *
  refine (HTO1.out wB _ _ (hpW.below hzB)).mono ?_
  rintro e w13 ⟨v13, rfl, ht13, hx13⟩
  have hz13 := hzB.trans (hx13.mono hzB.size)
  have hbB13 := hbB.below hx13 hgB
  have hbA13 := hb12B.below hx13 hgBA
  have hlA13 := hl12B.below hx13
  have hlB13 := hx12B.below hx13
  have hg1 : gA < w13.heap.size := by have := hx13.size; omega
  have hg2 : gB < w13.heap.size := by have := hx13.size; omega
  obtain ⟨A13, c13, hv13, _, _⟩ := ht13.form'
  subst hv13
  clear e0 e1 hzB hbB hb12B hl12B hx12B hx13 hgB hgBA
  have e0 := (hz13.cell (p := ⟨w.heap.size, 0, none⟩) hgs).trans (hbe.cell 0)
  have e1 := (hz13.cell (p := ⟨w.heap.size, 1, none⟩) hgs).trans (hbe.cell 1)
  simp only [List.getElem?_toArray, List.getElem?_cons_zero, List.getElem?_cons_succ] at e0 e1
  go_wp2_with fail
  refine (HTO2.out w13 _ _ (hpW.below hz13)).mono ?_
  rintro e w14 ⟨v14, rfl, ht14, hx14⟩
  have hz14 := hz13.trans (hx14.mono hz13.size)
  have hbB14 := hbB13.below hx14 hg2
  have hbA14 := hbA13.below hx14 hg1
  have hlA14 := hlA13.below hx14
  have hlB14 := hlB13.below hx14
  have ht14' := SlAt.below ht13 hx14
  clear e0 e1 hz13 hbB13 hbA13 hlA13 hlB13 ht13 hx14
  have a0 : w14.cell? ⟨gA, 0, none⟩ = some (.int .i64 nx) := hbA14.cell 0
  have a1 : w14.cell? ⟨gA, 1, none⟩ = some (.slice A11 xs.length c11) := hbA14.cell 1
  have b0 : w14.cell? ⟨gB, 0, none⟩ = some (.int .i64 nx) := hbB14.cell 0
  have b1 : w14.cell? ⟨gB, 1, none⟩ = some (.slice A12 xs.length c12) := hbB14.cell 1
  go_wp2_with fail
  refine (sameEdge_yes w14 _ _ _ _ nx xs hlA14 hlB14).mono ?_
  rintro e w15 ⟨rfl, hx15⟩
  have hz15 := hz14.trans (hx15.mono hz14.size)
  have ht15 := SlAt.below ht14 hx15
  have ht15' := SlAt.below ht14' hx15
  clear a0 a1 b0 b1 hbA14 hbB14 hlA14 hlB14 ht14 ht14' hx15 hz14
  go_wp2_with fail
  refine (same_any w15 _ _ _ v14 _ _ ht15' ht15).mono ?_
  rintro e w16 ⟨rfl, n16, rfl⟩
  rw [u64_same]
  have hz16 := below_drewN hz15 n16
  clear ht15 ht15' hz15
  generalize w15.drewN n16 = w16 at *
  go_wp2_with fail
  -- from here printed by gen_ltells.py
  by_cases hf : Fine ll
  · obtain ⟨rfl, rfl⟩ : fa = 0 ∧ fb = 0 := by have h1 := wrongS_zero ll ((wrongS_ok ll).2 hf); have h2 := HFV.out.symm.trans h1; injection h2 with h3 h4; exact ⟨h3, h4⟩
    have hsh := hf.short
    have hlen := hf.1
    refine (Root_fine w16 _ _ ll (hlW.below hz16) hf).mono ?_
    rintro e w101 ⟨rv, rfl, ho, hx101⟩
    have hz101 := hz16.trans (hx101.mono hz16.size)
    clear hz16 hx101
    obtain ⟨A20, c20, hrv, _, _⟩ := Own.shape ho
    subst hrv
    have hr0 := (OwnB.bytes ho).weak (F' := fun _ => True) (fun _ _ _ => trivial)
    clear ho
    obtain ⟨R, hR⟩ : ∃ R, Tr.root (ll.map Tr.leafH) = R := ⟨_, rfl⟩
    rw [hR] at hr0 ⊢
    have HR := Lib.hid hR
    clear hR
    have hz102 := hz101.alloc hz101.size (.cells #[.int .i64 0, .int .i64 0] 32)
    have hB102 : Blk (w101.alloc (.cells #[.int .i64 0, .int .i64 0] 32)) w101.heap.size 32 #[.int .i64 0, .int .i64 0] := heap_alloc_new w101 _
    have lB102 : w101.heap.size < (w101.alloc (.cells #[.int .i64 0, .int .i64 0] 32)).heap.size := by simp
    have hd102_0 := SlAt.alloc hr0 (.cells #[.int .i64 0, .int .i64 0] 32)
    clear hz101 hr0
    go_wp2_with fail
    generalize w101.alloc _ = w102 at *
    generalize w101.heap.size = g102 at *
    rcases (show (0 ≤ i ∧ i < (ll.length : Int)) ∨ i < 0 ∨ (¬ i < 0 ∧ (ll.length : Int) ≤ i) by omega) with hin | hi1 | ⟨hi1, hi2⟩
    · skip
      have HI := Lib.hid hin
      refine (Path_fine w102 _ _ ll i (hlW.below hz102) hf hin.1 hin.2).mono ?_
      rintro e w103 ⟨pv, rfl, hpo, hx103⟩
      have hz103 := hz102.trans (hx103.mono hz102.size)
      have hb103_0 := hB102.below hx103 lB102
      have lt103_0 : g102 < w103.heap.size := by have := hx103.size; omega
      have hd103_0 := SlAt.below hd102_0 hx103
      clear hz102 hB102 lB102 hd102_0 hx103
      have hp0 := hpo.blist.weak (F' := fun _ => True) (fun _ _ _ => trivial)
      obtain ⟨A21, c21, hpv, _, _, _⟩ := hp0.shape
      subst hpv
      clear hpo
      obtain ⟨PL, hPL⟩ : ∃ R, Tr.path (ll.map Tr.leafH) i.toNat = R := ⟨_, rfl⟩
      rw [hPL] at hp0 ⊢
      have HPL := Lib.hid hPL
      clear hPL
      have hz104 := hz103.alloc hz103.size (.cells #[.int .i64 0, .int .i64 0] 32)
      have hB104 : Blk (w103.alloc (.cells #[.int .i64 0, .int .i64 0] 32)) w103.heap.size 32 #[.int .i64 0, .int .i64 0] := heap_alloc_new w103 _
      have lB104 : w103.heap.size < (w103.alloc (.cells #[.int .i64 0, .int .i64 0] 32)).heap.size := by simp
      have hb104_0 := hb103_0.alloc (.cells #[.int .i64 0, .int .i64 0] 32)
      have lt104_0 : g102 < (w103.alloc (.cells #[.int .i64 0, .int .i64 0] 32)).heap.size := by simp; omega
      have hd104_0 := SlAt.alloc hd103_0 (.cells #[.int .i64 0, .int .i64 0] 32)
      have hd104_1 := hp0.alloc (.cells #[.int .i64 0, .int .i64 0] 32)
      clear hz103 hb103_0 lt103_0 hd103_0 hp0
      go_wp2_with fail
      generalize w103.alloc _ = w104 at *
      generalize w103.heap.size = g104 at *
      rcases (show (1 ≤ m ∧ m ≤ (ll.length : Int)) ∨ m < 1 ∨ (¬ m < 1 ∧ (ll.length : Int) < m) by omega) with hmn | hm1 | ⟨hm1, hm2⟩
      · as_aux_lemma =>
        have HM := Lib.hid hmn
        refine (Grows_fine w104 _ _ ll m (hlW.below hz104) hf hmn.1 hmn.2).mono ?_
        rintro e w105 ⟨qv, rfl, hqo, hx105⟩
        have hz105 := hz104.trans (hx105.mono hz104.size)
        have hb105_0 := hb104_0.below hx105 lt104_0
        have lt105_0 : g102 < w105.heap.size := by have := hx105.size; omega
        have hb105_1 := hB104.below hx105 lB104
        have lt105_1 : g104 < w105.heap.size := by have := hx105.size; omega
        have hd105_0 := SlAt.below hd104_0 hx105
        have hd105_1 := hd104_1.below hx105
        clear hz104 hb104_0 lt104_0 hB104 lB104 hd104_0 hd104_1 hx105
        have hq0 := hqo.blist.weak (F' := fun _ => True) (fun _ _ _ => trivial)
        obtain ⟨A23, c23, hqv, _, _, _⟩ := hq0.shape
        subst hqv
        clear hqo
        obtain ⟨QL, hQL⟩ : ∃ R, Tr.grows (ll.map Tr.leafH) m.toNat true = R := ⟨_, rfl⟩
        rw [hQL] at hq0 ⊢
        have HQL := Lib.hid hQL
        clear hQL
        have hz106 := hz105.alloc hz105.size (.cells #[.int .i64 0, .int .i64 0] 32)
        have hB106 : Blk (w105.alloc (.cells #[.int .i64 0, .int .i64 0] 32)) w105.heap.size 32 #[.int .i64 0, .int .i64 0] := heap_alloc_new w105 _
        have lB106 : w105.heap.size < (w105.alloc (.cells #[.int .i64 0, .int .i64 0] 32)).heap.size := by simp
        have hb106_0 := hb105_0.alloc (.cells #[.int .i64 0, .int .i64 0] 32)
        have lt106_0 : g102 < (w105.alloc (.cells #[.int .i64 0, .int .i64 0] 32)).heap.size := by simp; omega
        have hb106_1 := hb105_1.alloc (.cells #[.int .i64 0, .int .i64 0] 32)
        have lt106_1 : g104 < (w105.alloc (.cells #[.int .i64 0, .int .i64 0] 32)).heap.size := by simp; omega
        have hd106_0 := SlAt.alloc hd105_0 (.cells #[.int .i64 0, .int .i64 0] 32)
        have hd106_1 := hd105_1.alloc (.cells #[.int .i64 0, .int .i64 0] 32)
        have hd106_2 := hq0.alloc (.cells #[.int .i64 0, .int .i64 0] 32)
        clear hz105 hb105_0 lt105_0 hb105_1 lt105_1 hd105_0 hd105_1 hq0
        go_wp2_with fail
        generalize w105.alloc _ = w106 at *
        generalize w105.heap.size = g106 at *
        refine (HW2.out w106 hz106).mono ?_
        rintro e w107 ⟨rfl, hx107⟩
        have hz107 := hz106.trans (hx107.mono hz106.size)
        have hb107_0 := hb106_0.below hx107 lt106_0
        have lt107_0 : g102 < w107.heap.size := by have := hx107.size; omega
        have hb107_1 := hb106_1.below hx107 lt106_1
        have lt107_1 : g104 < w107.heap.size := by have := hx107.size; omega
        have hb107_2 := hB106.below hx107 lB106
        have lt107_2 : g106 < w107.heap.size := by have := hx107.size; omega
        have hd107_0 := SlAt.below hd106_0 hx107
        have hd107_1 := hd106_1.below hx107
        have hd107_2 := hd106_2.below hx107
        clear hz106 hb106_0 lt106_0 hb106_1 lt106_1 hB106 lB106 hd106_0 hd106_1 hd106_2 hx107
        unfold fv
        obtain ⟨w108, hW108⟩ : ∃ z, z = (w107.alloc (.cells #[.int .i64 0, .int .i64 0] 32)) := ⟨_, rfl⟩
        have hz108 : Below W.heap.size W w108 := by rw [hW108]; exact hz107.alloc hz107.size (.cells #[.int .i64 0, .int .i64 0] 32)
        have hB108 : Blk w108 w107.heap.size 32 #[.int .i64 0, .int .i64 0] := by rw [hW108]; exact heap_alloc_new w107 _
        have lB108 : w107.heap.size < w108.heap.size := by rw [hW108]; simp
        have hb108_0 : Blk w108 g102 32 #[.int .i64 0, .int .i64 0] := by rw [hW108]; exact hb107_0.alloc (.cells #[.int .i64 0, .int .i64 0] 32)
        have lt108_0 : g102 < w108.heap.size := by rw [hW108]; simp; omega
        have hb108_1 : Blk w108 g104 32 #[.int .i64 0, .int .i64 0] := by rw [hW108]; exact hb107_1.alloc (.cells #[.int .i64 0, .int .i64 0] 32)
        have lt108_1 : g104 < w108.heap.size := by rw [hW108]; simp; omega
        have hb108_2 : Blk w108 g106 32 #[.int .i64 0, .int .i64 0] := by rw [hW108]; exact hb107_2.alloc (.cells #[.int .i64 0, .int .i64 0] 32)
        have lt108_2 : g106 < w108.heap.size := by rw [hW108]; simp; omega
        have hxx108 : Below w107.heap.size w107 w108 := by rw [hW108]; exact (Below.refl _ _).alloc (Nat.le_refl _) _
        have hd108_0 := SlAt.below hd107_0 hxx108
        have hd108_1 := hd107_1.below hxx108
        have hd108_2 := hd107_2.below hxx108
        have HWk := Lib.hid hW108
        clear hz107 hb107_0 lt107_0 hb107_1 lt107_1 hb107_2 lt107_2 hd107_0 hd107_1 hd107_2 hxx108 hW108
        try dsimp only
        go_upto_region 13 with (fail)
        first | rw [← HWk.out] | skip
        have c0_0 : w108.cell? ⟨g102, 0, none⟩ = some (.int .i64 0) := hb108_0.cell 0
        have c0_1 : w108.cell? ⟨g102, 1, none⟩ = some (.int .i64 0) := hb108_0.cell 1
        have c1_0 : w108.cell? ⟨g104, 0, none⟩ = some (.int .i64 0) := hb108_1.cell 0
        have c1_1 : w108.cell? ⟨g104, 1, none⟩ = some (.int .i64 0) := hb108_1.cell 1
        have c2_0 : w108.cell? ⟨g106, 0, none⟩ = some (.int .i64 0) := hb108_2.cell 0
        have c2_1 : w108.cell? ⟨g106, 1, none⟩ = some (.int .i64 0) := hb108_2.cell 1
        have c3_0 : w108.cell? ⟨w107.heap.size, 0, none⟩ = some (.int .i64 0) := hB108.cell 0
        have c3_1 : w108.cell? ⟨w107.heap.size, 1, none⟩ = some (.int .i64 0) := hB108.cell 1
        go_wp2_with fail
        refine (root_ref ll.length w108 _ _ ll (hlW.below hz108) rfl (by omega) hsh).mono ?_
        rintro e w109 ⟨mv, rfl, hmo, hx109⟩
        have hz109 := hz108.trans (hx109.mono hz108.size)
        have hb109_0 := hb108_0.below hx109 lt108_0
        have lt109_0 : g102 < w109.heap.size := by have := hx109.size; omega
        have hb109_1 := hb108_1.below hx109 lt108_1
        have lt109_1 : g104 < w109.heap.size := by have := hx109.size; omega
        have hb109_2 := hb108_2.below hx109 lt108_2
        have lt109_2 : g106 < w109.heap.size := by have := hx109.size; omega
        have hb109_3 := hB108.below hx109 lB108
        have lt109_3 : w107.heap.size < w109.heap.size := by have := hx109.size; omega
        have hd109_0 := SlAt.below hd108_0 hx109
        have hd109_1 := hd108_1.below hx109
        have hd109_2 := hd108_2.below hx109
        clear hz108 hb108_0 lt108_0 hb108_1 lt108_1 hb108_2 lt108_2 hB108 lB108 hd108_0 hd108_1 hd108_2 hx109
        clear c0_0 c0_1 c1_0 c1_1 c2_0 c2_1 c3_0 c3_1
        rw [HR.out] at hmo
        go_wp2_with fail
        refine (same_any w109 _ _ _ mv R R hd109_0 (OwnB.bytes hmo)).mono ?_
        rintro e w_ ⟨rfl, n110, rfl⟩
        rw [u64_same]
        clear hmo
        have hx110 := below_drewN (Below.refl w109.heap.size w109) n110
        have hz110 := below_drewN hz109 n110
        have hb110_0 := hb109_0.drewN n110
        have lt110_0 : g102 < (w109.drewN n110).heap.size := lt109_0
        have hb110_1 := hb109_1.drewN n110
        have lt110_1 : g104 < (w109.drewN n110).heap.size := lt109_1
        have hb110_2 := hb109_2.drewN n110
        have lt110_2 : g106 < (w109.drewN n110).heap.size := lt109_2
        have hb110_3 := hb109_3.drewN n110
        have lt110_3 : w107.heap.size < (w109.drewN n110).heap.size := lt109_3
        have hd110_0 := SlAt.below hd109_0 hx110
        have hd110_1 := hd109_1.below hx110
        have hd110_2 := hd109_2.below hx110
        clear hz109 hb109_0 lt109_0 hb109_1 lt109_1 hb109_2 lt109_2 hb109_3 lt109_3 hd109_0 hd109_1 hd109_2 hx110
        generalize w109.drewN n110 = w110 at *
        have c0_0 : w110.cell? ⟨g102, 0, none⟩ = some (.int .i64 0) := hb110_0.cell 0
        have c0_1 : w110.cell? ⟨g102, 1, none⟩ = some (.int .i64 0) := hb110_0.cell 1
        have c1_0 : w110.cell? ⟨g104, 0, none⟩ = some (.int .i64 0) := hb110_1.cell 0
        have c1_1 : w110.cell? ⟨g104, 1, none⟩ = some (.int .i64 0) := hb110_1.cell 1
        have c2_0 : w110.cell? ⟨g106, 0, none⟩ = some (.int .i64 0) := hb110_2.cell 0
        have c2_1 : w110.cell? ⟨g106, 1, none⟩ = some (.int .i64 0) := hb110_2.cell 1
        have c3_0 : w110.cell? ⟨w107.heap.size, 0, none⟩ = some (.int .i64 0) := hb110_3.cell 0
        have c3_1 : w110.cell? ⟨w107.heap.size, 1, none⟩ = some (.int .i64 0) := hb110_3.cell 1
        have bi1 : decide (i < 0) = false := decide_eq_false (by have := HI.out.1; omega)
        have bi2 : decide ((ll.length : Int) ≤ i) = false := decide_eq_false (by have := HI.out.2; omega)
        go_wp2_with fail
        refine (rpath_any ll.length w110 _ _ ll i.toNat _ (hlW.below hz110) rfl (by omega) (by have := HI.out.2; omega) (by have := HI.out.1; omega) hsh).mono ?_
        rintro e w111 ⟨yv, rfl, hyo, hx111⟩
        have hz111 := hz110.trans (hx111.mono hz110.size)
        have hb111_0 := hb110_0.below hx111 lt110_0
        have lt111_0 : g102 < w111.heap.size := by have := hx111.size; omega
        have hb111_1 := hb110_1.below hx111 lt110_1
        have lt111_1 : g104 < w111.heap.size := by have := hx111.size; omega
        have hb111_2 := hb110_2.below hx111 lt110_2
        have lt111_2 : g106 < w111.heap.size := by have := hx111.size; omega
        have hb111_3 := hb110_3.below hx111 lt110_3
        have lt111_3 : w107.heap.size < w111.heap.size := by have := hx111.size; omega
        have hd111_0 := SlAt.below hd110_0 hx111
        have hd111_1 := hd110_1.below hx111
        have hd111_2 := hd110_2.below hx111
        clear hz110 hb110_0 lt110_0 hb110_1 lt110_1 hb110_2 lt110_2 hb110_3 lt110_3 hd110_0 hd110_1 hd110_2 hx111
        clear c0_0 c0_1 c1_0 c1_1 c2_0 c2_1 c3_0 c3_1
        rw [HPL.out] at hyo
        go_wp2_with fail
        refine (same2_yes w111 _ _ _ yv PL hd111_1 hyo.blist).mono ?_
        rintro e w_ ⟨rfl, n112, rfl⟩
        clear hyo
        have hx112 := below_drewN (Below.refl w111.heap.size w111) n112
        have hz112 := below_drewN hz111 n112
        have hb112_0 := hb111_0.drewN n112
        have lt112_0 : g102 < (w111.drewN n112).heap.size := lt111_0
        have hb112_1 := hb111_1.drewN n112
        have lt112_1 : g104 < (w111.drewN n112).heap.size := lt111_1
        have hb112_2 := hb111_2.drewN n112
        have lt112_2 : g106 < (w111.drewN n112).heap.size := lt111_2
        have hb112_3 := hb111_3.drewN n112
        have lt112_3 : w107.heap.size < (w111.drewN n112).heap.size := lt111_3
        have hd112_0 := SlAt.below hd111_0 hx112
        have hd112_1 := hd111_1.below hx112
        have hd112_2 := hd111_2.below hx112
        clear hz111 hb111_0 lt111_0 hb111_1 lt111_1 hb111_2 lt111_2 hb111_3 lt111_3 hd111_0 hd111_1 hd111_2 hx112
        generalize w111.drewN n112 = w112 at *
        have c0_0 : w112.cell? ⟨g102, 0, none⟩ = some (.int .i64 0) := hb112_0.cell 0
        have c0_1 : w112.cell? ⟨g102, 1, none⟩ = some (.int .i64 0) := hb112_0.cell 1
        have c1_0 : w112.cell? ⟨g104, 0, none⟩ = some (.int .i64 0) := hb112_1.cell 0
        have c1_1 : w112.cell? ⟨g104, 1, none⟩ = some (.int .i64 0) := hb112_1.cell 1
        have c2_0 : w112.cell? ⟨g106, 0, none⟩ = some (.int .i64 0) := hb112_2.cell 0
        have c2_1 : w112.cell? ⟨g106, 1, none⟩ = some (.int .i64 0) := hb112_2.cell 1
        have c3_0 : w112.cell? ⟨w107.heap.size, 0, none⟩ = some (.int .i64 0) := hb112_3.cell 0
        have c3_1 : w112.cell? ⟨w107.heap.size, 1, none⟩ = some (.int .i64 0) := hb112_3.cell 1
        have bm1 : decide (m < 1) = false := decide_eq_false (by have := HM.out.1; omega)
        have bm2 : decide ((ll.length : Int) < m) = false := decide_eq_false (by have := HM.out.2; omega)
        go_wp2_with fail
        refine (rproof_any ll.length w112 _ _ ll m.toNat _ true (hlW.below hz112) rfl (by omega) (by have := HM.out.1; omega) (by have := HM.out; omega) (by have := HM.out.1; omega) hsh).mono ?_
        rintro e w113 ⟨zv, rfl, hzo, hx113⟩
        have hz113 := hz112.trans (hx113.mono hz112.size)
        have hb113_0 := hb112_0.below hx113 lt112_0
        have lt113_0 : g102 < w113.heap.size := by have := hx113.size; omega
        have hb113_1 := hb112_1.below hx113 lt112_1
        have lt113_1 : g104 < w113.heap.size := by have := hx113.size; omega
        have hb113_2 := hb112_2.below hx113 lt112_2
        have lt113_2 : g106 < w113.heap.size := by have := hx113.size; omega
        have hb113_3 := hb112_3.below hx113 lt112_3
        have lt113_3 : w107.heap.size < w113.heap.size := by have := hx113.size; omega
        have hd113_0 := SlAt.below hd112_0 hx113
        have hd113_1 := hd112_1.below hx113
        have hd113_2 := hd112_2.below hx113
        clear hz112 hb112_0 lt112_0 hb112_1 lt112_1 hb112_2 lt112_2 hb112_3 lt112_3 hd112_0 hd112_1 hd112_2 hx113
        clear c0_0 c0_1 c1_0 c1_1 c2_0 c2_1 c3_0 c3_1
        rw [HQL.out] at hzo
        go_wp2_with fail
        refine (same2_yes w113 _ _ _ zv QL hd113_2 hzo.blist).mono ?_
        rintro e w_ ⟨rfl, n114, rfl⟩
        clear hzo
        have hx114 := below_drewN (Below.refl w113.heap.size w113) n114
        have hz114 := below_drewN hz113 n114
        have hb114_0 := hb113_0.drewN n114
        have lt114_0 : g102 < (w113.drewN n114).heap.size := lt113_0
        have hb114_1 := hb113_1.drewN n114
        have lt114_1 : g104 < (w113.drewN n114).heap.size := lt113_1
        have hb114_2 := hb113_2.drewN n114
        have lt114_2 : g106 < (w113.drewN n114).heap.size := lt113_2
        have hb114_3 := hb113_3.drewN n114
        have lt114_3 : w107.heap.size < (w113.drewN n114).heap.size := lt113_3
        have hd114_0 := SlAt.below hd113_0 hx114
        have hd114_1 := hd113_1.below hx114
        have hd114_2 := hd113_2.below hx114
        clear hz113 hb113_0 lt113_0 hb113_1 lt113_1 hb113_2 lt113_2 hb113_3 lt113_3 hd113_0 hd113_1 hd113_2 hx114
        generalize w113.drewN n114 = w114 at *
        go_wp2_with fail
        go_ret
        exact ⟨rfl, hx0.trans (hz114.mono hx0.size)⟩
      · as_aux_lemma =>
        have hmn : ¬ (1 ≤ m ∧ m ≤ (ll.length : Int)) := by omega
        have HM := Lib.hid hmn
        refine (Grows_none w104 _ _ ll m (hlW.below hz104) hf hmn).mono ?_
        rintro e w105 ⟨rfl, hx105⟩
        have hz105 := hz104.trans (hx105.mono hz104.size)
        have hb105_0 := hb104_0.below hx105 lt104_0
        have lt105_0 : g102 < w105.heap.size := by have := hx105.size; omega
        have hb105_1 := hB104.below hx105 lB104
        have lt105_1 : g104 < w105.heap.size := by have := hx105.size; omega
        have hd105_0 := SlAt.below hd104_0 hx105
        have hd105_1 := hd104_1.below hx105
        clear hz104 hb104_0 lt104_0 hB104 lB104 hd104_0 hd104_1 hx105
        have hz106 := hz105.alloc hz105.size (.cells #[.int .i64 3, .int .i64 0] 32)
        have hB106 : Blk (w105.alloc (.cells #[.int .i64 3, .int .i64 0] 32)) w105.heap.size 32 #[.int .i64 3, .int .i64 0] := heap_alloc_new w105 _
        have lB106 : w105.heap.size < (w105.alloc (.cells #[.int .i64 3, .int .i64 0] 32)).heap.size := by simp
        have hb106_0 := hb105_0.alloc (.cells #[.int .i64 3, .int .i64 0] 32)
        have lt106_0 : g102 < (w105.alloc (.cells #[.int .i64 3, .int .i64 0] 32)).heap.size := by simp; omega
        have hb106_1 := hb105_1.alloc (.cells #[.int .i64 3, .int .i64 0] 32)
        have lt106_1 : g104 < (w105.alloc (.cells #[.int .i64 3, .int .i64 0] 32)).heap.size := by simp; omega
        have hd106_0 := SlAt.alloc hd105_0 (.cells #[.int .i64 3, .int .i64 0] 32)
        have hd106_1 := hd105_1.alloc (.cells #[.int .i64 3, .int .i64 0] 32)
        clear hz105 hb105_0 lt105_0 hb105_1 lt105_1 hd105_0 hd105_1
        go_wp2_with fail
        generalize w105.alloc _ = w106 at *
        generalize w105.heap.size = g106 at *
        refine (HW2.out w106 hz106).mono ?_
        rintro e w107 ⟨rfl, hx107⟩
        have hz107 := hz106.trans (hx107.mono hz106.size)
        have hb107_0 := hb106_0.below hx107 lt106_0
        have lt107_0 : g102 < w107.heap.size := by have := hx107.size; omega
        have hb107_1 := hb106_1.below hx107 lt106_1
        have lt107_1 : g104 < w107.heap.size := by have := hx107.size; omega
        have hb107_2 := hB106.below hx107 lB106
        have lt107_2 : g106 < w107.heap.size := by have := hx107.size; omega
        have hd107_0 := SlAt.below hd106_0 hx107
        have hd107_1 := hd106_1.below hx107
        clear hz106 hb106_0 lt106_0 hb106_1 lt106_1 hB106 lB106 hd106_0 hd106_1 hx107
        unfold fv
        obtain ⟨w108, hW108⟩ : ∃ z, z = (w107.alloc (.cells #[.int .i64 0, .int .i64 0] 32)) := ⟨_, rfl⟩
        have hz108 : Below W.heap.size W w108 := by rw [hW108]; exact hz107.alloc hz107.size (.cells #[.int .i64 0, .int .i64 0] 32)
        have hB108 : Blk w108 w107.heap.size 32 #[.int .i64 0, .int .i64 0] := by rw [hW108]; exact heap_alloc_new w107 _
        have lB108 : w107.heap.size < w108.heap.size := by rw [hW108]; simp
        have hb108_0 : Blk w108 g102 32 #[.int .i64 0, .int .i64 0] := by rw [hW108]; exact hb107_0.alloc (.cells #[.int .i64 0, .int .i64 0] 32)
        have lt108_0 : g102 < w108.heap.size := by rw [hW108]; simp; omega
        have hb108_1 : Blk w108 g104 32 #[.int .i64 0, .int .i64 0] := by rw [hW108]; exact hb107_1.alloc (.cells #[.int .i64 0, .int .i64 0] 32)
        have lt108_1 : g104 < w108.heap.size := by rw [hW108]; simp; omega
        have hb108_2 : Blk w108 g106 32 #[.int .i64 3, .int .i64 0] := by rw [hW108]; exact hb107_2.alloc (.cells #[.int .i64 0, .int .i64 0] 32)
        have lt108_2 : g106 < w108.heap.size := by rw [hW108]; simp; omega
        have hxx108 : Below w107.heap.size w107 w108 := by rw [hW108]; exact (Below.refl _ _).alloc (Nat.le_refl _) _
        have hd108_0 := SlAt.below hd107_0 hxx108
        have hd108_1 := hd107_1.below hxx108
        have HWk := Lib.hid hW108
        clear hz107 hb107_0 lt107_0 hb107_1 lt107_1 hb107_2 lt107_2 hd107_0 hd107_1 hxx108 hW108
        try dsimp only
        go_upto_region 13 with (fail)
        first | rw [← HWk.out] | skip
        have c0_0 : w108.cell? ⟨g102, 0, none⟩ = some (.int .i64 0) := hb108_0.cell 0
        have c0_1 : w108.cell? ⟨g102, 1, none⟩ = some (.int .i64 0) := hb108_0.cell 1
        have c1_0 : w108.cell? ⟨g104, 0, none⟩ = some (.int .i64 0) := hb108_1.cell 0
        have c1_1 : w108.cell? ⟨g104, 1, none⟩ = some (.int .i64 0) := hb108_1.cell 1
        have c2_0 : w108.cell? ⟨g106, 0, none⟩ = some (.int .i64 3) := hb108_2.cell 0
        have c2_1 : w108.cell? ⟨g106, 1, none⟩ = some (.int .i64 0) := hb108_2.cell 1
        have c3_0 : w108.cell? ⟨w107.heap.size, 0, none⟩ = some (.int .i64 0) := hB108.cell 0
        have c3_1 : w108.cell? ⟨w107.heap.size, 1, none⟩ = some (.int .i64 0) := hB108.cell 1
        go_wp2_with fail
        refine (root_ref ll.length w108 _ _ ll (hlW.below hz108) rfl (by omega) hsh).mono ?_
        rintro e w109 ⟨mv, rfl, hmo, hx109⟩
        have hz109 := hz108.trans (hx109.mono hz108.size)
        have hb109_0 := hb108_0.below hx109 lt108_0
        have lt109_0 : g102 < w109.heap.size := by have := hx109.size; omega
        have hb109_1 := hb108_1.below hx109 lt108_1
        have lt109_1 : g104 < w109.heap.size := by have := hx109.size; omega
        have hb109_2 := hb108_2.below hx109 lt108_2
        have lt109_2 : g106 < w109.heap.size := by have := hx109.size; omega
        have hb109_3 := hB108.below hx109 lB108
        have lt109_3 : w107.heap.size < w109.heap.size := by have := hx109.size; omega
        have hd109_0 := SlAt.below hd108_0 hx109
        have hd109_1 := hd108_1.below hx109
        clear hz108 hb108_0 lt108_0 hb108_1 lt108_1 hb108_2 lt108_2 hB108 lB108 hd108_0 hd108_1 hx109
        clear c0_0 c0_1 c1_0 c1_1 c2_0 c2_1 c3_0 c3_1
        rw [HR.out] at hmo
        go_wp2_with fail
        refine (same_any w109 _ _ _ mv R R hd109_0 (OwnB.bytes hmo)).mono ?_
        rintro e w_ ⟨rfl, n110, rfl⟩
        rw [u64_same]
        clear hmo
        have hx110 := below_drewN (Below.refl w109.heap.size w109) n110
        have hz110 := below_drewN hz109 n110
        have hb110_0 := hb109_0.drewN n110
        have lt110_0 : g102 < (w109.drewN n110).heap.size := lt109_0
        have hb110_1 := hb109_1.drewN n110
        have lt110_1 : g104 < (w109.drewN n110).heap.size := lt109_1
        have hb110_2 := hb109_2.drewN n110
        have lt110_2 : g106 < (w109.drewN n110).heap.size := lt109_2
        have hb110_3 := hb109_3.drewN n110
        have lt110_3 : w107.heap.size < (w109.drewN n110).heap.size := lt109_3
        have hd110_0 := SlAt.below hd109_0 hx110
        have hd110_1 := hd109_1.below hx110
        clear hz109 hb109_0 lt109_0 hb109_1 lt109_1 hb109_2 lt109_2 hb109_3 lt109_3 hd109_0 hd109_1 hx110
        generalize w109.drewN n110 = w110 at *
        have c0_0 : w110.cell? ⟨g102, 0, none⟩ = some (.int .i64 0) := hb110_0.cell 0
        have c0_1 : w110.cell? ⟨g102, 1, none⟩ = some (.int .i64 0) := hb110_0.cell 1
        have c1_0 : w110.cell? ⟨g104, 0, none⟩ = some (.int .i64 0) := hb110_1.cell 0
        have c1_1 : w110.cell? ⟨g104, 1, none⟩ = some (.int .i64 0) := hb110_1.cell 1
        have c2_0 : w110.cell? ⟨g106, 0, none⟩ = some (.int .i64 3) := hb110_2.cell 0
        have c2_1 : w110.cell? ⟨g106, 1, none⟩ = some (.int .i64 0) := hb110_2.cell 1
        have c3_0 : w110.cell? ⟨w107.heap.size, 0, none⟩ = some (.int .i64 0) := hb110_3.cell 0
        have c3_1 : w110.cell? ⟨w107.heap.size, 1, none⟩ = some (.int .i64 0) := hb110_3.cell 1
        have bi1 : decide (i < 0) = false := decide_eq_false (by have := HI.out.1; omega)
        have bi2 : decide ((ll.length : Int) ≤ i) = false := decide_eq_false (by have := HI.out.2; omega)
        go_wp2_with fail
        refine (rpath_any ll.length w110 _ _ ll i.toNat _ (hlW.below hz110) rfl (by omega) (by have := HI.out.2; omega) (by have := HI.out.1; omega) hsh).mono ?_
        rintro e w111 ⟨yv, rfl, hyo, hx111⟩
        have hz111 := hz110.trans (hx111.mono hz110.size)
        have hb111_0 := hb110_0.below hx111 lt110_0
        have lt111_0 : g102 < w111.heap.size := by have := hx111.size; omega
        have hb111_1 := hb110_1.below hx111 lt110_1
        have lt111_1 : g104 < w111.heap.size := by have := hx111.size; omega
        have hb111_2 := hb110_2.below hx111 lt110_2
        have lt111_2 : g106 < w111.heap.size := by have := hx111.size; omega
        have hb111_3 := hb110_3.below hx111 lt110_3
        have lt111_3 : w107.heap.size < w111.heap.size := by have := hx111.size; omega
        have hd111_0 := SlAt.below hd110_0 hx111
        have hd111_1 := hd110_1.below hx111
        clear hz110 hb110_0 lt110_0 hb110_1 lt110_1 hb110_2 lt110_2 hb110_3 lt110_3 hd110_0 hd110_1 hx111
        clear c0_0 c0_1 c1_0 c1_1 c2_0 c2_1 c3_0 c3_1
        rw [HPL.out] at hyo
        go_wp2_with fail
        refine (same2_yes w111 _ _ _ yv PL hd111_1 hyo.blist).mono ?_
        rintro e w_ ⟨rfl, n112, rfl⟩
        clear hyo
        have hx112 := below_drewN (Below.refl w111.heap.size w111) n112
        have hz112 := below_drewN hz111 n112
        have hb112_0 := hb111_0.drewN n112
        have lt112_0 : g102 < (w111.drewN n112).heap.size := lt111_0
        have hb112_1 := hb111_1.drewN n112
        have lt112_1 : g104 < (w111.drewN n112).heap.size := lt111_1
        have hb112_2 := hb111_2.drewN n112
        have lt112_2 : g106 < (w111.drewN n112).heap.size := lt111_2
        have hb112_3 := hb111_3.drewN n112
        have lt112_3 : w107.heap.size < (w111.drewN n112).heap.size := lt111_3
        have hd112_0 := SlAt.below hd111_0 hx112
        have hd112_1 := hd111_1.below hx112
        clear hz111 hb111_0 lt111_0 hb111_1 lt111_1 hb111_2 lt111_2 hb111_3 lt111_3 hd111_0 hd111_1 hx112
        generalize w111.drewN n112 = w112 at *
        have c0_0 : w112.cell? ⟨g102, 0, none⟩ = some (.int .i64 0) := hb112_0.cell 0
        have c0_1 : w112.cell? ⟨g102, 1, none⟩ = some (.int .i64 0) := hb112_0.cell 1
        have c1_0 : w112.cell? ⟨g104, 0, none⟩ = some (.int .i64 0) := hb112_1.cell 0
        have c1_1 : w112.cell? ⟨g104, 1, none⟩ = some (.int .i64 0) := hb112_1.cell 1
        have c2_0 : w112.cell? ⟨g106, 0, none⟩ = some (.int .i64 3) := hb112_2.cell 0
        have c2_1 : w112.cell? ⟨g106, 1, none⟩ = some (.int .i64 0) := hb112_2.cell 1
        have c3_0 : w112.cell? ⟨w107.heap.size, 0, none⟩ = some (.int .i64 0) := hb112_3.cell 0
        have c3_1 : w112.cell? ⟨w107.heap.size, 1, none⟩ = some (.int .i64 0) := hb112_3.cell 1
        have bm1 : decide (m < 1) = true := decide_eq_true (by omega)
        go_wp2_with fail
        go_ret
        exact ⟨rfl, hx0.trans (hz112.mono hx0.size)⟩
      · as_aux_lemma =>
        have hmn : ¬ (1 ≤ m ∧ m ≤ (ll.length : Int)) := by omega
        have HM := Lib.hid hmn
        refine (Grows_none w104 _ _ ll m (hlW.below hz104) hf hmn).mono ?_
        rintro e w105 ⟨rfl, hx105⟩
        have hz105 := hz104.trans (hx105.mono hz104.size)
        have hb105_0 := hb104_0.below hx105 lt104_0
        have lt105_0 : g102 < w105.heap.size := by have := hx105.size; omega
        have hb105_1 := hB104.below hx105 lB104
        have lt105_1 : g104 < w105.heap.size := by have := hx105.size; omega
        have hd105_0 := SlAt.below hd104_0 hx105
        have hd105_1 := hd104_1.below hx105
        clear hz104 hb104_0 lt104_0 hB104 lB104 hd104_0 hd104_1 hx105
        have hz106 := hz105.alloc hz105.size (.cells #[.int .i64 3, .int .i64 0] 32)
        have hB106 : Blk (w105.alloc (.cells #[.int .i64 3, .int .i64 0] 32)) w105.heap.size 32 #[.int .i64 3, .int .i64 0] := heap_alloc_new w105 _
        have lB106 : w105.heap.size < (w105.alloc (.cells #[.int .i64 3, .int .i64 0] 32)).heap.size := by simp
        have hb106_0 := hb105_0.alloc (.cells #[.int .i64 3, .int .i64 0] 32)
        have lt106_0 : g102 < (w105.alloc (.cells #[.int .i64 3, .int .i64 0] 32)).heap.size := by simp; omega
        have hb106_1 := hb105_1.alloc (.cells #[.int .i64 3, .int .i64 0] 32)
        have lt106_1 : g104 < (w105.alloc (.cells #[.int .i64 3, .int .i64 0] 32)).heap.size := by simp; omega
        have hd106_0 := SlAt.alloc hd105_0 (.cells #[.int .i64 3, .int .i64 0] 32)
        have hd106_1 := hd105_1.alloc (.cells #[.int .i64 3, .int .i64 0] 32)
        clear hz105 hb105_0 lt105_0 hb105_1 lt105_1 hd105_0 hd105_1
        go_wp2_with fail
        generalize w105.alloc _ = w106 at *
        generalize w105.heap.size = g106 at *
        refine (HW2.out w106 hz106).mono ?_
        rintro e w107 ⟨rfl, hx107⟩
        have hz107 := hz106.trans (hx107.mono hz106.size)
        have hb107_0 := hb106_0.below hx107 lt106_0
        have lt107_0 : g102 < w107.heap.size := by have := hx107.size; omega
        have hb107_1 := hb106_1.below hx107 lt106_1
        have lt107_1 : g104 < w107.heap.size := by have := hx107.size; omega
        have hb107_2 := hB106.below hx107 lB106
        have lt107_2 : g106 < w107.heap.size := by have := hx107.size; omega
        have hd107_0 := SlAt.below hd106_0 hx107
        have hd107_1 := hd106_1.below hx107
        clear hz106 hb106_0 lt106_0 hb106_1 lt106_1 hB106 lB106 hd106_0 hd106_1 hx107
        unfold fv
        obtain ⟨w108, hW108⟩ : ∃ z, z = (w107.alloc (.cells #[.int .i64 0, .int .i64 0] 32)) := ⟨_, rfl⟩
        have hz108 : Below W.heap.size W w108 := by rw [hW108]; exact hz107.alloc hz107.size (.cells #[.int .i64 0, .int .i64 0] 32)
        have hB108 : Blk w108 w107.heap.size 32 #[.int .i64 0, .int .i64 0] := by rw [hW108]; exact heap_alloc_new w107 _
        have lB108 : w107.heap.size < w108.heap.size := by rw [hW108]; simp
        have hb108_0 : Blk w108 g102 32 #[.int .i64 0, .int .i64 0] := by rw [hW108]; exact hb107_0.alloc (.cells #[.int .i64 0, .int .i64 0] 32)
        have lt108_0 : g102 < w108.heap.size := by rw [hW108]; simp; omega
        have hb108_1 : Blk w108 g104 32 #[.int .i64 0, .int .i64 0] := by rw [hW108]; exact hb107_1.alloc (.cells #[.int .i64 0, .int .i64 0] 32)
        have lt108_1 : g104 < w108.heap.size := by rw [hW108]; simp; omega
        have hb108_2 : Blk w108 g106 32 #[.int .i64 3, .int .i64 0] := by rw [hW108]; exact hb107_2.alloc (.cells #[.int .i64 0, .int .i64 0] 32)
        have lt108_2 : g106 < w108.heap.size := by rw [hW108]; simp; omega
        have hxx108 : Below w107.heap.size w107 w108 := by rw [hW108]; exact (Below.refl _ _).alloc (Nat.le_refl _) _
        have hd108_0 := SlAt.below hd107_0 hxx108
        have hd108_1 := hd107_1.below hxx108
        have HWk := Lib.hid hW108
        clear hz107 hb107_0 lt107_0 hb107_1 lt107_1 hb107_2 lt107_2 hd107_0 hd107_1 hxx108 hW108
        try dsimp only
        go_upto_region 13 with (fail)
        first | rw [← HWk.out] | skip
        have c0_0 : w108.cell? ⟨g102, 0, none⟩ = some (.int .i64 0) := hb108_0.cell 0
        have c0_1 : w108.cell? ⟨g102, 1, none⟩ = some (.int .i64 0) := hb108_0.cell 1
        have c1_0 : w108.cell? ⟨g104, 0, none⟩ = some (.int .i64 0) := hb108_1.cell 0
        have c1_1 : w108.cell? ⟨g104, 1, none⟩ = some (.int .i64 0) := hb108_1.cell 1
        have c2_0 : w108.cell? ⟨g106, 0, none⟩ = some (.int .i64 3) := hb108_2.cell 0
        have c2_1 : w108.cell? ⟨g106, 1, none⟩ = some (.int .i64 0) := hb108_2.cell 1
        have c3_0 : w108.cell? ⟨w107.heap.size, 0, none⟩ = some (.int .i64 0) := hB108.cell 0
        have c3_1 : w108.cell? ⟨w107.heap.size, 1, none⟩ = some (.int .i64 0) := hB108.cell 1
        go_wp2_with fail
        refine (root_ref ll.length w108 _ _ ll (hlW.below hz108) rfl (by omega) hsh).mono ?_
        rintro e w109 ⟨mv, rfl, hmo, hx109⟩
        have hz109 := hz108.trans (hx109.mono hz108.size)
        have hb109_0 := hb108_0.below hx109 lt108_0
        have lt109_0 : g102 < w109.heap.size := by have := hx109.size; omega
        have hb109_1 := hb108_1.below hx109 lt108_1
        have lt109_1 : g104 < w109.heap.size := by have := hx109.size; omega
        have hb109_2 := hb108_2.below hx109 lt108_2
        have lt109_2 : g106 < w109.heap.size := by have := hx109.size; omega
        have hb109_3 := hB108.below hx109 lB108
        have lt109_3 : w107.heap.size < w109.heap.size := by have := hx109.size; omega
        have hd109_0 := SlAt.below hd108_0 hx109
        have hd109_1 := hd108_1.below hx109
        clear hz108 hb108_0 lt108_0 hb108_1 lt108_1 hb108_2 lt108_2 hB108 lB108 hd108_0 hd108_1 hx109
        clear c0_0 c0_1 c1_0 c1_1 c2_0 c2_1 c3_0 c3_1
        rw [HR.out] at hmo
        go_wp2_with fail
        refine (same_any w109 _ _ _ mv R R hd109_0 (OwnB.bytes hmo)).mono ?_
        rintro e w_ ⟨rfl, n110, rfl⟩
        rw [u64_same]
        clear hmo
        have hx110 := below_drewN (Below.refl w109.heap.size w109) n110
        have hz110 := below_drewN hz109 n110
        have hb110_0 := hb109_0.drewN n110
        have lt110_0 : g102 < (w109.drewN n110).heap.size := lt109_0
        have hb110_1 := hb109_1.drewN n110
        have lt110_1 : g104 < (w109.drewN n110).heap.size := lt109_1
        have hb110_2 := hb109_2.drewN n110
        have lt110_2 : g106 < (w109.drewN n110).heap.size := lt109_2
        have hb110_3 := hb109_3.drewN n110
        have lt110_3 : w107.heap.size < (w109.drewN n110).heap.size := lt109_3
        have hd110_0 := SlAt.below hd109_0 hx110
        have hd110_1 := hd109_1.below hx110
        clear hz109 hb109_0 lt109_0 hb109_1 lt109_1 hb109_2 lt109_2 hb109_3 lt109_3 hd109_0 hd109_1 hx110
        generalize w109.drewN n110 = w110 at *
        have c0_0 : w110.cell? ⟨g102, 0, none⟩ = some (.int .i64 0) := hb110_0.cell 0
        have c0_1 : w110.cell? ⟨g102, 1, none⟩ = some (.int .i64 0) := hb110_0.cell 1
        have c1_0 : w110.cell? ⟨g104, 0, none⟩ = some (.int .i64 0) := hb110_1.cell 0
        have c1_1 : w110.cell? ⟨g104, 1, none⟩ = some (.int .i64 0) := hb110_1.cell 1
        have c2_0 : w110.cell? ⟨g106, 0, none⟩ = some (.int .i64 3) := hb110_2.cell 0
        have c2_1 : w110.cell? ⟨g106, 1, none⟩ = some (.int .i64 0) := hb110_2.cell 1
        have c3_0 : w110.cell? ⟨w107.heap.size, 0, none⟩ = some (.int .i64 0) := hb110_3.cell 0
        have c3_1 : w110.cell? ⟨w107.heap.size, 1, none⟩ = some (.int .i64 0) := hb110_3.cell 1
        have bi1 : decide (i < 0) = false := decide_eq_false (by have := HI.out.1; omega)
        have bi2 : decide ((ll.length : Int) ≤ i) = false := decide_eq_false (by have := HI.out.2; omega)
        go_wp2_with fail
        refine (rpath_any ll.length w110 _ _ ll i.toNat _ (hlW.below hz110) rfl (by omega) (by have := HI.out.2; omega) (by have := HI.out.1; omega) hsh).mono ?_
        rintro e w111 ⟨yv, rfl, hyo, hx111⟩
        have hz111 := hz110.trans (hx111.mono hz110.size)
        have hb111_0 := hb110_0.below hx111 lt110_0
        have lt111_0 : g102 < w111.heap.size := by have := hx111.size; omega
        have hb111_1 := hb110_1.below hx111 lt110_1
        have lt111_1 : g104 < w111.heap.size := by have := hx111.size; omega
        have hb111_2 := hb110_2.below hx111 lt110_2
        have lt111_2 : g106 < w111.heap.size := by have := hx111.size; omega
        have hb111_3 := hb110_3.below hx111 lt110_3
        have lt111_3 : w107.heap.size < w111.heap.size := by have := hx111.size; omega
        have hd111_0 := SlAt.below hd110_0 hx111
        have hd111_1 := hd110_1.below hx111
        clear hz110 hb110_0 lt110_0 hb110_1 lt110_1 hb110_2 lt110_2 hb110_3 lt110_3 hd110_0 hd110_1 hx111
        clear c0_0 c0_1 c1_0 c1_1 c2_0 c2_1 c3_0 c3_1
        rw [HPL.out] at hyo
        go_wp2_with fail
        refine (same2_yes w111 _ _ _ yv PL hd111_1 hyo.blist).mono ?_
        rintro e w_ ⟨rfl, n112, rfl⟩
        clear hyo
        have hx112 := below_drewN (Below.refl w111.heap.size w111) n112
        have hz112 := below_drewN hz111 n112
        have hb112_0 := hb111_0.drewN n112
        have lt112_0 : g102 < (w111.drewN n112).heap.size := lt111_0
        have hb112_1 := hb111_1.drewN n112
        have lt112_1 : g104 < (w111.drewN n112).heap.size := lt111_1
        have hb112_2 := hb111_2.drewN n112
        have lt112_2 : g106 < (w111.drewN n112).heap.size := lt111_2
        have hb112_3 := hb111_3.drewN n112
        have lt112_3 : w107.heap.size < (w111.drewN n112).heap.size := lt111_3
        have hd112_0 := SlAt.below hd111_0 hx112
        have hd112_1 := hd111_1.below hx112
        clear hz111 hb111_0 lt111_0 hb111_1 lt111_1 hb111_2 lt111_2 hb111_3 lt111_3 hd111_0 hd111_1 hx112
        generalize w111.drewN n112 = w112 at *
        have c0_0 : w112.cell? ⟨g102, 0, none⟩ = some (.int .i64 0) := hb112_0.cell 0
        have c0_1 : w112.cell? ⟨g102, 1, none⟩ = some (.int .i64 0) := hb112_0.cell 1
        have c1_0 : w112.cell? ⟨g104, 0, none⟩ = some (.int .i64 0) := hb112_1.cell 0
        have c1_1 : w112.cell? ⟨g104, 1, none⟩ = some (.int .i64 0) := hb112_1.cell 1
        have c2_0 : w112.cell? ⟨g106, 0, none⟩ = some (.int .i64 3) := hb112_2.cell 0
        have c2_1 : w112.cell? ⟨g106, 1, none⟩ = some (.int .i64 0) := hb112_2.cell 1
        have c3_0 : w112.cell? ⟨w107.heap.size, 0, none⟩ = some (.int .i64 0) := hb112_3.cell 0
        have c3_1 : w112.cell? ⟨w107.heap.size, 1, none⟩ = some (.int .i64 0) := hb112_3.cell 1
        have bm1 : decide (m < 1) = false := decide_eq_false (by omega)
        have bm2 : decide ((ll.length : Int) < m) = true := decide_eq_true (by omega)
        go_wp2_with fail
        go_ret
        exact ⟨rfl, hx0.trans (hz112.mono hx0.size)⟩
    · skip
      have hin : ¬ (0 ≤ i ∧ i < (ll.length : Int)) := by omega
      have HI := Lib.hid hin
      refine (Path_none w102 _ _ ll i (hlW.below hz102) hf hin).mono ?_
      rintro e w103 ⟨rfl, hx103⟩
      have hz103 := hz102.trans (hx103.mono hz102.size)
      have hb103_0 := hB102.below hx103 lB102
      have lt103_0 : g102 < w103.heap.size := by have := hx103.size; omega
      have hd103_0 := SlAt.below hd102_0 hx103
      clear hz102 hB102 lB102 hd102_0 hx103
      have hz104 := hz103.alloc hz103.size (.cells #[.int .i64 6, .int .i64 0] 32)
      have hB104 : Blk (w103.alloc (.cells #[.int .i64 6, .int .i64 0] 32)) w103.heap.size 32 #[.int .i64 6, .int .i64 0] := heap_alloc_new w103 _
      have lB104 : w103.heap.size < (w103.alloc (.cells #[.int .i64 6, .int .i64 0] 32)).heap.size := by simp
      have hb104_0 := hb103_0.alloc (.cells #[.int .i64 6, .int .i64 0] 32)
      have lt104_0 : g102 < (w103.alloc (.cells #[.int .i64 6, .int .i64 0] 32)).heap.size := by simp; omega
      have hd104_0 := SlAt.alloc hd103_0 (.cells #[.int .i64 6, .int .i64 0] 32)
      clear hz103 hb103_0 lt103_0 hd103_0
      go_wp2_with fail
      generalize w103.alloc _ = w104 at *
      generalize w103.heap.size = g104 at *
      rcases (show (1 ≤ m ∧ m ≤ (ll.length : Int)) ∨ m < 1 ∨ (¬ m < 1 ∧ (ll.length : Int) < m) by omega) with hmn | hm1 | ⟨hm1, hm2⟩
      · as_aux_lemma =>
        have HM := Lib.hid hmn
        refine (Grows_fine w104 _ _ ll m (hlW.below hz104) hf hmn.1 hmn.2).mono ?_
        rintro e w105 ⟨qv, rfl, hqo, hx105⟩
        have hz105 := hz104.trans (hx105.mono hz104.size)
        have hb105_0 := hb104_0.below hx105 lt104_0
        have lt105_0 : g102 < w105.heap.size := by have := hx105.size; omega
        have hb105_1 := hB104.below hx105 lB104
        have lt105_1 : g104 < w105.heap.size := by have := hx105.size; omega
        have hd105_0 := SlAt.below hd104_0 hx105
        clear hz104 hb104_0 lt104_0 hB104 lB104 hd104_0 hx105
        have hq0 := hqo.blist.weak (F' := fun _ => True) (fun _ _ _ => trivial)
        obtain ⟨A23, c23, hqv, _, _, _⟩ := hq0.shape
        subst hqv
        clear hqo
        obtain ⟨QL, hQL⟩ : ∃ R, Tr.grows (ll.map Tr.leafH) m.toNat true = R := ⟨_, rfl⟩
        rw [hQL] at hq0 ⊢
        have HQL := Lib.hid hQL
        clear hQL
        have hz106 := hz105.alloc hz105.size (.cells #[.int .i64 0, .int .i64 0] 32)
        have hB106 : Blk (w105.alloc (.cells #[.int .i64 0, .int .i64 0] 32)) w105.heap.size 32 #[.int .i64 0, .int .i64 0] := heap_alloc_new w105 _
        have lB106 : w105.heap.size < (w105.alloc (.cells #[.int .i64 0, .int .i64 0] 32)).heap.size := by simp
        have hb106_0 := hb105_0.alloc (.cells #[.int .i64 0, .int .i64 0] 32)
        have lt106_0 : g102 < (w105.alloc (.cells #[.int .i64 0, .int .i64 0] 32)).heap.size := by simp; omega
        have hb106_1 := hb105_1.alloc (.cells #[.int .i64 0, .int .i64 0] 32)
        have lt106_1 : g104 < (w105.alloc (.cells #[.int .i64 0, .int .i64 0] 32)).heap.size := by simp; omega
        have hd106_0 := SlAt.alloc hd105_0 (.cells #[.int .i64 0, .int .i64 0] 32)
        have hd106_1 := hq0.alloc (.cells #[.int .i64 0, .int .i64 0] 32)
        clear hz105 hb105_0 lt105_0 hb105_1 lt105_1 hd105_0 hq0
        go_wp2_with fail
        generalize w105.alloc _ = w106 at *
        generalize w105.heap.size = g106 at *
        refine (HW2.out w106 hz106).mono ?_
        rintro e w107 ⟨rfl, hx107⟩
        have hz107 := hz106.trans (hx107.mono hz106.size)
        have hb107_0 := hb106_0.below hx107 lt106_0
        have lt107_0 : g102 < w107.heap.size := by have := hx107.size; omega
        have hb107_1 := hb106_1.below hx107 lt106_1
        have lt107_1 : g104 < w107.heap.size := by have := hx107.size; omega
        have hb107_2 := hB106.below hx107 lB106
        have lt107_2 : g106 < w107.heap.size := by have := hx107.size; omega
        have hd107_0 := SlAt.below hd106_0 hx107
        have hd107_1 := hd106_1.below hx107
        clear hz106 hb106_0 lt106_0 hb106_1 lt106_1 hB106 lB106 hd106_0 hd106_1 hx107
        unfold fv
        obtain ⟨w108, hW108⟩ : ∃ z, z = (w107.alloc (.cells #[.int .i64 0, .int .i64 0] 32)) := ⟨_, rfl⟩
        have hz108 : Below W.heap.size W w108 := by rw [hW108]; exact hz107.alloc hz107.size (.cells #[.int .i64 0, .int .i64 0] 32)
        have hB108 : Blk w108 w107.heap.size 32 #[.int .i64 0, .int .i64 0] := by rw [hW108]; exact heap_alloc_new w107 _
        have lB108 : w107.heap.size < w108.heap.size := by rw [hW108]; simp
        have hb108_0 : Blk w108 g102 32 #[.int .i64 0, .int .i64 0] := by rw [hW108]; exact hb107_0.alloc (.cells #[.int .i64 0, .int .i64 0] 32)
        have lt108_0 : g102 < w108.heap.size := by rw [hW108]; simp; omega
        have hb108_1 : Blk w108 g104 32 #[.int .i64 6, .int .i64 0] := by rw [hW108]; exact hb107_1.alloc (.cells #[.int .i64 0, .int .i64 0] 32)
        have lt108_1 : g104 < w108.heap.size := by rw [hW108]; simp; omega
        have hb108_2 : Blk w108 g106 32 #[.int .i64 0, .int .i64 0] := by rw [hW108]; exact hb107_2.alloc (.cells #[.int .i64 0, .int .i64 0] 32)
        have lt108_2 : g106 < w108.heap.size := by rw [hW108]; simp; omega
        have hxx108 : Below w107.heap.size w107 w108 := by rw [hW108]; exact (Below.refl _ _).alloc (Nat.le_refl _) _
        have hd108_0 := SlAt.below hd107_0 hxx108
        have hd108_1 := hd107_1.below hxx108
        have HWk := Lib.hid hW108
        clear hz107 hb107_0 lt107_0 hb107_1 lt107_1 hb107_2 lt107_2 hd107_0 hd107_1 hxx108 hW108
        try dsimp only
        go_upto_region 13 with (fail)
        first | rw [← HWk.out] | skip
        have c0_0 : w108.cell? ⟨g102, 0, none⟩ = some (.int .i64 0) := hb108_0.cell 0
        have c0_1 : w108.cell? ⟨g102, 1, none⟩ = some (.int .i64 0) := hb108_0.cell 1
        have c1_0 : w108.cell? ⟨g104, 0, none⟩ = some (.int .i64 6) := hb108_1.cell 0
        have c1_1 : w108.cell? ⟨g104, 1, none⟩ = some (.int .i64 0) := hb108_1.cell 1
        have c2_0 : w108.cell? ⟨g106, 0, none⟩ = some (.int .i64 0) := hb108_2.cell 0
        have c2_1 : w108.cell? ⟨g106, 1, none⟩ = some (.int .i64 0) := hb108_2.cell 1
        have c3_0 : w108.cell? ⟨w107.heap.size, 0, none⟩ = some (.int .i64 0) := hB108.cell 0
        have c3_1 : w108.cell? ⟨w107.heap.size, 1, none⟩ = some (.int .i64 0) := hB108.cell 1
        go_wp2_with fail
        refine (root_ref ll.length w108 _ _ ll (hlW.below hz108) rfl (by omega) hsh).mono ?_
        rintro e w109 ⟨mv, rfl, hmo, hx109⟩
        have hz109 := hz108.trans (hx109.mono hz108.size)
        have hb109_0 := hb108_0.below hx109 lt108_0
        have lt109_0 : g102 < w109.heap.size := by have := hx109.size; omega
        have hb109_1 := hb108_1.below hx109 lt108_1
        have lt109_1 : g104 < w109.heap.size := by have := hx109.size; omega
        have hb109_2 := hb108_2.below hx109 lt108_2
        have lt109_2 : g106 < w109.heap.size := by have := hx109.size; omega
        have hb109_3 := hB108.below hx109 lB108
        have lt109_3 : w107.heap.size < w109.heap.size := by have := hx109.size; omega
        have hd109_0 := SlAt.below hd108_0 hx109
        have hd109_1 := hd108_1.below hx109
        clear hz108 hb108_0 lt108_0 hb108_1 lt108_1 hb108_2 lt108_2 hB108 lB108 hd108_0 hd108_1 hx109
        clear c0_0 c0_1 c1_0 c1_1 c2_0 c2_1 c3_0 c3_1
        rw [HR.out] at hmo
        go_wp2_with fail
        refine (same_any w109 _ _ _ mv R R hd109_0 (OwnB.bytes hmo)).mono ?_
        rintro e w_ ⟨rfl, n110, rfl⟩
        rw [u64_same]
        clear hmo
        have hx110 := below_drewN (Below.refl w109.heap.size w109) n110
        have hz110 := below_drewN hz109 n110
        have hb110_0 := hb109_0.drewN n110
        have lt110_0 : g102 < (w109.drewN n110).heap.size := lt109_0
        have hb110_1 := hb109_1.drewN n110
        have lt110_1 : g104 < (w109.drewN n110).heap.size := lt109_1
        have hb110_2 := hb109_2.drewN n110
        have lt110_2 : g106 < (w109.drewN n110).heap.size := lt109_2
        have hb110_3 := hb109_3.drewN n110
        have lt110_3 : w107.heap.size < (w109.drewN n110).heap.size := lt109_3
        have hd110_0 := SlAt.below hd109_0 hx110
        have hd110_1 := hd109_1.below hx110
        clear hz109 hb109_0 lt109_0 hb109_1 lt109_1 hb109_2 lt109_2 hb109_3 lt109_3 hd109_0 hd109_1 hx110
        generalize w109.drewN n110 = w110 at *
        have c0_0 : w110.cell? ⟨g102, 0, none⟩ = some (.int .i64 0) := hb110_0.cell 0
        have c0_1 : w110.cell? ⟨g102, 1, none⟩ = some (.int .i64 0) := hb110_0.cell 1
        have c1_0 : w110.cell? ⟨g104, 0, none⟩ = some (.int .i64 6) := hb110_1.cell 0
        have c1_1 : w110.cell? ⟨g104, 1, none⟩ = some (.int .i64 0) := hb110_1.cell 1
        have c2_0 : w110.cell? ⟨g106, 0, none⟩ = some (.int .i64 0) := hb110_2.cell 0
        have c2_1 : w110.cell? ⟨g106, 1, none⟩ = some (.int .i64 0) := hb110_2.cell 1
        have c3_0 : w110.cell? ⟨w107.heap.size, 0, none⟩ = some (.int .i64 0) := hb110_3.cell 0
        have c3_1 : w110.cell? ⟨w107.heap.size, 1, none⟩ = some (.int .i64 0) := hb110_3.cell 1
        have bi1 : decide (i < 0) = true := decide_eq_true (by omega)
        have bm1 : decide (m < 1) = false := decide_eq_false (by have := HM.out.1; omega)
        have bm2 : decide ((ll.length : Int) < m) = false := decide_eq_false (by have := HM.out.2; omega)
        go_wp2_with fail
        refine (rproof_any ll.length w110 _ _ ll m.toNat _ true (hlW.below hz110) rfl (by omega) (by have := HM.out.1; omega) (by have := HM.out; omega) (by have := HM.out.1; omega) hsh).mono ?_
        rintro e w111 ⟨zv, rfl, hzo, hx111⟩
        have hz111 := hz110.trans (hx111.mono hz110.size)
        have hb111_0 := hb110_0.below hx111 lt110_0
        have lt111_0 : g102 < w111.heap.size := by have := hx111.size; omega
        have hb111_1 := hb110_1.below hx111 lt110_1
        have lt111_1 : g104 < w111.heap.size := by have := hx111.size; omega
        have hb111_2 := hb110_2.below hx111 lt110_2
        have lt111_2 : g106 < w111.heap.size := by have := hx111.size; omega
        have hb111_3 := hb110_3.below hx111 lt110_3
        have lt111_3 : w107.heap.size < w111.heap.size := by have := hx111.size; omega
        have hd111_0 := SlAt.below hd110_0 hx111
        have hd111_1 := hd110_1.below hx111
        clear hz110 hb110_0 lt110_0 hb110_1 lt110_1 hb110_2 lt110_2 hb110_3 lt110_3 hd110_0 hd110_1 hx111
        clear c0_0 c0_1 c1_0 c1_1 c2_0 c2_1 c3_0 c3_1
        rw [HQL.out] at hzo
        go_wp2_with fail
        refine (same2_yes w111 _ _ _ zv QL hd111_1 hzo.blist).mono ?_
        rintro e w_ ⟨rfl, n112, rfl⟩
        clear hzo
        have hx112 := below_drewN (Below.refl w111.heap.size w111) n112
        have hz112 := below_drewN hz111 n112
        have hb112_0 := hb111_0.drewN n112
        have lt112_0 : g102 < (w111.drewN n112).heap.size := lt111_0
        have hb112_1 := hb111_1.drewN n112
        have lt112_1 : g104 < (w111.drewN n112).heap.size := lt111_1
        have hb112_2 := hb111_2.drewN n112
        have lt112_2 : g106 < (w111.drewN n112).heap.size := lt111_2
        have hb112_3 := hb111_3.drewN n112
        have lt112_3 : w107.heap.size < (w111.drewN n112).heap.size := lt111_3
        have hd112_0 := SlAt.below hd111_0 hx112
        have hd112_1 := hd111_1.below hx112
        clear hz111 hb111_0 lt111_0 hb111_1 lt111_1 hb111_2 lt111_2 hb111_3 lt111_3 hd111_0 hd111_1 hx112
        generalize w111.drewN n112 = w112 at *
        go_wp2_with fail
        go_ret
        exact ⟨rfl, hx0.trans (hz112.mono hx0.size)⟩
      · as_aux_lemma =>
        have hmn : ¬ (1 ≤ m ∧ m ≤ (ll.length : Int)) := by omega
        have HM := Lib.hid hmn
        refine (Grows_none w104 _ _ ll m (hlW.below hz104) hf hmn).mono ?_
        rintro e w105 ⟨rfl, hx105⟩
        have hz105 := hz104.trans (hx105.mono hz104.size)
        have hb105_0 := hb104_0.below hx105 lt104_0
        have lt105_0 : g102 < w105.heap.size := by have := hx105.size; omega
        have hb105_1 := hB104.below hx105 lB104
        have lt105_1 : g104 < w105.heap.size := by have := hx105.size; omega
        have hd105_0 := SlAt.below hd104_0 hx105
        clear hz104 hb104_0 lt104_0 hB104 lB104 hd104_0 hx105
        have hz106 := hz105.alloc hz105.size (.cells #[.int .i64 3, .int .i64 0] 32)
        have hB106 : Blk (w105.alloc (.cells #[.int .i64 3, .int .i64 0] 32)) w105.heap.size 32 #[.int .i64 3, .int .i64 0] := heap_alloc_new w105 _
        have lB106 : w105.heap.size < (w105.alloc (.cells #[.int .i64 3, .int .i64 0] 32)).heap.size := by simp
        have hb106_0 := hb105_0.alloc (.cells #[.int .i64 3, .int .i64 0] 32)
        have lt106_0 : g102 < (w105.alloc (.cells #[.int .i64 3, .int .i64 0] 32)).heap.size := by simp; omega
        have hb106_1 := hb105_1.alloc (.cells #[.int .i64 3, .int .i64 0] 32)
        have lt106_1 : g104 < (w105.alloc (.cells #[.int .i64 3, .int .i64 0] 32)).heap.size := by simp; omega
        have hd106_0 := SlAt.alloc hd105_0 (.cells #[.int .i64 3, .int .i64 0] 32)
        clear hz105 hb105_0 lt105_0 hb105_1 lt105_1 hd105_0
        go_wp2_with fail
        generalize w105.alloc _ = w106 at *
        generalize w105.heap.size = g106 at *
        refine (HW2.out w106 hz106).mono ?_
        rintro e w107 ⟨rfl, hx107⟩
        have hz107 := hz106.trans (hx107.mono hz106.size)
        have hb107_0 := hb106_0.below hx107 lt106_0
        have lt107_0 : g102 < w107.heap.size := by have := hx107.size; omega
        have hb107_1 := hb106_1.below hx107 lt106_1
        have lt107_1 : g104 < w107.heap.size := by have := hx107.size; omega
        have hb107_2 := hB106.below hx107 lB106
        have lt107_2 : g106 < w107.heap.size := by have := hx107.size; omega
        have hd107_0 := SlAt.below hd106_0 hx107
        clear hz106 hb106_0 lt106_0 hb106_1 lt106_1 hB106 lB106 hd106_0 hx107
        unfold fv
        obtain ⟨w108, hW108⟩ : ∃ z, z = (w107.alloc (.cells #[.int .i64 0, .int .i64 0] 32)) := ⟨_, rfl⟩
        have hz108 : Below W.heap.size W w108 := by rw [hW108]; exact hz107.alloc hz107.size (.cells #[.int .i64 0, .int .i64 0] 32)
        have hB108 : Blk w108 w107.heap.size 32 #[.int .i64 0, .int .i64 0] := by rw [hW108]; exact heap_alloc_new w107 _
        have lB108 : w107.heap.size < w108.heap.size := by rw [hW108]; simp
        have hb108_0 : Blk w108 g102 32 #[.int .i64 0, .int .i64 0] := by rw [hW108]; exact hb107_0.alloc (.cells #[.int .i64 0, .int .i64 0] 32)
        have lt108_0 : g102 < w108.heap.size := by rw [hW108]; simp; omega
        have hb108_1 : Blk w108 g104 32 #[.int .i64 6, .int .i64 0] := by rw [hW108]; exact hb107_1.alloc (.cells #[.int .i64 0, .int .i64 0] 32)
        have lt108_1 : g104 < w108.heap.size := by rw [hW108]; simp; omega
        have hb108_2 : Blk w108 g106 32 #[.int .i64 3, .int .i64 0] := by rw [hW108]; exact hb107_2.alloc (.cells #[.int .i64 0, .int .i64 0] 32)
        have lt108_2 : g106 < w108.heap.size := by rw [hW108]; simp; omega
        have hxx108 : Below w107.heap.size w107 w108 := by rw [hW108]; exact (Below.refl _ _).alloc (Nat.le_refl _) _
        have hd108_0 := SlAt.below hd107_0 hxx108
        have HWk := Lib.hid hW108
        clear hz107 hb107_0 lt107_0 hb107_1 lt107_1 hb107_2 lt107_2 hd107_0 hxx108 hW108
        try dsimp only
        go_upto_region 13 with (fail)
        first | rw [← HWk.out] | skip
        have c0_0 : w108.cell? ⟨g102, 0, none⟩ = some (.int .i64 0) := hb108_0.cell 0
        have c0_1 : w108.cell? ⟨g102, 1, none⟩ = some (.int .i64 0) := hb108_0.cell 1
        have c1_0 : w108.cell? ⟨g104, 0, none⟩ = some (.int .i64 6) := hb108_1.cell 0
        have c1_1 : w108.cell? ⟨g104, 1, none⟩ = some (.int .i64 0) := hb108_1.cell 1
        have c2_0 : w108.cell? ⟨g106, 0, none⟩ = some (.int .i64 3) := hb108_2.cell 0
        have c2_1 : w108.cell? ⟨g106, 1, none⟩ = some (.int .i64 0) := hb108_2.cell 1
        have c3_0 : w108.cell? ⟨w107.heap.size, 0, none⟩ = some (.int .i64 0) := hB108.cell 0
        have c3_1 : w108.cell? ⟨w107.heap.size, 1, none⟩ = some (.int .i64 0) := hB108.cell 1
        go_wp2_with fail
        refine (root_ref ll.length w108 _ _ ll (hlW.below hz108) rfl (by omega) hsh).mono ?_
        rintro e w109 ⟨mv, rfl, hmo, hx109⟩
        have hz109 := hz108.trans (hx109.mono hz108.size)
        have hb109_0 := hb108_0.below hx109 lt108_0
        have lt109_0 : g102 < w109.heap.size := by have := hx109.size; omega
        have hb109_1 := hb108_1.below hx109 lt108_1
        have lt109_1 : g104 < w109.heap.size := by have := hx109.size; omega
        have hb109_2 := hb108_2.below hx109 lt108_2
        have lt109_2 : g106 < w109.heap.size := by have := hx109.size; omega
        have hb109_3 := hB108.below hx109 lB108
        have lt109_3 : w107.heap.size < w109.heap.size := by have := hx109.size; omega
        have hd109_0 := SlAt.below hd108_0 hx109
        clear hz108 hb108_0 lt108_0 hb108_1 lt108_1 hb108_2 lt108_2 hB108 lB108 hd108_0 hx109
        clear c0_0 c0_1 c1_0 c1_1 c2_0 c2_1 c3_0 c3_1
        rw [HR.out] at hmo
        go_wp2_with fail
        refine (same_any w109 _ _ _ mv R R hd109_0 (OwnB.bytes hmo)).mono ?_
        rintro e w_ ⟨rfl, n110, rfl⟩
        rw [u64_same]
        clear hmo
        have hx110 := below_drewN (Below.refl w109.heap.size w109) n110
        have hz110 := below_drewN hz109 n110
        have hb110_0 := hb109_0.drewN n110
        have lt110_0 : g102 < (w109.drewN n110).heap.size := lt109_0
        have hb110_1 := hb109_1.drewN n110
        have lt110_1 : g104 < (w109.drewN n110).heap.size := lt109_1
        have hb110_2 := hb109_2.drewN n110
        have lt110_2 : g106 < (w109.drewN n110).heap.size := lt109_2
        have hb110_3 := hb109_3.drewN n110
        have lt110_3 : w107.heap.size < (w109.drewN n110).heap.size := lt109_3
        have hd110_0 := SlAt.below hd109_0 hx110
        clear hz109 hb109_0 lt109_0 hb109_1 lt109_1 hb109_2 lt109_2 hb109_3 lt109_3 hd109_0 hx110
        generalize w109.drewN n110 = w110 at *
        have c0_0 : w110.cell? ⟨g102, 0, none⟩ = some (.int .i64 0) := hb110_0.cell 0
        have c0_1 : w110.cell? ⟨g102, 1, none⟩ = some (.int .i64 0) := hb110_0.cell 1
        have c1_0 : w110.cell? ⟨g104, 0, none⟩ = some (.int .i64 6) := hb110_1.cell 0
        have c1_1 : w110.cell? ⟨g104, 1, none⟩ = some (.int .i64 0) := hb110_1.cell 1
        have c2_0 : w110.cell? ⟨g106, 0, none⟩ = some (.int .i64 3) := hb110_2.cell 0
        have c2_1 : w110.cell? ⟨g106, 1, none⟩ = some (.int .i64 0) := hb110_2.cell 1
        have c3_0 : w110.cell? ⟨w107.heap.size, 0, none⟩ = some (.int .i64 0) := hb110_3.cell 0
        have c3_1 : w110.cell? ⟨w107.heap.size, 1, none⟩ = some (.int .i64 0) := hb110_3.cell 1
        have bi1 : decide (i < 0) = true := decide_eq_true (by omega)
        have bm1 : decide (m < 1) = true := decide_eq_true (by omega)
        go_wp2_with fail
        go_ret
        exact ⟨rfl, hx0.trans (hz110.mono hx0.size)⟩
      · as_aux_lemma =>
        have hmn : ¬ (1 ≤ m ∧ m ≤ (ll.length : Int)) := by omega
        have HM := Lib.hid hmn
        refine (Grows_none w104 _ _ ll m (hlW.below hz104) hf hmn).mono ?_
        rintro e w105 ⟨rfl, hx105⟩
        have hz105 := hz104.trans (hx105.mono hz104.size)
        have hb105_0 := hb104_0.below hx105 lt104_0
        have lt105_0 : g102 < w105.heap.size := by have := hx105.size; omega
        have hb105_1 := hB104.below hx105 lB104
        have lt105_1 : g104 < w105.heap.size := by have := hx105.size; omega
        have hd105_0 := SlAt.below hd104_0 hx105
        clear hz104 hb104_0 lt104_0 hB104 lB104 hd104_0 hx105
        have hz106 := hz105.alloc hz105.size (.cells #[.int .i64 3, .int .i64 0] 32)
        have hB106 : Blk (w105.alloc (.cells #[.int .i64 3, .int .i64 0] 32)) w105.heap.size 32 #[.int .i64 3, .int .i64 0] := heap_alloc_new w105 _
        have lB106 : w105.heap.size < (w105.alloc (.cells #[.int .i64 3, .int .i64 0] 32)).heap.size := by simp
        have hb106_0 := hb105_0.alloc (.cells #[.int .i64 3, .int .i64 0] 32)
        have lt106_0 : g102 < (w105.alloc (.cells #[.int .i64 3, .int .i64 0] 32)).heap.size := by simp; omega
        have hb106_1 := hb105_1.alloc (.cells #[.int .i64 3, .int .i64 0] 32)
        have lt106_1 : g104 < (w105.alloc (.cells #[.int .i64 3, .int .i64 0] 32)).heap.size := by simp; omega
        have hd106_0 := SlAt.alloc hd105_0 (.cells #[.int .i64 3, .int .i64 0] 32)
        clear hz105 hb105_0 lt105_0 hb105_1 lt105_1 hd105_0
        go_wp2_with fail
        generalize w105.alloc _ = w106 at *
        generalize w105.heap.size = g106 at *
        refine (HW2.out w106 hz106).mono ?_
        rintro e w107 ⟨rfl, hx107⟩
        have hz107 := hz106.trans (hx107.mono hz106.size)
        have hb107_0 := hb106_0.below hx107 lt106_0
        have lt107_0 : g102 < w107.heap.size := by have := hx107.size; omega
        have hb107_1 := hb106_1.below hx107 lt106_1
        have lt107_1 : g104 < w107.heap.size := by have := hx107.size; omega
        have hb107_2 := hB106.below hx107 lB106
        have lt107_2 : g106 < w107.heap.size := by have := hx107.size; omega
        have hd107_0 := SlAt.below hd106_0 hx107
        clear hz106 hb106_0 lt106_0 hb106_1 lt106_1 hB106 lB106 hd106_0 hx107
        unfold fv
        obtain ⟨w108, hW108⟩ : ∃ z, z = (w107.alloc (.cells #[.int .i64 0, .int .i64 0] 32)) := ⟨_, rfl⟩
        have hz108 : Below W.heap.size W w108 := by rw [hW108]; exact hz107.alloc hz107.size (.cells #[.int .i64 0, .int .i64 0] 32)
        have hB108 : Blk w108 w107.heap.size 32 #[.int .i64 0, .int .i64 0] := by rw [hW108]; exact heap_alloc_new w107 _
        have lB108 : w107.heap.size < w108.heap.size := by rw [hW108]; simp
        have hb108_0 : Blk w108 g102 32 #[.int .i64 0, .int .i64 0] := by rw [hW108]; exact hb107_0.alloc (.cells #[.int .i64 0, .int .i64 0] 32)
        have lt108_0 : g102 < w108.heap.size := by rw [hW108]; simp; omega
        have hb108_1 : Blk w108 g104 32 #[.int .i64 6, .int .i64 0] := by rw [hW108]; exact hb107_1.alloc (.cells #[.int .i64 0, .int .i64 0] 32)
        have lt108_1 : g104 < w108.heap.size := by rw [hW108]; simp; omega
        have hb108_2 : Blk w108 g106 32 #[.int .i64 3, .int .i64 0] := by rw [hW108]; exact hb107_2.alloc (.cells #[.int .i64 0, .int .i64 0] 32)
        have lt108_2 : g106 < w108.heap.size := by rw [hW108]; simp; omega
        have hxx108 : Below w107.heap.size w107 w108 := by rw [hW108]; exact (Below.refl _ _).alloc (Nat.le_refl _) _
        have hd108_0 := SlAt.below hd107_0 hxx108
        have HWk := Lib.hid hW108
        clear hz107 hb107_0 lt107_0 hb107_1 lt107_1 hb107_2 lt107_2 hd107_0 hxx108 hW108
        try dsimp only
        go_upto_region 13 with (fail)
        first | rw [← HWk.out] | skip
        have c0_0 : w108.cell? ⟨g102, 0, none⟩ = some (.int .i64 0) := hb108_0.cell 0
        have c0_1 : w108.cell? ⟨g102, 1, none⟩ = some (.int .i64 0) := hb108_0.cell 1
        have c1_0 : w108.cell? ⟨g104, 0, none⟩ = some (.int .i64 6) := hb108_1.cell 0
        have c1_1 : w108.cell? ⟨g104, 1, none⟩ = some (.int .i64 0) := hb108_1.cell 1
        have c2_0 : w108.cell? ⟨g106, 0, none⟩ = some (.int .i64 3) := hb108_2.cell 0
        have c2_1 : w108.cell? ⟨g106, 1, none⟩ = some (.int .i64 0) := hb108_2.cell 1
        have c3_0 : w108.cell? ⟨w107.heap.size, 0, none⟩ = some (.int .i64 0) := hB108.cell 0
        have c3_1 : w108.cell? ⟨w107.heap.size, 1, none⟩ = some (.int .i64 0) := hB108.cell 1
        go_wp2_with fail
        refine (root_ref ll.length w108 _ _ ll (hlW.below hz108) rfl (by omega) hsh).mono ?_
        rintro e w109 ⟨mv, rfl, hmo, hx109⟩
        have hz109 := hz108.trans (hx109.mono hz108.size)
        have hb109_0 := hb108_0.below hx109 lt108_0
        have lt109_0 : g102 < w109.heap.size := by have := hx109.size; omega
        have hb109_1 := hb108_1.below hx109 lt108_1
        have lt109_1 : g104 < w109.heap.size := by have := hx109.size; omega
        have hb109_2 := hb108_2.below hx109 lt108_2
        have lt109_2 : g106 < w109.heap.size := by have := hx109.size; omega
        have hb109_3 := hB108.below hx109 lB108
        have lt109_3 : w107.heap.size < w109.heap.size := by have := hx109.size; omega
        have hd109_0 := SlAt.below hd108_0 hx109
        clear hz108 hb108_0 lt108_0 hb108_1 lt108_1 hb108_2 lt108_2 hB108 lB108 hd108_0 hx109
        clear c0_0 c0_1 c1_0 c1_1 c2_0 c2_1 c3_0 c3_1
        rw [HR.out] at hmo
        go_wp2_with fail
        refine (same_any w109 _ _ _ mv R R hd109_0 (OwnB.bytes hmo)).mono ?_
        rintro e w_ ⟨rfl, n110, rfl⟩
        rw [u64_same]
        clear hmo
        have hx110 := below_drewN (Below.refl w109.heap.size w109) n110
        have hz110 := below_drewN hz109 n110
        have hb110_0 := hb109_0.drewN n110
        have lt110_0 : g102 < (w109.drewN n110).heap.size := lt109_0
        have hb110_1 := hb109_1.drewN n110
        have lt110_1 : g104 < (w109.drewN n110).heap.size := lt109_1
        have hb110_2 := hb109_2.drewN n110
        have lt110_2 : g106 < (w109.drewN n110).heap.size := lt109_2
        have hb110_3 := hb109_3.drewN n110
        have lt110_3 : w107.heap.size < (w109.drewN n110).heap.size := lt109_3
        have hd110_0 := SlAt.below hd109_0 hx110
        clear hz109 hb109_0 lt109_0 hb109_1 lt109_1 hb109_2 lt109_2 hb109_3 lt109_3 hd109_0 hx110
        generalize w109.drewN n110 = w110 at *
        have c0_0 : w110.cell? ⟨g102, 0, none⟩ = some (.int .i64 0) := hb110_0.cell 0
        have c0_1 : w110.cell? ⟨g102, 1, none⟩ = some (.int .i64 0) := hb110_0.cell 1
        have c1_0 : w110.cell? ⟨g104, 0, none⟩ = some (.int .i64 6) := hb110_1.cell 0
        have c1_1 : w110.cell? ⟨g104, 1, none⟩ = some (.int .i64 0) := hb110_1.cell 1
        have c2_0 : w110.cell? ⟨g106, 0, none⟩ = some (.int .i64 3) := hb110_2.cell 0
        have c2_1 : w110.cell? ⟨g106, 1, none⟩ = some (.int .i64 0) := hb110_2.cell 1
        have c3_0 : w110.cell? ⟨w107.heap.size, 0, none⟩ = some (.int .i64 0) := hb110_3.cell 0
        have c3_1 : w110.cell? ⟨w107.heap.size, 1, none⟩ = some (.int .i64 0) := hb110_3.cell 1
        have bi1 : decide (i < 0) = true := decide_eq_true (by omega)
        have bm1 : decide (m < 1) = false := decide_eq_false (by omega)
        have bm2 : decide ((ll.length : Int) < m) = true := decide_eq_true (by omega)
        go_wp2_with fail
        go_ret
        exact ⟨rfl, hx0.trans (hz110.mono hx0.size)⟩
    · skip
      have hin : ¬ (0 ≤ i ∧ i < (ll.length : Int)) := by omega
      have HI := Lib.hid hin
      refine (Path_none w102 _ _ ll i (hlW.below hz102) hf hin).mono ?_
      rintro e w103 ⟨rfl, hx103⟩
      have hz103 := hz102.trans (hx103.mono hz102.size)
      have hb103_0 := hB102.below hx103 lB102
      have lt103_0 : g102 < w103.heap.size := by have := hx103.size; omega
      have hd103_0 := SlAt.below hd102_0 hx103
      clear hz102 hB102 lB102 hd102_0 hx103
      have hz104 := hz103.alloc hz103.size (.cells #[.int .i64 6, .int .i64 0] 32)
      have hB104 : Blk (w103.alloc (.cells #[.int .i64 6, .int .i64 0] 32)) w103.heap.size 32 #[.int .i64 6, .int .i64 0] := heap_alloc_new w103 _
      have lB104 : w103.heap.size < (w103.alloc (.cells #[.int .i64 6, .int .i64 0] 32)).heap.size := by simp
      have hb104_0 := hb103_0.alloc (.cells #[.int .i64 6, .int .i64 0] 32)
      have lt104_0 : g102 < (w103.alloc (.cells #[.int .i64 6, .int .i64 0] 32)).heap.size := by simp; omega
      have hd104_0 := SlAt.alloc hd103_0 (.cells #[.int .i64 6, .int .i64 0] 32)
      clear hz103 hb103_0 lt103_0 hd103_0
      go_wp2_with fail
      generalize w103.alloc _ = w104 at *
      generalize w103.heap.size = g104 at *
      rcases (show (1 ≤ m ∧ m ≤ (ll.length : Int)) ∨ m < 1 ∨ (¬ m < 1 ∧ (ll.length : Int) < m) by omega) with hmn | hm1 | ⟨hm1, hm2⟩
      · as_aux_lemma =>
        have HM := Lib.hid hmn
        refine (Grows_fine w104 _ _ ll m (hlW.below hz104) hf hmn.1 hmn.2).mono ?_
        rintro e w105 ⟨qv, rfl, hqo, hx105⟩
        have hz105 := hz104.trans (hx105.mono hz104.size)
        have hb105_0 := hb104_0.below hx105 lt104_0
        have lt105_0 : g102 < w105.heap.size := by have := hx105.size; omega
        have hb105_1 := hB104.below hx105 lB104
        have lt105_1 : g104 < w105.heap.size := by have := hx105.size; omega
        have hd105_0 := SlAt.below hd104_0 hx105
        clear hz104 hb104_0 lt104_0 hB104 lB104 hd104_0 hx105
        have hq0 := hqo.blist.weak (F' := fun _ => True) (fun _ _ _ => trivial)
        obtain ⟨A23, c23, hqv, _, _, _⟩ := hq0.shape
        subst hqv
        clear hqo
        obtain ⟨QL, hQL⟩ : ∃ R, Tr.grows (ll.map Tr.leafH) m.toNat true = R := ⟨_, rfl⟩
        rw [hQL] at hq0 ⊢
        have HQL := Lib.hid hQL
        clear hQL
        have hz106 := hz105.alloc hz105.size (.cells #[.int .i64 0, .int .i64 0] 32)
        have hB106 : Blk (w105.alloc (.cells #[.int .i64 0, .int .i64 0] 32)) w105.heap.size 32 #[.int .i64 0, .int .i64 0] := heap_alloc_new w105 _
        have lB106 : w105.heap.size < (w105.alloc (.cells #[.int .i64 0, .int .i64 0] 32)).heap.size := by simp
        have hb106_0 := hb105_0.alloc (.cells #[.int .i64 0, .int .i64 0] 32)
        have lt106_0 : g102 < (w105.alloc (.cells #[.int .i64 0, .int .i64 0] 32)).heap.size := by simp; omega
        have hb106_1 := hb105_1.alloc (.cells #[.int .i64 0, .int .i64 0] 32)
        have lt106_1 : g104 < (w105.alloc (.cells #[.int .i64 0, .int .i64 0] 32)).heap.size := by simp; omega
        have hd106_0 := SlAt.alloc hd105_0 (.cells #[.int .i64 0, .int .i64 0] 32)
        have hd106_1 := hq0.alloc (.cells #[.int .i64 0, .int .i64 0] 32)
        clear hz105 hb105_0 lt105_0 hb105_1 lt105_1 hd105_0 hq0
        go_wp2_with fail
        generalize w105.alloc _ = w106 at *
        generalize w105.heap.size = g106 at *
        refine (HW2.out w106 hz106).mono ?_
        rintro e w107 ⟨rfl, hx107⟩
        have hz107 := hz106.trans (hx107.mono hz106.size)
        have hb107_0 := hb106_0.below hx107 lt106_0
        have lt107_0 : g102 < w107.heap.size := by have := hx107.size; omega
        have hb107_1 := hb106_1.below hx107 lt106_1
        have lt107_1 : g104 < w107.heap.size := by have := hx107.size; omega
        have hb107_2 := hB106.below hx107 lB106
        have lt107_2 : g106 < w107.heap.size := by have := hx107.size; omega
        have hd107_0 := SlAt.below hd106_0 hx107
        have hd107_1 := hd106_1.below hx107
        clear hz106 hb106_0 lt106_0 hb106_1 lt106_1 hB106 lB106 hd106_0 hd106_1 hx107
        unfold fv
        obtain ⟨w108, hW108⟩ : ∃ z, z = (w107.alloc (.cells #[.int .i64 0, .int .i64 0] 32)) := ⟨_, rfl⟩
        have hz108 : Below W.heap.size W w108 := by rw [hW108]; exact hz107.alloc hz107.size (.cells #[.int .i64 0, .int .i64 0] 32)
        have hB108 : Blk w108 w107.heap.size 32 #[.int .i64 0, .int .i64 0] := by rw [hW108]; exact heap_alloc_new w107 _
        have lB108 : w107.heap.size < w108.heap.size := by rw [hW108]; simp
        have hb108_0 : Blk w108 g102 32 #[.int .i64 0, .int .i64 0] := by rw [hW108]; exact hb107_0.alloc (.cells #[.int .i64 0, .int .i64 0] 32)
        have lt108_0 : g102 < w108.heap.size := by rw [hW108]; simp; omega
        have hb108_1 : Blk w108 g104 32 #[.int .i64 6, .int .i64 0] := by rw [hW108]; exact hb107_1.alloc (.cells #[.int .i64 0, .int .i64 0] 32)
        have lt108_1 : g104 < w108.heap.size := by rw [hW108]; simp; omega
        have hb108_2 : Blk w108 g106 32 #[.int .i64 0, .int .i64 0] := by rw [hW108]; exact hb107_2.alloc (.cells #[.int .i64 0, .int .i64 0] 32)
        have lt108_2 : g106 < w108.heap.size := by rw [hW108]; simp; omega
        have hxx108 : Below w107.heap.size w107 w108 := by rw [hW108]; exact (Below.refl _ _).alloc (Nat.le_refl _) _
        have hd108_0 := SlAt.below hd107_0 hxx108
        have hd108_1 := hd107_1.below hxx108
        have HWk := Lib.hid hW108
        clear hz107 hb107_0 lt107_0 hb107_1 lt107_1 hb107_2 lt107_2 hd107_0 hd107_1 hxx108 hW108
        try dsimp only
        go_upto_region 13 with (fail)
        first | rw [← HWk.out] | skip
        have c0_0 : w108.cell? ⟨g102, 0, none⟩ = some (.int .i64 0) := hb108_0.cell 0
        have c0_1 : w108.cell? ⟨g102, 1, none⟩ = some (.int .i64 0) := hb108_0.cell 1
        have c1_0 : w108.cell? ⟨g104, 0, none⟩ = some (.int .i64 6) := hb108_1.cell 0
        have c1_1 : w108.cell? ⟨g104, 1, none⟩ = some (.int .i64 0) := hb108_1.cell 1
        have c2_0 : w108.cell? ⟨g106, 0, none⟩ = some (.int .i64 0) := hb108_2.cell 0
        have c2_1 : w108.cell? ⟨g106, 1, none⟩ = some (.int .i64 0) := hb108_2.cell 1
        have c3_0 : w108.cell? ⟨w107.heap.size, 0, none⟩ = some (.int .i64 0) := hB108.cell 0
        have c3_1 : w108.cell? ⟨w107.heap.size, 1, none⟩ = some (.int .i64 0) := hB108.cell 1
        go_wp2_with fail
        refine (root_ref ll.length w108 _ _ ll (hlW.below hz108) rfl (by omega) hsh).mono ?_
        rintro e w109 ⟨mv, rfl, hmo, hx109⟩
        have hz109 := hz108.trans (hx109.mono hz108.size)
        have hb109_0 := hb108_0.below hx109 lt108_0
        have lt109_0 : g102 < w109.heap.size := by have := hx109.size; omega
        have hb109_1 := hb108_1.below hx109 lt108_1
        have lt109_1 : g104 < w109.heap.size := by have := hx109.size; omega
        have hb109_2 := hb108_2.below hx109 lt108_2
        have lt109_2 : g106 < w109.heap.size := by have := hx109.size; omega
        have hb109_3 := hB108.below hx109 lB108
        have lt109_3 : w107.heap.size < w109.heap.size := by have := hx109.size; omega
        have hd109_0 := SlAt.below hd108_0 hx109
        have hd109_1 := hd108_1.below hx109
        clear hz108 hb108_0 lt108_0 hb108_1 lt108_1 hb108_2 lt108_2 hB108 lB108 hd108_0 hd108_1 hx109
        clear c0_0 c0_1 c1_0 c1_1 c2_0 c2_1 c3_0 c3_1
        rw [HR.out] at hmo
        go_wp2_with fail
        refine (same_any w109 _ _ _ mv R R hd109_0 (OwnB.bytes hmo)).mono ?_
        rintro e w_ ⟨rfl, n110, rfl⟩
        rw [u64_same]
        clear hmo
        have hx110 := below_drewN (Below.refl w109.heap.size w109) n110
        have hz110 := below_drewN hz109 n110
        have hb110_0 := hb109_0.drewN n110
        have lt110_0 : g102 < (w109.drewN n110).heap.size := lt109_0
        have hb110_1 := hb109_1.drewN n110
        have lt110_1 : g104 < (w109.drewN n110).heap.size := lt109_1
        have hb110_2 := hb109_2.drewN n110
        have lt110_2 : g106 < (w109.drewN n110).heap.size := lt109_2
        have hb110_3 := hb109_3.drewN n110
        have lt110_3 : w107.heap.size < (w109.drewN n110).heap.size := lt109_3
        have hd110_0 := SlAt.below hd109_0 hx110
        have hd110_1 := hd109_1.below hx110
        clear hz109 hb109_0 lt109_0 hb109_1 lt109_1 hb109_2 lt109_2 hb109_3 lt109_3 hd109_0 hd109_1 hx110
        generalize w109.drewN n110 = w110 at *
        have c0_0 : w110.cell? ⟨g102, 0, none⟩ = some (.int .i64 0) := hb110_0.cell 0
        have c0_1 : w110.cell? ⟨g102, 1, none⟩ = some (.int .i64 0) := hb110_0.cell 1
        have c1_0 : w110.cell? ⟨g104, 0, none⟩ = some (.int .i64 6) := hb110_1.cell 0
        have c1_1 : w110.cell? ⟨g104, 1, none⟩ = some (.int .i64 0) := hb110_1.cell 1
        have c2_0 : w110.cell? ⟨g106, 0, none⟩ = some (.int .i64 0) := hb110_2.cell 0
        have c2_1 : w110.cell? ⟨g106, 1, none⟩ = some (.int .i64 0) := hb110_2.cell 1
        have c3_0 : w110.cell? ⟨w107.heap.size, 0, none⟩ = some (.int .i64 0) := hb110_3.cell 0
        have c3_1 : w110.cell? ⟨w107.heap.size, 1, none⟩ = some (.int .i64 0) := hb110_3.cell 1
        have bi1 : decide (i < 0) = false := decide_eq_false (by omega)
        have bi2 : decide ((ll.length : Int) ≤ i) = true := decide_eq_true (by omega)
        have bm1 : decide (m < 1) = false := decide_eq_false (by have := HM.out.1; omega)
        have bm2 : decide ((ll.length : Int) < m) = false := decide_eq_false (by have := HM.out.2; omega)
        go_wp2_with fail
        refine (rproof_any ll.length w110 _ _ ll m.toNat _ true (hlW.below hz110) rfl (by omega) (by have := HM.out.1; omega) (by have := HM.out; omega) (by have := HM.out.1; omega) hsh).mono ?_
        rintro e w111 ⟨zv, rfl, hzo, hx111⟩
        have hz111 := hz110.trans (hx111.mono hz110.size)
        have hb111_0 := hb110_0.below hx111 lt110_0
        have lt111_0 : g102 < w111.heap.size := by have := hx111.size; omega
        have hb111_1 := hb110_1.below hx111 lt110_1
        have lt111_1 : g104 < w111.heap.size := by have := hx111.size; omega
        have hb111_2 := hb110_2.below hx111 lt110_2
        have lt111_2 : g106 < w111.heap.size := by have := hx111.size; omega
        have hb111_3 := hb110_3.below hx111 lt110_3
        have lt111_3 : w107.heap.size < w111.heap.size := by have := hx111.size; omega
        have hd111_0 := SlAt.below hd110_0 hx111
        have hd111_1 := hd110_1.below hx111
        clear hz110 hb110_0 lt110_0 hb110_1 lt110_1 hb110_2 lt110_2 hb110_3 lt110_3 hd110_0 hd110_1 hx111
        clear c0_0 c0_1 c1_0 c1_1 c2_0 c2_1 c3_0 c3_1
        rw [HQL.out] at hzo
        go_wp2_with fail
        refine (same2_yes w111 _ _ _ zv QL hd111_1 hzo.blist).mono ?_
        rintro e w_ ⟨rfl, n112, rfl⟩
        clear hzo
        have hx112 := below_drewN (Below.refl w111.heap.size w111) n112
        have hz112 := below_drewN hz111 n112
        have hb112_0 := hb111_0.drewN n112
        have lt112_0 : g102 < (w111.drewN n112).heap.size := lt111_0
        have hb112_1 := hb111_1.drewN n112
        have lt112_1 : g104 < (w111.drewN n112).heap.size := lt111_1
        have hb112_2 := hb111_2.drewN n112
        have lt112_2 : g106 < (w111.drewN n112).heap.size := lt111_2
        have hb112_3 := hb111_3.drewN n112
        have lt112_3 : w107.heap.size < (w111.drewN n112).heap.size := lt111_3
        have hd112_0 := SlAt.below hd111_0 hx112
        have hd112_1 := hd111_1.below hx112
        clear hz111 hb111_0 lt111_0 hb111_1 lt111_1 hb111_2 lt111_2 hb111_3 lt111_3 hd111_0 hd111_1 hx112
        generalize w111.drewN n112 = w112 at *
        go_wp2_with fail
        go_ret
        exact ⟨rfl, hx0.trans (hz112.mono hx0.size)⟩
      · as_aux_lemma =>
        have hmn : ¬ (1 ≤ m ∧ m ≤ (ll.length : Int)) := by omega
        have HM := Lib.hid hmn
        refine (Grows_none w104 _ _ ll m (hlW.below hz104) hf hmn).mono ?_
        rintro e w105 ⟨rfl, hx105⟩
        have hz105 := hz104.trans (hx105.mono hz104.size)
        have hb105_0 := hb104_0.below hx105 lt104_0
        have lt105_0 : g102 < w105.heap.size := by have := hx105.size; omega
        have hb105_1 := hB104.below hx105 lB104
        have lt105_1 : g104 < w105.heap.size := by have := hx105.size; omega
        have hd105_0 := SlAt.below hd104_0 hx105
        clear hz104 hb104_0 lt104_0 hB104 lB104 hd104_0 hx105
        have hz106 := hz105.alloc hz105.size (.cells #[.int .i64 3, .int .i64 0] 32)
        have hB106 : Blk (w105.alloc (.cells #[.int .i64 3, .int .i64 0] 32)) w105.heap.size 32 #[.int .i64 3, .int .i64 0] := heap_alloc_new w105 _
        have lB106 : w105.heap.size < (w105.alloc (.cells #[.int .i64 3, .int .i64 0] 32)).heap.size := by simp
        have hb106_0 := hb105_0.alloc (.cells #[.int .i64 3, .int .i64 0] 32)
        have lt106_0 : g102 < (w105.alloc (.cells #[.int .i64 3, .int .i64 0] 32)).heap.size := by simp; omega
        have hb106_1 := hb105_1.alloc (.cells #[.int .i64 3, .int .i64 0] 32)
        have lt106_1 : g104 < (w105.alloc (.cells #[.int .i64 3, .int .i64 0] 32)).heap.size := by simp; omega
        have hd106_0 := SlAt.alloc hd105_0 (.cells #[.int .i64 3, .int .i64 0] 32)
        clear hz105 hb105_0 lt105_0 hb105_1 lt105_1 hd105_0
        go_wp2_with fail
        generalize w105.alloc _ = w106 at *
        generalize w105.heap.size = g106 at *
        refine (HW2.out w106 hz106).mono ?_
        rintro e w107 ⟨rfl, hx107⟩
        have hz107 := hz106.trans (hx107.mono hz106.size)
        have hb107_0 := hb106_0.below hx107 lt106_0
        have lt107_0 : g102 < w107.heap.size := by have := hx107.size; omega
        have hb107_1 := hb106_1.below hx107 lt106_1
        have lt107_1 : g104 < w107.heap.size := by have := hx107.size; omega
        have hb107_2 := hB106.below hx107 lB106
        have lt107_2 : g106 < w107.heap.size := by have := hx107.size; omega
        have hd107_0 := SlAt.below hd106_0 hx107
        clear hz106 hb106_0 lt106_0 hb106_1 lt106_1 hB106 lB106 hd106_0 hx107
        unfold fv
        obtain ⟨w108, hW108⟩ : ∃ z, z = (w107.alloc (.cells #[.int .i64 0, .int .i64 0] 32)) := ⟨_, rfl⟩
        have hz108 : Below W.heap.size W w108 := by rw [hW108]; exact hz107.alloc hz107.size (.cells #[.int .i64 0, .int .i64 0] 32)
        have hB108 : Blk w108 w107.heap.size 32 #[.int .i64 0, .int .i64 0] := by rw [hW108]; exact heap_alloc_new w107 _
        have lB108 : w107.heap.size < w108.heap.size := by rw [hW108]; simp
        have hb108_0 : Blk w108 g102 32 #[.int .i64 0, .int .i64 0] := by rw [hW108]; exact hb107_0.alloc (.cells #[.int .i64 0, .int .i64 0] 32)
        have lt108_0 : g102 < w108.heap.size := by rw [hW108]; simp; omega
        have hb108_1 : Blk w108 g104 32 #[.int .i64 6, .int .i64 0] := by rw [hW108]; exact hb107_1.alloc (.cells #[.int .i64 0, .int .i64 0] 32)
        have lt108_1 : g104 < w108.heap.size := by rw [hW108]; simp; omega
        have hb108_2 : Blk w108 g106 32 #[.int .i64 3, .int .i64 0] := by rw [hW108]; exact hb107_2.alloc (.cells #[.int .i64 0, .int .i64 0] 32)
        have lt108_2 : g106 < w108.heap.size := by rw [hW108]; simp; omega
        have hxx108 : Below w107.heap.size w107 w108 := by rw [hW108]; exact (Below.refl _ _).alloc (Nat.le_refl _) _
        have hd108_0 := SlAt.below hd107_0 hxx108
        have HWk := Lib.hid hW108
        clear hz107 hb107_0 lt107_0 hb107_1 lt107_1 hb107_2 lt107_2 hd107_0 hxx108 hW108
        try dsimp only
        go_upto_region 13 with (fail)
        first | rw [← HWk.out] | skip
        have c0_0 : w108.cell? ⟨g102, 0, none⟩ = some (.int .i64 0) := hb108_0.cell 0
        have c0_1 : w108.cell? ⟨g102, 1, none⟩ = some (.int .i64 0) := hb108_0.cell 1
        have c1_0 : w108.cell? ⟨g104, 0, none⟩ = some (.int .i64 6) := hb108_1.cell 0
        have c1_1 : w108.cell? ⟨g104, 1, none⟩ = some (.int .i64 0) := hb108_1.cell 1
        have c2_0 : w108.cell? ⟨g106, 0, none⟩ = some (.int .i64 3) := hb108_2.cell 0
        have c2_1 : w108.cell? ⟨g106, 1, none⟩ = some (.int .i64 0) := hb108_2.cell 1
        have c3_0 : w108.cell? ⟨w107.heap.size, 0, none⟩ = some (.int .i64 0) := hB108.cell 0
        have c3_1 : w108.cell? ⟨w107.heap.size, 1, none⟩ = some (.int .i64 0) := hB108.cell 1
        go_wp2_with fail
        refine (root_ref ll.length w108 _ _ ll (hlW.below hz108) rfl (by omega) hsh).mono ?_
        rintro e w109 ⟨mv, rfl, hmo, hx109⟩
        have hz109 := hz108.trans (hx109.mono hz108.size)
        have hb109_0 := hb108_0.below hx109 lt108_0
        have lt109_0 : g102 < w109.heap.size := by have := hx109.size; omega
        have hb109_1 := hb108_1.below hx109 lt108_1
        have lt109_1 : g104 < w109.heap.size := by have := hx109.size; omega
        have hb109_2 := hb108_2.below hx109 lt108_2
        have lt109_2 : g106 < w109.heap.size := by have := hx109.size; omega
        have hb109_3 := hB108.below hx109 lB108
        have lt109_3 : w107.heap.size < w109.heap.size := by have := hx109.size; omega
        have hd109_0 := SlAt.below hd108_0 hx109
        clear hz108 hb108_0 lt108_0 hb108_1 lt108_1 hb108_2 lt108_2 hB108 lB108 hd108_0 hx109
        clear c0_0 c0_1 c1_0 c1_1 c2_0 c2_1 c3_0 c3_1
        rw [HR.out] at hmo
        go_wp2_with fail
        refine (same_any w109 _ _ _ mv R R hd109_0 (OwnB.bytes hmo)).mono ?_
        rintro e w_ ⟨rfl, n110, rfl⟩
        rw [u64_same]
        clear hmo
        have hx110 := below_drewN (Below.refl w109.heap.size w109) n110
        have hz110 := below_drewN hz109 n110
        have hb110_0 := hb109_0.drewN n110
        have lt110_0 : g102 < (w109.drewN n110).heap.size := lt109_0
        have hb110_1 := hb109_1.drewN n110
        have lt110_1 : g104 < (w109.drewN n110).heap.size := lt109_1
        have hb110_2 := hb109_2.drewN n110
        have lt110_2 : g106 < (w109.drewN n110).heap.size := lt109_2
        have hb110_3 := hb109_3.drewN n110
        have lt110_3 : w107.heap.size < (w109.drewN n110).heap.size := lt109_3
        have hd110_0 := SlAt.below hd109_0 hx110
        clear hz109 hb109_0 lt109_0 hb109_1 lt109_1 hb109_2 lt109_2 hb109_3 lt109_3 hd109_0 hx110
        generalize w109.drewN n110 = w110 at *
        have c0_0 : w110.cell? ⟨g102, 0, none⟩ = some (.int .i64 0) := hb110_0.cell 0
        have c0_1 : w110.cell? ⟨g102, 1, none⟩ = some (.int .i64 0) := hb110_0.cell 1
        have c1_0 : w110.cell? ⟨g104, 0, none⟩ = some (.int .i64 6) := hb110_1.cell 0
        have c1_1 : w110.cell? ⟨g104, 1, none⟩ = some (.int .i64 0) := hb110_1.cell 1
        have c2_0 : w110.cell? ⟨g106, 0, none⟩ = some (.int .i64 3) := hb110_2.cell 0
        have c2_1 : w110.cell? ⟨g106, 1, none⟩ = some (.int .i64 0) := hb110_2.cell 1
        have c3_0 : w110.cell? ⟨w107.heap.size, 0, none⟩ = some (.int .i64 0) := hb110_3.cell 0
        have c3_1 : w110.cell? ⟨w107.heap.size, 1, none⟩ = some (.int .i64 0) := hb110_3.cell 1
        have bi1 : decide (i < 0) = false := decide_eq_false (by omega)
        have bi2 : decide ((ll.length : Int) ≤ i) = true := decide_eq_true (by omega)
        have bm1 : decide (m < 1) = true := decide_eq_true (by omega)
        go_wp2_with fail
        go_ret
        exact ⟨rfl, hx0.trans (hz110.mono hx0.size)⟩
      · as_aux_lemma =>
        have hmn : ¬ (1 ≤ m ∧ m ≤ (ll.length : Int)) := by omega
        have HM := Lib.hid hmn
        refine (Grows_none w104 _ _ ll m (hlW.below hz104) hf hmn).mono ?_
        rintro e w105 ⟨rfl, hx105⟩
        have hz105 := hz104.trans (hx105.mono hz104.size)
        have hb105_0 := hb104_0.below hx105 lt104_0
        have lt105_0 : g102 < w105.heap.size := by have := hx105.size; omega
        have hb105_1 := hB104.below hx105 lB104
        have lt105_1 : g104 < w105.heap.size := by have := hx105.size; omega
        have hd105_0 := SlAt.below hd104_0 hx105
        clear hz104 hb104_0 lt104_0 hB104 lB104 hd104_0 hx105
        have hz106 := hz105.alloc hz105.size (.cells #[.int .i64 3, .int .i64 0] 32)
        have hB106 : Blk (w105.alloc (.cells #[.int .i64 3, .int .i64 0] 32)) w105.heap.size 32 #[.int .i64 3, .int .i64 0] := heap_alloc_new w105 _
        have lB106 : w105.heap.size < (w105.alloc (.cells #[.int .i64 3, .int .i64 0] 32)).heap.size := by simp
        have hb106_0 := hb105_0.alloc (.cells #[.int .i64 3, .int .i64 0] 32)
        have lt106_0 : g102 < (w105.alloc (.cells #[.int .i64 3, .int .i64 0] 32)).heap.size := by simp; omega
        have hb106_1 := hb105_1.alloc (.cells #[.int .i64 3, .int .i64 0] 32)
        have lt106_1 : g104 < (w105.alloc (.cells #[.int .i64 3, .int .i64 0] 32)).heap.size := by simp; omega
        have hd106_0 := SlAt.alloc hd105_0 (.cells #[.int .i64 3, .int .i64 0] 32)
        clear hz105 hb105_0 lt105_0 hb105_1 lt105_1 hd105_0
        go_wp2_with fail
        generalize w105.alloc _ = w106 at *
        generalize w105.heap.size = g106 at *
        refine (HW2.out w106 hz106).mono ?_
        rintro e w107 ⟨rfl, hx107⟩
        have hz107 := hz106.trans (hx107.mono hz106.size)
        have hb107_0 := hb106_0.below hx107 lt106_0
        have lt107_0 : g102 < w107.heap.size := by have := hx107.size; omega
        have hb107_1 := hb106_1.below hx107 lt106_1
        have lt107_1 : g104 < w107.heap.size := by have := hx107.size; omega
        have hb107_2 := hB106.below hx107 lB106
        have lt107_2 : g106 < w107.heap.size := by have := hx107.size; omega
        have hd107_0 := SlAt.below hd106_0 hx107
        clear hz106 hb106_0 lt106_0 hb106_1 lt106_1 hB106 lB106 hd106_0 hx107
        unfold fv
        obtain ⟨w108, hW108⟩ : ∃ z, z = (w107.alloc (.cells #[.int .i64 0, .int .i64 0] 32)) := ⟨_, rfl⟩
        have hz108 : Below W.heap.size W w108 := by rw [hW108]; exact hz107.alloc hz107.size (.cells #[.int .i64 0, .int .i64 0] 32)
        have hB108 : Blk w108 w107.heap.size 32 #[.int .i64 0, .int .i64 0] := by rw [hW108]; exact heap_alloc_new w107 _
        have lB108 : w107.heap.size < w108.heap.size := by rw [hW108]; simp
        have hb108_0 : Blk w108 g102 32 #[.int .i64 0, .int .i64 0] := by rw [hW108]; exact hb107_0.alloc (.cells #[.int .i64 0, .int .i64 0] 32)
        have lt108_0 : g102 < w108.heap.size := by rw [hW108]; simp; omega
        have hb108_1 : Blk w108 g104 32 #[.int .i64 6, .int .i64 0] := by rw [hW108]; exact hb107_1.alloc (.cells #[.int .i64 0, .int .i64 0] 32)
        have lt108_1 : g104 < w108.heap.size := by rw [hW108]; simp; omega
        have hb108_2 : Blk w108 g106 32 #[.int .i64 3, .int .i64 0] := by rw [hW108]; exact hb107_2.alloc (.cells #[.int .i64 0, .int .i64 0] 32)
        have lt108_2 : g106 < w108.heap.size := by rw [hW108]; simp; omega
        have hxx108 : Below w107.heap.size w107 w108 := by rw [hW108]; exact (Below.refl _ _).alloc (Nat.le_refl _) _
        have hd108_0 := SlAt.below hd107_0 hxx108
        have HWk := Lib.hid hW108
        clear hz107 hb107_0 lt107_0 hb107_1 lt107_1 hb107_2 lt107_2 hd107_0 hxx108 hW108
        try dsimp only
        go_upto_region 13 with (fail)
        first | rw [← HWk.out] | skip
        have c0_0 : w108.cell? ⟨g102, 0, none⟩ = some (.int .i64 0) := hb108_0.cell 0
        have c0_1 : w108.cell? ⟨g102, 1, none⟩ = some (.int .i64 0) := hb108_0.cell 1
        have c1_0 : w108.cell? ⟨g104, 0, none⟩ = some (.int .i64 6) := hb108_1.cell 0
        have c1_1 : w108.cell? ⟨g104, 1, none⟩ = some (.int .i64 0) := hb108_1.cell 1
        have c2_0 : w108.cell? ⟨g106, 0, none⟩ = some (.int .i64 3) := hb108_2.cell 0
        have c2_1 : w108.cell? ⟨g106, 1, none⟩ = some (.int .i64 0) := hb108_2.cell 1
        have c3_0 : w108.cell? ⟨w107.heap.size, 0, none⟩ = some (.int .i64 0) := hB108.cell 0
        have c3_1 : w108.cell? ⟨w107.heap.size, 1, none⟩ = some (.int .i64 0) := hB108.cell 1
        go_wp2_with fail
        refine (root_ref ll.length w108 _ _ ll (hlW.below hz108) rfl (by omega) hsh).mono ?_
        rintro e w109 ⟨mv, rfl, hmo, hx109⟩
        have hz109 := hz108.trans (hx109.mono hz108.size)
        have hb109_0 := hb108_0.below hx109 lt108_0
        have lt109_0 : g102 < w109.heap.size := by have := hx109.size; omega
        have hb109_1 := hb108_1.below hx109 lt108_1
        have lt109_1 : g104 < w109.heap.size := by have := hx109.size; omega
        have hb109_2 := hb108_2.below hx109 lt108_2
        have lt109_2 : g106 < w109.heap.size := by have := hx109.size; omega
        have hb109_3 := hB108.below hx109 lB108
        have lt109_3 : w107.heap.size < w109.heap.size := by have := hx109.size; omega
        have hd109_0 := SlAt.below hd108_0 hx109
        clear hz108 hb108_0 lt108_0 hb108_1 lt108_1 hb108_2 lt108_2 hB108 lB108 hd108_0 hx109
        clear c0_0 c0_1 c1_0 c1_1 c2_0 c2_1 c3_0 c3_1
        rw [HR.out] at hmo
        go_wp2_with fail
        refine (same_any w109 _ _ _ mv R R hd109_0 (OwnB.bytes hmo)).mono ?_
        rintro e w_ ⟨rfl, n110, rfl⟩
        rw [u64_same]
        clear hmo
        have hx110 := below_drewN (Below.refl w109.heap.size w109) n110
        have hz110 := below_drewN hz109 n110
        have hb110_0 := hb109_0.drewN n110
        have lt110_0 : g102 < (w109.drewN n110).heap.size := lt109_0
        have hb110_1 := hb109_1.drewN n110
        have lt110_1 : g104 < (w109.drewN n110).heap.size := lt109_1
        have hb110_2 := hb109_2.drewN n110
        have lt110_2 : g106 < (w109.drewN n110).heap.size := lt109_2
        have hb110_3 := hb109_3.drewN n110
        have lt110_3 : w107.heap.size < (w109.drewN n110).heap.size := lt109_3
        have hd110_0 := SlAt.below hd109_0 hx110
        clear hz109 hb109_0 lt109_0 hb109_1 lt109_1 hb109_2 lt109_2 hb109_3 lt109_3 hd109_0 hx110
        generalize w109.drewN n110 = w110 at *
        have c0_0 : w110.cell? ⟨g102, 0, none⟩ = some (.int .i64 0) := hb110_0.cell 0
        have c0_1 : w110.cell? ⟨g102, 1, none⟩ = some (.int .i64 0) := hb110_0.cell 1
        have c1_0 : w110.cell? ⟨g104, 0, none⟩ = some (.int .i64 6) := hb110_1.cell 0
        have c1_1 : w110.cell? ⟨g104, 1, none⟩ = some (.int .i64 0) := hb110_1.cell 1
        have c2_0 : w110.cell? ⟨g106, 0, none⟩ = some (.int .i64 3) := hb110_2.cell 0
        have c2_1 : w110.cell? ⟨g106, 1, none⟩ = some (.int .i64 0) := hb110_2.cell 1
        have c3_0 : w110.cell? ⟨w107.heap.size, 0, none⟩ = some (.int .i64 0) := hb110_3.cell 0
        have c3_1 : w110.cell? ⟨w107.heap.size, 1, none⟩ = some (.int .i64 0) := hb110_3.cell 1
        have bi1 : decide (i < 0) = false := decide_eq_false (by omega)
        have bi2 : decide ((ll.length : Int) ≤ i) = true := decide_eq_true (by omega)
        have bm1 : decide (m < 1) = false := decide_eq_false (by omega)
        have bm2 : decide ((ll.length : Int) < m) = true := decide_eq_true (by omega)
        go_wp2_with fail
        go_ret
        exact ⟨rfl, hx0.trans (hz110.mono hx0.size)⟩
  · skip
    refine (Root_bad w16 _ _ ll (hlW.below hz16) hf).mono ?_
    rintro e w201 ⟨a0, b0, rfl, hab0, hne0, hx201⟩
    have hz201 := hz16.trans (hx201.mono hz16.size)
    clear hz16 hx201
    obtain ⟨e1_, e2_⟩ : a0 = fa ∧ b0 = fb := by have h2 := hab0.symm.trans HFV.out; injection h2 with h3 h4; exact ⟨h3, h4⟩
    rw [e1_] at hne0
    rw [e1_, e2_]
    clear e1_ e2_ hab0
    have hz202 := hz201.alloc hz201.size (.cells #[.int .i64 (fa : Int), .int .i64 (fb : Int)] 32)
    have hB202 : Blk (w201.alloc (.cells #[.int .i64 (fa : Int), .int .i64 (fb : Int)] 32)) w201.heap.size 32 #[.int .i64 (fa : Int), .int .i64 (fb : Int)] := heap_alloc_new w201 _
    have lB202 : w201.heap.size < (w201.alloc (.cells #[.int .i64 (fa : Int), .int .i64 (fb : Int)] 32)).heap.size := by simp
    clear hz201
    go_wp2_with fail
    generalize w201.alloc _ = w202 at *
    generalize w201.heap.size = g202 at *
    refine (Path_bad w202 _ _ ll i (hlW.below hz202) hf).mono ?_
    rintro e w203 ⟨a1, b1, rfl, hab1, hne1, hx203⟩
    have hz203 := hz202.trans (hx203.mono hz202.size)
    have hb203_0 := hB202.below hx203 lB202
    have lt203_0 : g202 < w203.heap.size := by have := hx203.size; omega
    clear hz202 hB202 lB202 hx203
    obtain ⟨e1_, e2_⟩ : a1 = fa ∧ b1 = fb := by have h2 := hab1.symm.trans HFV.out; injection h2 with h3 h4; exact ⟨h3, h4⟩
    rw [e1_] at hne1
    rw [e1_, e2_]
    clear e1_ e2_ hab1 hne1
    have hz204 := hz203.alloc hz203.size (.cells #[.int .i64 (fa : Int), .int .i64 (fb : Int)] 32)
    have hB204 : Blk (w203.alloc (.cells #[.int .i64 (fa : Int), .int .i64 (fb : Int)] 32)) w203.heap.size 32 #[.int .i64 (fa : Int), .int .i64 (fb : Int)] := heap_alloc_new w203 _
    have lB204 : w203.heap.size < (w203.alloc (.cells #[.int .i64 (fa : Int), .int .i64 (fb : Int)] 32)).heap.size := by simp
    have hb204_0 := hb203_0.alloc (.cells #[.int .i64 (fa : Int), .int .i64 (fb : Int)] 32)
    have lt204_0 : g202 < (w203.alloc (.cells #[.int .i64 (fa : Int), .int .i64 (fb : Int)] 32)).heap.size := by simp; omega
    clear hz203 hb203_0 lt203_0
    go_wp2_with fail
    generalize w203.alloc _ = w204 at *
    generalize w203.heap.size = g204 at *
    refine (Grows_bad w204 _ _ ll m (hlW.below hz204) hf).mono ?_
    rintro e w205 ⟨a2, b2, rfl, hab2, hne2, hx205⟩
    have hz205 := hz204.trans (hx205.mono hz204.size)
    have hb205_0 := hb204_0.below hx205 lt204_0
    have lt205_0 : g202 < w205.heap.size := by have := hx205.size; omega
    have hb205_1 := hB204.below hx205 lB204
    have lt205_1 : g204 < w205.heap.size := by have := hx205.size; omega
    clear hz204 hb204_0 lt204_0 hB204 lB204 hx205
    obtain ⟨e1_, e2_⟩ : a2 = fa ∧ b2 = fb := by have h2 := hab2.symm.trans HFV.out; injection h2 with h3 h4; exact ⟨h3, h4⟩
    rw [e1_] at hne2
    rw [e1_, e2_]
    clear e1_ e2_ hab2 hne2
    have hz206 := hz205.alloc hz205.size (.cells #[.int .i64 (fa : Int), .int .i64 (fb : Int)] 32)
    have hB206 : Blk (w205.alloc (.cells #[.int .i64 (fa : Int), .int .i64 (fb : Int)] 32)) w205.heap.size 32 #[.int .i64 (fa : Int), .int .i64 (fb : Int)] := heap_alloc_new w205 _
    have lB206 : w205.heap.size < (w205.alloc (.cells #[.int .i64 (fa : Int), .int .i64 (fb : Int)] 32)).heap.size := by simp
    have hb206_0 := hb205_0.alloc (.cells #[.int .i64 (fa : Int), .int .i64 (fb : Int)] 32)
    have lt206_0 : g202 < (w205.alloc (.cells #[.int .i64 (fa : Int), .int .i64 (fb : Int)] 32)).heap.size := by simp; omega
    have hb206_1 := hb205_1.alloc (.cells #[.int .i64 (fa : Int), .int .i64 (fb : Int)] 32)
    have lt206_1 : g204 < (w205.alloc (.cells #[.int .i64 (fa : Int), .int .i64 (fb : Int)] 32)).heap.size := by simp; omega
    clear hz205 hb205_0 lt205_0 hb205_1 lt205_1
    go_wp2_with fail
    generalize w205.alloc _ = w206 at *
    generalize w205.heap.size = g206 at *
    refine (HW2.out w206 hz206).mono ?_
    rintro e w207 ⟨rfl, hx207⟩
    have hz207 := hz206.trans (hx207.mono hz206.size)
    have hb207_0 := hb206_0.below hx207 lt206_0
    have lt207_0 : g202 < w207.heap.size := by have := hx207.size; omega
    have hb207_1 := hb206_1.below hx207 lt206_1
    have lt207_1 : g204 < w207.heap.size := by have := hx207.size; omega
    have hb207_2 := hB206.below hx207 lB206
    have lt207_2 : g206 < w207.heap.size := by have := hx207.size; omega
    clear hz206 hb206_0 lt206_0 hb206_1 lt206_1 hB206 lB206 hx207
    unfold fv
    obtain ⟨w208, hW208⟩ : ∃ z, z = (w207.alloc (.cells #[.int .i64 (fa : Int), .int .i64 (fb : Int)] 32)) := ⟨_, rfl⟩
    have hz208 : Below W.heap.size W w208 := by rw [hW208]; exact hz207.alloc hz207.size (.cells #[.int .i64 (fa : Int), .int .i64 (fb : Int)] 32)
    have hB208 : Blk w208 w207.heap.size 32 #[.int .i64 (fa : Int), .int .i64 (fb : Int)] := by rw [hW208]; exact heap_alloc_new w207 _
    have hb208_0 : Blk w208 g202 32 #[.int .i64 (fa : Int), .int .i64 (fb : Int)] := by rw [hW208]; exact hb207_0.alloc (.cells #[.int .i64 (fa : Int), .int .i64 (fb : Int)] 32)
    have hb208_1 : Blk w208 g204 32 #[.int .i64 (fa : Int), .int .i64 (fb : Int)] := by rw [hW208]; exact hb207_1.alloc (.cells #[.int .i64 (fa : Int), .int .i64 (fb : Int)] 32)
    have hb208_2 : Blk w208 g206 32 #[.int .i64 (fa : Int), .int .i64 (fb : Int)] := by rw [hW208]; exact hb207_2.alloc (.cells #[.int .i64 (fa : Int), .int .i64 (fb : Int)] 32)
    have HWk := Lib.hid hW208
    clear hW208
    try dsimp only
    go_upto_region 13 with (fail)
    first | rw [← HWk.out] | skip
    have c0_0 : w208.cell? ⟨g202, 0, none⟩ = some (.int .i64 (fa : Int)) := hb208_0.cell 0
    have c0_1 : w208.cell? ⟨g202, 1, none⟩ = some (.int .i64 (fb : Int)) := hb208_0.cell 1
    have c1_0 : w208.cell? ⟨g204, 0, none⟩ = some (.int .i64 (fa : Int)) := hb208_1.cell 0
    have c1_1 : w208.cell? ⟨g204, 1, none⟩ = some (.int .i64 (fb : Int)) := hb208_1.cell 1
    have c2_0 : w208.cell? ⟨g206, 0, none⟩ = some (.int .i64 (fa : Int)) := hb208_2.cell 0
    have c2_1 : w208.cell? ⟨g206, 1, none⟩ = some (.int .i64 (fb : Int)) := hb208_2.cell 1
    have c3_0 : w208.cell? ⟨w207.heap.size, 0, none⟩ = some (.int .i64 (fa : Int)) := hB208.cell 0
    have c3_1 : w208.cell? ⟨w207.heap.size, 1, none⟩ = some (.int .i64 (fb : Int)) := hB208.cell 1
    go_wp2_with fail
    go_ret
    exact ⟨by simp, hx0.trans (hz208.mono hx0.size)⟩
end Go.Proofs.Ytfdibjgmbdkbcaa
