/-
  THE WALK of yearlaw6.BookStands. Conditions: what comes in is read as a list of records.
-/
import Derived.Test.YtgbjfilkecmmgaaBookF
namespace Go.Proofs.Ytgbjfilkecmmgaa
open Go.RowKit Go.Lib

theorem FineB.take {l : List Rec} (h : Bk.FineB l) (k : Nat) : Bk.FineB (l.take k) := ⟨by rw [List.length_take]; have := h.1; omega, fun r hr => h.2 r (List.mem_of_mem_take hr)⟩
theorem rows_take (l : List Rec) (k : Nat) : Bk.rows (l.take k) = (Bk.rows l).take k := by unfold Bk.rows; rw [List.map_take]

set_option maxRecDepth 100000 in
set_option maxHeartbeats 4000000 in
theorem bookStands_walk (w : World) (v0 : Value) (l : List Rec) (h0 : RdL w (fun _ => True) v0 l) :
    Calls Try.prog 5 #[v0] w fun e w' => e = .returned (.bool true) ∧ Below w.heap.size w w' := by
  obtain ⟨A, c, hv, hlc, hcm⟩ := h0.form
  subst hv
  unfold maxLen at hcm
  go_enter Try.func5, Try.ntmps5
  go_wp2_with fail
  refine (alive6 w).mono ?_
  rintro e w1 ⟨rfl, hx1⟩
  go_wp2_with fail
  by_cases hf : Bk.FineB l
  · refine (Head_fine w1 _ _ l (h0.below hx1) hf).mono ?_
    obtain ⟨R, HR⟩ : ∃ R, Hid (R = Tr.root ((Bk.rows l).map Tr.leafH)) := ⟨_, Lib.hid rfl⟩
    rw [← HR.out]
    rintro e w2 ⟨v2, rfl, ho2, hx2⟩
    have hxa := hx1.trans (hx2.mono hx1.size)
    obtain ⟨A2, c2, hv2, _, _⟩ := Own.shape ho2
    subst hv2
    have hxb := (hxa.alloc hxa.size (.cells #[.int .i64 (l.length : Int), .slice A2 R.length c2] 24)).alloc (by simp; have := hxa.size; omega) (.cells #[.int .i64 0, .int .i64 0] 41)
    have hh : Blk ((w2.alloc (.cells #[.int .i64 (l.length : Int), .slice A2 R.length c2] 24)).alloc (.cells #[.int .i64 0, .int .i64 0] 41)) w2.heap.size 24 #[.int .i64 (l.length : Int), .slice A2 R.length c2] := Blk.alloc (heap_alloc_new w2 _) _
    have hrb := ((OwnB.bytes ho2).alloc (.cells #[.int .i64 (l.length : Int), .slice A2 R.length c2] 24)).alloc (.cells #[.int .i64 0, .int .i64 0] 41)
    have HF := Lib.hid hf
    have hn8 : l.length ≤ 8 := hf.1
    clear hf ho2
    go_wp2_with fail
    generalize (w2.alloc (.cells #[.int .i64 (l.length : Int), .slice A2 R.length c2] 24)).alloc (.cells #[.int .i64 0, .int .i64 0] 41) = w3 at *
    generalize w2.heap.size = g at *
    have hrb' : Bytes w3 (fun k => k < w3.heap.size) (.slice A2 R.length c2) R := hrb.weak (fun k hk _ => hk)
    clear hrb hxa hx1 hx2
    go_loopg [26] l.length (fun k i wr => ∃ j : Nat, j + k = l.length ∧ i = .int .i64 (j : Int) ∧ Below w3.heap.size w3 wr)
    case atStart => exact ⟨0, by omega, rfl, Below.refl _ _⟩
    case round =>
      obtain ⟨j, hj, rfl, hx⟩ := hrel
      by_cases hlt : j < l.length
      · have hltB : (j : Int) < (l.length : Int) := by omega
        have hxw := hxb.trans (hx.mono hxb.size)
        obtain ⟨b, off, c', A4, k4, hA, _, hb, q0, q1, q2, q3, q4, hub⟩ := rec_at h0 hlt
        injection hA with hA _ hA'
        subst hA hA'
        have p0 := (hxw.cell (p := ⟨b, off + j * 5, none⟩) hb).trans q0
        have p1 := (hxw.cell (p := ⟨b, off + j * 5 + 1, none⟩) hb).trans q1
        have p2 := (hxw.cell (p := ⟨b, off + j * 5 + 2, none⟩) hb).trans q2
        have p3 := (hxw.cell (p := ⟨b, off + j * 5 + 3, none⟩) hb).trans q3
        have p4 := (hxw.cell (p := ⟨b, off + j * 5 + 4, none⟩) hb).trans q4
        have hub' := hub.below hxw
        have hwr : Bk.wrongR l[j] = 0 := HF.out.2 _ (List.getElem_mem hlt)
        have hst : standsS (l.length : Int) R (Bk.rowR l[j]) (j : Int) (Tr.path ((Bk.rows l).map Tr.leafH) j) = true := by
          have h := standsS_path (Bk.rows l) (fine_rows HF.out) j (Bk.rowR l[j]) (by unfold Bk.rows; rw [List.getElem?_map, List.getElem?_eq_getElem hlt]; rfl)
          rw [← HR.out] at h
          rwa [show (Bk.rows l).length = l.length by unfold Bk.rows; rw [List.length_map]] at h
        have hgr : grewS ((j + 1 : Nat) : Int) (Tr.root ((Bk.rows (l.take (j + 1))).map Tr.leafH)) (l.length : Int) R (Tr.grows ((Bk.rows l).map Tr.leafH) (j + 1) true) = true := by
          have h := grewS_grows (Bk.rows l) (fine_rows HF.out) (j + 1) (by omega) (by unfold Bk.rows; rw [List.length_map]; omega)
          rw [← HR.out] at h
          rwa [← rows_take, show (Bk.rows l).length = l.length by unfold Bk.rows; rw [List.length_map]] at h
        have hgl : (Tr.grows ((Bk.rows l).map Tr.leafH) (j + 1) true).length ≤ 8 := grows_le7 (n := l.length) (by simp [Bk.rows]) (by omega) (j + 1) true
        generalize l[j] = r at *
        obtain ⟨sh, fr, tt, sz, root⟩ := r
        simp only at q0 q1 q2 q3 q4 p0 p1 p2 p3 p4 hub hub'
        have HST := Lib.hid hst
        have HGR := Lib.hid hgr
        have HGL := Lib.hid hgl
        have HWR := Lib.hid hwr
        clear hst hgr hgl hwr q0 q1 q2 q3 q4 hub
        go_wp2_with fail
        refine (bytesR_ok wr _ sh fr tt sz A4 k4 root hub' HWR.out).mono ?_
        generalize Bk.rowR ⟨sh, fr, tt, sz, root⟩ = row at *
        rintro e w4 ⟨v4, rfl, ho4, hx4⟩
        have hxB := hx.trans (hx4.mono hx.size)
        have hxC := hxb.trans (hxB.mono hxb.size)
        obtain ⟨A5, c5, hv5, _, _⟩ := Own.shape ho4
        subst hv5
        have hrow4 := OwnB.bytes ho4
        clear p0 p1 p2 p3 p4 ho4 hub'
        go_wp2_with fail
        refine (BPath_fine w4 _ _ l (j : Int) (h0.below hxC) HF.out (by omega) (by omega)).mono ?_
        rw [Int.toNat_natCast]
        obtain ⟨P, HP⟩ : ∃ P, Hid (P = Tr.path ((Bk.rows l).map Tr.leafH) j) := ⟨_, Lib.hid rfl⟩
        rw [← HP.out] at HST ⊢
        rintro e w5 ⟨v5, rfl, ho5, hx5⟩
        have hb5 := ho5.blist
        obtain ⟨A6, c6, hv6, _⟩ := hb5.shape
        subst hv6
        have hxD := hxB.trans (hx5.mono hxB.size)
        have hrow5 := hrow4.below hx5
        have hxE := hxD.alloc hxD.size (.cells #[.int .i64 0, .int .i64 0] 41)
        have hrow6 := hrow5.alloc (.cells #[.int .i64 0, .int .i64 0] 41)
        have hb6 := hb5.alloc (.cells #[.int .i64 0, .int .i64 0] 41)
        have hf6 : Blk (w5.alloc (.cells #[.int .i64 0, .int .i64 0] 41)) w5.heap.size 41 #[.int .i64 0, .int .i64 0] := heap_alloc_new w5 _
        have hjc : (j : Int) + 1 ≤ (c : Int) := by omega
        have hjn : (j : Int) + 1 ≤ (l.length : Int) := by omega
        clear ho5 hb5 hrow4 hrow5
        go_wp2_with fail
        generalize w5.alloc (.cells #[.int .i64 0, .int .i64 0] 41) = w6 at *
        generalize w5.heap.size = g5 at *
        have hxF := hxb.trans (hxE.mono hxb.size)
        have hl6 : RdL w6 (fun _ => True) (.slice (some ⟨b, off, none⟩) (j + 1) c) (l.take (j + 1)) := (h0.below hxF).first (j + 1) (by omega)
        have hlt1 : (l.take (j + 1)).length = j + 1 := by rw [List.length_take]; omega
        refine (Head_fine w6 _ _ _ hl6 (FineB.take HF.out (j + 1))).mono ?_
        obtain ⟨O, HO⟩ : ∃ O, Hid (O = Tr.root ((Bk.rows (l.take (j + 1))).map Tr.leafH)) := ⟨_, Lib.hid rfl⟩
        rw [← HO.out, hlt1]
        rw [← HO.out] at HGR
        clear hl6 hlt1
        rintro e w7 ⟨v7, rfl, ho7, hx7⟩
        have hxG := hxE.trans (hx7.mono hxE.size)
        obtain ⟨A7, c7, hv7, _, _⟩ := Own.shape ho7
        subst hv7
        have hxH := (hxG.alloc hxG.size (.cells #[.int .i64 ((j + 1 : Nat) : Int), .slice A7 O.length c7] 24)).alloc (by simp; have := hxG.size; omega) (.cells #[.int .i64 0, .int .i64 0] 41)
        have hrow8 := ((hrow6.below hx7).alloc (.cells #[.int .i64 ((j + 1 : Nat) : Int), .slice A7 O.length c7] 24)).alloc (.cells #[.int .i64 0, .int .i64 0] 41)
        have hb8 := ((hb6.below hx7).alloc (.cells #[.int .i64 ((j + 1 : Nat) : Int), .slice A7 O.length c7] 24)).alloc (.cells #[.int .i64 0, .int .i64 0] 41)
        have hf8 := ((hf6.below hx7 hf6.lt).alloc (.cells #[.int .i64 ((j + 1 : Nat) : Int), .slice A7 O.length c7] 24)).alloc (.cells #[.int .i64 0, .int .i64 0] 41)
        have hO8 := ((OwnB.bytes ho7).alloc (.cells #[.int .i64 ((j + 1 : Nat) : Int), .slice A7 O.length c7] 24)).alloc (.cells #[.int .i64 0, .int .i64 0] 41)
        have hh8 : Blk ((w7.alloc (.cells #[.int .i64 ((j + 1 : Nat) : Int), .slice A7 O.length c7] 24)).alloc (.cells #[.int .i64 0, .int .i64 0] 41)) w7.heap.size 24 #[.int .i64 ((j + 1 : Nat) : Int), .slice A7 O.length c7] := Blk.alloc (heap_alloc_new w7 _) _
        have hk8 : Blk ((w7.alloc (.cells #[.int .i64 ((j + 1 : Nat) : Int), .slice A7 O.length c7] 24)).alloc (.cells #[.int .i64 0, .int .i64 0] 41)) (w7.heap.size + 1) 41 #[.int .i64 0, .int .i64 0] := by
          have h := heap_alloc_new (w7.alloc (.cells #[.int .i64 ((j + 1 : Nat) : Int), .slice A7 O.length c7] 24)) (.cells #[.int .i64 0, .int .i64 0] 41)
          rw [World.size_alloc] at h
          exact h
        have hj1 : (((j + 1 : Nat) : Int)) = (j : Int) + 1 := by omega
        rw [hj1] at hxH hrow8 hb8 hf8 hO8 hh8 hk8 ⊢
        clear hrow6 hb6 hf6 ho7 hj1
        go_wp2_with fail
        generalize (w7.alloc (.cells #[.int .i64 ((j : Int) + 1), .slice A7 O.length c7] 24)).alloc (.cells #[.int .i64 0, .int .i64 0] 41) = w8 at *
        generalize w7.heap.size = g7 at *
        have hxI := hxb.trans (hxH.mono hxb.size)
        refine (BGrows_fine w8 _ _ l ((j : Int) + 1) (h0.below hxI) HF.out (by omega) (by omega)).mono ?_
        rw [show ((j : Int) + 1).toNat = j + 1 by omega]
        obtain ⟨Q, HQ⟩ : ∃ Q, Hid (Q = Tr.grows ((Bk.rows l).map Tr.leafH) (j + 1) true) := ⟨_, Lib.hid rfl⟩
        rw [← HQ.out] at HGR HGL ⊢
        rintro e w9 ⟨v9, rfl, ho9, hx9⟩
        have hb9 := ho9.blist
        obtain ⟨A9, c9, hv9, _⟩ := hb9.shape
        subst hv9
        have hxJ := hxH.trans (hx9.mono hxH.size)
        have hxK := hxJ.alloc hxJ.size (.cells #[.int .i64 0, .int .i64 0] 41)
        have hrowA := (hrow8.below hx9).alloc (.cells #[.int .i64 0, .int .i64 0] 41)
        have hbA := (hb8.below hx9).alloc (.cells #[.int .i64 0, .int .i64 0] 41)
        have hOA := (hO8.below hx9).alloc (.cells #[.int .i64 0, .int .i64 0] 41)
        have hqA := hb9.alloc (.cells #[.int .i64 0, .int .i64 0] 41)
        have hf9 := hf8.below hx9 hf8.lt
        have hk9 := hk8.below hx9 hk8.lt
        have hh9 := hh8.below hx9 hh8.lt
        have hhg := hh.below (hxJ) hh.lt
        have s0 : w9.cell? ⟨g5, 0, none⟩ = some (.int .i64 0) := hf9.cell 0
        have s1 : w9.cell? ⟨g7 + 1, 0, none⟩ = some (.int .i64 0) := hk9.cell 0
        have s2 : w9.cell? ⟨g, 0, none⟩ = some (.int .i64 (l.length : Int)) := hhg.cell 0
        have s3 : w9.cell? ⟨g, 1, none⟩ = some (.slice A2 R.length c2) := hhg.cell 1
        have t0 := hf9.lt
        have t1 := hk9.lt
        have t2 := hhg.lt
        have t3 := hh9.lt
        clear hrow8 hb8 hf8 hO8 hk8 hb9 ho9
        go_wp2_with fail
        have hhA := hh9.alloc (.cells #[.int .i64 0, .int .i64 0] 41)
        have hgA := hhg.alloc (.cells #[.int .i64 0, .int .i64 0] 41)
        generalize w9.alloc (.cells #[.int .i64 0, .int .i64 0] 41) = wA at *
        refine (stands_any wA _ _ _ _ _ _ (l.length : Int) R row (j : Int) P (hrb'.below hxK) hrowA hbA).mono ?_
        rintro e wB ⟨rfl, hxL⟩
        rw [HST.out]
        have hhB := hhA.below hxL hhA.lt
        have hgB := hgA.below hxL hgA.lt
        have u0 : wB.cell? ⟨g7, 0, none⟩ = some (.int .i64 ((j : Int) + 1)) := hhB.cell 0
        have u1 : wB.cell? ⟨g7, 1, none⟩ = some (.slice A7 O.length c7) := hhB.cell 1
        have u2 : wB.cell? ⟨g, 0, none⟩ = some (.int .i64 (l.length : Int)) := hgB.cell 0
        have u3 : wB.cell? ⟨g, 1, none⟩ = some (.slice A2 R.length c2) := hgB.cell 1
        have hxM := hxK.trans (hxL.mono hxK.size)
        go_wp2_with fail
        refine (grew_any wB _ _ _ _ _ _ ((j : Int) + 1) (l.length : Int) O R Q (hOA.below hxL) (hrb'.below hxM) (hqA.below hxL) (by have := HGL.out; omega)).mono ?_
        rintro e wC ⟨rfl, hxN⟩
        have hgr2 := HGR.out
        rw [show (((j + 1 : Nat) : Int)) = (j : Int) + 1 by omega] at hgr2
        rw [hgr2]
        have hxO := hxM.trans (hxN.mono hxM.size)
        clear hgr2
        go_wp2_with fail
        go_roundg (gk - 1)
        case measure => omega
        case rel => exact ⟨j + 1, by omega, by go_num, hxO⟩
      · have hltB : decide ((j : Int) < (l.length : Int)) = false := by simp; omega
        go_wp2_with fail
        go_ret
        exact ⟨rfl, hxb.trans (hx.mono hxb.size)⟩
  · refine (Head_bad w1 _ _ l (h0.below hx1) hf).mono ?_
    rintro e w2 ⟨a, a', rfl, _, ha, hx2⟩
    have hxa := hx1.trans (hx2.mono hx1.size)
    have hxb := (hxa.alloc hxa.size (.cells #[.int .i64 0, .slice none 0 0] 24)).alloc (by simp; have := hxa.size; omega) (.cells #[.int .i64 (a : Int), .int .i64 (a' : Int)] 41)
    clear hf
    go_wp2_with fail
    go_ret
    exact ⟨rfl, hxb⟩
end Go.Proofs.Ytgbjfilkecmmgaa
