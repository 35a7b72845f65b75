/-
  THE WALKS of yearlaw2.alive, TreeStands. Conditions: what comes in is read as lists of bytes.
-/
import Derived.Test.YtaojgabiefkcaaaTreeJ
namespace Go.Proofs.Ytaojgabiefkcaaa
open Go.RowKit Go.Lib

theorem fine3 : Fine [[1], [2], [3]] := ⟨by decide, by decide⟩
theorem depth13 : Tr.depth 1 3 = 2 := by
  rw [Tr.depth, dif_pos (by decide), if_pos (by decide +kernel), show Tr.split 3 = 2 from by decide +kernel, Tr.depth, dif_pos (by decide), if_neg (by decide +kernel), show Tr.split 2 = 1 from by decide +kernel, Tr.depth, dif_neg (by decide)]
theorem depth03 : Tr.depth 0 3 = 2 := by
  rw [Tr.depth, dif_pos (by decide), if_pos (by decide +kernel), show Tr.split 3 = 2 from by decide +kernel, Tr.depth, dif_pos (by decide), if_pos (by decide +kernel), show Tr.split 2 = 1 from by decide +kernel, Tr.depth, dif_neg (by decide)]
theorem stands3_no (r b : Bs) (p : List Bs) (hp : p.length = 1) : standsS 3 r b 0 p = false := by
  unfold standsS
  have h : Tr.up (Tr.leafH b) (0 : Int).toNat (3 : Int).toNat p = none := Tr.up_length 3 0 _ p (by decide) (by rw [hp, depth03]; decide)
  rw [h]
  simp

set_option maxRecDepth 100000 in
set_option maxHeartbeats 2000000 in
theorem alive2 (w : World) : Calls Try.prog 18 #[] w fun e w' => e = .returned (.bool true) ∧ Below w.heap.size w w' := by
  have hlp : (Tr.path ([[1], [2], [3]].map Tr.leafH) 1).length = 2 := (Tr.length_path 3 _ 1 rfl).trans depth13
  have hs1 := standsS_path [[1], [2], [3]] fine3 1 [2] rfl
  have hb3 : BList (((w.alloc (.cells #[bv 1] 5)).alloc (.cells #[bv 2] 5)).alloc (.cells #[bv 3] 5)) (fun _ => True) (.slice none 0 0) [] := ⟨[], SlAt.nil_ _ _ _, fun i b h => by simp at h⟩
  have hl := blist3 (((bytes1 w 1).alloc (.cells #[bv 2] 5)).alloc (.cells #[bv 3] 5)) ((bytes1 (w.alloc (.cells #[bv 1] 5)) 2).alloc (.cells #[bv 3] 5)) (bytes1 ((w.alloc (.cells #[bv 1] 5)).alloc (.cells #[bv 2] 5)) 3)
  have hx := (((Below.refl w.heap.size w).alloc (Nat.le_refl _) (.cells #[bv 1] 5)).alloc (by simp) (.cells #[bv 2] 5)).alloc (by simp; omega) (.cells #[bv 3] 5)
  clear hb3
  simp only [World.size_alloc] at hl
  go_enter Try.func18, Try.ntmps18
  go_wp2_with fail
  refine (Root_fine _ _ _ [[1], [2], [3]] hl fine3).mono ?_
  rintro e w1 ⟨rv, rfl, hown1, hx1⟩
  have hxa := hx.alloc (by simp; omega) (.cells #[.slice (some ⟨w.heap.size, 0, none⟩) 1 1, .slice (some ⟨w.heap.size + 1, 0, none⟩) 1 1, .slice (some ⟨w.heap.size + 1 + 1, 0, none⟩) 1 1] 22)
  have hxb : Below w.heap.size w w1 := hxa.trans (hx1.mono hxa.size)
  have hl1 := hl.below hx1
  have hlr : (Tr.root ([[1], [2], [3]].map Tr.leafH)).length = 32 := Tr.length_root _ (d32_leaves _)
  have hs1' : standsS 3 (Tr.root ([[1], [2], [3]].map Tr.leafH)) [2] 1 (Tr.path ([[1], [2], [3]].map Tr.leafH) 1) = true := hs1
  obtain ⟨A1, c1, hv1, _, _⟩ := Own.shape hown1
  subst hv1
  have hr1 := OwnB.bytes hown1
  rw [hlr]
  have hlrB : (((Tr.root ([[1], [2], [3]].map Tr.leafH)).length : Int) == 32) = true := by rw [hlr]; rfl
  clear hs1 hl hx hx1 hxa hown1
  generalize Tr.root ([[1], [2], [3]].map Tr.leafH) = R at *
  have HLR := Lib.hid hlr
  clear hlr
  go_wp2_with fail
  have hl2 := hl1.alloc (.cells #[.int .i64 0, .int .i64 0] 32)
  have hxc := hxb.alloc hxb.size (.cells #[.int .i64 0, .int .i64 0] 32)
  have hrc := hr1.alloc (.cells #[.int .i64 0, .int .i64 0] 32)
  have he0 : (w1.alloc (.cells #[.int .i64 0, .int .i64 0] 32)).cell? ⟨w1.heap.size, 0, none⟩ = some (.int .i64 0) := by rw [World.cell?_alloc_mark]; rfl
  have hsz : w1.heap.size < (w1.alloc (.cells #[.int .i64 0, .int .i64 0] 32)).heap.size := by simp
  generalize (w1.alloc (.cells #[.int .i64 0, .int .i64 0] 32)) = w2 at *
  refine (Path_fine _ _ _ [[1], [2], [3]] 1 hl2 fine3 (by decide) (by decide)).mono ?_
  rintro e w3 ⟨pv, rfl, hownp, hx3⟩
  have hxd := hxc.trans (hx3.mono hxc.size)
  have he1 := (hx3.cell (p := ⟨w1.heap.size, 0, none⟩) hsz).trans he0
  have hsz3 : w1.heap.size < w3.heap.size := by have := hx3.size; omega
  have hrd := hrc.below hx3
  have hbp := hownp.blist
  obtain ⟨A2, c2, hv2, hpc, hcm, _⟩ := hbp.shape
  subst hv2
  rw [show (1 : Int).toNat = 1 from rfl] at *
  rw [hlp]
  rw [hlp] at hpc
  have hpB : BList w3 (fun k => w2.heap.size ≤ k ∧ k < w3.heap.size) (.slice A2 2 c2) (Tr.path ([[1], [2], [3]].map Tr.leafH) 1) := by rw [← hlp]; exact hbp
  have hp1 : BList w3 (fun k => w2.heap.size ≤ k ∧ k < w3.heap.size) (.slice A2 1 c2) ((Tr.path ([[1], [2], [3]].map Tr.leafH) 1).take 1) := hbp.first 1 (by rw [hlp]; decide)
  have hl1p : ((Tr.path ([[1], [2], [3]].map Tr.leafH) 1).take 1).length = 1 := by rw [List.length_take, hlp]; rfl
  have hno := stands3_no R [2] _ hl1p
  clear hownp hbp hl2 hl1 he0 hsz hrc hr1 hxc hx3 hlp hl1p
  generalize Tr.path ([[1], [2], [3]].map Tr.leafH) 1 = P at *
  have HS1 := Lib.hid hs1'
  have HNO := Lib.hid hno
  clear hs1' hno
  have hc2 : (1 : Int) ≤ (c2 : Int) := by omega
  go_wp2_with fail
  have hr3 : Bytes w3 (fun k => w1.heap.size ≤ k ∨ True) (.slice A1 32 c1) R := by rw [← HLR.out]; exact hrd.weak (fun _ _ _ => .inr trivial)
  have hw4 := (hxd.alloc hxd.size (.cells #[.int .i64 0, .int .i64 0] 32)).alloc (by simp; have := hxd.size; omega) (.cells #[bv 2] 5)
  have hr4 := (hr3.alloc (.cells #[.int .i64 0, .int .i64 0] 32)).alloc (.cells #[bv 2] 5)
  have hp4 := (hpB.alloc (.cells #[.int .i64 0, .int .i64 0] 32)).alloc (.cells #[bv 2] 5)
  have hq4 := (hp1.alloc (.cells #[.int .i64 0, .int .i64 0] 32)).alloc (.cells #[bv 2] 5)
  have h24 := bytes1 (w3.alloc (.cells #[.int .i64 0, .int .i64 0] 32)) 2
  rw [World.size_alloc] at h24
  refine (stands_any _ _ _ _ _ _ _ 3 R [2] 1 P hr4 h24 hp4).mono ?_
  rintro e w5 ⟨rfl, hx5⟩
  rw [HS1.out]
  have hw5 := hw4.trans (hx5.mono hw4.size)
  have hr5 := (hr4.below hx5).alloc (.cells #[bv 2] 5)
  have hq5 := (hq4.below hx5).alloc (.cells #[bv 2] 5)
  have h25 := bytes1 w5 2
  have hw6 := hw5.alloc hw5.size (.cells #[bv 2] 5)
  clear hr3 hr4 hp4 hq4 h24 hpB hp1 hrd
  go_wp2_with fail
  refine (stands_any _ _ _ _ _ _ _ 3 R [2] 0 _ hr5 h25 hq5).mono ?_
  rintro e w7 ⟨rfl, hx7⟩
  rw [HNO.out]
  go_wp2_with fail
  go_ret
  exact ⟨rfl, hw6.trans (hx7.mono hw6.size)⟩

set_option maxRecDepth 100000 in
set_option maxHeartbeats 2000000 in
theorem treeStands_walk (w : World) (F : Nat → Prop) (v : Value) (ll : List Bs) (hl : BList w F v ll) :
    Calls Try.prog 4 #[v] w fun e w' => e = .returned (.bool true) ∧ Below w.heap.size w w' := by
  obtain ⟨A, c, hv, _, hcm, _⟩ := hl.shape
  subst hv
  unfold maxLen at hcm
  go_enter Try.func4, Try.ntmps4
  go_wp2_with fail
  refine (alive2 w).mono ?_
  rintro e w1 ⟨rfl, hx1⟩
  have hl1 := hl.below hx1
  go_wp2_with fail
  by_cases hf : Fine ll
  · refine (Root_fine _ _ _ ll hl1 hf).mono ?_
    rintro e w2 ⟨rv, rfl, hown2, hx2⟩
    have hxb := hx1.trans (hx2.mono hx1.size)
    have hlr : (Tr.root (ll.map Tr.leafH)).length = 32 := Tr.length_root _ (d32_leaves _)
    have hst := standsS_path ll hf
    have hpl : ∀ i, (Tr.path (ll.map Tr.leafH) i).length ≤ 7 := fun i => path_le (n := ll.length) (by simp) (by have := hf.1; omega) i
    have hn := hf.1
    have hr2 := OwnB.bytes hown2
    obtain ⟨A1, c1, hv1, _, _⟩ := Own.shape hown2
    subst hv1
    have hl2 := hl.below hxb
    generalize Tr.root (ll.map Tr.leafH) = R at *
    have HST := Lib.hid hst
    have HPL := Lib.hid hpl
    have HLR := Lib.hid hlr
    have HF := Lib.hid hf
    clear hst hpl hlr hf hown2 hl1
    go_wp2_with fail
    have hxc := hxb.alloc hxb.size (.cells #[.int .i64 0, .int .i64 0] 32)
    have hrc := hr2.alloc (.cells #[.int .i64 0, .int .i64 0] 32)
    generalize (w2.alloc (.cells #[.int .i64 0, .int .i64 0] 32)) = w3 at *
    go_loopg [20] ll.length (fun k i wr => ∃ j : Nat, j + k = ll.length ∧ i = .int .i64 (j : Int) ∧ Below w3.heap.size w3 wr)
    case atStart => exact ⟨0, by omega, rfl, Below.refl _ _⟩
    case round =>
      obtain ⟨j, hj, rfl, hxr⟩ := hrel
      have hxw := hxc.trans (hxr.mono hxc.size)
      by_cases hlt : j < ll.length
      · obtain ⟨b, off, u, hA, hc, _, hb, hub⟩ := hl.at_ hlt
        subst hA
        have hltB : (j : Int) < (ll.length : Int) := by omega
        have hlr := hl.below hxw
        have hstj := HST.out j ll[j] (List.getElem?_eq_getElem hlt)
        generalize ll[j] = x at *
        have hplj := HPL.out j
        go_wp2_with fail
        refine (Path_fine _ _ _ ll (j : Int) hlr HF.out (by omega) (by omega)).mono ?_
        rintro e w4 ⟨pv, rfl, hownp, hx4⟩
        have hxd := hxw.trans (hx4.mono hxw.size)
        have hbp := hownp.blist
        rw [Int.toNat_natCast] at *
        obtain ⟨A2, c2, hv2, hpc, hcm, _⟩ := hbp.shape
        subst hv2
        generalize Tr.path (ll.map Tr.leafH) j = P at *
        have HSJ := Lib.hid hstj
        have hPB : decide ((16 : Int) < (P.length : Int)) = false := by simp; omega
        have hc4 := (hxd.cell (p := ⟨b, off + j, none⟩) hb).trans hc
        have hb4 : b < w4.heap.size := by have := hxd.size; omega
        have hr4 := ((hrc.below hxr).below hx4).alloc (.cells #[.int .i64 0, .int .i64 0] 32)
        have hu4 := (hub.below hxd).alloc (.cells #[.int .i64 0, .int .i64 0] 32)
        have hp4 := hbp.alloc (.cells #[.int .i64 0, .int .i64 0] 32)
        have hxe := hxd.alloc hxd.size (.cells #[.int .i64 0, .int .i64 0] 32)
        have hx3e := (hxr.trans (hx4.mono hxr.size)).alloc (by have := hxr.size; have := hx4.size; omega) (.cells #[.int .i64 0, .int .i64 0] 32)
        clear hstj hlr hc hownp
        go_wp2_with fail
        refine (stands_any _ _ _ _ _ _ _ (ll.length : Int) R x (j : Int) P hr4 hu4 hp4).mono ?_
        rintro e w5 ⟨rfl, hx5⟩
        rw [HSJ.out]
        go_wp2_with fail
        go_roundg (gk - 1)
        case measure => omega
        case rel => exact ⟨j + 1, by omega, by go_num, hx3e.trans (hx5.mono hx3e.size)⟩
      · have hltB : decide ((j : Int) < (ll.length : Int)) = false := by simp; omega
        go_wp2_with fail
        go_ret
        exact ⟨rfl, hxw⟩
  · refine (Root_bad _ _ _ ll hl1 hf).mono ?_
    rintro e w2 ⟨a, b, rfl, _, ha, hx2⟩
    have hxb := hx1.trans (hx2.mono hx1.size)
    clear hf
    go_wp2_with fail
    go_ret
    exact ⟨rfl, hxb.alloc hxb.size _⟩
end Go.Proofs.Ytaojgabiefkcaaa
