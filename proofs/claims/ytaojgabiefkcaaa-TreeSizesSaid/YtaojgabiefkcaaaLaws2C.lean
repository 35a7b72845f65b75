/-
  THE WALK of yearlaw2.TreeSizes. Conditions: what comes in is read as lists of bytes.
-/
import Derived.Test.YtaojgabiefkcaaaLaws2A
namespace Go.Proofs.Ytaojgabiefkcaaa
open Go.RowKit Go.Lib

theorem sizes_end (L P G N K : Nat) (m : Int) (hK : K = 2 ^ N) (h1 : L ≤ K) (hP : ∀ n, L ≤ 2 ^ n → P ≤ n) (hE : ∀ n, L = 2 ^ n → P = n) (hG : ∀ n, L ≤ 2 ^ n → G ≤ n + 1) (hG0 : m = L → G = 0) :
    decide (P ≤ N) = true ∧ decide ((G : Int) ≤ (N : Int) + 1) = true ∧ (((L : Int) != (K : Int)) = true ∨ (((L : Int) != (K : Int)) = false ∧ ((P : Int) == (N : Int)) = true)) ∧
    (((m : Int) != (L : Int)) = true ∨ (((m : Int) != (L : Int)) = false ∧ ((G : Int) == 0) = true)) ∧ (2 : Int) ^ N = (K : Int) := by
  subst hK
  have a := hP N h1
  have b := hG N h1
  refine ⟨decide_eq_true a, decide_eq_true (by omega), ?_, ?_, by simp⟩
  · by_cases h : L = 2 ^ N
    · refine .inr ⟨?_, ?_⟩
      · rw [bne_eq_false_iff_eq, h]
      · rw [beq_iff_eq, hE N h]
    · refine .inl ?_
      rw [bne_iff_ne]
      intro e
      exact h (Int.ofNat.inj e)
  · by_cases h : m = L
    · refine .inr ⟨?_, ?_⟩
      · rw [bne_eq_false_iff_eq, h]
      · rw [beq_iff_eq, hG0 h]; rfl
    · exact .inl (by rw [bne_iff_ne]; exact h)
theorem sizes_n (N K L : Nat) (hK : K = 2 ^ N) (h : K < L) (hL : L ≤ 100) : N ≤ 6 := by
  rcases Nat.lt_or_ge 6 N with h1 | h1
  · have : 2 ^ 7 ≤ 2 ^ N := Nat.pow_le_pow_right (by decide) h1
    have : (2 : Nat) ^ 7 = 128 := by decide
    omega
  · exact h1
theorem pow7 {n : Nat} (h : n ≤ 7) : 2 ^ n ≤ 128 := Nat.pow_le_pow_right (n := 2) (by decide) h

set_option maxRecDepth 100000 in
set_option maxHeartbeats 2000000 in
theorem treeSizes_walk (w : World) (v : Value) (ll : List Bs) (hl : BList w (fun _ => True) v ll) (i m : Int) :
    Calls Try.prog 5 #[v, .int .i64 i, .int .i64 m] w fun e w' => e = .returned (.bool true) ∧ Below w.heap.size w w' := by
  obtain ⟨A, c, hv, hlc, hcm, _⟩ := hl.shape
  subst hv
  unfold maxLen at hcm
  go_enter Try.func5, Try.ntmps5
  go_wp2_with fail
  refine (alive2 w).mono ?_
  rintro e w1 ⟨rfl, hx1⟩
  have hl1 := hl.below hx1
  go_wp2_with fail
  by_cases hf : Fine ll
  · by_cases hi : 0 ≤ i ∧ i < ll.length
    · refine (Path_fine _ _ _ ll i hl1 hf hi.1 hi.2).mono ?_
      rintro e w2 ⟨pv, rfl, hownp, hx2⟩
      have hn := hf.1
      have hxb := hx1.trans (hx2.mono hx1.size)
      have hpl : ∀ N, ll.length ≤ 2 ^ N → (Tr.path (ll.map Tr.leafH) i.toNat).length ≤ N := fun N h => by
        rw [Tr.length_path ll.length _ _ (by simp)]; exact Tr.depth_le N _ _ h
      have hpe : ∀ N, ll.length = 2 ^ N → (Tr.path (ll.map Tr.leafH) i.toNat).length = N := fun N h => by
        rw [Tr.length_path ll.length _ _ (by simp), h]; exact Tr.depth_pow N _
      obtain ⟨A2, c2, hv2, hpc2, hcm2, _⟩ := hownp.blist.shape
      subst hv2
      unfold maxLen at hcm2
      generalize Tr.path (ll.map Tr.leafH) i.toNat = P at *
      have HPL := Lib.hid hpl
      have HPE := Lib.hid hpe
      clear hpl hpe hownp
      go_wp2_with fail
      have hl2 := (hl.below hxb).alloc (.cells #[.int .i64 0, .int .i64 0] 32)
      have hxc := hxb.alloc hxb.size (.cells #[.int .i64 0, .int .i64 0] 32)
      have hbc : Blk (w2.alloc (.cells #[.int .i64 0, .int .i64 0] 32)) w2.heap.size 32 #[.int .i64 0, .int .i64 0] := heap_alloc_new w2 _
      generalize (w2.alloc (.cells #[.int .i64 0, .int .i64 0] 32)) = w3 at *
      have hs3 := hbc.lt
      by_cases hm : 1 ≤ m ∧ m ≤ ll.length
      · refine (Grows_fine w3 _ _ ll m hl2 hf hm.1 hm.2).mono ?_
        rintro e w4 ⟨gv, rfl, howng, hx4⟩
        have hxd := hxc.trans (hx4.mono hxc.size)
        have hgl : ∀ N, ll.length ≤ 2 ^ N → (Tr.grows (ll.map Tr.leafH) m.toNat true).length ≤ N + 1 := fun N h => Tr.grows_le N _ _ _ (by simpa using h)
        have hge : m = ll.length → (Tr.grows (ll.map Tr.leafH) m.toNat true).length = 0 := fun h => by
          rw [Tr.grows_all (by rw [List.length_map]; omega)]; rfl
        obtain ⟨A3, c3, hv3, hpc3, hcm3, _⟩ := howng.blist.shape
        subst hv3
        unfold maxLen at hcm3
        generalize Tr.grows (ll.map Tr.leafH) m.toNat true = G at *
        have HGL := Lib.hid hgl
        have HGE := Lib.hid hge
        have e0 : w4.cell? ⟨w2.heap.size, 0, none⟩ = some (.int .i64 0) := (hx4.cell (p := ⟨w2.heap.size, 0, none⟩) hs3).trans (hbc.cell 0)
        have hs4 : w2.heap.size < w4.heap.size := by have := hx4.size; omega
        clear hgl hge howng hf hbc
        go_wp2_with fail
        have hxe := hxd.alloc hxd.size (.cells #[.int .i64 0, .int .i64 0] 32)
        generalize (w4.alloc (.cells #[.int .i64 0, .int .i64 0] 32)) = w5 at *
        go_loopg [11, 12] 8 (fun k un uk wr => ∃ (N K : Nat), N + k = 8 ∧ N ≤ 7 ∧ un = .int .i64 (N : Int) ∧ uk = .int .i64 (K : Int) ∧ Hid (K = 2 ^ N) ∧ 1 ≤ K ∧ K ≤ 256 ∧ wr = w5)
        case atStart => exact ⟨0, 1, rfl, by omega, rfl, rfl, Lib.hid rfl, by omega, by omega, rfl⟩
        case round =>
          obtain ⟨N, K, hk, hN, rfl, rfl, HK, hK1, hK2, rfl⟩ := hrel
          by_cases hlt : K < ll.length
          · have hltB : decide (K < ll.length) = true := decide_eq_true hlt
            have hN6 : N ≤ 6 := sizes_n N K ll.length HK.out hlt hn
            go_wp2_with fail
            go_roundg (gk - 1)
            case measure => omega
            case rel => exact ⟨N + 1, 2 * K, by omega, by omega, by go_num, congrArg (Value.int .i64) (by omega), Lib.hid (by rw [HK.out, Nat.pow_succ, Nat.mul_comm]), by omega, by omega, rfl⟩
          · have hltB : decide (K < ll.length) = false := decide_eq_false hlt
            obtain ⟨q1, q2, q3, q4, q5⟩ := sizes_end ll.length P.length G.length N K m HK.out (by omega) HPL.out HPE.out HGL.out HGE.out
            have hwr : wrap64 ((2 : Int) ^ N) = (K : Int) := by rw [q5]; exact wrap64_nat_small _ (by omega)
            have hN63 : (N : Int) < 64 := by omega
            clear hlt q5 HPL HPE HGL HGE HK
            rcases q3 with q3 | ⟨q3, q3'⟩
            · rcases q4 with q4 | ⟨q4, q4'⟩
              · go_wp2_with fail
                go_ret
                exact ⟨rfl, hxe⟩
              · go_wp2_with fail
                go_ret
                exact ⟨rfl, hxe⟩
            · rcases q4 with q4 | ⟨q4, q4'⟩
              · go_wp2_with fail
                go_ret
                exact ⟨rfl, hxe⟩
              · go_wp2_with fail
                go_ret
                exact ⟨rfl, hxe⟩
      · refine (Grows_none w3 _ _ ll m hl2 hf hm).mono ?_
        rintro e w4 ⟨rfl, hx4⟩
        have hxd := hxc.trans (hx4.mono hxc.size)
        have e0 : w4.cell? ⟨w2.heap.size, 0, none⟩ = some (.int .i64 0) := (hx4.cell (p := ⟨w2.heap.size, 0, none⟩) hs3).trans (hbc.cell 0)
        have hs4 : w2.heap.size < w4.heap.size := by have := hx4.size; omega
        clear hm hf hbc HPL HPE
        go_wp2_with fail
        go_ret
        exact ⟨rfl, hxd.alloc hxd.size _⟩
    · refine (Path_none _ _ _ ll i hl1 hf hi).mono ?_
      rintro e w2 ⟨rfl, hx2⟩
      have hxb := hx1.trans (hx2.mono hx1.size)
      go_wp2_with fail
      have hl2 := (hl.below hxb).alloc (.cells #[.int .i64 6, .int .i64 0] 32)
      have hxc := hxb.alloc hxb.size (.cells #[.int .i64 6, .int .i64 0] 32)
      have hbc : Blk (w2.alloc (.cells #[.int .i64 6, .int .i64 0] 32)) w2.heap.size 32 #[.int .i64 6, .int .i64 0] := heap_alloc_new w2 _
      generalize (w2.alloc (.cells #[.int .i64 6, .int .i64 0] 32)) = w3 at *
      have hs3 := hbc.lt
      refine (Grows_any w3 _ _ ll m hl2).mono ?_
      rintro e w4 ⟨gv, rfl, _, _, hx4⟩
      have hxd := hxc.trans (hx4.mono hxc.size)
      have e0 : w4.cell? ⟨w2.heap.size, 0, none⟩ = some (.int .i64 6) := (hx4.cell (p := ⟨w2.heap.size, 0, none⟩) hs3).trans (hbc.cell 0)
      have hs4 : w2.heap.size < w4.heap.size := by have := hx4.size; omega
      unfold fv
      generalize growsF ll m = pp at *
      obtain ⟨pa, pb⟩ := pp
      dsimp only
      clear hi hf hbc
      go_wp2_with fail
      go_ret
      exact ⟨rfl, hxd.alloc hxd.size _⟩
  · refine (Path_bad _ _ _ ll i hl1 hf).mono ?_
    rintro e w2 ⟨a, b, rfl, _, ha, hx2⟩
    have hxb := hx1.trans (hx2.mono hx1.size)
    go_wp2_with fail
    have hl2 := (hl.below hxb).alloc (.cells #[.int .i64 (a : Int), .int .i64 (b : Int)] 32)
    have hxc := hxb.alloc hxb.size (.cells #[.int .i64 (a : Int), .int .i64 (b : Int)] 32)
    have hbc : Blk (w2.alloc (.cells #[.int .i64 (a : Int), .int .i64 (b : Int)] 32)) w2.heap.size 32 #[.int .i64 (a : Int), .int .i64 (b : Int)] := heap_alloc_new w2 _
    generalize (w2.alloc (.cells #[.int .i64 (a : Int), .int .i64 (b : Int)] 32)) = w3 at *
    have hs3 := hbc.lt
    refine (Grows_any w3 _ _ ll m hl2).mono ?_
    rintro e w4 ⟨gv, rfl, _, _, hx4⟩
    have hxd := hxc.trans (hx4.mono hxc.size)
    have e0 : w4.cell? ⟨w2.heap.size, 0, none⟩ = some (.int .i64 (a : Int)) := (hx4.cell (p := ⟨w2.heap.size, 0, none⟩) hs3).trans (hbc.cell 0)
    have hs4 : w2.heap.size < w4.heap.size := by have := hx4.size; omega
    unfold fv
    generalize growsF ll m = pp at *
    obtain ⟨pa, pb⟩ := pp
    dsimp only
    clear hf hbc
    go_wp2_with fail
    go_ret
    exact ⟨rfl, hxd.alloc hxd.size _⟩
end Go.Proofs.Ytaojgabiefkcaaa
