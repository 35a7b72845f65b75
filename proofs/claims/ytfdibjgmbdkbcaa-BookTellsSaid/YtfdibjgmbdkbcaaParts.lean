/-
  THE WALKS of sha.begin, (*sha.state).end, sha.Parts, sha.Sum: what comes in parts has the digest of all. Conditions: fewer than 2^47 bytes in all.
-/
import Derived.Test.YtfdibjgmbdkbcaaWrite
namespace Go.Proofs.Ytfdibjgmbdkbcaa
open Go.RowKit

set_option maxRecDepth 100000 in
set_option maxHeartbeats 400000 in
theorem begin_any (w : World) : Calls Try.prog 121 #[] w fun e w' => e = .returned (.pointer (some ⟨w.heap.size, 0, none⟩)) ∧ StIs w' w.heap.size w.heap.size [] ∧ Below w.heap.size w w' := by
  have hst : StIs (w.alloc (.cells (stCells Sha.H0 (.slice none 0 0) (.int .u64 0)) 184)) w.heap.size w.heap.size [] :=
    ⟨Nat.le_refl _, .slice none 0 0, heap_alloc_new w _, Own.nil_ _ _ _ _⟩
  have HS := Lib.hid hst
  clear hst
  go_enter Try.func121, Try.ntmps121
  go_wp2_with fail
  go_ret
  exact ⟨rfl, HS.out, (Below.refl _ _).alloc (Nat.le_refl _) _⟩

theorem shr64 (x c : UInt64) (h : c.toNat < 64) : (x >>> c).toUInt8.toNat = x.toNat / 2 ^ c.toNat % 256 := by
  rw [UInt64.toNat_toUInt8, UInt64.toNat_shiftRight, Nat.mod_eq_of_lt h, Nat.shiftRight_eq_div_pow]
theorem be64_at (n j : Nat) (hj : j < 8) (hn : n ≤ 140737488355328) : ((n : Int) * 8 / 2 ^ (56 - 8 * j) % 256) = (((Sha.be64 (8 * UInt64.ofNat n)).getD j 0).toNat : Int) := by
  have e : (8 * UInt64.ofNat n).toNat = n * 8 := by
    rw [UInt64.toNat_mul, UInt64.toNat_ofNat']
    show 8 * (n % 2 ^ 64) % 2 ^ 64 = n * 8
    omega
  have e0 : ∀ k : Nat, ((n : Int) * 8 / 2 ^ k % 256) = ((n * 8 / 2 ^ k % 256 : Nat) : Int) := by intro k; simp
  rw [e0]
  congr 1
  rcases j with _ | _ | _ | _ | _ | _ | _ | _ | j
  · exact (by rw [← e]; exact (shr64 _ 56 (by decide)).symm)
  · exact (by rw [← e]; exact (shr64 _ 48 (by decide)).symm)
  · exact (by rw [← e]; exact (shr64 _ 40 (by decide)).symm)
  · exact (by rw [← e]; exact (shr64 _ 32 (by decide)).symm)
  · exact (by rw [← e]; exact (shr64 _ 24 (by decide)).symm)
  · exact (by rw [← e]; exact (shr64 _ 16 (by decide)).symm)
  · exact (by rw [← e]; exact (shr64 _ 8 (by decide)).symm)
  · rw [← e]
    show (8 * UInt64.ofNat n).toNat / 2 ^ 0 % 256 = ((8 * UInt64.ofNat n).toUInt8).toNat
    rw [UInt64.toNat_toUInt8]; simp
  · omega

theorem be32_vals (x : UInt32) : [Value.int .u8 ((x.toNat : Int) / 16777216 % 256), .int .u8 ((x.toNat : Int) / 65536 % 256), .int .u8 ((x.toNat : Int) / 256 % 256), .int .u8 ((x.toNat : Int) % 256)] = (Sha.be32 x).map bv := by
  have e1 := shr32_24 x
  have e2 := shr32_16 x
  have e3 := shr32_8 x
  rw [e1, e2, e3, u32to8, u32to8, u32to8, u32to8]
  rfl
theorem out8_flat (v : Sha.V8) : (v.toList.take 8).flatMap Sha.be32 = Sha.out8 v := rfl
theorem flat_next (v : Sha.V8) (j : Nat) (hj : j < 8) : (v.toList.take (j + 1)).flatMap Sha.be32 = (v.toList.take j).flatMap Sha.be32 ++ Sha.be32 (v.toList.getD j 0) := by
  rcases j with _ | _ | _ | _ | _ | _ | _ | _ | j <;> first | rfl | omega
/-- word j of eight, by value -/
theorem index_any (a b c d e f g h : Int) (xs : List Int) (j : Nat) (hj : j < 8) (hx : xs = [a, b, c, d, e, f, g, h]) (w : World) :
    (Instr.index 182 (.agg #[.int .u32 a, .int .u32 b, .int .u32 c, .int .u32 d, .int .u32 e, .int .u32 f, .int .u32 g, .int .u32 h]) (.int .i64 (j : Int))).run Try.prog w = .ok (.int .u32 (xs.getD j 0)) w := by
  subst hx
  rcases j with _ | _ | _ | _ | _ | _ | _ | _ | j
  · kernel_rfl
  · kernel_rfl
  · kernel_rfl
  · kernel_rfl
  · kernel_rfl
  · kernel_rfl
  · kernel_rfl
  · kernel_rfl
  · omega

set_option maxRecDepth 100000 in
set_option maxHeartbeats 1000000 in
theorem end_any (w : World) (B g : Nat) (m : Bs) (hst : StIs w B g m) (hB : B ≤ w.heap.size) (hlen : m.length ≤ 140737488355200) :
    Calls Try.prog 123 #[.pointer (some ⟨g, 0, none⟩)] w fun e w' => ∃ v, e = .returned v ∧ Own w' w.heap.size 5 1 v 32 ((Sha.sha256 m).map bv) ∧ Below B w w' := by
  obtain ⟨i0, hi, hz0, hz1, hz2⟩ := info_parts info_u8
  obtain ⟨hBg, rv, hg, hr⟩ := hst
  have hcn : w.cell? ⟨g, 9, none⟩ = some (.int .u64 (m.length : Int)) := (hg.cell 9).trans (stCells_9 _ _ _)
  have hcr : w.cell? ⟨g, 8, none⟩ = some rv := (hg.cell 8).trans (stCells_8 _ _ _)
  obtain ⟨A', c', hv', hac', hcm'⟩ := hr.shape
  subst hv'
  go_enter Try.func123, Try.ntmps123
  have hown0 : Own (w.alloc (.cells #[.int .u8 128] 5)) w.heap.size 5 1 (.slice (some ⟨w.heap.size, 0, none⟩) 1 1) 1 ((128 :: List.replicate 0 (0 : UInt8)).map bv) :=
    ⟨rfl, .inr ⟨w.heap.size, 0, 1, _, rfl, Nat.le_refl _, heap_alloc_new w _, Nat.le_refl _, by decide, Nat.le_refl _, rfl⟩⟩
  have hx0 : Below w.heap.size w (w.alloc (.cells #[.int .u8 128] 5)) := (Below.refl _ _).alloc (Nat.le_refl _) _
  have hgw := hg.lt
  go_wp2_with (at_builtin; fail)
  go_loopg [4] (Sha.noughts m.length) (fun k v wr => ∃ z, z + k = Sha.noughts m.length ∧ Own wr w.heap.size 5 1 v (1 + z) ((128 :: List.replicate z (0 : UInt8)).map bv) ∧ Below w.heap.size w wr)
  case atStart => exact ⟨0, by omega, hown0, hx0⟩
  case round =>
    clear hown0 hx0
    obtain ⟨z, hz, hown, hx⟩ := hrel
    obtain ⟨A1, c1, hv1, hac1, hcm1⟩ := hown.shape
    subst hv1
    have hcr' : wr.cell? ⟨g, 8, none⟩ = some (.slice A' (m.length - 64 * (m.length / 64)) c') := (hx.cell (p := ⟨g, 8, none⟩) hgw).trans hcr
    have hcn' : wr.cell? ⟨g, 9, none⟩ = some (.int .u64 (m.length : Int)) := (hx.cell (p := ⟨g, 9, none⟩) hgw).trans hcn
    have hz64 : z < 64 := by unfold Sha.noughts at hz; omega
    by_cases hlt : z < Sha.noughts m.length
    · have hneB : (((m.length - 64 * (m.length / 64) : Nat) : Int) + (1 + (z : Int))) % 64 != 56 := by
        rw [bne_iff_ne]; unfold Sha.noughts at hlt; omega
      have hsrc := SlAt.new wr 5 [.int .u8 0] 1 rfl (by decide)
      have hownA := hown.alloc (.cells #[.int .u8 0] 5)
      have hxA := hx.alloc hx.size (.cells #[.int .u8 0] 5)
      go_wp2_with (at_builtin
                   refine wpList_append_Own _ rfl (.tmp 25) (.tmp 26) 22 rfl w.heap.size 5 i0 _ 1 1 Try.underlying22 hi hz0 hz1 hz2 rfl (by omega) _ _ _ rfl hownA _ _ _ _ rfl hsrc (by simp [Value.oneCell']) (by simp only [maxLen]; omega) (by omega) (by simp; have := hx.size; omega) ?_
                   intro v1 w1 hown1 hgr1 hat1
                   have hx2 : Below w.heap.size w w1 := hxA.grown hgr1 hxA.size (fun k hk => (hownA.lt k hk).1))
      go_roundg (gk - 1)
      case measure => omega
      case rel =>
        refine ⟨z + 1, by omega, ?_, hx2⟩
        rw [List.replicate_succ', ← List.cons_append, List.map_append]
        exact hown1
    · have hneB : ((((m.length - 64 * (m.length / 64) : Nat) : Int) + (1 + (z : Int))) % 64 != 56) = false := by
        have h0 : gk = 0 := by omega
        rw [bne_eq_false_iff_eq]; unfold Sha.noughts at hz; omega
      have hzn : z = Sha.noughts m.length := by omega
      have HZ := Lib.hid hzn
      clear hzn
      go_wp2_with fail
      go_loopg [4, 5] 8 (fun k v i wr => ∃ j : Nat, j + k = 8 ∧ i = .int .i64 (56 - 8 * (j : Int)) ∧ Own wr w.heap.size 5 1 v (1 + z + j) ((128 :: List.replicate z (0 : UInt8) ++ (Sha.be64 (8 * UInt64.ofNat m.length)).take j).map bv) ∧ Below w.heap.size w wr)
      case atStart => exact ⟨0, rfl, rfl, by simpa using hown, hx⟩
      case round =>
        clear hown hx hcr' hcn' hneB
        obtain ⟨j, hj, rfl, hown, hx⟩ := hrel
        obtain ⟨A2, c2, hv2, hac2, hcm2⟩ := hown.shape
        subst hv2
        by_cases hlt : j < 8
        · have hge : (0 : Int) ≤ 56 - 8 * (j : Int) := by omega
          have hb8 : (Sha.be64 (8 * UInt64.ofNat m.length)).length = 8 := rfl
          have hnext : (Sha.be64 (8 * UInt64.ofNat m.length)).take (j + 1) = (Sha.be64 (8 * UInt64.ofNat m.length)).take j ++ [(Sha.be64 (8 * UInt64.ofNat m.length)).getD j 0] := by
            rw [List.take_succ_eq_append_getElem (by omega), List.getD_eq_getElem?_getD, List.getElem?_eq_getElem (by omega)]; rfl
          have hbyte := be64_at m.length j hlt (by omega)
          generalize Sha.be64 (8 * UInt64.ofNat m.length) = be at *
          generalize be.getD j 0 = bj at *
          have hsrc := SlAt.new wr 5 [.int .u8 ((m.length : Int) * 8 / 2 ^ (56 - 8 * j) % 256)] 1 rfl (by decide)
          have hownA := hown.alloc (.cells #[.int .u8 ((m.length : Int) * 8 / 2 ^ (56 - 8 * j) % 256)] 5)
          have hxA := hx.alloc hx.size (.cells #[.int .u8 ((m.length : Int) * 8 / 2 ^ (56 - 8 * j) % 256)] 5)
          have HB := Lib.hid hbyte
          have HNX := Lib.hid hnext
          have hz64 : z < 64 := by have := HZ.out; unfold Sha.noughts at this; omega
          clear hbyte hnext hb8
          go_wp2_with (at_builtin
                       refine wpList_append_Own _ rfl (.tmp 32) (.tmp 37) 22 rfl w.heap.size 5 i0 _ 1 1 Try.underlying22 hi hz0 hz1 hz2 rfl (by omega) _ _ _ rfl hownA _ _ _ _ rfl hsrc (by simp [Value.oneCell']) (by simp only [maxLen]; omega) (by omega) (by simp; have := hx.size; omega) ?_
                       intro v1 w1 hown1 hgr1 hat1
                       have hx2 : Below w.heap.size w w1 := hxA.grown hgr1 hxA.size (fun k hk => (hownA.lt k hk).1))
          go_roundg (gk - 1)
          case measure => omega
          case rel =>
            refine ⟨j + 1, by omega, by go_num, ?_, hx2⟩
            rw [HNX.out, ← List.append_assoc, List.map_append]
            rw [HB.out] at hown1
            exact hown1
        · have hgeB : decide ((0 : Int) ≤ 56 - 8 * (j : Int)) = false := by simp; omega
          have hj8 : j = 8 := by omega
          subst hj8
          have hpad : (128 :: List.replicate z (0 : UInt8) ++ (Sha.be64 (8 * UInt64.ofNat m.length)).take 8) = Sha.padding m.length := by
            rw [HZ.out]; rfl
          rw [hpad] at hown
          have hpl : (Sha.padding m.length).length = 1 + z + 8 := by rw [Sha.length_padding, HZ.out]; omega
          have hbp : Bytes wr (fun k => w.heap.size ≤ k) (.slice A2 (1 + z + 8) c2) (Sha.padding m.length) := by
            have h := hown.slAt (F := fun k => w.heap.size ≤ k) (fun k hk => (hown.lt k hk).1)
            unfold Bytes
            rw [hpl]
            exact h
          have hst : StIs wr B g m := ⟨hBg, .slice A' (m.length - 64 * (m.length / 64)) c', hg.below hx hgw, (hr.keep fun k hk hlt _ => hx.block k hlt)⟩
          clear hpad hown
          have HPL := Lib.hid hpl
          clear hpl
          have hz64 : z < 64 := by have := HZ.out; unfold Sha.noughts at this; omega
          go_wp2_with fail
          refine (write_any wr B g _ m (Sha.padding m.length) _ hst hbp (by omega) (Nat.le_trans hB hx.size) (by rw [HPL.out]; omega)).mono ?_
          rintro e w1 ⟨rfl, hst1, hx1⟩
          have hxB : Below B w w1 := (hx.mono hB).trans hx1
          obtain ⟨_, rv1, hg1, _⟩ := hst1
          have hsum : Sha.sha256 m = Sha.out8 (Sha.hAt (m ++ Sha.padding m.length) ((m ++ Sha.padding m.length).length / 64)) := rfl
          generalize Sha.hAt (m ++ Sha.padding m.length) ((m ++ Sha.padding m.length).length / 64) = hh at *
          generalize ((m ++ Sha.padding m.length).length : Int) = nn at hg1
          have HSUM := Lib.hid hsum
          have hs1 := Nat.le_trans hx.size hx1.size
          have h0 : w1.cell? ⟨g, 0, none⟩ = some (.int .u32 hh.a.toNat) := hg1.cell 0
          have h1 : w1.cell? ⟨g, 1, none⟩ = some (.int .u32 hh.b.toNat) := hg1.cell 1
          have h2 : w1.cell? ⟨g, 2, none⟩ = some (.int .u32 hh.c.toNat) := hg1.cell 2
          have h3 : w1.cell? ⟨g, 3, none⟩ = some (.int .u32 hh.d.toNat) := hg1.cell 3
          have h4 : w1.cell? ⟨g, 4, none⟩ = some (.int .u32 hh.e.toNat) := hg1.cell 4
          have h5 : w1.cell? ⟨g, 5, none⟩ = some (.int .u32 hh.f.toNat) := hg1.cell 5
          have h6 : w1.cell? ⟨g, 6, none⟩ = some (.int .u32 hh.g.toNat) := hg1.cell 6
          have h7 : w1.cell? ⟨g, 7, none⟩ = some (.int .u32 hh.h.toNat) := hg1.cell 7
          have hg1w := hg1.lt
          clear hst hx1 hx hbp hsum
          have hmk : ∀ w : World, (Instr.makeSlice 22 (.int .i64 0) (.int .i64 32)).run Try.prog w = .ok (.slice (some ⟨w.heap.size, 0, none⟩) 0 32) (w.alloc (.cells (List.replicate 32 (.int .u8 0)).toArray 5)) := fun _ => by kernel_rfl
          go_wp2_with fail
          have hown0 : Own (w1.alloc (.cells (List.replicate 32 (.int .u8 0)).toArray 5)) w.heap.size 5 1 (.slice (some ⟨w1.heap.size, 0, none⟩) 0 32) 0 (((hh.toList.take 0).flatMap Sha.be32).map bv) :=
            ⟨rfl, .inr ⟨w1.heap.size, 0, 32, _, rfl, hs1, heap_alloc_new w1 _, Nat.zero_le _, by decide, Nat.le_refl _, rfl⟩⟩
          have hx3 : Below B w (w1.alloc (.cells (List.replicate 32 (.int .u8 0)).toArray 5)) := hxB.alloc (Nat.le_trans hB hs1) _
          clear hmk hxB hg1 h0 h1 h2 h3 h4 h5 h6 h7 hg1w
          go_loopg [6, 47] 8 (fun k v i wr => ∃ j : Nat, j + k = 8 ∧ i = .int .i64 (j : Int) ∧ Own wr w.heap.size 5 1 v (4 * j) (((hh.toList.take j).flatMap Sha.be32).map bv) ∧ Below B w wr)
          case atStart => exact ⟨0, rfl, rfl, hown0, hx3⟩
          case round =>
            clear hown0 hx3
            obtain ⟨j, hj, rfl, hown, hx⟩ := hrel
            obtain ⟨A3, c3, hv3, hac3, hcm3⟩ := hown.shape
            subst hv3
            by_cases hlt : j < 8
            · have hltB : (j : Int) < 8 := by omega
              have hidx := fun w => index_any hh.a.toNat hh.b.toNat hh.c.toNat hh.d.toNat hh.e.toNat hh.f.toNat hh.g.toNat hh.h.toNat _ j hlt rfl w
              have hget : ([(hh.a.toNat : Int), hh.b.toNat, hh.c.toNat, hh.d.toNat, hh.e.toNat, hh.f.toNat, hh.g.toNat, hh.h.toNat].getD j 0) = ((hh.toList.getD j 0).toNat : Int) := by
                rcases j with _ | _ | _ | _ | _ | _ | _ | _ | j <;> first | rfl | omega
              rw [hget] at hidx
              have hnext := flat_next hh j hlt
              generalize hh.toList.getD j 0 = xj at *
              have hsrc := SlAt.new wr 5 [Value.int .u8 ((xj.toNat : Int) / 16777216 % 256), .int .u8 ((xj.toNat : Int) / 65536 % 256), .int .u8 ((xj.toNat : Int) / 256 % 256), .int .u8 ((xj.toNat : Int) % 256)] 4 rfl (by decide)
              have hownA := hown.alloc (.cells #[Value.int .u8 ((xj.toNat : Int) / 16777216 % 256), .int .u8 ((xj.toNat : Int) / 65536 % 256), .int .u8 ((xj.toNat : Int) / 256 % 256), .int .u8 ((xj.toNat : Int) % 256)] 5)
              have hxA := hx.alloc (Nat.le_trans hB hx.size) (.cells #[Value.int .u8 ((xj.toNat : Int) / 16777216 % 256), .int .u8 ((xj.toNat : Int) / 65536 % 256), .int .u8 ((xj.toNat : Int) / 256 % 256), .int .u8 ((xj.toNat : Int) % 256)] 5)
              have HNX := Lib.hid hnext
              clear hnext hget
              go_wp2_with (at_builtin
                           refine wpList_append_Own _ rfl (.tmp 50) (.tmp 62) 22 rfl w.heap.size 5 i0 _ 1 1 Try.underlying22 hi hz0 hz1 hz2 rfl (by omega) _ _ _ rfl hownA _ _ _ _ rfl hsrc (by simp [Value.oneCell']) (by simp only [maxLen]; omega) (by omega) (by simp; have := hx.size; omega) ?_
                           intro v1 w2 hown1 hgr1 hat1
                           have hx2 : Below B w w2 := hxA.grown hgr1 (Nat.le_trans hB hxA.size) (fun k hk => Nat.le_trans hB (hownA.lt k hk).1))
              go_roundg (gk - 1)
              case measure => omega
              case rel =>
                refine ⟨j + 1, by omega, by go_num, ?_, hx2⟩
                rw [HNX.out, List.map_append, ← be32_vals]
                exact hown1
            · have hltB : decide ((j : Int) < 8) = false := by simp; omega
              have hj8 : j = 8 := by omega
              subst hj8
              rw [out8_flat, ← HSUM.out] at hown
              go_wp2_with fail
              go_ret
              exact ⟨_, rfl, hown, hx⟩
end Go.Proofs.Ytfdibjgmbdkbcaa
