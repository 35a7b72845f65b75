import Derived.Test.YtfdibjgmbdkbcaaWord
import Derived.StillTailTactics
import Derived.LoopTactic
import Derived.Deep.DeepCutAuto
namespace Go.Proofs.Ytfdibjgmbdkbcaa
open Go.RowKit

/-- the cells of a state: eight words, what is left, how many -/
def stCells (v : Sha.V8) (r n : Value) : Array Value := #[uv v.a, uv v.b, uv v.c, uv v.d, uv v.e, uv v.f, uv v.g, uv v.h, r, n]

theorem kArr_get {j : Nat} {x : UInt32} (h : Sha.Kc[j]? = some x) : kArr[j]? = some (uv x) := by
  unfold kArr
  rw [List.getElem?_toArray, List.getElem?_map, h]
  rfl
theorem vcells_one (v : Sha.V8) : (v.toList.map uv).toArray.all (·.oneCell') = true := by simp [Sha.V8.toList, uv, Value.oneCell']
theorem stCells_range {w : World} {g : Nat} {T : TypeId} {v : Sha.V8} {r n : Value} (h : w.heap[g]? = some (.cells (stCells v r n) T (0, 0))) : w.rangeAt g 0 (v.toList.map uv) := by
  intro j u hu
  rw [Nat.zero_add, cell_of_row w g j _ T (0, 0) h]
  rcases j with _ | _ | _ | _ | _ | _ | _ | _ | j <;> first | exact hu | (simp [Sha.V8.toList] at hu)
theorem rc7 : rotC (-7) = 7 := by decide +kernel
theorem rc18 : rotC (-18) = 18 := by decide +kernel
theorem rc17 : rotC (-17) = 17 := by decide +kernel
theorem rc19 : rotC (-19) = 19 := by decide +kernel
theorem rc6 : rotC (-6) = 6 := by decide +kernel
theorem rc11 : rotC (-11) = 11 := by decide +kernel
theorem rc25 : rotC (-25) = 25 := by decide +kernel
theorem rc2 : rotC (-2) = 2 := by decide +kernel
theorem rc13 : rotC (-13) = 13 := by decide +kernel
theorem rc22 : rotC (-22) = 22 := by decide +kernel

theorem sched_val (x16 x7 x15 x2 : UInt32) :
    ((x16.toNat : Int) + (x7.toNat : Int) + bits .xor .u32 (bits .xor .u32 ((Sha.rotr x15 (rotC (-7))).toNat : Int) ((Sha.rotr x15 (rotC (-18))).toNat : Int)) ((x15.toNat : Int) / (8 : Int)) +
      bits .xor .u32 (bits .xor .u32 ((Sha.rotr x2 (rotC (-17))).toNat : Int) ((Sha.rotr x2 (rotC (-19))).toNat : Int)) ((x2.toNat : Int) / (1024 : Int))) % (4294967296 : Int) = ((x16 + x7 + Sha.sig0 x15 + Sha.sig1 x2).toNat : Int) := by
  rw [rc7, rc18, rc17, rc19, shr32_3, shr32_10, xor32, xor32, xor32, xor32]
  show ((x16.toNat : Int) + (x7.toNat : Int) + ((Sha.sig0 x15).toNat : Int) + ((Sha.sig1 x2).toNat : Int)) % (4294967296 : Int) = _
  rw [UInt32.toNat_add, UInt32.toNat_add, UInt32.toNat_add]
  omega

/-- a state's cells while its words are raised one by one -/
def stMix (v x : Sha.V8) (r n : Value) (i : Nat) : Array Value := ((((v.plus x).toList.take i ++ v.toList.drop i).map uv) ++ [r, n]).toArray
theorem stMix_g {w : World} {g : Nat} {T : TypeId} {v x : Sha.V8} {r n : Value} {i : Nat} (h : Blk w g T (stMix v x r n i)) (hi : i < 8) : w.cell? ⟨g, i, none⟩ = some (.int .u32 (v.toList.getD i 0).toNat) := by
  rw [h.cell i]
  rcases i with _ | _ | _ | _ | _ | _ | _ | _ | i <;> first | rfl | omega
theorem stMix_v {w : World} {b : Nat} {T : TypeId} {x : Sha.V8} {i : Nat} (h : Blk w b T (x.toList.map uv).toArray) (hi : i < 8) : w.cell? ⟨b, i, none⟩ = some (.int .u32 (x.toList.getD i 0).toNat) := by
  rw [h.cell i]
  rcases i with _ | _ | _ | _ | _ | _ | _ | _ | i <;> first | rfl | omega
theorem stMix_next {w : World} {g : Nat} {T : TypeId} {v x : Sha.V8} {r n : Value} {i : Nat} (h : Blk w g T (stMix v x r n i)) (hi : i < 8) :
    Blk (w.setCell ⟨g, i, none⟩ (.int .u32 (v.toList.getD i 0 + x.toList.getD i 0).toNat)) g T (stMix v x r n (i + 1)) := by
  have := h.set_ i (.int .u32 (v.toList.getD i 0 + x.toList.getD i 0).toNat)
  rcases i with _ | _ | _ | _ | _ | _ | _ | _ | i <;> first | exact this | omega
theorem t1_val (a b c d e f g h kj wj : UInt32) :
    IntKind.u32.wrap (IntKind.u32.wrap (IntKind.u32.wrap (IntKind.u32.wrap ((h.toNat : Int) +
      bits .xor .u32 (bits .xor .u32 ((Sha.rotr e (rotC (-6))).toNat : Int) ((Sha.rotr e (rotC (-11))).toNat : Int)) ((Sha.rotr e (rotC (-25))).toNat : Int)) +
      bits .xor .u32 (bits .and .u32 (e.toNat : Int) (f.toNat : Int)) (bits .and .u32 (bits .xor .u32 (if IntKind.u32.signed = true then -1 else IntKind.u32.max) (e.toNat : Int)) (g.toNat : Int))) +
      (kj.toNat : Int)) + (wj.toNat : Int)) = ((Sha.t1 ⟨a, b, c, d, e, f, g, h⟩ kj wj).toNat : Int) := by
  rw [rc6, rc11, rc25, not32, and32, and32, xor32, xor32, xor32, wadd32, wadd32, wadd32, wadd32]
  rfl
theorem t2_val (a b c d e f g h : UInt32) :
    IntKind.u32.wrap (bits .xor .u32 (bits .xor .u32 ((Sha.rotr a (rotC (-2))).toNat : Int) ((Sha.rotr a (rotC (-13))).toNat : Int)) ((Sha.rotr a (rotC (-22))).toNat : Int) +
      bits .xor .u32 (bits .xor .u32 (bits .and .u32 (a.toNat : Int) (b.toNat : Int)) (bits .and .u32 (a.toNat : Int) (c.toNat : Int))) (bits .and .u32 (b.toNat : Int) (c.toNat : Int))) = ((Sha.t2 ⟨a, b, c, d, e, f, g, h⟩).toNat : Int) := by
  rw [rc2, rc13, rc22, and32, and32, and32, xor32, xor32, xor32, xor32, wadd32]
  rfl

/-- block b holds so many words of uint32, the first ones xs -/
def WArr (w : World) (b : Nat) (T : TypeId) (N : Nat) (xs : List UInt32) : Prop :=
  ∃ cs : Array Value, w.heap[b]? = some (.cells cs T (0, 0)) ∧ cs.size = N ∧ ∀ (j : Nat) (x : UInt32), xs[j]? = some x → cs[j]? = some (uv x)

section
variable {w w' : World} {b : Nat} {T : TypeId} {N : Nat} {xs : List UInt32}
theorem WArr.lt (h : WArr w b T N xs) : b < w.heap.size := by
  obtain ⟨cs, hg, _⟩ := h
  rcases Nat.lt_or_ge b w.heap.size with hlt | hge
  · exact hlt
  · rw [Array.getElem?_eq_none hge] at hg; cases hg
theorem WArr.cell (h : WArr w b T N xs) {j : Nat} {x : UInt32} (hj : xs[j]? = some x) : w.cell? ⟨b, j, none⟩ = some (.int .u32 x.toNat) := by
  obtain ⟨cs, hg, _, hx⟩ := h
  rw [cell_of_row w b j cs T (0, 0) hg]
  exact hx j x hj
theorem WArr.some (h : WArr w b T N xs) {j : Nat} (hj : j < N) : ∃ v, w.cell? ⟨b, j, none⟩ = some v := by
  obtain ⟨cs, hg, hs, _⟩ := h
  rw [cell_of_row w b j cs T (0, 0) hg]
  exact ⟨_, Array.getElem?_eq_getElem (by omega)⟩
theorem WArr.frozen (h : WArr w b T N xs) (j : Nat) : w.frozen? ⟨b, j, none⟩ = false := by
  obtain ⟨cs, hg, _⟩ := h
  exact frozen_of_row w b j cs T hg
theorem WArr.snoc (h : WArr w b T N xs) (hl : xs.length < N) (x : UInt32) : WArr (w.setCell ⟨b, xs.length, none⟩ (.int .u32 x.toNat)) b T N (xs ++ [x]) := by
  obtain ⟨cs, hg, hs, hx⟩ := h
  refine ⟨cs.setIfInBounds xs.length (.int .u32 x.toNat), heap_setCell_same w b _ cs T _ hg, by simpa using hs, fun j y hy => ?_⟩
  rcases Nat.lt_trichotomy j xs.length with h | h | h
  · rw [List.getElem?_append_left h] at hy
    rw [Array.getElem?_setIfInBounds_ne (by omega)]
    exact hx j y hy
  · subst h
    rw [List.getElem?_append_right (Nat.le_refl _)] at hy
    simp only [Nat.sub_self, List.getElem?_cons_zero, Option.some.injEq] at hy
    subst hy
    rw [Array.getElem?_setIfInBounds_self_of_lt (by omega)]
    rfl
  · rw [List.getElem?_eq_none (by simp; omega)] at hy; cases hy
theorem WArr.drewN (h : WArr w b T N xs) (n : Nat) : WArr (w.drewN n) b T N xs := h
theorem WArr.keep (h : WArr w b T N xs) (hk : w'.heap[b]? = w.heap[b]?) : WArr w' b T N xs := by
  obtain ⟨cs, hg, hs, hx⟩ := h
  exact ⟨cs, hk.trans hg, hs, hx⟩
end

set_option maxRecDepth 100000 in
set_option maxHeartbeats 4000000 in
theorem block_any (w : World) (g : Nat) (F : Nat → Prop) (v : Sha.V8) (r n vb : Value) (l : Bs) (hg : w.heap[g]? = some (.cells (stCells v r n) 184 (0, 0))) (hb : Bytes w F vb l) (hl : l.length = 64) :
    Calls Try.prog 138 #[.pointer (some ⟨g, 0, none⟩), vb] w fun e w' => e = .returned (.tuple #[]) ∧ w'.heap[g]? = some (.cells (stCells (Sha.compress v l) r n) 184 (0, 0)) ∧ Ch (fun k => k = g) w w' := by
  obtain ⟨A, c, rfl, hac, hcm, hal, hA⟩ := hb
  unfold maxLen at hcm
  obtain ⟨p, off, rfl, hFp, hpw, hc⟩ := hA (by omega)
  clear hA
  have hl1 : l.length ≤ 64 := by omega
  have hl2 : 64 ≤ l.length := by omega
  clear hl hal
  have Hg := Lib.hid hg
  clear hg
  go_enter Try.func138, Try.ntmps138
  go_wp2
  go_loopw [16] (fun i wr => ∃ k : Nat, k ≤ 64 ∧ i = .int .i64 k ∧ WArr wr w.heap.size 192 64 (Sha.sched l k) ∧ Below w.heap.size w wr) (fun i _ => 64 - (intOf i).toNat)
  case atStart => exact ⟨0, by omega, rfl, ⟨_, heap_alloc_new _ _, rfl, fun j x hx => by simp [Sha.sched] at hx⟩, (Below.refl _ _).alloc (Nat.le_refl _) _⟩
  case round =>
    obtain ⟨k, hk, rfl, hW, hbel⟩ := hrel
    by_cases hlt : k < 64
    · --<P1
      by_cases h16 : k < 16
      · have hltB : (k : Int) < 64 := by omega
        have h16B : (k : Int) < 16 := by omega
        have hlI : (4 * (k : Int)) ≤ (l.length : Int) := by omega
        have hcell : ∀ j (hj : j < 64), wr.cell? ⟨p, off + j, none⟩ = some (.int .u8 (l.getD j 0).toNat) := by
          intro j hj
          rw [hbel.cell (p := ⟨p, off + j, none⟩) hpw]
          rw [hc j (bv (l.getD j 0)) (by rw [List.getElem?_map, List.getElem?_eq_getElem (by omega), List.getD_eq_getElem?_getD, List.getElem?_eq_getElem (by omega)]; rfl)]
          rfl
        have q0 := hcell (4 * k) (by omega)
        have q1 := hcell (4 * k + 1) (by omega)
        have q2 := hcell (4 * k + 2) (by omega)
        have q3 := hcell (4 * k + 3) (by omega)
        obtain ⟨v0, hv0⟩ := hW.some hlt
        have hfz := hW.frozen k
        have hsz := hW.lt
        have hs1 : Sha.sched l (k + 1) = Sha.sched l k ++ [Sha.wordAt l k] := by
          rw [Sha.sched, Sha.nextW, Sha.length_sched, if_pos h16]
        have hsn := hW.snoc (by rw [Sha.length_sched]; exact hlt) (Sha.wordAt l k)
        rw [← hs1, Sha.length_sched] at hsn
        have hbn := hbel.setCell (p := ⟨w.heap.size, k, none⟩) (Nat.le_refl _) (.int .u32 (Sha.wordAt l k).toNat)
        have HS1 := Lib.hid hs1
        clear hcell hs1 hc
        go_wp2_with fail
        refine (word_at _ p (off + 4 * k) (l.length - 4 * k) (c - 4 * k) _ _ _ _ (by omega) (by omega) q0 q1 q2 q3).mono ?_
        rintro e w' ⟨rfl, m, rfl⟩
        go_wp2
        exact ⟨⟨k + 1, by omega, by go_num, hsn, below_drewN hbn m⟩, by simp [intOf]; omega⟩
      · have hltB : (k : Int) < 64 := by omega
        have h16B : decide ((k : Int) < 16) = false := by simp; omega
        have g16 : (Sha.sched l k)[k - 16]? = some ((Sha.sched l k).getD (k - 16) 0) := by
          rw [List.getD_eq_getElem?_getD, List.getElem?_eq_getElem (by rw [Sha.length_sched]; omega)]; rfl
        have g15 : (Sha.sched l k)[k - 15]? = some ((Sha.sched l k).getD (k - 15) 0) := by
          rw [List.getD_eq_getElem?_getD, List.getElem?_eq_getElem (by rw [Sha.length_sched]; omega)]; rfl
        have g7 : (Sha.sched l k)[k - 7]? = some ((Sha.sched l k).getD (k - 7) 0) := by
          rw [List.getD_eq_getElem?_getD, List.getElem?_eq_getElem (by rw [Sha.length_sched]; omega)]; rfl
        have g2 : (Sha.sched l k)[k - 2]? = some ((Sha.sched l k).getD (k - 2) 0) := by
          rw [List.getD_eq_getElem?_getD, List.getElem?_eq_getElem (by rw [Sha.length_sched]; omega)]; rfl
        have hs1 : Sha.sched l (k + 1) = Sha.sched l k ++ [(Sha.sched l k).getD (k - 16) 0 + (Sha.sched l k).getD (k - 7) 0 + Sha.sig0 ((Sha.sched l k).getD (k - 15) 0) + Sha.sig1 ((Sha.sched l k).getD (k - 2) 0)] := by
          rw [Sha.sched, Sha.nextW, Sha.length_sched, if_neg h16]
        have hsn := hW.snoc (by rw [Sha.length_sched]; exact hlt) ((Sha.sched l k).getD (k - 16) 0 + (Sha.sched l k).getD (k - 7) 0 + Sha.sig0 ((Sha.sched l k).getD (k - 15) 0) + Sha.sig1 ((Sha.sched l k).getD (k - 2) 0))
        rw [← hs1, Sha.length_sched] at hsn
        generalize (Sha.sched l k).getD (k - 16) 0 = x16 at *
        generalize (Sha.sched l k).getD (k - 15) 0 = x15 at *
        generalize (Sha.sched l k).getD (k - 7) 0 = x7 at *
        generalize (Sha.sched l k).getD (k - 2) 0 = x2 at *
        have q16 := hW.cell g16
        have q15 := hW.cell g15
        have q7 := hW.cell g7
        have q2 := hW.cell g2
        obtain ⟨v0, hv0⟩ := hW.some hlt
        have hfz := hW.frozen k
        have hsz := hW.lt
        have hbn := hbel.setCell (p := ⟨w.heap.size, k, none⟩) (Nat.le_refl _) (.int .u32 (x16 + x7 + Sha.sig0 x15 + Sha.sig1 x2).toNat)
        clear g16 g15 g7 g2 hs1 hc
        go_wp2
        go_quiet (fail)
        go_wp2
        have w16 : IntKind.i64.wrap ((k : Int) - 16) = (k : Int) - 16 := IntWalk.i64_in _ (by omega)
        have w7 : IntKind.i64.wrap ((k : Int) - 7) = (k : Int) - 7 := IntWalk.i64_in _ (by omega)
        have z16 : 0 ≤ (k : Int) - 16 := by omega
        have z7 : 0 ≤ (k : Int) - 7 := by omega
        have y16 : (16 : Int) ≤ (k : Int) := by omega
        have y7 : (7 : Int) ≤ (k : Int) := by omega
        have t16 : ((k : Int) - 16).toNat = k - 16 := by omega
        have t7 : ((k : Int) - 7).toNat = k - 7 := by omega
        have l16 : (k : Int) - 16 < 64 := by omega
        have l7 : (k : Int) - 7 < 64 := by omega
        refine wp_region_still_tail 29 (by kernel_rfl) (by kernel_rfl) ?_
        simp only [List.take_succ_cons, List.take_zero, List.drop_succ_cons, List.drop_zero, World.drew_eq, World.drew_drewN]
        repeat (first | still_step | still_call (rotk_any _ _ _ (by decide +kernel)))
        refine wpStill_nil ?_
        go_wp2
        rw [sched_val]
        exact ⟨⟨k + 1, by omega, by go_num, hsn.drewN _, below_drewN hbn _⟩, by simp [intOf]; omega⟩
      -->P1
    · have hk64 : k = 64 := by omega
      subst hk64
      have hgw : g < w.heap.size := by
        rcases Nat.lt_or_ge g w.heap.size with hlt | hge
        · exact hlt
        · have h := Hg.out; rw [Array.getElem?_eq_none hge] at h; cases h
      generalize hws : Sha.sched l 64 = ws at hW
      have HWS := Lib.hid hws
      have hwl : ws.length = 64 := by rw [← hws, Sha.length_sched]
      have HWL := Lib.hid hwl
      clear hws hwl hlt hc
      go_wp2_with fail
      refine (rounds_any wr).mono ?_
      rintro e w1 ⟨rfl, hb1⟩
      have hW1 : WArr w1 w.heap.size 192 64 ws := hW.keep (hb1.block _ hW.lt)
      have hx1 : Below w.heap.size w w1 := hbel.trans (hb1.mono hbel.size)
      have hlt1 := hW1.lt
      clear hW hbel hb1
      dsimp only
      iterate 4 go_step
      generalize hn2 : World.alloc w1 _ = w2
      obtain ⟨hg2, hb2, hs2⟩ := alloc_named hn2
      have hW2 := hW1.keep (hb2.block _ hlt1)
      have hx2 := hx1.trans (hb2.mono hx1.size)
      clear hn2 hb2 hx1
      refine wpList_store_mid rfl 192 (.tmp 8) (.tmp 66) rfl w1.heap.size 0 kArr rfl rfl (there_whole hg2 _ (Nat.le_refl 64)) (by kernel_rfl) kArr_one ?_
      have hK3 := setCells_whole w2 w1.heap.size _ 192 kArr.toList hg2 rfl
      have hch := setCells_ch w1.heap.size kArr.toList 0 w2
      generalize World.setCells _ _ _ _ = w3 at hK3 hch ⊢
      have hW3 := hW2.keep (hch.block _ hW2.lt (by omega))
      have hx3 : Below w.heap.size w w3 := hx2.trans ⟨hch.os, hch.tape, hch.output, hch.size, fun k hk => hch.block k (Nat.lt_of_lt_of_le hk hx2.size) (by have := hW1.lt; omega)⟩
      have hs3 : w1.heap.size < w3.heap.size := by have := hch.size; omega
      clear hch hg2 hW2 hx2 hs2
      have HK3 := Lib.hid hK3
      clear hK3
      iterate 14 go_step
      have hg3 : w3.heap[g]? = some (.cells (stCells v r n) 184 (0, 0)) := (hx3.block g hgw).trans Hg.out
      refine wpList_load_mid rfl 182 (.tmp 69) rfl g 0 rfl (v.toList.map uv) _ (stCells_range hg3) Try.underlying182 rfl (by kernel_rfl) ?_
      iterate 3 go_step
      generalize hn4 : World.alloc w3 _ = w4
      obtain ⟨hg4, hb4, hs4⟩ := alloc_named hn4
      have hW4 := hW3.keep (hb4.block _ hW3.lt)
      have hK4 := (hb4.block _ hs3).trans HK3.out
      have hx4 := hx3.trans (hb4.mono hx3.size)
      clear hn4 hb4 hx3
      refine wpList_store_mid rfl 182 (.tmp 9) (.tmp 70) rfl w3.heap.size 0 (v.toList.map uv).toArray rfl rfl (there_whole hg4 _ (Nat.le_refl 8)) (by kernel_rfl) (vcells_one v) ?_
      have hV5 := setCells_whole w4 w3.heap.size _ 182 (v.toList.map uv).toArray.toList hg4 rfl
      have hch := setCells_ch w3.heap.size (v.toList.map uv).toArray.toList 0 w4
      generalize World.setCells _ _ _ _ = w5 at hV5 hch ⊢
      have hW5 := hW4.keep (hch.block _ hW4.lt (by have := hW3.lt; omega))
      have hK5 := (hch.block _ (by omega) (by omega)).trans hK4
      have hx5 : Below w.heap.size w w5 := hx4.trans ⟨hch.os, hch.tape, hch.output, hch.size, fun k hk => hch.block k (Nat.lt_of_lt_of_le hk hx4.size) (by have := hW3.lt; omega)⟩
      have hs5 : w3.heap.size < w5.heap.size := by have := hch.size; omega
      have hlt3 := hW3.lt
      clear hch hg4 hW4 hx4 hs4 hK4 HK3 hg3
      have BK5 : Blk w5 w1.heap.size 192 kArr := hK5
      have BV5 : Blk w5 w3.heap.size 182 (v.toList.map uv).toArray := hV5
      have hgk : w.heap.size < w1.heap.size := hlt1
      have hkv : w1.heap.size < w3.heap.size := hs3
      clear hK5 hV5 hlt1 hs3 hlt3
      generalize w1.heap.size = bk at BK5 hgk hkv ⊢
      generalize w3.heap.size = bv at BV5 hkv hs5 ⊢
      go_wp2_with fail
      go_loopw [71] (fun i wr => ∃ j : Nat, j ≤ 64 ∧ i = .int .i64 j ∧ WArr wr w.heap.size 192 64 ws ∧ Blk wr bk 192 kArr ∧ Blk wr bv 182 ((Sha.rounds ws v j).toList.map uv).toArray ∧ Below w.heap.size w wr) (fun i _ => 64 - (intOf i).toNat)
      case atStart => exact ⟨0, by omega, rfl, hW5, BK5, BV5, hx5⟩
      case round =>
        clear hW5 BK5 BV5 hx5 hs5
        obtain ⟨j, hj, rfl, hW, hK, hV, hx⟩ := hrel
        by_cases hlt : j < 64
        · have hr1 : Sha.rounds ws v (j + 1) = Sha.round (Sha.rounds ws v j) (Sha.Kc.getD j 0) (ws.getD j 0) := rfl
          generalize Sha.rounds ws v j = x at *
          have hkj : Sha.Kc[j]? = some (Sha.Kc.getD j 0) := by
            have : j < Sha.Kc.length := hlt
            rw [List.getD_eq_getElem?_getD, List.getElem?_eq_getElem this]; rfl
          have hwj : ws[j]? = some (ws.getD j 0) := by
            have : j < ws.length := by have := HWL.out; omega
            rw [List.getD_eq_getElem?_getD, List.getElem?_eq_getElem this]; rfl
          have ck : wr.cell? ⟨bk, j, none⟩ = some (.int .u32 (Sha.Kc.getD j 0).toNat) := by
            rw [hK.cell j]
            exact kArr_get hkj
          have cw := hW.cell hwj
          have c0 : wr.cell? ⟨bv, 0, none⟩ = some (.int .u32 x.a.toNat) := hV.cell 0
          have c1 : wr.cell? ⟨bv, 1, none⟩ = some (.int .u32 x.b.toNat) := hV.cell 1
          have c2 : wr.cell? ⟨bv, 2, none⟩ = some (.int .u32 x.c.toNat) := hV.cell 2
          have c3 : wr.cell? ⟨bv, 3, none⟩ = some (.int .u32 x.d.toNat) := hV.cell 3
          have c4 : wr.cell? ⟨bv, 4, none⟩ = some (.int .u32 x.e.toNat) := hV.cell 4
          have c5 : wr.cell? ⟨bv, 5, none⟩ = some (.int .u32 x.f.toNat) := hV.cell 5
          have c6 : wr.cell? ⟨bv, 6, none⟩ = some (.int .u32 x.g.toNat) := hV.cell 6
          have c7 : wr.cell? ⟨bv, 7, none⟩ = some (.int .u32 x.h.toNat) := hV.cell 7
          generalize Sha.Kc.getD j 0 = kj at *
          generalize ws.getD j 0 = wj at *
          have HR1 := Lib.hid hr1
          clear hr1 hkj hwj
          have hltB : (j : Int) < 64 := by omega
          obtain ⟨xa, xb, xc, xd, xe, xf, xg, xh⟩ := x
          dsimp only at c0 c1 c2 c3 c4 c5 c6 c7
          go_upto_region 14 with (fail)
          go_cut [11, 12] (fun e a w' => e = .int .u32 xe.toNat ∧ a = .int .u32 xa.toNat ∧ ∃ m, w' = wr.drewN m)
          case first =>
            go_quiet (fail)
            go_wp2_with fail
            go_meet
            exact ⟨rfl, rfl, _, rfl⟩
          case rest =>
            obtain ⟨rfl, rfl, m1, rfl⟩ := hcut
            go_upto_region 15 with (fail)
            go_cut [13] (fun t w' => t = .int .u32 (Sha.t1 ⟨xa, xb, xc, xd, xe, xf, xg, xh⟩ kj wj).toNat ∧ ∃ m, w' = wr.drewN m)
            case first =>
              --<P2
              refine wp_region_quiet_lit (by kernel_rfl) (by kernel_rfl) ?_
              iterate 31 (quiet_step (exact quiet_add_same (rotk_any _ _ _ (by decide +kernel))))
              refine wpQuiet_nil ?_
              rintro _ ⟨n2, rfl⟩
              iterate 2 go_step
              go_meet
              exact ⟨congrArg (Value.int .u32) (t1_val xa xb xc xd xe xf xg xh kj wj), m1 + n2, World.drewN_drewN _ _ _⟩
              -->P2
            case rest =>
              obtain ⟨rfl, m2, rfl⟩ := hcut
              go_upto_region 16 with (fail)
              go_cut [14] (fun t w' => t = .int .u32 (Sha.t2 ⟨xa, xb, xc, xd, xe, xf, xg, xh⟩).toNat ∧ ∃ m, w' = wr.drewN m)
              case first =>
                --<P3
                refine wp_region_quiet_lit (by kernel_rfl) (by kernel_rfl) ?_
                iterate 25 (quiet_step (exact quiet_add_same (rotk_any _ _ _ (by decide +kernel))))
                refine wpQuiet_nil ?_
                rintro _ ⟨n2, rfl⟩
                iterate 2 go_step
                go_meet
                exact ⟨congrArg (Value.int .u32) (t2_val xa xb xc xd xe xf xg xh), m2 + n2, World.drewN_drewN _ _ _⟩
                -->P3
              case rest =>
                obtain ⟨rfl, m3, rfl⟩ := hcut
                go_upto_region 17 with (fail)
                iterate 52 go_step
                simp only [add32]
                refine wpList_same rfl (.agg ((Sha.round ⟨xa, xb, xc, xd, xe, xf, xg, xh⟩ kj wj).toList.map uv).toArray) (by kernel_rfl) ?_
                refine wpList_store_mid rfl 182 (.tmp 9) (.tmp 149) rfl bv 0 ((Sha.round ⟨xa, xb, xc, xd, xe, xf, xg, xh⟩ kj wj).toList.map uv).toArray rfl rfl (there_whole (hV.drewN m3) _ (Nat.le_refl 8)) (by kernel_rfl) (vcells_one _) ?_
                have hV5 : Blk _ bv 182 ((Sha.round ⟨xa, xb, xc, xd, xe, xf, xg, xh⟩ kj wj).toList.map uv).toArray.toList.toArray := setCells_whole (wr.drewN m3) bv _ 182 ((Sha.round ⟨xa, xb, xc, xd, xe, xf, xg, xh⟩ kj wj).toList.map uv).toArray.toList (hV.drewN m3) rfl
                have hch := setCells_ch bv ((Sha.round ⟨xa, xb, xc, xd, xe, xf, xg, xh⟩ kj wj).toList.map uv).toArray.toList 0 (wr.drewN m3)
                have hW5 := (hW.drewN m3).keep (hch.block _ hW.lt (by omega))
                have hK5 := (hK.drewN m3).ch hch (by omega)
                have hx5 : Below w.heap.size w _ := (below_drewN hx m3).trans (b := wr.drewN m3) ⟨hch.os, hch.tape, hch.output, hch.size, fun k hk => hch.block k (Nat.lt_of_lt_of_le hk hx.size) (by omega)⟩
                generalize World.setCells _ _ _ _ = w5 at hV5 hch hW5 hK5 hx5 ⊢
                go_wp2_with fail
                exact ⟨⟨j + 1, by omega, by go_num, hW5, hK5, by rw [HR1.out]; exact hV5, hx5⟩, by simp [intOf]; omega⟩
        · have hj64 : j = 64 := by omega
          subst hj64
          have hx64 : v.plus (Sha.rounds ws v 64) = Sha.compress v l := by rw [← HWS.out]; rfl
          generalize Sha.rounds ws v 64 = x at *
          have HX64 := Lib.hid hx64
          have hgb : Blk wr g 184 (stMix v x r n 0) := (hx.block g hgw).trans Hg.out
          have hxc : Ch (fun k => k = g) w wr := Ch.of_below' hx
          have hsz := hx.size
          have hbv : w.heap.size < bv := by omega
          clear hx64 hlt hK hW hx
          simp only [Int.cast_ofNat_Int]
          go_wp2_with fail
          go_loopw [151] (fun i wr => ∃ j : Nat, j ≤ 8 ∧ i = .int .i64 j ∧ Blk wr bv 182 (x.toList.map uv).toArray ∧ Blk wr g 184 (stMix v x r n j) ∧ Ch (fun k => k = g) w wr) (fun i _ => 8 - (intOf i).toNat)
          case atStart => exact ⟨0, by omega, rfl, hV, hgb, hxc⟩
          case round =>
            clear hV hgb hxc
            obtain ⟨i, hi, rfl, hV, hG, hc⟩ := hrel
            by_cases hlt : i < 8
            · have hltB : (i : Int) < 8 := by omega
              have cv := stMix_v (x := x) hV hlt
              have cg := stMix_g hG hlt
              have fg := hG.frozen i
              have hG' := stMix_next (hG.drewN 1) hlt
              have hV' := (hV.drewN 1).far (p := ⟨g, i, none⟩) (by show bv ≠ g; omega) (.int .u32 ((v.toList.getD i 0) + (x.toList.getD i 0)).toNat)
              have hc' := (hc.drewN 1).setCell (p := ⟨g, i, none⟩) (fun _ => rfl) (.int .u32 ((v.toList.getD i 0) + (x.toList.getD i 0)).toNat)
              generalize v.toList.getD i 0 = vi at *
              generalize x.toList.getD i 0 = xi at *
              go_wp2_with fail
              refine wp_region_still_tail 13 (by kernel_rfl) (by kernel_rfl) ?_
              simp only [List.take_succ_cons, List.take_zero, List.drop_succ_cons, List.drop_zero, World.drew_eq]
              iterate 13 still_step
              refine wpStill_nil ?_
              go_wp2_with fail
              rw [add32]
              exact ⟨⟨i + 1, by omega, by go_num, hV', hG', hc'⟩, by simp [intOf]; omega⟩
            · have hi8 : i = 8 := by omega
              subst hi8
              go_wp2_with fail
              go_end0
              refine ⟨rfl, ?_, hc⟩
              have := hG
              unfold Blk at this
              rw [this, ← HX64.out]
              rfl
end Go.Proofs.Ytfdibjgmbdkbcaa
