/-
  THE WALK of (*sha.state).write: what a state holds of so many bytes, and of more behind them. Conditions: fewer than 2^47 bytes in all.
-/
import Derived.Test.YtfdibjgmbdkbcaaBlockA
import Derived.Deep.LoopGhost
namespace Go.Proofs.Ytfdibjgmbdkbcaa
open Go.RowKit

/-- the state at block g holds the bytes m so far; its own blocks lie from B on -/
def StIs (w : World) (B g : Nat) (m : Bs) : Prop :=
  B ≤ g ∧ ∃ rv, Blk w g 184 (stCells (Sha.hAt m (m.length / 64)) rv (.int .u64 (m.length : Int))) ∧
    Own w B 5 1 rv (m.length - 64 * (m.length / 64)) ((m.drop (64 * (m.length / 64))).map bv)

theorem info_u8 : (Try.prog.info? 5).map (fun i => (i.zero, i.size, i.bytes)) = some (some (.int .u8 0), 1, 1) := by kernel_rfl

theorem stCells_8 (v : Sha.V8) (r n : Value) : (stCells v r n)[8]? = some r := rfl
theorem stCells_9 (v : Sha.V8) (r n : Value) : (stCells v r n)[9]? = some n := rfl
theorem stCells_set8 (v : Sha.V8) (r n u : Value) : (stCells v r n).setIfInBounds 8 u = stCells v u n := rfl
theorem stCells_set9 (v : Sha.V8) (r n u : Value) : (stCells v r n).setIfInBounds 9 u = stCells v r u := rfl

/-- a state while it stirs blocks in: j of them are in -/
def StMid (w : World) (B g : Nat) (t : Bs) (j : Nat) : Prop :=
  64 * j ≤ t.length ∧ ∃ rv, Blk w g 184 (stCells (Sha.hAt t j) rv (.int .u64 (t.length : Int))) ∧ Own w B 5 1 rv (t.length - 64 * j) ((t.drop (64 * j)).map bv)

theorem map_oneCell (l : Bs) : ∀ u ∈ l.map bv, u.oneCell' = true := by
  intro u hu
  obtain ⟨b, _, rfl⟩ := List.mem_map.1 hu
  rfl

set_option maxRecDepth 100000 in
set_option maxHeartbeats 1000000 in
theorem write_any (w : World) (B g : Nat) (F : Nat → Prop) (m l : Bs) (vb : Value) (hst : StIs w B g m) (hb : Bytes w F vb l) (hF : ¬ F g) (hB : B ≤ w.heap.size) (hlen : m.length + l.length ≤ 140737488355328) :
    Calls Try.prog 122 #[.pointer (some ⟨g, 0, none⟩), vb] w fun e w' => e = .returned (.tuple #[]) ∧ StIs w' B g (m ++ l) ∧ Below B w w' := by
  obtain ⟨i0, hi, hz0, hz1, hz2⟩ := info_parts info_u8
  obtain ⟨hBg, rv, hg, hr⟩ := hst
  obtain ⟨A, c, rfl, hac⟩ := hb.form'
  have hcn : w.cell? ⟨g, 9, none⟩ = some (.int .u64 (m.length : Int)) := (hg.cell 9).trans (stCells_9 _ _ _)
  have hcr : w.cell? ⟨g, 8, none⟩ = some rv := (hg.cell 8).trans (stCells_8 _ _ _)
  have hf9 := hg.frozen 9
  have hf8 := hg.frozen 8
  have hg1 := hg.set_ 9 (.int .u64 ((m.length : Int) + (l.length : Int)))
  rw [stCells_set9] at hg1
  have hne := hr.ne_blk hg (by decide)
  have hr1 := hr.setCell (p := ⟨g, 9, none⟩) hne (.int .u64 ((m.length : Int) + (l.length : Int)))
  have hb1 := hb.setCell (p := ⟨g, 9, none⟩) hF (.int .u64 ((m.length : Int) + (l.length : Int)))
  have hx1 : Below B w (w.setCell ⟨g, 9, none⟩ (.int .u64 ((m.length : Int) + (l.length : Int)))) := (Below.refl _ _).setCell (p := ⟨g, 9, none⟩) hBg _
  obtain ⟨A', c', rfl, hac', hcm'⟩ := hr.shape
  go_enter Try.func122, Try.ntmps122
  go_wp2_with (at_builtin
               refine wpList_append_Own _ rfl (.tmp 18) (.tmp 19) 22 rfl B 5 i0 _ 1 1 Try.underlying22 hi hz0 hz1 hz2 rfl (by omega) _ _ _ rfl hr1 F _ _ _ rfl hb1 (map_oneCell l) (by simp only [maxLen]; omega) (by omega) (by simpa using hB) ?_
               intro v1 w1 hown1 hgr1 hat1
               have hx2 : Below B w w1 := hx1.grown hgr1 (by simpa using hB) (fun k hk => (hr1.lt k hk).1)
               have hg2 : Blk w1 g _ _ := hg1.keep (hgr1.block g hg1.lt (fun e => hne e.symm))
               have h8 := (hg2.cell 8).trans (stCells_8 _ _ _)
               have hf8' := hg2.frozen 8
               obtain ⟨A1, c1, hv1, hac1, hcm1⟩ := hown1.shape
               subst hv1)
  have hmid : StMid (w1.setCell ⟨g, 8, none⟩ (.slice A1 (m.length - 64 * (m.length / 64) + l.length) c1)) B g (m ++ l) (m.length / 64) := by
    refine ⟨by rw [List.length_append]; omega, .slice A1 (m.length - 64 * (m.length / 64) + l.length) c1, ?_, ?_⟩
    · have h := hg2.set_ 8 (.slice A1 (m.length - 64 * (m.length / 64) + l.length) c1)
      rw [stCells_set8] at h
      rw [Sha.hAt_append m l _ (by omega), List.length_append, Int.natCast_add]
      exact h
    · have h := hown1.setCell (p := ⟨g, 8, none⟩) (hown1.ne_blk hg2 (by decide)) (.slice A1 (m.length - 64 * (m.length / 64) + l.length) c1)
      have e1 : (m ++ l).length - 64 * (m.length / 64) = m.length - 64 * (m.length / 64) + l.length := by rw [List.length_append]; omega
      have e2 : ((m ++ l).drop (64 * (m.length / 64))).map bv = (m.drop (64 * (m.length / 64))).map bv ++ l.map bv := by
        rw [List.drop_append_of_le_length (by omega), List.map_append]
      rw [e1, e2]
      exact h
  have hx3 : Below B w (w1.setCell ⟨g, 8, none⟩ (.slice A1 (m.length - 64 * (m.length / 64) + l.length) c1)) := hx2.setCell (p := ⟨g, 8, none⟩) hBg _
  have htl : (m ++ l).length ≤ 140737488355328 := by rw [List.length_append]; exact hlen
  clear hown1 hgr1 hat1 hg2 h8 hf8' hx2 hb1 hr1 hg1 hcn hcr hf9 hf8 hr hg hx1
  generalize hT : m ++ l = t at *
  have HT := Lib.hid hT
  clear hT
  go_loopg [] (t.length / 64 - m.length / 64) (fun k wr => k ≤ t.length / 64 ∧ StMid wr B g t (t.length / 64 - k) ∧ Below B w wr)
  case atStart =>
    have hq := hmid.1
    refine ⟨by omega, ?_, hx3⟩
    have : t.length / 64 - (t.length / 64 - m.length / 64) = m.length / 64 := by omega
    rw [this]
    exact hmid
  case round =>
    clear hmid hx3
    obtain ⟨hk, ⟨hj, rv, hg, hr⟩, hx⟩ := hrel
    generalize hjk : t.length / 64 - gk = j at *
    obtain ⟨A2, c2, hv2, hac2, hcm2⟩ := hr.shape
    subst hv2
    have h8 := (hg.cell 8).trans (stCells_8 _ _ _)
    have hf8 := hg.frozen 8
    unfold maxLen at hcm2
    by_cases hge : 64 ≤ t.length - 64 * j
    · have hgeB : (64 : Int) ≤ ((t.length - 64 * j : Nat) : Int) := by omega
      have hc64 : (64 : Int) ≤ (c2 : Int) := by omega
      have hbl : Bytes wr (fun k => B ≤ k ∧ k < wr.heap.size) (.slice A2 64 c2) (Sha.blk t j) := by
        have h := (hr.slAt (F := fun k => B ≤ k ∧ k < wr.heap.size) (fun k hk => hr.lt k hk)).first 64 hge
        have e : (Sha.blk t j).length = 64 := by unfold Sha.blk; rw [List.length_take, List.length_drop]; omega
        unfold Bytes
        rw [e]
        unfold Sha.blk
        rw [List.map_take]
        exact h
      have hne := hr.ne_blk hg (by decide)
      have HJ := Lib.hid hjk
      clear hjk
      go_wp2_with fail
      refine (block_any wr g _ (Sha.hAt t j) _ _ _ _ hg hbl (by unfold Sha.blk; rw [List.length_take, List.length_drop]; omega)).mono ?_
      rintro e w2 ⟨rfl, hg2, hch⟩
      have hg2' : Blk w2 g 184 (stCells (Sha.hAt t (j + 1)) (.slice A2 (t.length - 64 * j) c2) (.int .u64 t.length)) := hg2
      have h82 := (hg2'.cell 8).trans (stCells_8 _ _ _)
      have hf82 := hg2'.frozen 8
      have hr2 := hr.ch hch (fun k hk _ e => hne (by rw [hk, e]))
      have hx2 : Below B w w2 := hx.trans ⟨hch.os, hch.tape, hch.output, hch.size, fun k hk => hch.block k (Nat.lt_of_lt_of_le (Nat.lt_of_lt_of_le hk hB) hx.size) (by omega)⟩
      clear hg2 hch
      obtain ⟨gr, off, cr, hvr, hBr, _, _, _, _⟩ := hr2.form (by omega)
      injection hvr with hv1 hv2 hv3
      subst hv1 hv3
      have hkm : t.length / 64 - (gk - 1) = j + 1 := by have := HJ.out; omega
      have hgk : 0 < gk := by have := HJ.out; omega
      have hmk : ∀ u : Value, Own w2 B 5 1 u (t.length - 64 * j - 64) ((t.drop (64 * (j + 1))).map bv) → StMid (w2.setCell ⟨g, 8, none⟩ u) B g t (j + 1) := by
        intro u hu
        refine ⟨by omega, u, ?_, ?_⟩
        · have h := hg2'.set_ 8 u
          rw [stCells_set8] at h
          exact h
        · have h := hu.setCell (p := ⟨g, 8, none⟩) (hu.ne_blk hg2' (by decide)) u
          rw [show t.length - 64 * (j + 1) = t.length - 64 * j - 64 by omega]
          exact h
      by_cases hc : c2 = 64
      · have hn64 : t.length - 64 * j = 64 := by omega
        have hu : Own w2 B 5 1 (.slice (some ⟨gr, off, none⟩) 0 0) (t.length - 64 * j - 64) ((t.drop (64 * (j + 1))).map bv) := by
          have h := hr2.cut0
          rw [List.drop_of_length_le (by omega)]
          rw [hn64]
          exact h
        have hm := hmk _ hu
        have hx3 : Below B w (w2.setCell ⟨g, 8, none⟩ (.slice (some ⟨gr, off, none⟩) 0 0)) := hx2.setCell (p := ⟨g, 8, none⟩) hBg _
        clear hmk hu hn64
        subst hc
        go_wp2_with fail
        go_roundg (gk - 1)
        case measure => omega
        case rel => exact ⟨by omega, by rw [hkm]; exact hm, hx3⟩
      · have hu : Own w2 B 5 1 (.slice (some ⟨gr, off + 64, none⟩) (t.length - 64 * j - 64) (c2 - 64)) (t.length - 64 * j - 64) ((t.drop (64 * (j + 1))).map bv) := by
          have h := hr2.cut 64 hge
          rw [← List.map_drop, List.drop_drop] at h
          rw [show 64 * (j + 1) = 64 * j + 64 by omega]
          exact h
        have hm := hmk _ hu
        have hx3 : Below B w (w2.setCell ⟨g, 8, none⟩ (.slice (some ⟨gr, off + 64, none⟩) (t.length - 64 * j - 64) (c2 - 64))) := hx2.setCell (p := ⟨g, 8, none⟩) hBg _
        have hcB : ((c2 : Int) == 64) = false := by rw [beq_eq_false_iff_ne]; omega
        clear hmk hu
        go_wp2_with fail
        go_roundg (gk - 1)
        case measure => omega
        case rel => exact ⟨by omega, by rw [hkm]; exact hm, hx3⟩
    · have hgeB : decide ((64 : Int) ≤ ((t.length - 64 * j : Nat) : Int)) = false := by simp; omega
      have hjq : j = t.length / 64 := by omega
      have hst : StIs wr B g t := by
        refine ⟨hBg, .slice A2 (t.length - 64 * j) c2, ?_, ?_⟩
        · rw [← hjq]; exact hg
        · rw [← hjq]; exact hr
      have HS := Lib.hid hst
      clear hst hjq hjk
      go_wp2_with fail
      go_end0
      rw [HT.out]
      exact ⟨rfl, HS.out, hx⟩
end Go.Proofs.Ytfdibjgmbdkbcaa
