/-
  THE WALK of the closed fact that the fleet's laws ask first. No conditions.
  THE PLAIN LAWS of plays that the fleet's laws ask, and what is done, in a slice: its cells. No conditions.
-/
import Derived.Test.YtfdibjgmbdkbcaaZRepr
import Derived.Test.YtfdibjgmbdkbcaaZGp
import Derived.Test.YtfdibjgmbdkbcaaZFleetP
import Derived.Test.YtfdibjgmbdkbcaaZFleetCk
namespace Go.Proofs.Ytfdibjgmbdkbcaa
open Go.RowKit Go.Lib

/-- an answer in a slice of answers: its cells -/
theorem ans_at {w : World} {F : Nat → Prop} {v : Value} {l : List Ans} (h : RdL w F v l) {j : Nat} (hj : j < l.length) : ∃ b off c u, v = .slice (some ⟨b, off, none⟩) l.length c ∧ F b ∧ b < w.heap.size ∧
    w.cell? ⟨b, off + j * 5, none⟩ = some (.int .i64 (l[j].err : Int)) ∧ w.cell? ⟨b, off + j * 5 + 1, none⟩ = some (.int .i64 l[j].sh) ∧ w.cell? ⟨b, off + j * 5 + 2, none⟩ = some (.int .i64 l[j].pl) ∧ w.cell? ⟨b, off + j * 5 + 3, none⟩ = some (.int .i64 l[j].sz) ∧
    w.cell? ⟨b, off + j * 5 + 4, none⟩ = some u ∧ Bytes w F u l[j].root := by
  obtain ⟨b, off, c, hv, hF, hb, ecs, hr, hc⟩ := h.at_ hj
  obtain ⟨c1, c1', rfl, h1, c2, c2', rfl, h2, c3, c3', rfl, h3, c4, c5, rfl, h4, u, h5', h5⟩ := hr
  have e1 : c1 = [.int .i64 (l[j].err : Int)] := h1
  have e2 : c2 = [.int .i64 l[j].sh] := h2
  have e3 : c3 = [.int .i64 l[j].pl] := h3
  have e4 : c4 = [.int .i64 l[j].sz] := h4
  subst e1 e2 e3 e4 h5'
  exact ⟨b, off, c, u, hv, hF, hb, hc 0 _ rfl, hc 1 _ rfl, hc 2 _ rfl, hc 3 _ rfl, hc 4 _ rfl, rdL_bytes.1 h5⟩
/-- what is shown: its cells -/
theorem shw_open {w : World} {F : Nat → Prop} {cs : List Value} {s : Shw} (hrd : Rp.rd w F cs s) : ∃ AE cE AP cP AR cR AB cB AH cH, cs = [.slice AE s.entry.length cE, .int .i64 s.place, .int .i64 s.shard, .slice AP s.path.length cP, .int .i64 s.rcd.sh, .int .i64 s.rcd.fr, .int .i64 s.rcd.to, .int .i64 s.rcd.sz, .slice AR s.rcd.root.length cR, .int .i64 s.row, .slice AB s.bpath.length cB, .int .i64 s.hsz, .slice AH s.hroot.length cH] ∧
    Bytes w F (.slice AE s.entry.length cE) s.entry ∧ BList w F (.slice AP s.path.length cP) s.path ∧ Bytes w F (.slice AR s.rcd.root.length cR) s.rcd.root ∧ BList w F (.slice AB s.bpath.length cB) s.bpath ∧ Bytes w F (.slice AH s.hroot.length cH) s.hroot := by
  obtain ⟨c1, c1', rfl, ⟨ev, h1', h1⟩, c2, c2', rfl, h2, c3, c3', rfl, h3, c4, c4', rfl, ⟨pv, h4', h4⟩, c5, c5', rfl, ⟨r1, r1', rfl, e1, r2, r2', rfl, e2, r3, r3', rfl, e3, r4, r5, rfl, e4, rv, e5', e5⟩, c6, c6', rfl, h6, c7, c8, rfl, ⟨bpv, h7', h7⟩, k1, k2, rfl, h8, hv2, h9', h9⟩ := hrd
  have e2' : c2 = [.int .i64 s.place] := h2
  have e3' : c3 = [.int .i64 s.shard] := h3
  have f1' : r1 = [.int .i64 s.rcd.sh] := e1
  have f2' : r2 = [.int .i64 s.rcd.fr] := e2
  have f3' : r3 = [.int .i64 s.rcd.to] := e3
  have f4' : r4 = [.int .i64 s.rcd.sz] := e4
  have e6' : c6 = [.int .i64 s.row] := h6
  have e8' : k1 = [.int .i64 s.hsz] := h8
  subst h1' e2' e3' h4' f1' f2' f3' f4' e5' e6' h7' e8' h9'
  have b1 := rdL_bytes.1 h1
  have b4 := rdL_blist.1 h4
  have b5 := rdL_bytes.1 e5
  have b7 := rdL_blist.1 h7
  have b9 := rdL_bytes.1 h9
  obtain ⟨AE, cE, rfl⟩ := b1.form
  obtain ⟨AP, cP, rfl, _, _, _⟩ := b4.shape
  obtain ⟨AR, cR, rfl⟩ := b5.form
  obtain ⟨AB, cB, rfl, _, _, _⟩ := b7.shape
  obtain ⟨AH, cH, rfl⟩ := b9.form
  exact ⟨AE, cE, AP, cP, AR, cR, AB, cB, AH, cH, rfl, b1, b4, b5, b7, b9⟩
theorem dob_rd {w : World} {F : Nat → Prop} (d : Dob) {v : Value} (h : Bytes w F v d.entry) : Rp.rd w F [.int .i64 d.kind, .int .i64 d.n, .int .i64 d.time, v, .int .i64 d.seg, .int .i64 d.pos, bv d.turn] d :=
  ⟨[_], [_, _, _, _, _, _], rfl, rfl, [_], [_, _, _, _, _], rfl, rfl, [_], [_, _, _, _], rfl, rfl, [_], [_, _, _], rfl, ⟨_, rfl, rdL_bytes.2 h⟩, [_], [_, _], rfl, rfl, [_], [_], rfl, rfl, rfl⟩

set_option maxRecDepth 100000 in
theorem submit7 (w : World) (t : Int) (A : Option Addr) (n c : Nat) : Calls Try.prog 119 #[.int .i64 t, .slice A n c] w fun e w' => e = .returned (.agg #[.int .i64 1, .int .i64 0, .int .i64 t, .slice A n c, .int .i64 0, .int .i64 0, .int .u8 0]) ∧ Below w.heap.size w w' := by
  go_enter Try.func119, Try.ntmps119
  go_wp2_with fail
  refine bodyPost_ret (v := .agg #[.int .i64 1, .int .i64 0, .int .i64 t, .slice A n c, .int .i64 0, .int .i64 0, .int .u8 0]) (by simp [results, Try.results119, go_sem]) rfl ⟨rfl, (Below.refl w.heap.size w).alloc (Nat.le_refl _) _⟩
set_option maxRecDepth 100000 in
theorem do7 (w : World) (k n : Int) : Calls Try.prog 120 #[.int .i64 k, .int .i64 n] w fun e w' => e = .returned (.agg #[.int .i64 k, .int .i64 n, .int .i64 0, .slice none 0 0, .int .i64 0, .int .i64 0, .int .u8 0]) ∧ Below w.heap.size w w' := by
  go_enter Try.func120, Try.ntmps120
  go_wp2_with fail
  refine bodyPost_ret (v := .agg #[.int .i64 k, .int .i64 n, .int .i64 0, .slice none 0 0, .int .i64 0, .int .i64 0, .int .u8 0]) (by simp [results, Try.results120, go_sem]) rfl ⟨rfl, (Below.refl w.heap.size w).alloc (Nat.le_refl _) _⟩

set_option maxRecDepth 100000 in
set_option maxHeartbeats 4000000 in
theorem alive7 (w : World) : Calls Try.prog 79 #[] w fun e w' => e = .returned (.bool true) ∧ Below w.heap.size w w' := by
  have hx1 := ((Below.refl w.heap.size w).alloc (Nat.le_refl _) (.cells #[.int .i64 0, .int .i64 10, .int .i64 10, .int .i64 20] 112)).alloc (by simp) (.cells #[.int .u8 7] 5)
  have hW0 : RdL (w.alloc (.cells #[.int .i64 0, .int .i64 10, .int .i64 10, .int .i64 20] 112)) (fun _ => True) (.slice (some ⟨w.heap.size, 0, none⟩) 2 2) wsA :=
    RdL.new w (fun _ => True) 112 [[.int .i64 0, .int .i64 10], [.int .i64 10, .int .i64 20]] wsA (by decide) rfl (fun i a ha => by
      match i, ha with
      | 0, ha => injection ha with ha; subst ha; exact ⟨_, rfl, [_], [_], rfl, rfl, rfl⟩
      | 1, ha => injection ha with ha; subst ha; exact ⟨_, rfl, [_], [_], rfl, rfl, rfl⟩)
  have hW1 := hW0.alloc (.cells #[.int .u8 7] 5)
  have hB1 : RdL ((w.alloc (.cells #[.int .i64 0, .int .i64 10, .int .i64 10, .int .i64 20] 112)).alloc (.cells #[.int .u8 7] 5)) (fun _ => True) (.slice (some ⟨w.heap.size + 1, 0, none⟩) 1 1) ([7] : Bs) := by
    have := RdL.new (w.alloc (.cells #[.int .i64 0, .int .i64 10, .int .i64 10, .int .i64 20] 112)) (fun _ => True) 5 [[bv 7]] ([7] : Bs) (by decide) rfl (fun i a ha => by
      match i, ha with
      | 0, ha => injection ha with ha; subst ha; exact ⟨_, rfl, rfl⟩)
    rw [World.size_alloc] at this
    exact this
  go_enter Try.func79, Try.ntmps79
  go_wp2_with fail
  generalize ((w.alloc (.cells #[.int .i64 0, .int .i64 10, .int .i64 10, .int .i64 20] 112)).alloc (.cells #[.int .u8 7] 5)) = w1 at *
  with_reducible refine (submit7 w1 12 _ 1 1).mono ?_
  rintro e w2 ⟨rfl, hx2⟩
  go_wp2_with fail
  with_reducible refine (do7 w2 2 1).mono ?_
  rintro e w3 ⟨rfl, hx3⟩
  go_wp2_with fail
  with_reducible refine (do7 w3 3 1).mono ?_
  rintro e w4 ⟨rfl, hx4⟩
  go_wp2_with fail
  with_reducible refine (do7 w4 4 1).mono ?_
  rintro e w5 ⟨rfl, hx5⟩
  have hx15 := ((hx2.trans (hx3.mono hx2.size)).trans (hx4.mono (by have := hx2.size; have := hx3.size; omega))).trans (hx5.mono (by have := hx2.size; have := hx3.size; have := hx4.size; omega))
  have hW5 := hW1.below hx15
  have hB5 := hB1.below hx15
  have hL6 : RdL (w5.alloc (.cells #[.int .i64 1, .int .i64 0, .int .i64 12, .slice (some ⟨w.heap.size + 1, 0, none⟩) 1 1, .int .i64 0, .int .i64 0, .int .u8 0, .int .i64 2, .int .i64 1, .int .i64 0, .slice none 0 0, .int .i64 0, .int .i64 0, .int .u8 0, .int .i64 3, .int .i64 1, .int .i64 0, .slice none 0 0, .int .i64 0, .int .i64 0, .int .u8 0, .int .i64 4, .int .i64 1, .int .i64 0, .slice none 0 0, .int .i64 0, .int .i64 0, .int .u8 0] 111)) (fun _ => True) (.slice (some ⟨w5.heap.size, 0, none⟩) 4 4) lA :=
    RdL.new w5 (fun _ => True) 111 [[.int .i64 1, .int .i64 0, .int .i64 12, .slice (some ⟨w.heap.size + 1, 0, none⟩) 1 1, .int .i64 0, .int .i64 0, .int .u8 0], [.int .i64 2, .int .i64 1, .int .i64 0, .slice none 0 0, .int .i64 0, .int .i64 0, .int .u8 0], [.int .i64 3, .int .i64 1, .int .i64 0, .slice none 0 0, .int .i64 0, .int .i64 0, .int .u8 0], [.int .i64 4, .int .i64 1, .int .i64 0, .slice none 0 0, .int .i64 0, .int .i64 0, .int .u8 0]] lA (by decide) rfl (fun i a ha => by
      match i, ha with
      | 0, ha => injection ha with ha; subst ha; exact ⟨_, rfl, dob_rd ⟨1, 0, 12, [7], 0, 0, 0⟩ (rdL_bytes.1 hB5)⟩
      | 1, ha => injection ha with ha; subst ha; exact ⟨_, rfl, dob_rd ⟨2, 1, 0, [], 0, 0, 0⟩ (bytes_nil _ _)⟩
      | 2, ha => injection ha with ha; subst ha; exact ⟨_, rfl, dob_rd ⟨3, 1, 0, [], 0, 0, 0⟩ (bytes_nil _ _)⟩
      | 3, ha => injection ha with ha; subst ha; exact ⟨_, rfl, dob_rd ⟨4, 1, 0, [], 0, 0, 0⟩ (bytes_nil _ _)⟩)
  have hW6 := hW5.alloc (.cells #[.int .i64 1, .int .i64 0, .int .i64 12, .slice (some ⟨w.heap.size + 1, 0, none⟩) 1 1, .int .i64 0, .int .i64 0, .int .u8 0, .int .i64 2, .int .i64 1, .int .i64 0, .slice none 0 0, .int .i64 0, .int .i64 0, .int .u8 0, .int .i64 3, .int .i64 1, .int .i64 0, .slice none 0 0, .int .i64 0, .int .i64 0, .int .u8 0, .int .i64 4, .int .i64 1, .int .i64 0, .slice none 0 0, .int .i64 0, .int .i64 0, .int .u8 0] 111)
  have hx16 := hx15.alloc hx15.size (.cells #[.int .i64 1, .int .i64 0, .int .i64 12, .slice (some ⟨w.heap.size + 1, 0, none⟩) 1 1, .int .i64 0, .int .i64 0, .int .u8 0, .int .i64 2, .int .i64 1, .int .i64 0, .slice none 0 0, .int .i64 0, .int .i64 0, .int .u8 0, .int .i64 3, .int .i64 1, .int .i64 0, .slice none 0 0, .int .i64 0, .int .i64 0, .int .u8 0, .int .i64 4, .int .i64 1, .int .i64 0, .slice none 0 0, .int .i64 0, .int .i64 0, .int .u8 0] 111)
  have hx06 := hx1.trans (hx16.mono hx1.size)
  go_wp2_with fail
  generalize w5.alloc (.cells #[.int .i64 1, .int .i64 0, .int .i64 12, .slice (some ⟨w.heap.size + 1, 0, none⟩) 1 1, .int .i64 0, .int .i64 0, .int .u8 0, .int .i64 2, .int .i64 1, .int .i64 0, .slice none 0 0, .int .i64 0, .int .i64 0, .int .u8 0, .int .i64 3, .int .i64 1, .int .i64 0, .slice none 0 0, .int .i64 0, .int .i64 0, .int .u8 0, .int .i64 4, .int .i64 1, .int .i64 0, .slice none 0 0, .int .i64 0, .int .i64 0, .int .u8 0] 111) = w6 at *
  have HP := Lib.hid (play_any w6 _ _ _ _ wsA lA hW6 hL6)
  rw [Fl.playA] at HP
  refine HP.out.mono ?_
  rintro e w7 ⟨vs, vb, va, rfl, q1, q2, q3, hx7⟩
  simp only at q1 q2 q3
  obtain ⟨As, cs, hvs, _, _⟩ := q1.form
  obtain ⟨Ab, cb, hvb, _, _⟩ := q2.form
  obtain ⟨gA, oA, cA, u, hva, _, hgA, z0, _, _, _, _, _⟩ := ans_at q3 (j := 3) (by decide)
  subst hvs hvb hva
  have n1 : fA.sh.length = 2 := rfl
  have n2 : fA.book.length = 1 := rfl
  have n3 : aA.length = 4 := rfl
  have z0' : w7.cell? ⟨gA, oA + 3 * 5, none⟩ = some (.int .i64 0) := z0
  rw [n1] at q1
  rw [n2] at q2
  rw [n1, n2, n3]
  have z15 : w7.cell? ⟨gA, oA + 15, none⟩ = some (.int .i64 0) := z0
  go_upto_region 2 with (fail)
  have hx78 := ((Below.refl w7.heap.size w7).alloc (Nat.le_refl _) (.cells #[.slice As 2 cs, .slice Ab 1 cb] 92)).alloc (by simp) (.cells #[.int .i64 0, .int .i64 0] 32)
  have hbF : Blk ((w7.alloc (.cells #[.slice As 2 cs, .slice Ab 1 cb] 92)).alloc (.cells #[.int .i64 0, .int .i64 0] 32)) w7.heap.size 92 #[.slice As 2 cs, .slice Ab 1 cb] := Blk.alloc (heap_alloc_new w7 _) _
  have hbW : Blk ((w7.alloc (.cells #[.slice As 2 cs, .slice Ab 1 cb] 92)).alloc (.cells #[.int .i64 0, .int .i64 0] 32)) (w7.heap.size + 1) 32 #[.int .i64 0, .int .i64 0] := by
    have := heap_alloc_new (w7.alloc (.cells #[.slice As 2 cs, .slice Ab 1 cb] 92)) (.cells #[.int .i64 0, .int .i64 0] 32)
    rw [World.size_alloc] at this
    exact this
  generalize ((w7.alloc (.cells #[.slice As 2 cs, .slice Ab 1 cb] 92)).alloc (.cells #[.int .i64 0, .int .i64 0] 32)) = w8 at *
  have q18 := q1.below hx78
  have q28 := q2.below hx78
  have z8 := (hx78.cell (p := ⟨gA, oA + 15, none⟩) hgA).trans z15
  have l0 : w8.cell? ⟨w7.heap.size + 1, 0, none⟩ = some (.int .i64 0) := hbW.cell 0
  have b0 : w8.cell? ⟨w7.heap.size, 0, none⟩ = some (.slice As 2 cs) := hbF.cell 0
  have b1 : w8.cell? ⟨w7.heap.size, 1, none⟩ = some (.slice Ab 1 cb) := hbF.cell 1
  have HSH := Lib.hid (show_any w8 _ _ _ _ fA 1 0 q18 q28 Fl.invA)
  rw [Fl.showA] at HSH
  have HCH := Lib.hid Fl.checkA
  have hent : (Fl.shown fA.book 1 0 0 [[7]]).entry = [7] := rfl
  generalize Fl.shown fA.book 1 0 0 [[7]] = sA at *
  have HENT := Lib.hid hent
  have hx08 := (hx06.trans (hx7.mono hx06.size)).trans (hx78.mono (by have := hx06.size; have := hx7.size; omega))
  clear hent n1 n2 n3 z0 z0' z15
  go_wp2_with fail
  with_reducible refine HSH.out.mono ?_
  rintro e w9 ⟨cs9, rfl, hrd, hx9⟩
  simp only at hrd ⊢
  rw [show (((0 : Nat)) : Int) = 0 from rfl]
  obtain ⟨AE, cE, AP, cP, AR, cR, AB, cB, AH, cH, hcs, hB9, _⟩ := shw_open hrd
  subst hcs
  obtain ⟨nE, hnE⟩ : ∃ n, sA.entry.length = n := ⟨_, rfl⟩
  have hE1 : nE = 1 := by rw [← hnE, HENT.out]; rfl
  subst hE1
  rw [hnE] at hB9
  have hrd' : Rp.rd w9 (fun _ => True) [.slice AE 1 cE, .int .i64 sA.place, .int .i64 sA.shard, .slice AP sA.path.length cP, .int .i64 sA.rcd.sh, .int .i64 sA.rcd.fr, .int .i64 sA.rcd.to, .int .i64 sA.rcd.sz, .slice AR sA.rcd.root.length cR, .int .i64 sA.row, .slice AB sA.bpath.length cB, .int .i64 sA.hsz, .slice AH sA.hroot.length cH] sA := by rw [hnE] at hrd; exact hrd
  clear hrd
  go_upto_region 5 with (fail)
  have hx910 := (Below.refl w9.heap.size w9).alloc (Nat.le_refl _) (.cells #[.slice AE 1 cE, .int .i64 sA.place, .int .i64 sA.shard, .slice AP sA.path.length cP, .int .i64 sA.rcd.sh, .int .i64 sA.rcd.fr, .int .i64 sA.rcd.to, .int .i64 sA.rcd.sz, .slice AR sA.rcd.root.length cR, .int .i64 sA.row, .slice AB sA.bpath.length cB, .int .i64 sA.hsz, .slice AH sA.hroot.length cH] 89)
  have hbS : Blk (w9.alloc (.cells #[.slice AE 1 cE, .int .i64 sA.place, .int .i64 sA.shard, .slice AP sA.path.length cP, .int .i64 sA.rcd.sh, .int .i64 sA.rcd.fr, .int .i64 sA.rcd.to, .int .i64 sA.rcd.sz, .slice AR sA.rcd.root.length cR, .int .i64 sA.row, .slice AB sA.bpath.length cB, .int .i64 sA.hsz, .slice AH sA.hroot.length cH] 89)) w9.heap.size 89 #[.slice AE 1 cE, .int .i64 sA.place, .int .i64 sA.shard, .slice AP sA.path.length cP, .int .i64 sA.rcd.sh, .int .i64 sA.rcd.fr, .int .i64 sA.rcd.to, .int .i64 sA.rcd.sz, .slice AR sA.rcd.root.length cR, .int .i64 sA.row, .slice AB sA.bpath.length cB, .int .i64 sA.hsz, .slice AH sA.hroot.length cH] := heap_alloc_new w9 _
  generalize w9.alloc (.cells #[.slice AE 1 cE, .int .i64 sA.place, .int .i64 sA.shard, .slice AP sA.path.length cP, .int .i64 sA.rcd.sh, .int .i64 sA.rcd.fr, .int .i64 sA.rcd.to, .int .i64 sA.rcd.sz, .slice AR sA.rcd.root.length cR, .int .i64 sA.row, .slice AB sA.bpath.length cB, .int .i64 sA.hsz, .slice AH sA.hroot.length cH] 89) = w10 at *
  have hx810 := hx9.trans (hx910.mono hx9.size)
  have hbF10 := hbF.below hx810 hbF.lt
  have b110 : w10.cell? ⟨w7.heap.size, 1, none⟩ = some (.slice Ab 1 cb) := hbF10.cell 1
  have hHead := Lib.hid (Head_fine w10 _ _ fA.book (q28.below hx810) Fl.invA.fineB)
  have hn1 : (fA.book.length : Int) = 1 := rfl
  rw [hn1] at hHead
  have hrt : Tr.root ((Bk.rows fA.book).map Tr.leafH) = Fl.bookRoot fA.book := rfl
  rw [hrt] at hHead
  rw [hn1] at HCH
  generalize Fl.bookRoot fA.book = br at *
  clear hrt hn1
  go_wp2_with fail
  with_reducible refine hHead.out.mono ?_
  rintro e w11 ⟨vh, rfl, hoh, hx11⟩
  obtain ⟨Ak, ck, hvh, _, _⟩ := Own.shape hoh
  obtain ⟨nk, hnk⟩ : ∃ n, br.length = n := ⟨_, rfl⟩
  rw [hnk] at hvh
  subst hvh
  clear hnk
  go_upto_region 6 with (fail)
  have hx1112 := ((Below.refl w11.heap.size w11).alloc (Nat.le_refl _) (.cells #[.int .i64 1, .slice Ak nk ck] 39)).alloc (by simp) (.cells #[.int .i64 0, .int .i64 0] 32)
  have hbH : Blk ((w11.alloc (.cells #[.int .i64 1, .slice Ak nk ck] 39)).alloc (.cells #[.int .i64 0, .int .i64 0] 32)) w11.heap.size 39 #[.int .i64 1, .slice Ak nk ck] := Blk.alloc (heap_alloc_new w11 _) _
  generalize ((w11.alloc (.cells #[.int .i64 1, .slice Ak nk ck] 39)).alloc (.cells #[.int .i64 0, .int .i64 0] 32)) = w12 at *
  have hx1012 := hx11.trans (hx1112.mono hx11.size)
  have hx912 := hx910.trans (hx1012.mono hx910.size)
  have hbS12 := hbS.below hx1012 hbS.lt
  have hoh12 := OwnB.below hoh hx1112
  have hrd12 : Rp.rd w12 (fun _ => True) [.slice AE 1 cE, .int .i64 sA.place, .int .i64 sA.shard, .slice AP sA.path.length cP, .int .i64 sA.rcd.sh, .int .i64 sA.rcd.fr, .int .i64 sA.rcd.to, .int .i64 sA.rcd.sz, .slice AR sA.rcd.root.length cR, .int .i64 sA.row, .slice AB sA.bpath.length cB, .int .i64 sA.hsz, .slice AH sA.hroot.length cH] sA := Rp.keep hrd' hx912.size (fun b hb hF => ⟨hF, hx912.block b hb⟩)
  obtain ⟨gE, oE, cE', hAE, _, hgE, ecs, hre, hce⟩ := (rdL_bytes.2 hB9).at_ (i := 0) (by rw [HENT.out]; decide)
  have hes : ecs = [bv 7] := by
    have h : ecs = [bv (sA.entry[0]'(by rw [HENT.out]; decide))] := hre
    rw [h]
    congr 2
    have := HENT.out
    simp only [this]
    rfl
  have he7 := hce 0 (bv 7) (by rw [hes]; rfl)
  injection hAE with hAE hA1 hA2
  clear hA1 hA2
  subst hAE
  clear hes hre hce
  have he12 := (hx912.cell (p := ⟨gE, oE + 0 * Rp.sz UInt8 + 0, none⟩) hgE).trans he7
  have he13 : w12.cell? ⟨gE, oE, none⟩ = some (.int .u8 7) := he12
  have hx012 := hx08.trans (((hx9.trans (hx910.mono hx9.size)).trans (hx1012.mono (by have := hx9.size; have := hx910.size; omega))).mono (by have := hx08.size; omega))
  have c0 : w12.cell? ⟨w9.heap.size, 0, none⟩ = some (.slice (some ⟨gE, oE, none⟩) 1 cE) := hbS12.cell 0
  have c1 : w12.cell? ⟨w9.heap.size, 1, none⟩ = some (.int .i64 sA.place) := hbS12.cell 1
  have c2 : w12.cell? ⟨w9.heap.size, 2, none⟩ = some (.int .i64 sA.shard) := hbS12.cell 2
  have c3 : w12.cell? ⟨w9.heap.size, 3, none⟩ = some (.slice AP sA.path.length cP) := hbS12.cell 3
  have c4 : w12.cell? ⟨w9.heap.size, 4, none⟩ = some (.int .i64 sA.rcd.sh) := hbS12.cell 4
  have c5 : w12.cell? ⟨w9.heap.size, 5, none⟩ = some (.int .i64 sA.rcd.fr) := hbS12.cell 5
  have c6 : w12.cell? ⟨w9.heap.size, 6, none⟩ = some (.int .i64 sA.rcd.to) := hbS12.cell 6
  have c7 : w12.cell? ⟨w9.heap.size, 7, none⟩ = some (.int .i64 sA.rcd.sz) := hbS12.cell 7
  have c8 : w12.cell? ⟨w9.heap.size, 8, none⟩ = some (.slice AR sA.rcd.root.length cR) := hbS12.cell 8
  have c9 : w12.cell? ⟨w9.heap.size, 9, none⟩ = some (.int .i64 sA.row) := hbS12.cell 9
  have c10 : w12.cell? ⟨w9.heap.size, 10, none⟩ = some (.slice AB sA.bpath.length cB) := hbS12.cell 10
  have c11 : w12.cell? ⟨w9.heap.size, 11, none⟩ = some (.int .i64 sA.hsz) := hbS12.cell 11
  have c12 : w12.cell? ⟨w9.heap.size, 12, none⟩ = some (.slice AH sA.hroot.length cH) := hbS12.cell 12
  have d0 : w12.cell? ⟨w11.heap.size, 0, none⟩ = some (.int .i64 1) := hbH.cell 0
  have d1 : w12.cell? ⟨w11.heap.size, 1, none⟩ = some (.slice Ak nk ck) := hbH.cell 1
  have HCK := Lib.hid (check_any w12 _ _ _ sA 1 br (.slice Ak nk ck) hrd12 (OwnB.bytes hoh12))
  rw [HCH.out] at HCK
  clear hbS hbS12 hbH hbF hbW hbF10 he12 he7
  go_wp2_with fail
  refine HCK.out.mono ?_
  rintro e w13 ⟨rfl, hx13⟩
  go_wp2_with fail
  go_ret
  exact ⟨rfl, hx012.trans (hx13.mono hx012.size)⟩
end Go.Proofs.Ytfdibjgmbdkbcaa

namespace Go.Proofs.Ytfdibjgmbdkbcaa
open Go.RowKit Go.Lib
theorem Fl.play_good {ws : List (Int × Int)} {l : List Dob} {f : Flt} {la : List Ans} {b : Nat} (h : Fl.play ws l = (f, la, (0, b))) : ∃ lb, Fl.play ws (Fl.good l la) = (f, lb, (0, 0)) ∧ ∀ a ∈ lb, a.err = 0 := by
  obtain ⟨_, h1, h2, h3, h4⟩ := Fl.play_ok h
  obtain ⟨g1, g2⟩ := Fl.run_good (Fl.start ws) l
  have hl := Fl.good_length l la
  refine ⟨(Fl.run (Fl.start ws) (Fl.good l la)).2, ?_, by rw [h2]; exact g2⟩
  unfold Fl.play
  rw [if_neg (by simpa using h3), if_neg (by omega), h1, ← g1, ← h2]
/-- what is done, in a slice: its cells -/
theorem dob_at {w : World} {F : Nat → Prop} {v : Value} {l : List Dob} (h : RdL w F v l) {j : Nat} (hj : j < l.length) : ∃ b off c A k, v = .slice (some ⟨b, off, none⟩) l.length c ∧ F b ∧ b < w.heap.size ∧
    w.cell? ⟨b, off + j * 7, none⟩ = some (.int .i64 l[j].kind) ∧ w.cell? ⟨b, off + j * 7 + 1, none⟩ = some (.int .i64 l[j].n) ∧ w.cell? ⟨b, off + j * 7 + 2, none⟩ = some (.int .i64 l[j].time) ∧ w.cell? ⟨b, off + j * 7 + 3, none⟩ = some (.slice A l[j].entry.length k) ∧
    w.cell? ⟨b, off + j * 7 + 4, none⟩ = some (.int .i64 l[j].seg) ∧ w.cell? ⟨b, off + j * 7 + 5, none⟩ = some (.int .i64 l[j].pos) ∧ w.cell? ⟨b, off + j * 7 + 6, none⟩ = some (bv l[j].turn) ∧ Bytes w F (.slice A l[j].entry.length k) l[j].entry := by
  obtain ⟨b, off, c, hv, hF, hb, ecs, hr, hc⟩ := h.at_ hj
  obtain ⟨c1, c1', rfl, h1, c2, c2', rfl, h2, c3, c3', rfl, h3, c4, c4', rfl, ⟨u, h4', h4⟩, c5, c5', rfl, h5, c6, c7, rfl, h6, h7⟩ := hr
  have e1 : c1 = [.int .i64 l[j].kind] := h1
  have e2 : c2 = [.int .i64 l[j].n] := h2
  have e3 : c3 = [.int .i64 l[j].time] := h3
  have e5 : c5 = [.int .i64 l[j].seg] := h5
  have e6 : c6 = [.int .i64 l[j].pos] := h6
  have e7 : c7 = [bv l[j].turn] := h7
  subst e1 e2 e3 h4' e5 e6 e7
  have hbt := rdL_bytes.1 h4
  obtain ⟨A, k, rfl⟩ := hbt.form
  exact ⟨b, off, c, A, k, hv, hF, hb, hc 0 _ rfl, hc 1 _ rfl, hc 2 _ rfl, hc 3 _ rfl, hc 4 _ rfl, hc 5 _ rfl, hc 6 _ rfl, hbt⟩
theorem info_dob : (Try.prog.info? 111).map (fun i => (i.zero, i.size, i.bytes)) = some (some (.agg #[.int .i64 0, .int .i64 0, .int .i64 0, .slice none 0 0, .int .i64 0, .int .i64 0, .int .u8 0]), 7, 72) := by kernel_rfl
theorem dobs_snoc {wr w' : World} {B c n : Nat} {e : TypeId} {L : List Dob} {xs : List Value} {d : Dob} {A : Option Addr} {v' : Value} (h2 : ∀ (i : Nat) (a : Dob), L[i]? = some a → ∃ ecs, Rp.rd wr (fun b => b < B) ecs a ∧ ∀ j u, ecs[j]? = some u → xs[i * Rp.sz Dob + j]? = some u)
    (hx : xs.length = L.length * 7) (hb : Below B wr w') (hd : Bytes wr (fun b => b < B) (.slice A n c) d.entry) (hown : Own w' B e 7 v' (L.length + 1) (xs ++ [.int .i64 d.kind, .int .i64 d.n, .int .i64 d.time, .slice A n c, .int .i64 d.seg, .int .i64 d.pos, bv d.turn])) :
    OwnR w' B e (fun b => b < B) v' (L ++ [d]) :=
  OwnR.snoc (fun i a ha => by obtain ⟨ecs, he, hj⟩ := h2 i a ha; exact ⟨ecs, Rp.below_of he hb (fun _ h => h), hj⟩) hx (dob_rd d (SlAt.below_of hd hb (fun _ h => h))) hown
end Go.Proofs.Ytfdibjgmbdkbcaa
