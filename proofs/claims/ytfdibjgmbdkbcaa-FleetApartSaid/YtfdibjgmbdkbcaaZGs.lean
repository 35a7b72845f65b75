/-
  THE WALK of a fleet's retire. Conditions: a fleet of which all holds; the shard is laid away.
  Words for memory: a byte of what is laid away is turned. No conditions.
-/
import Derived.Test.YtfdibjgmbdkbcaaZGh
import Derived.Test.YtfdibjgmbdkbcaaZGq
import Derived.Test.YtfdibjgmbdkbcaaZGr
namespace Go.Proofs.Ytfdibjgmbdkbcaa
open Go.RowKit Go.Lib

theorem row_some {f : Flt} (hI : Fl.Inv f) {k : Nat} {s : Shd} (hs : f.sh[k]? = some s) (h2 : 2 ≤ s.st) : ∃ (i : Nat) (r : Rec), Fl.row f.book (k : Int) = some i ∧ f.book[i]? = some r ∧ r.sh = (k : Int) ∧ Fl.rowR f.book (k : Int) = r := by
  obtain ⟨r0, hr0, e0⟩ := (hI.sh k s hs).row h2
  cases h : Fl.row f.book (k : Int) with
  | none =>
    have := List.findIdx?_eq_none_iff.1 h r0 hr0
    simp [e0] at this
  | some i =>
    obtain ⟨hlt, hp, _⟩ := List.findIdx?_eq_some_iff_getElem.1 h
    refine ⟨i, f.book[i], rfl, List.getElem?_eq_getElem hlt, by simpa using hp, ?_⟩
    unfold Fl.rowR
    rw [h]
    simp only
    rw [List.getD_eq_getElem?_getD, List.getElem?_eq_getElem hlt]
    rfl
theorem TL.nil_ (w : World) (B : Nat) (tag : Tag) (k : Nat) : TL w B tag k (.slice none 0 0) [] := ⟨[], Own.nil_ _ _ _ _, fun b hb => by simp [Value.ownBlock] at hb, fun i b hb => by simp at hb⟩

set_option maxRecDepth 100000 in
set_option maxHeartbeats 4000000 in
theorem retire_any (w : World) (B gF k : Nat) (tag : Tag) (f : Flt) (s : Shd) (hF : FltAt w B gF tag f) (hT : TagOk w B tag) (hI : Fl.Inv f) (hBw : B ≤ w.heap.size) (hs : f.sh[k]? = some s) (hst : 2 ≤ s.st) :
    Calls Try.prog 136 #[.pointer (some ⟨gF, 0, none⟩), .int .i64 (k : Int)] w (StepP w B gF tag (Fl.retire f k s)) := by
  have hx0 := ((Below.refl w.heap.size w).alloc (Nat.le_refl _) (.cells #[.int .i64 (k : Int)] 3)).alloc (by simp) (.cells #[.int .i64 0, .int .i64 0, .int .i64 0, .int .i64 0, .slice none 0 0] 105)
  have hbox : Blk ((w.alloc (.cells #[.int .i64 (k : Int)] 3)).alloc (.cells #[.int .i64 0, .int .i64 0, .int .i64 0, .int .i64 0, .slice none 0 0] 105)) w.heap.size 3 #[.int .i64 (k : Int)] := Blk.alloc (heap_alloc_new w _) _
  have hans : Blk ((w.alloc (.cells #[.int .i64 (k : Int)] 3)).alloc (.cells #[.int .i64 0, .int .i64 0, .int .i64 0, .int .i64 0, .slice none 0 0] 105)) (w.heap.size + 1) 105 #[.int .i64 0, .int .i64 0, .int .i64 0, .int .i64 0, .slice none 0 0] := by
    have := heap_alloc_new (w.alloc (.cells #[.int .i64 (k : Int)] 3)) (.cells #[.int .i64 0, .int .i64 0, .int .i64 0, .int .i64 0, .slice none 0 0] 105)
    rw [World.size_alloc] at this
    exact this
  obtain ⟨R, HR⟩ : ∃ R, Hid (R = Fl.retire f k s) := ⟨_, Lib.hid rfl⟩
  rw [← HR.out]
  obtain ⟨i, r, hri, hbr, hrsh, hRR⟩ := row_some hI hs hst
  have hlen8 := hI.len
  have hbook8 := hI.book_len
  obtain ⟨vs, vb, us, ws, hP⟩ := hF.parts
  have hP1 := hP.below hx0
  have hT1 := hT.size hx0.size
  obtain ⟨gS, oS, cS, u, hvs, hu, hgSB, hgSlt, hncS, hcSm, hltk, ⟨curS, hcurS⟩, hTS, hcell⟩ := hP1.row hs
  subst hvs
  unfold maxLen at hcSm
  have q1 := hP1.2.1
  go_enter Try.func136, Try.ntmps136
  go_upto_region 1 with (fail)
  generalize ((w.alloc (.cells #[.int .i64 (k : Int)] 3)).alloc (.cells #[.int .i64 0, .int .i64 0, .int .i64 0, .int .i64 0, .slice none 0 0] 105)) = w1 at *
  have g0 : w1.cell? ⟨gF, 0, none⟩ = some (.slice (some ⟨gS, oS, none⟩) f.sh.length cS) := q1.cell 0
  have b0 : w1.cell? ⟨w.heap.size, 0, none⟩ = some (.int .i64 (k : Int)) := hbox.cell 0
  have hkB : (k : Int) < (f.sh.length : Int) := by omega
  have hk0 : (0 : Int) ≤ (k : Int) := by omega
  go_quiet (fail)
  go_upto_region 2 with (fail)
  have hx2 := below_drewN (Below.refl w1.heap.size w1) nq
  generalize w1.drewN nq = w2 at *
  have hP2 := hP1.below hx2
  have hbox2 := hbox.below hx2 hbox.lt
  obtain ⟨Ab, cb, hvb, _, hcbm⟩ := Own.shape hP2.2.2.2.2.2.2.1
  unfold maxLen at hcbm
  subst hvb
  obtain ⟨vs', vb', _, hblk', _, hrb⟩ := hP2.at_.rd
  have hvv : vb' = .slice Ab f.book.length cb := by
    have h1 := hblk'
    have h2 := hP2.2.1
    unfold Blk at h1 h2
    rw [h1] at h2
    injection h2 with h2
    injection h2 with h2 _
    injection h2 with h2
    injection h2 with _ h2
    injection h2 with h2 _
  subst hvv
  clear hblk'
  have g1 : w2.cell? ⟨gF, 1, none⟩ = some (.slice Ab f.book.length cb) := hP2.2.1.cell 1
  have b2 : w2.cell? ⟨w.heap.size, 0, none⟩ = some (.int .i64 (k : Int)) := hbox2.cell 0
  go_wp2_with fail
  with_reducible refine (idxRow_any w2 _ _ f.book w.heap.size (k : Int) hrb b2 hbox2.lt).mono ?_
  rintro e w3 ⟨rfl, hx3⟩
  rw [hri]
  have hidx : idx (some i) = (i : Int) := rfl
  rw [hidx]
  obtain ⟨hlti, _⟩ := List.getElem?_eq_some_iff.1 hbr
  have HRR := Lib.hid hRR
  have HRSH := Lib.hid hrsh
  clear hidx hri hrb hRR hrsh
  have hP3 := hP2.below hx3
  have hans3 := (hans.below hx2 hans.lt).below hx3 (hans.below hx2 hans.lt).lt
  have hbox3 := hbox2.below hx3 hbox2.lt
  have hx13 := hx2.trans (hx3.mono hx2.size)
  obtain ⟨gB, oB, cB, hvB, hgBB, hgBlt, hnB, _, hcB⟩ := hP3.2.2.2.2.2.2.1.form (by omega)
  injection hvB with hvB _ hvc
  subst hvB hvc
  have hwi : ws[i]? = some (ws[i]'(by have := hP3.2.2.2.2.2.1; omega)) := List.getElem?_eq_getElem _
  generalize ws[i]'(by have := hP3.2.2.2.2.2.1; omega) = rv at *
  have hrt := hP3.2.2.2.2.2.2.2 i r rv hbr hwi
  have c3 : w3.cell? ⟨gB, oB + i * 5 + 3, none⟩ = some (.int .i64 r.sz) := by
    rw [Nat.add_assoc]
    exact hcB _ _ (flat_at rcCells (fun _ _ => rfl) f.book ws i 3 r rv _ hbr hwi rfl)
  have c4 : w3.cell? ⟨gB, oB + i * 5 + 4, none⟩ = some rv := by
    rw [Nat.add_assoc]
    exact hcB _ _ (flat_at rcCells (fun _ _ => rfl) f.book ws i 4 r rv _ hbr hwi rfl)
  have g3 : w3.cell? ⟨gF, 1, none⟩ = some (.slice (some ⟨gB, oB, none⟩) f.book.length cb) := hP3.2.1.cell 1
  have hiB : (i : Int) < (f.book.length : Int) := by omega
  have hi0 : (0 : Int) ≤ (i : Int) := by omega
  obtain ⟨Ar, cr, hrv, _, _⟩ := Own.shape hrt.1
  subst hrv
  clear hcB
  go_upto_region 4 with (fail)
  have hx4 := (Below.refl w3.heap.size w3).alloc (Nat.le_refl _) (.cells #[.int .i64 r.sz, .slice Ar r.root.length cr] 39)
  have hhead : Blk (w3.alloc (.cells #[.int .i64 r.sz, .slice Ar r.root.length cr] 39)) w3.heap.size 39 #[.int .i64 r.sz, .slice Ar r.root.length cr] := heap_alloc_new w3 _
  generalize w3.alloc (.cells #[.int .i64 r.sz, .slice Ar r.root.length cr] 39) = w4 at *
  have hP4 := hP3.below hx4
  have hx14 := hx13.trans (hx4.mono hx13.size)
  have hans4 := hans3.below hx4 hans3.lt
  have hbox4 := hbox3.below hx4 hbox3.lt
  generalize w3.heap.size = gH at *
  obtain ⟨hTE, hTR, hTG⟩ := hP4.2.2.2.2.1 k s u hs hu
  have m4 : w4.cell? ⟨gS, oS + k * 7 + 4, none⟩ = some (.int .i64 s.man.size) := hP4.cells hs hu (i := 4) rfl
  have m5 : w4.cell? ⟨gS, oS + k * 7 + 4 + 1, none⟩ = some u.rv := hP4.cells hs hu (i := 5) rfl
  have m6 : w4.cell? ⟨gS, oS + k * 7 + 4 + 2, none⟩ = some u.sv := hP4.cells hs hu (i := 6) rfl
  go_wp2_with fail
  obtain ⟨a, b, hab⟩ : ∃ a b : Nat, (Shf.verC s.man).1 = (a, b) := ⟨_, _, rfl⟩
  have hfv : fv (Shf.verC s.man).1 = .agg #[.int .i64 (a : Int), .int .i64 (b : Int)] := by rw [hab]; rfl
  have HV := Lib.hid (verify_any w4 _ _ u.rv u.sv s.man (OwnB.bytes hTR.1) hTG.rd)
  with_reducible refine HV.out.mono ?_
  rintro e w5 ⟨v5, rfl, _, hx5⟩
  rw [hfv]
  clear HV hfv
  go_upto_region 5 with (fail)
  have hx6 := hx5.alloc hx5.size (.cells #[.int .i64 (a : Int), .int .i64 (b : Int)] 32)
  have hflt : Blk (w5.alloc (.cells #[.int .i64 (a : Int), .int .i64 (b : Int)] 32)) w5.heap.size 32 #[.int .i64 (a : Int), .int .i64 (b : Int)] := heap_alloc_new w5 _
  generalize w5.alloc (.cells #[.int .i64 (a : Int), .int .i64 (b : Int)] 32) = w6 at *
  generalize w5.heap.size = gE at *
  have hP6 := hP4.below hx6
  have hx16 := hx14.trans (hx6.mono hx14.size)
  have hans6 := hans4.below hx6 hans4.lt
  have hbox6 := hbox4.below hx6 hbox4.lt
  have hhead6 := hhead.below hx6 hhead.lt
  have hxw := hx0.trans (hx16.mono hx0.size)
  have l0 : w6.cell? ⟨gE, 0, none⟩ = some (.int .i64 (a : Int)) := hflt.cell 0
  have l1 : w6.cell? ⟨gE, 1, none⟩ = some (.int .i64 (b : Int)) := hflt.cell 1
  have a90 : w6.cell? ⟨w.heap.size + 1, 0, none⟩ = some (.int .i64 0) := hans6.cell 0
  have f90 := hans6.frozen 0
  have a91 : w6.cell? ⟨w.heap.size + 1, 1, none⟩ = some (.int .i64 0) := hans6.cell 1
  have f91 := hans6.frozen 1
  have a92 : w6.cell? ⟨w.heap.size + 1, 2, none⟩ = some (.int .i64 0) := hans6.cell 2
  have f92 := hans6.frozen 2
  have a93 : w6.cell? ⟨w.heap.size + 1, 3, none⟩ = some (.int .i64 0) := hans6.cell 3
  have f93 := hans6.frozen 3
  have a94 : w6.cell? ⟨w.heap.size + 1, 4, none⟩ = some (.slice none 0 0) := hans6.cell 4
  have f94 := hans6.frozen 4
  by_cases ha : a = 0
  · have hne : ((a : Int) != 0) = false := by rw [bne_eq_false_iff_eq]; omega
    have HS : Hid (R = (⟨f.sh.set k { s with st := 4, ents := [] }, f.book⟩, ⟨0, (k : Int), 0, r.sz, r.root⟩)) := Lib.hid (by rw [HR.out]; unfold Fl.retire; rw [hab]; simp only; rw [if_pos ha, HRR.out])
    go_upto_region 7 with (fail)
    have t2 : w6.cell? ⟨gS, oS + k * 7 + 2, none⟩ = some (.int .i64 s.st) := hP6.cells hs hu (i := 2) rfl
    have t3 : w6.cell? ⟨gS, oS + k * 7 + 3, none⟩ = some u.ev := hP6.cells hs hu (i := 3) rfl
    have z2 := hP6.frz (oS + k * 7 + 2)
    have z3 := hP6.frz (oS + k * 7 + 3)
    go_upto_region 8 with (fail)
    obtain ⟨hP7, hs7, hu7, hK7⟩ := hP6.cell (s' := { s with st := 4 }) (u' := u) (x := .int .i64 4) hs hu (i := 2) (by decide) rfl (hP6.2.2.2.2.1 k s u hs hu)
    obtain ⟨hP8, hs8, hu8, hK8⟩ := hP7.cell (s' := { s with st := 4, ents := [] }) (u' := { u with ev := .slice none 0 0 }) (x := .slice none 0 0) hs7 hu7 (i := 3) (by decide) rfl ⟨TL.nil_ _ _ _ _, (hP7.2.2.2.2.1 k _ u hs7 hu7).2.1, (hP7.2.2.2.2.1 k _ u hs7 hu7).2.2⟩
    obtain ⟨cur6, hcur6⟩ := hP6.blk.2.2
    have n1 : w.heap.size + 1 ≠ gS := Blk.ne hans6 hcur6 (by decide)
    have n2 : gH ≠ gS := Blk.ne hhead6 hcur6 (by decide)
    have n3 : w.heap.size ≠ gS := Blk.ne hbox6 hcur6 (by decide)
    have hans8 := (hans6.far (p := ⟨gS, oS + k * 7 + 2, none⟩) n1 (.int .i64 4)).far (p := ⟨gS, oS + k * 7 + 3, none⟩) n1 (.slice none 0 0)
    have hhead8 := (hhead6.far (p := ⟨gS, oS + k * 7 + 2, none⟩) n2 (.int .i64 4)).far (p := ⟨gS, oS + k * 7 + 3, none⟩) n2 (.slice none 0 0)
    have hbox8 := (hbox6.far (p := ⟨gS, oS + k * 7 + 2, none⟩) n3 (.int .i64 4)).far (p := ⟨gS, oS + k * 7 + 3, none⟩) n3 (.slice none 0 0)
    have hT8 : TagOk ((w6.setCell ⟨gS, oS + k * 7 + 2, none⟩ (.int .i64 4)).setCell ⟨gS, oS + k * 7 + 3, none⟩ (.slice none 0 0)) B tag := (hT.size hxw.size).size (by simp)
    have hK := ((Kept.of_below hxw hBw).trans hK7 hBw).trans hK8 hBw
    have hbk : ({ sh := (f.sh.set k { s with st := 4 }).set k { s with st := 4, ents := [] }, book := f.book } : Flt) = ⟨f.sh.set k { s with st := 4, ents := [] }, f.book⟩ := by rw [List.set_set]
    have hF8 := hP8.at_
    simp only at hF8
    rw [hbk] at hF8
    have hrt8 := hP8.2.2.2.2.2.2.2 i r (.slice Ar r.root.length cr) hbr hwi
    clear hbk hK7 hK8
    generalize (w6.setCell ⟨gS, oS + k * 7 + 2, none⟩ (.int .i64 4)).setCell ⟨gS, oS + k * 7 + 3, none⟩ (.slice none 0 0) = w9 at *
    have h90 : w9.cell? ⟨gH, 0, none⟩ = some (.int .i64 r.sz) := hhead8.cell 0
    have h91 : w9.cell? ⟨gH, 1, none⟩ = some (.slice Ar r.root.length cr) := hhead8.cell 1
    have h92 : w9.cell? ⟨w.heap.size, 0, none⟩ = some (.int .i64 (k : Int)) := hbox8.cell 0
    have a90 : w9.cell? ⟨w.heap.size + 1, 0, none⟩ = some (.int .i64 0) := hans8.cell 0
    have f90 := hans8.frozen 0
    have a91 : w9.cell? ⟨w.heap.size + 1, 1, none⟩ = some (.int .i64 0) := hans8.cell 1
    have f91 := hans8.frozen 1
    have a92 : w9.cell? ⟨w.heap.size + 1, 2, none⟩ = some (.int .i64 0) := hans8.cell 2
    have f92 := hans8.frozen 2
    have a93 : w9.cell? ⟨w.heap.size + 1, 3, none⟩ = some (.int .i64 0) := hans8.cell 3
    have f93 := hans8.frozen 3
    have a94 : w9.cell? ⟨w.heap.size + 1, 4, none⟩ = some (.slice none 0 0) := hans8.cell 4
    have f94 := hans8.frozen 4
    go_wp2_with fail
    have hW : set5 w9 (w.heap.size + 1) (.int .i64 0) (.int .i64 (k : Int)) (.int .i64 0) (.int .i64 r.sz) (.slice Ar r.root.length cr) = (((((w9.setCell ⟨w.heap.size + 1, 0, none⟩ (.int .i64 0)).setCell ⟨w.heap.size + 1, 1, none⟩ (.int .i64 (k : Int))).setCell ⟨w.heap.size + 1, 2, none⟩ (.int .i64 0)).setCell ⟨w.heap.size + 1, 3, none⟩ (.int .i64 r.sz)).setCell ⟨w.heap.size + 1, 4, none⟩ (.slice Ar r.root.length cr)) := rfl
    rw [← hW]
    have hb5 := set5_blk (a := .int .i64 0) (b := .int .i64 (k : Int)) (c := .int .i64 0) (d := .int .i64 r.sz) (e := .slice Ar r.root.length cr) hans8
    have hF9 : FltAt (set5 w9 (w.heap.size + 1) (.int .i64 0) (.int .i64 (k : Int)) (.int .i64 0) (.int .i64 r.sz) (.slice Ar r.root.length cr)) B gF tag ⟨f.sh.set k { s with st := 4, ents := [] }, f.book⟩ := hF8.set5 hans8
    have hT9s : TagOk (set5 w9 (w.heap.size + 1) (.int .i64 0) (.int .i64 (k : Int)) (.int .i64 0) (.int .i64 r.sz) (.slice Ar r.root.length cr)) B tag := hT8.size (by rw [set5_size]; exact Nat.le_refl _)
    have hK9s : Kept w (set5 w9 (w.heap.size + 1) (.int .i64 0) (.int .i64 (k : Int)) (.int .i64 0) (.int .i64 r.sz) (.slice Ar r.root.length cr)) B tag tag := hK.set5 (Nat.le_succ _) hBw
    have hbt9 : OwnB (set5 w9 (w.heap.size + 1) (.int .i64 0) (.int .i64 (k : Int)) (.int .i64 0) (.int .i64 r.sz) (.slice Ar r.root.length cr)) B (.slice Ar r.root.length cr) r.root := Own.set5 hrt8.1 hans8 (by decide)
    clear hW
    generalize set5 w9 (w.heap.size + 1) (.int .i64 0) (.int .i64 (k : Int)) (.int .i64 0) (.int .i64 r.sz) (.slice Ar r.root.length cr) = W at *
    have s0 : W.cell? ⟨w.heap.size + 1, 0, none⟩ = some (.int .i64 0) := hb5.cell 0
    have s1 : W.cell? ⟨w.heap.size + 1, 1, none⟩ = some (.int .i64 (k : Int)) := hb5.cell 1
    have s2 : W.cell? ⟨w.heap.size + 1, 2, none⟩ = some (.int .i64 0) := hb5.cell 2
    have s3 : W.cell? ⟨w.heap.size + 1, 3, none⟩ = some (.int .i64 r.sz) := hb5.cell 3
    have s4 : W.cell? ⟨w.heap.size + 1, 4, none⟩ = some (.slice Ar r.root.length cr) := hb5.cell 4
    exact bodyPost_ret (v := .agg #[.int .i64 0, .int .i64 (k : Int), .int .i64 0, .int .i64 r.sz, .slice Ar r.root.length cr]) (by simp [results, Try.results136, go_sem, s0, s1, s2, s3, s4]) rfl (by rw [HS.out]; exact ⟨.slice Ar r.root.length cr, tag, rfl, hF9, hT9s, hK9s, hbt9⟩)
  · have hne : ((a : Int) != 0) = true := by rw [bne_iff_ne]; omega
    have HS : Hid (R = (f, Fl.no a)) := Lib.hid (by rw [HR.out]; unfold Fl.retire; rw [hab]; simp only; rw [if_neg ha])
    go_wp2_with fail
    have hW : set5 w6 (w.heap.size + 1) (.int .i64 (a : Int)) (.int .i64 0) (.int .i64 0) (.int .i64 0) (.slice none 0 0) = (((((w6.setCell ⟨w.heap.size + 1, 0, none⟩ (.int .i64 (a : Int))).setCell ⟨w.heap.size + 1, 1, none⟩ (.int .i64 0)).setCell ⟨w.heap.size + 1, 2, none⟩ (.int .i64 0)).setCell ⟨w.heap.size + 1, 3, none⟩ (.int .i64 0)).setCell ⟨w.heap.size + 1, 4, none⟩ (.slice none 0 0)) := rfl
    rw [← hW]
    have hb5 := set5_blk (a := .int .i64 (a : Int)) (b := .int .i64 0) (c := .int .i64 0) (d := .int .i64 0) (e := .slice none 0 0) hans6
    have hxe : Below w.heap.size w (set5 w6 (w.heap.size + 1) (.int .i64 (a : Int)) (.int .i64 0) (.int .i64 0) (.int .i64 0) (.slice none 0 0)) := set5_below hxw (Nat.le_succ _)
    clear hW
    generalize set5 w6 (w.heap.size + 1) (.int .i64 (a : Int)) (.int .i64 0) (.int .i64 0) (.int .i64 0) (.slice none 0 0) = W at *
    have s0 : W.cell? ⟨w.heap.size + 1, 0, none⟩ = some (.int .i64 (a : Int)) := hb5.cell 0
    have s1 : W.cell? ⟨w.heap.size + 1, 1, none⟩ = some (.int .i64 0) := hb5.cell 1
    have s2 : W.cell? ⟨w.heap.size + 1, 2, none⟩ = some (.int .i64 0) := hb5.cell 2
    have s3 : W.cell? ⟨w.heap.size + 1, 3, none⟩ = some (.int .i64 0) := hb5.cell 3
    have s4 : W.cell? ⟨w.heap.size + 1, 4, none⟩ = some (.slice none 0 0) := hb5.cell 4
    exact bodyPost_ret (v := .agg #[.int .i64 (a : Int), .int .i64 0, .int .i64 0, .int .i64 0, .slice none 0 0]) (by simp [results, Try.results136, go_sem, s0, s1, s2, s3, s4]) rfl (by rw [HS.out]; exact StepP.same hF hT hBw hxe rfl rfl)
end Go.Proofs.Ytfdibjgmbdkbcaa

namespace Go.Proofs.Ytfdibjgmbdkbcaa
open Go.RowKit Go.Lib

theorem flat_same {α β : Type} (c : α → β → List Value) : ∀ (l : List α) (us : List β) (k : Nat) (a a' : α) (u : β), l[k]? = some a → us[k]? = some u → c a' u = c a u → (List.zipWith c (l.set k a') us).flatten = (List.zipWith c l us).flatten
  | [], _, _, _, _, _, h, _, _ => by simp at h
  | _ :: _, [], _, _, _, _, _, h, _ => by simp at h
  | a0 :: l, u0 :: us, 0, a, a', u, h1, h2, he => by
    simp only [List.getElem?_cons_zero, Option.some.injEq] at h1 h2
    subst h1 h2
    simp only [List.set_cons_zero, List.zipWith_cons_cons, List.flatten_cons, he]
  | a0 :: l, u0 :: us, k + 1, a, a', u, h1, h2, he => by
    simp only [List.getElem?_cons_succ] at h1 h2
    have ih := flat_same c l us k a a' u h1 h2 he
    simp only [List.set_cons_succ, List.zipWith_cons_cons, List.flatten_cons, ih]
theorem FltP.byte {w : World} {B gF k j i gb ob cb : Nat} {tag : Tag} {f : Flt} {vs vb : Value} {us : List ShV} {ws ps : List Value} {s : Shd} {u : ShV} {sg : Seg} (h : FltP w B gF tag f vs vb us ws) (hs : f.sh[k]? = some s) (hu : us[k]? = some u)
    (h1 : ps.length = s.man.segs.length) (h2 : Own w B 152 3 u.sv s.man.segs.length (flatS s.man.segs ps)) (h3 : Tg tag none u.sv) (h4 : ∀ (j : Nat) (t : Seg) (p : Value), s.man.segs[j]? = some t → ps[j]? = some p → TB w B tag (some (k, j + 1)) p t.packed)
    (hj : s.man.segs[j]? = some sg) (hp : ps[j]? = some (.slice (some ⟨gb, ob, none⟩) sg.packed.length cb)) (x : UInt8) :
    FltP (w.setCell ⟨gb, ob + i, none⟩ (bv x)) B gF tag ⟨f.sh.set k { s with man := { s.man with segs := s.man.segs.set j { sg with packed := sg.packed.set i x } } }, f.book⟩ vs vb us ws ∧ Kept w (w.setCell ⟨gb, ob + i, none⟩ (bv x)) B tag tag := by
  have hb := h4 j sg _ hj hp
  have hgb := Own.lt hb.1 gb rfl
  have htg : tag gb = some (k, j + 1) := hb.2 gb rfl
  have hc : Chg w (w.setCell ⟨gb, ob + i, none⟩ (bv x)) B tag (some (k, j + 1)) := ⟨(Below.refl B w).setCell (p := ⟨gb, ob + i, none⟩) hgb.1 _, fun b _ ht _ => Below.heap_setCell _ _ _ b (fun e => ht (by rw [show b = gb from e]; exact htg))⟩
  obtain ⟨hlt, _⟩ := List.getElem?_eq_some_iff.1 hs
  obtain ⟨cur, hcur⟩ := (Own.type hb.1 gb rfl).2
  obtain ⟨p0, p1, p2, p3, p4, p5, p6, p7⟩ := h
  have hSG : flatS (s.man.segs.set j { sg with packed := sg.packed.set i x }) ps = flatS s.man.segs ps := flat_same segCells s.man.segs ps j sg _ _ hj hp rfl
  have hSH : flatSh (f.sh.set k { s with man := { s.man with segs := s.man.segs.set j { sg with packed := sg.packed.set i x } } }) us = flatSh f.sh us := flat_same shCells f.sh us k s _ u hs hu rfl
  refine ⟨⟨p0, p1.far (p := ⟨gb, ob + i, none⟩) (Blk.ne p1 hcur (by decide)) _, by simpa using p2, ?_, fun j' t v ht hv => ?_, p5, Own.setCell (p := ⟨gb, ob + i, none⟩) p6 (Own.ne_blk p6 hcur (by decide)) _, fun i r v hr hv => (p7 i r v hr hv).chg hc (by simp)⟩, hc.kept (by simp)⟩
  · rw [hSH]
    simpa using Own.setCell (p := ⟨gb, ob + i, none⟩) p3 (Own.ne_blk p3 hcur (by decide)) _
  · simp only at ht
    by_cases e : k = j'
    · subst e
      rw [List.getElem?_set_self hlt] at ht
      rw [hu] at hv
      injection ht with ht
      injection hv with hv
      subst ht hv
      obtain ⟨t1, t2, _⟩ := p4 k s u hs hu
      refine ⟨t1.chg hc (by simp) (by simp), t2.chg hc (by simp), ps, by simpa using h1, ?_, h3, fun m t p hm hpm => ?_⟩
      · simp only
        rw [hSG]
        simpa using Own.chg h2 hc (fun b hb => by rw [h3 b hb]; simp) seg_not
      · simp only at hm
        obtain ⟨hjl, _⟩ := List.getElem?_eq_some_iff.1 hj
        by_cases em : j = m
        · subst em
          rw [List.getElem?_set_self hjl] at hm
          rw [hp] at hpm
          injection hm with hm
          injection hpm with hpm
          subst hm hpm
          refine ⟨?_, hb.2⟩
          have := Own.setN hb.1 i (bv x)
          unfold OwnB
          simp only [List.length_set, List.map_set]
          exact this
        · rw [List.getElem?_set_ne em] at hm
          exact (h4 m t p hm hpm).chg hc (fun e => by injection e with e; injection e with _ e; omega)
    · rw [List.getElem?_set_ne e] at ht
      exact (p4 j' t v ht hv).chg hc (fun m em => by injection em with em; injection em with em _; exact e em.symm) (by simp)
end Go.Proofs.Ytfdibjgmbdkbcaa
