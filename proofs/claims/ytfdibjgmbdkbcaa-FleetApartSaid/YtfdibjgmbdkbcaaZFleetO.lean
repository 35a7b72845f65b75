/-
  THE WALK of a fleet's spoil. Conditions: a fleet of which all holds; there is the shard; what is done is read.
-/
import Derived.Test.YtfdibjgmbdkbcaaZGb
import Derived.Test.YtfdibjgmbdkbcaaZGs
namespace Go.Proofs.Ytfdibjgmbdkbcaa
open Go.RowKit Go.Lib

theorem ofInt8 (x : UInt8) : BitVec.ofInt 8 (x.toNat : Int) = x.toBitVec := by
  apply BitVec.eq_of_toNat_eq
  rw [BitVec.ofInt_natCast, BitVec.toNat_ofNat, UInt8.toNat_toBitVec]
  exact Nat.mod_eq_of_lt x.toNat_lt
theorem xor8 (x y : UInt8) : bits .xor .u8 (x.toNat : Int) (y.toNat : Int) = ((x ^^^ y).toNat : Int) := by
  show IntKind.u8.wrap ((BitVec.ofInt 8 (x.toNat : Int) ^^^ BitVec.ofInt 8 (y.toNat : Int)).toNat : Int) = _
  rw [ofInt8, ofInt8, ← UInt8.toBitVec_xor, UInt8.toNat_toBitVec, IntKind.wrap_u8]
  have := (x ^^^ y).toNat_lt
  omega

set_option maxRecDepth 100000 in
set_option maxHeartbeats 4000000 in
theorem spoil_any (w : World) (B gF q o k : Nat) (tag : Tag) (f : Flt) (s : Shd) (d : Dob) (hF : FltAt w B gF tag f) (hT : TagOk w B tag) (hI : Fl.Inv f) (hd : DoAt w B q o d) (hn : d.n = (k : Int)) (hs : f.sh[k]? = some s) :
    Calls Try.prog 137 #[.pointer (some ⟨gF, 0, none⟩), .pointer (some ⟨q, o, none⟩)] w (StepP w B gF tag (Fl.spoil f k s d)) := by
  have hBw : B ≤ w.heap.size := hd.2.1
  have hxw1 := (Below.refl w.heap.size w).alloc (Nat.le_refl _) (.cells #[.int .i64 0, .int .i64 0, .int .i64 0, .int .i64 0, .slice none 0 0] 105)
  have hans1 : Blk (w.alloc (.cells #[.int .i64 0, .int .i64 0, .int .i64 0, .int .i64 0, .slice none 0 0] 105)) w.heap.size 105 #[.int .i64 0, .int .i64 0, .int .i64 0, .int .i64 0, .slice none 0 0] := heap_alloc_new w _
  obtain ⟨R, HR⟩ : ∃ R, Hid (R = Fl.spoil f k s d) := ⟨_, Lib.hid rfl⟩
  rw [← HR.out]
  have hlen8 := hI.len
  obtain ⟨vs, vb, us, ws, hP⟩ := hF.parts
  have hP1 := hP.below hxw1
  have hd1 := hd.below (hxw1.mono hBw)
  obtain ⟨gS, oS, cS, u, hvs, hu, hgSB, hgSlt, hncS, hcSm, hltk, ⟨curS, hcurS⟩, hTS, hcell⟩ := hP1.row hs
  subst hvs
  unfold maxLen at hcSm
  have HN := Lib.hid hn
  obtain ⟨hq0, hB0, d0, d1, d2, ⟨Ae, ce, d3, hde⟩, d4, d5, d6⟩ := id hd1
  rw [hn] at d1
  clear hn
  go_enter Try.func137, Try.ntmps137
  go_upto_region 1 with (fail)
  generalize (w.alloc (.cells #[.int .i64 0, .int .i64 0, .int .i64 0, .int .i64 0, .slice none 0 0] 105)) = w1 at *
  have g0 : w1.cell? ⟨gF, 0, none⟩ = some (.slice (some ⟨gS, oS, none⟩) f.sh.length cS) := hP1.2.1.cell 0
  have hkB : (k : Int) < (f.sh.length : Int) := by omega
  have hk0 : (0 : Int) ≤ (k : Int) := by omega
  clear hcell hTS
  go_quiet (fail)
  go_upto_region 2 with (fail)
  have hx2 := below_drewN (Below.refl w1.heap.size w1) nq
  generalize w1.drewN nq = w2 at *
  have hP2 := hP1.below hx2
  have hans2 := hans1.below hx2 hans1.lt
  have hd2 := hd1.below (hx2.mono (Nat.le_trans hBw hxw1.size))
  have hxw2 := hxw1.trans (hx2.mono hxw1.size)
  obtain ⟨hq0, hB0, d0, d1, d2, ⟨Ae, ce, d3, hde⟩, d4, d5, d6⟩ := id hd2
  rw [HN.out] at d1
  obtain ⟨hTE, hTR, ps, t1, t2, t3, t4⟩ := hP2.2.2.2.2.1 k s u hs hu
  obtain ⟨AG, cG, hsv, hncG, hcGm⟩ := Own.shape t2
  unfold maxLen at hcGm
  have m6 : w2.cell? ⟨gS, oS + k * 7 + 4 + 1, none⟩ = some u.rv := hP2.cells hs hu (i := 5) rfl
  have m7 : w2.cell? ⟨gS, oS + k * 7 + 4 + 2, none⟩ = some u.sv := hP2.cells hs hu (i := 6) rfl
  rw [hsv] at m7
  have HZ := Lib.hid (List.getD_eq_getElem?_getD (l := s.man.segs) (i := d.seg.toNat) (a := ⟨0, 0, []⟩))
  by_cases hneg : d.seg < 0
  · have hnegB : decide (d.seg < 0) = true := decide_eq_true hneg
    have HS : Hid (R = (f, Fl.no 6)) := Lib.hid (by rw [HR.out]; unfold Fl.spoil; rw [if_pos (.inl hneg)])
    go_quiet (fail)
    go_upto_region 3 with (fail)
    have hx3 := below_drewN (Below.refl w2.heap.size w2) nq
    generalize w2.drewN nq = w3 at *
    have hP3 := hP2.below hx3
    have hans3 := hans2.below hx3 hans2.lt
    have hd3 := hd2.below (hx3.mono (Nat.le_trans hBw hxw2.size))
    have hxw3 := hxw2.trans (hx3.mono hxw2.size)
    obtain ⟨hq0, hB0, d0, d1, d2, ⟨Ae, ce, d3, hde⟩, d4, d5, d6⟩ := id hd3
    have a90 : w3.cell? ⟨w.heap.size, 0, none⟩ = some (.int .i64 0) := hans3.cell 0
    have f90 := hans3.frozen 0
    have a91 : w3.cell? ⟨w.heap.size, 1, none⟩ = some (.int .i64 0) := hans3.cell 1
    have f91 := hans3.frozen 1
    have a92 : w3.cell? ⟨w.heap.size, 2, none⟩ = some (.int .i64 0) := hans3.cell 2
    have f92 := hans3.frozen 2
    have a93 : w3.cell? ⟨w.heap.size, 3, none⟩ = some (.int .i64 0) := hans3.cell 3
    have f93 := hans3.frozen 3
    have a94 : w3.cell? ⟨w.heap.size, 4, none⟩ = some (.slice none 0 0) := hans3.cell 4
    have f94 := hans3.frozen 4
    go_wp2_with fail
    have hW : set5 w3 w.heap.size (.int .i64 6) (.int .i64 0) (.int .i64 0) (.int .i64 0) (.slice none 0 0) = (((((w3.setCell ⟨w.heap.size, 0, none⟩ (.int .i64 6)).setCell ⟨w.heap.size, 1, none⟩ (.int .i64 0)).setCell ⟨w.heap.size, 2, none⟩ (.int .i64 0)).setCell ⟨w.heap.size, 3, none⟩ (.int .i64 0)).setCell ⟨w.heap.size, 4, none⟩ (.slice none 0 0)) := rfl
    rw [← hW]
    have hb5 := set5_blk (a := .int .i64 6) (b := .int .i64 0) (c := .int .i64 0) (d := .int .i64 0) (e := .slice none 0 0) hans3
    have hxe : Below w.heap.size w (set5 w3 w.heap.size (.int .i64 6) (.int .i64 0) (.int .i64 0) (.int .i64 0) (.slice none 0 0)) := set5_below hxw3 (Nat.le_refl _)
    clear hW
    generalize set5 w3 w.heap.size (.int .i64 6) (.int .i64 0) (.int .i64 0) (.int .i64 0) (.slice none 0 0) = W at *
    have s0 : W.cell? ⟨w.heap.size, 0, none⟩ = some (.int .i64 6) := hb5.cell 0
    have s1 : W.cell? ⟨w.heap.size, 1, none⟩ = some (.int .i64 0) := hb5.cell 1
    have s2 : W.cell? ⟨w.heap.size, 2, none⟩ = some (.int .i64 0) := hb5.cell 2
    have s3 : W.cell? ⟨w.heap.size, 3, none⟩ = some (.int .i64 0) := hb5.cell 3
    have s4 : W.cell? ⟨w.heap.size, 4, none⟩ = some (.slice none 0 0) := hb5.cell 4
    exact bodyPost_ret (v := .agg #[.int .i64 6, .int .i64 0, .int .i64 0, .int .i64 0, .slice none 0 0]) (by simp [results, Try.results137, go_sem, s0, s1, s2, s3, s4]) rfl (by rw [HS.out]; exact StepP.same hF hT hBw hxe rfl rfl)
  have hnegB : decide (d.seg < 0) = false := decide_eq_false hneg
  by_cases hge : (s.man.segs.length : Int) ≤ d.seg
  · have hgeB : decide ((s.man.segs.length : Int) ≤ d.seg) = true := decide_eq_true hge
    have HS : Hid (R = (f, Fl.no 6)) := Lib.hid (by rw [HR.out]; unfold Fl.spoil; rw [if_pos (.inr hge)])
    go_quiet (fail)
    go_upto_region 3 with (fail)
    have hx3 := below_drewN (Below.refl w2.heap.size w2) nq
    generalize w2.drewN nq = w3 at *
    have hP3 := hP2.below hx3
    have hans3 := hans2.below hx3 hans2.lt
    have hd3 := hd2.below (hx3.mono (Nat.le_trans hBw hxw2.size))
    have hxw3 := hxw2.trans (hx3.mono hxw2.size)
    obtain ⟨hq0, hB0, d0, d1, d2, ⟨Ae, ce, d3, hde⟩, d4, d5, d6⟩ := id hd3
    have a90 : w3.cell? ⟨w.heap.size, 0, none⟩ = some (.int .i64 0) := hans3.cell 0
    have f90 := hans3.frozen 0
    have a91 : w3.cell? ⟨w.heap.size, 1, none⟩ = some (.int .i64 0) := hans3.cell 1
    have f91 := hans3.frozen 1
    have a92 : w3.cell? ⟨w.heap.size, 2, none⟩ = some (.int .i64 0) := hans3.cell 2
    have f92 := hans3.frozen 2
    have a93 : w3.cell? ⟨w.heap.size, 3, none⟩ = some (.int .i64 0) := hans3.cell 3
    have f93 := hans3.frozen 3
    have a94 : w3.cell? ⟨w.heap.size, 4, none⟩ = some (.slice none 0 0) := hans3.cell 4
    have f94 := hans3.frozen 4
    go_wp2_with fail
    have hW : set5 w3 w.heap.size (.int .i64 6) (.int .i64 0) (.int .i64 0) (.int .i64 0) (.slice none 0 0) = (((((w3.setCell ⟨w.heap.size, 0, none⟩ (.int .i64 6)).setCell ⟨w.heap.size, 1, none⟩ (.int .i64 0)).setCell ⟨w.heap.size, 2, none⟩ (.int .i64 0)).setCell ⟨w.heap.size, 3, none⟩ (.int .i64 0)).setCell ⟨w.heap.size, 4, none⟩ (.slice none 0 0)) := rfl
    rw [← hW]
    have hb5 := set5_blk (a := .int .i64 6) (b := .int .i64 0) (c := .int .i64 0) (d := .int .i64 0) (e := .slice none 0 0) hans3
    have hxe : Below w.heap.size w (set5 w3 w.heap.size (.int .i64 6) (.int .i64 0) (.int .i64 0) (.int .i64 0) (.slice none 0 0)) := set5_below hxw3 (Nat.le_refl _)
    clear hW
    generalize set5 w3 w.heap.size (.int .i64 6) (.int .i64 0) (.int .i64 0) (.int .i64 0) (.slice none 0 0) = W at *
    have s0 : W.cell? ⟨w.heap.size, 0, none⟩ = some (.int .i64 6) := hb5.cell 0
    have s1 : W.cell? ⟨w.heap.size, 1, none⟩ = some (.int .i64 0) := hb5.cell 1
    have s2 : W.cell? ⟨w.heap.size, 2, none⟩ = some (.int .i64 0) := hb5.cell 2
    have s3 : W.cell? ⟨w.heap.size, 3, none⟩ = some (.int .i64 0) := hb5.cell 3
    have s4 : W.cell? ⟨w.heap.size, 4, none⟩ = some (.slice none 0 0) := hb5.cell 4
    exact bodyPost_ret (v := .agg #[.int .i64 6, .int .i64 0, .int .i64 0, .int .i64 0, .slice none 0 0]) (by simp [results, Try.results137, go_sem, s0, s1, s2, s3, s4]) rfl (by rw [HS.out]; exact StepP.same hF hT hBw hxe rfl rfl)
  have hgeB : decide ((s.man.segs.length : Int) ≤ d.seg) = false := decide_eq_false hge
  obtain ⟨j, hj⟩ : ∃ j : Nat, d.seg = (j : Int) := ⟨d.seg.toNat, by omega⟩
  have hjn : d.seg.toNat = j := by omega
  have hjl : j < s.man.segs.length := by omega
  obtain ⟨sg, hsg⟩ : ∃ sg, s.man.segs[j]? = some sg := ⟨_, List.getElem?_eq_getElem hjl⟩
  obtain ⟨pv, hpv⟩ : ∃ p, ps[j]? = some p := ⟨_, List.getElem?_eq_getElem (by omega)⟩
  have hpk := t4 j sg pv hsg hpv
  obtain ⟨AP, cP, hpe, hncP, hcPm⟩ := Own.shape hpk.1
  unfold maxLen at hcPm
  subst hpe
  have HSP : Hid (R = if d.pos < 0 ∨ (sg.packed.length : Int) ≤ d.pos then (f, Fl.no 3) else (⟨f.sh.set k { s with man := { s.man with segs := s.man.segs.set j { sg with packed := sg.packed.set d.pos.toNat (sg.packed.getD d.pos.toNat 0 ^^^ d.turn) } } }, f.book⟩, ⟨0, (k : Int), 0, 0, []⟩)) := Lib.hid (by
    have hz := HZ.out
    rw [hjn, hsg] at hz
    simp only [Option.getD_some] at hz
    rw [HR.out]
    unfold Fl.spoil Fl.spoilM Fl.turned
    rw [if_neg (by omega), hjn, hz])
  go_quiet (fail)
  go_upto_region 4 with (fail)
  have hx3 := below_drewN (Below.refl w2.heap.size w2) nq
  generalize w2.drewN nq = w3 at *
  have hP3 := hP2.below hx3
  have hans3 := hans2.below hx3 hans2.lt
  have hd3 := hd2.below (hx3.mono (Nat.le_trans hBw hxw2.size))
  have hxw3 := hxw2.trans (hx3.mono hxw2.size)
  obtain ⟨hq0, hB0, d0, d1, d2, ⟨Ae, ce, d3, hde⟩, d4, d5, d6⟩ := id hd3
  rw [hj] at d4
  have HJ := Lib.hid hj
  clear hj hnegB hgeB hneg hge
  have hjB : (j : Int) < (s.man.segs.length : Int) := by omega
  have hj0 : (0 : Int) ≤ (j : Int) := by omega
  have t23 := t2.below hx3
  have t43 : ∀ (j : Nat) (t : Seg) (p : Value), s.man.segs[j]? = some t → ps[j]? = some p → TB w3 B tag (some (k, j + 1)) p t.packed := fun j t p ht hp => (t4 j t p ht hp).below hx3
  obtain ⟨gG, oG, cG', hvG, hgGB, hgGlt, hnG, _, hcG⟩ := t23.form (by omega)
  rw [hsv] at hvG
  injection hvG with hvG _ hvc
  subst hvG hvc
  have m73 : w3.cell? ⟨gS, oS + k * 7 + 4 + 2, none⟩ = some (.slice (some ⟨gG, oG, none⟩) s.man.segs.length cG) := by rw [← hsv]; exact hP3.cells hs hu (i := 6) rfl
  have mp : w3.cell? ⟨gG, oG + j * 3 + 2, none⟩ = some (.slice AP sg.packed.length cP) := by rw [Nat.add_assoc]; exact hcG _ _ (flatS_at s.man.segs ps j 2 sg _ _ hsg hpv rfl)
  clear hcG
  go_quiet (fail)
  go_upto_region 5 with (fail)
  have hx4 := below_drewN (Below.refl w3.heap.size w3) nq
  generalize w3.drewN nq = w4 at *
  have hP4 := hP3.below hx4
  have hans4 := hans3.below hx4 hans3.lt
  have hd4 := hd3.below (hx4.mono (Nat.le_trans hBw hxw3.size))
  have hxw4 := hxw3.trans (hx4.mono hxw3.size)
  obtain ⟨hq0, hB0, d0, d1, d2, ⟨Ae, ce, d3, hde⟩, d4, d5, d6⟩ := id hd4
  by_cases hp0 : d.pos < 0
  · have hp0B : decide (d.pos < 0) = true := decide_eq_true hp0
    have HS : Hid (R = (f, Fl.no 3)) := Lib.hid (by rw [HSP.out, if_pos (.inl hp0)])
    have a90 : w4.cell? ⟨w.heap.size, 0, none⟩ = some (.int .i64 0) := hans4.cell 0
    have f90 := hans4.frozen 0
    have a91 : w4.cell? ⟨w.heap.size, 1, none⟩ = some (.int .i64 0) := hans4.cell 1
    have f91 := hans4.frozen 1
    have a92 : w4.cell? ⟨w.heap.size, 2, none⟩ = some (.int .i64 0) := hans4.cell 2
    have f92 := hans4.frozen 2
    have a93 : w4.cell? ⟨w.heap.size, 3, none⟩ = some (.int .i64 0) := hans4.cell 3
    have f93 := hans4.frozen 3
    have a94 : w4.cell? ⟨w.heap.size, 4, none⟩ = some (.slice none 0 0) := hans4.cell 4
    have f94 := hans4.frozen 4
    go_wp2_with fail
    have hW : set5 w4 w.heap.size (.int .i64 3) (.int .i64 0) (.int .i64 0) (.int .i64 0) (.slice none 0 0) = (((((w4.setCell ⟨w.heap.size, 0, none⟩ (.int .i64 3)).setCell ⟨w.heap.size, 1, none⟩ (.int .i64 0)).setCell ⟨w.heap.size, 2, none⟩ (.int .i64 0)).setCell ⟨w.heap.size, 3, none⟩ (.int .i64 0)).setCell ⟨w.heap.size, 4, none⟩ (.slice none 0 0)) := rfl
    rw [← hW]
    have hb5 := set5_blk (a := .int .i64 3) (b := .int .i64 0) (c := .int .i64 0) (d := .int .i64 0) (e := .slice none 0 0) hans4
    have hxe : Below w.heap.size w (set5 w4 w.heap.size (.int .i64 3) (.int .i64 0) (.int .i64 0) (.int .i64 0) (.slice none 0 0)) := set5_below hxw4 (Nat.le_refl _)
    clear hW
    generalize set5 w4 w.heap.size (.int .i64 3) (.int .i64 0) (.int .i64 0) (.int .i64 0) (.slice none 0 0) = W at *
    have s0 : W.cell? ⟨w.heap.size, 0, none⟩ = some (.int .i64 3) := hb5.cell 0
    have s1 : W.cell? ⟨w.heap.size, 1, none⟩ = some (.int .i64 0) := hb5.cell 1
    have s2 : W.cell? ⟨w.heap.size, 2, none⟩ = some (.int .i64 0) := hb5.cell 2
    have s3 : W.cell? ⟨w.heap.size, 3, none⟩ = some (.int .i64 0) := hb5.cell 3
    have s4 : W.cell? ⟨w.heap.size, 4, none⟩ = some (.slice none 0 0) := hb5.cell 4
    exact bodyPost_ret (v := .agg #[.int .i64 3, .int .i64 0, .int .i64 0, .int .i64 0, .slice none 0 0]) (by simp [results, Try.results137, go_sem, s0, s1, s2, s3, s4]) rfl (by rw [HS.out]; exact StepP.same hF hT hBw hxe rfl rfl)
  have hp0B : decide (d.pos < 0) = false := decide_eq_false hp0
  by_cases hpl : (sg.packed.length : Int) ≤ d.pos
  · have hplB : decide ((sg.packed.length : Int) ≤ d.pos) = true := decide_eq_true hpl
    have HS : Hid (R = (f, Fl.no 3)) := Lib.hid (by rw [HSP.out, if_pos (.inr hpl)])
    have a90 : w4.cell? ⟨w.heap.size, 0, none⟩ = some (.int .i64 0) := hans4.cell 0
    have f90 := hans4.frozen 0
    have a91 : w4.cell? ⟨w.heap.size, 1, none⟩ = some (.int .i64 0) := hans4.cell 1
    have f91 := hans4.frozen 1
    have a92 : w4.cell? ⟨w.heap.size, 2, none⟩ = some (.int .i64 0) := hans4.cell 2
    have f92 := hans4.frozen 2
    have a93 : w4.cell? ⟨w.heap.size, 3, none⟩ = some (.int .i64 0) := hans4.cell 3
    have f93 := hans4.frozen 3
    have a94 : w4.cell? ⟨w.heap.size, 4, none⟩ = some (.slice none 0 0) := hans4.cell 4
    have f94 := hans4.frozen 4
    go_wp2_with fail
    have hW : set5 w4 w.heap.size (.int .i64 3) (.int .i64 0) (.int .i64 0) (.int .i64 0) (.slice none 0 0) = (((((w4.setCell ⟨w.heap.size, 0, none⟩ (.int .i64 3)).setCell ⟨w.heap.size, 1, none⟩ (.int .i64 0)).setCell ⟨w.heap.size, 2, none⟩ (.int .i64 0)).setCell ⟨w.heap.size, 3, none⟩ (.int .i64 0)).setCell ⟨w.heap.size, 4, none⟩ (.slice none 0 0)) := rfl
    rw [← hW]
    have hb5 := set5_blk (a := .int .i64 3) (b := .int .i64 0) (c := .int .i64 0) (d := .int .i64 0) (e := .slice none 0 0) hans4
    have hxe : Below w.heap.size w (set5 w4 w.heap.size (.int .i64 3) (.int .i64 0) (.int .i64 0) (.int .i64 0) (.slice none 0 0)) := set5_below hxw4 (Nat.le_refl _)
    clear hW
    generalize set5 w4 w.heap.size (.int .i64 3) (.int .i64 0) (.int .i64 0) (.int .i64 0) (.slice none 0 0) = W at *
    have s0 : W.cell? ⟨w.heap.size, 0, none⟩ = some (.int .i64 3) := hb5.cell 0
    have s1 : W.cell? ⟨w.heap.size, 1, none⟩ = some (.int .i64 0) := hb5.cell 1
    have s2 : W.cell? ⟨w.heap.size, 2, none⟩ = some (.int .i64 0) := hb5.cell 2
    have s3 : W.cell? ⟨w.heap.size, 3, none⟩ = some (.int .i64 0) := hb5.cell 3
    have s4 : W.cell? ⟨w.heap.size, 4, none⟩ = some (.slice none 0 0) := hb5.cell 4
    exact bodyPost_ret (v := .agg #[.int .i64 3, .int .i64 0, .int .i64 0, .int .i64 0, .slice none 0 0]) (by simp [results, Try.results137, go_sem, s0, s1, s2, s3, s4]) rfl (by rw [HS.out]; exact StepP.same hF hT hBw hxe rfl rfl)
  have hplB : decide ((sg.packed.length : Int) ≤ d.pos) = false := decide_eq_false hpl
  obtain ⟨i, hi⟩ : ∃ i : Nat, d.pos = (i : Int) := ⟨d.pos.toNat, by omega⟩
  have hin : d.pos.toNat = i := by omega
  have hil : i < sg.packed.length := by omega
  have HS : Hid (R = (⟨f.sh.set k { s with man := { s.man with segs := s.man.segs.set j { sg with packed := sg.packed.set i (sg.packed[i] ^^^ d.turn) } } }, f.book⟩, ⟨0, (k : Int), 0, 0, []⟩)) := Lib.hid (by
    rw [HSP.out, if_neg (by omega), hin, List.getD_eq_getElem?_getD, List.getElem?_eq_getElem hil]; rfl)
  go_upto_region 7 with (fail)
  rw [hi] at d5
  have HI := Lib.hid hi
  clear hi hp0 hp0B hpl hplB
  have hiB : (i : Int) < (sg.packed.length : Int) := by omega
  have hi0 : (0 : Int) ≤ (i : Int) := by omega
  have t24 := t23.below hx4
  have t44 : ∀ (j : Nat) (t : Seg) (p : Value), s.man.segs[j]? = some t → ps[j]? = some p → TB w4 B tag (some (k, j + 1)) p t.packed := fun j t p ht hp => (t43 j t p ht hp).below hx4
  have hb4 := (t44 j sg _ hsg hpv).1
  obtain ⟨gb, ob, cb, hvb, hgbB, hgblt, hnb, _, hcb⟩ := hb4.form (by omega)
  injection hvb with hvb _ hvc
  subst hvb hvc
  have hbyte : w4.cell? ⟨gb, ob + i, none⟩ = some (bv sg.packed[i]) := hcb i _ (by rw [List.getElem?_map, List.getElem?_eq_getElem hil]; rfl)
  have hbf : w4.frozen? ⟨gb, ob + i, none⟩ = false := by
    obtain ⟨_, cur, hcur⟩ := Own.type hb4 gb rfl
    exact frozen_of_row w4 gb _ cur _ hcur
  have hqb : q ≠ gb := by omega
  clear hcb
  unfold bv at hbyte d6
  refine wp_region_held_drew (S := (fun z : World => z.cell? ⟨q, o + 5, none⟩ = some (.int .i64 (i : Int)) ∧ z.cell? ⟨q, o + 6, none⟩ = some (.int .u8 (d.turn.toNat : Int)))) (by kernel_rfl) ?_ (fun hHeld => ?_)
  · exact ⟨d5, d6⟩
  refine step_take (i := 0) (v := ?_) rfl (by kernel_rfl) (by kernel_rfl) (by kernel_rfl) (fun _ _ _ h => h) (by rfl) ?ys1 (by assumption) ?_
  case ys1 => (intro w hSw; (try dsimp only at hSw); go_simp; (try with_reducible rfl))
  try simp only [Act.put, List.setIfInBounds_toArray, List.set_cons_zero, List.set_cons_succ]
  refine step_take (i := 1) (v := ?_) rfl (by kernel_rfl) (by kernel_rfl) (by kernel_rfl) (fun _ _ _ h => h) (by rfl) ?ys2 (by assumption) ?_
  case ys2 => (intro w hSw; (try dsimp only at hSw); go_simp; (try with_reducible rfl))
  try simp only [Act.put, List.setIfInBounds_toArray, List.set_cons_zero, List.set_cons_succ]
  refine step_take (i := 2) (v := ?_) rfl (by kernel_rfl) (by kernel_rfl) (by kernel_rfl) (fun _ _ _ h => h) (by rfl) ?ys3 (by assumption) ?_
  case ys3 => (intro w hSw; (try dsimp only at hSw); go_simp; (try with_reducible rfl))
  try simp only [Act.put, List.setIfInBounds_toArray, List.set_cons_zero, List.set_cons_succ]
  refine step_take (i := 3) (v := ?_) rfl (by kernel_rfl) (by kernel_rfl) (by kernel_rfl) (fun _ _ _ h => h) (by rfl) ?ys4 (by assumption) ?_
  case ys4 => (intro w hSw; (try dsimp only at hSw); go_simp; (try with_reducible rfl))
  try simp only [Act.put, List.setIfInBounds_toArray, List.set_cons_zero, List.set_cons_succ]
  refine step_take (i := 4) (v := ?_) rfl (by kernel_rfl) (by kernel_rfl) (by kernel_rfl) (fun _ _ _ h => h) (by rfl) ?ys5 (by assumption) ?_
  case ys5 => (intro w hSw; (try dsimp only at hSw); go_simp; (try with_reducible rfl))
  try simp only [Act.put, List.setIfInBounds_toArray, List.set_cons_zero, List.set_cons_succ]
  refine step_take (i := 5) (v := ?_) rfl (by kernel_rfl) (by kernel_rfl) (by kernel_rfl) (fun _ _ _ h => h) (by rfl) ?ys6 (by assumption) ?_
  case ys6 => (intro w hSw; (try dsimp only at hSw); go_simp; (try with_reducible rfl))
  try simp only [Act.put, List.setIfInBounds_toArray, List.set_cons_zero, List.set_cons_succ]
  refine step_take (i := 7) (v := ?_) rfl (by kernel_rfl) (by kernel_rfl) (by kernel_rfl) (fun _ _ _ h => h) (by rfl) ?ys7 (by assumption) ?_
  case ys7 => (intro w hSw; (try dsimp only at hSw); go_simp; (try with_reducible rfl))
  try simp only [Act.put, List.setIfInBounds_toArray, List.set_cons_zero, List.set_cons_succ]
  refine step_take (i := 8) (v := ?_) rfl (by kernel_rfl) (by kernel_rfl) (by kernel_rfl) (fun _ _ _ h => h) (by rfl) ?ys8 (by assumption) ?_
  case ys8 => (intro w hSw; (try dsimp only at hSw); go_simp; (try with_reducible rfl))
  try simp only [Act.put, List.setIfInBounds_toArray, List.set_cons_zero, List.set_cons_succ]
  refine step_take (i := 9) (v := ?_) rfl (by kernel_rfl) (by kernel_rfl) (by kernel_rfl) (fun _ _ _ h => h) (by rfl) ?ys9 (by assumption) ?_
  case ys9 => (intro w hSw; (try dsimp only at hSw); go_simp; (try with_reducible rfl))
  try simp only [Act.put, List.setIfInBounds_toArray, List.set_cons_zero, List.set_cons_succ]
  refine step_take (i := 10) (v := ?_) rfl (by kernel_rfl) (by kernel_rfl) (by kernel_rfl) (fun _ _ _ h => h) (by rfl) ?ys10 (by assumption) ?_
  case ys10 => (intro w hSw; (try dsimp only at hSw); go_simp; (try with_reducible rfl))
  try simp only [Act.put, List.setIfInBounds_toArray, List.set_cons_zero, List.set_cons_succ]
  refine step_alone 6 rfl (by kernel_rfl) (by rfl) (fun K hK => ?_)
  go_simp
  refine hK.out _ _ ?_ (fun hHeld => ?_)
  · exact ⟨d5, d6⟩
  clear hK K
  try simp only [Act.put, List.setIfInBounds_toArray, List.set_cons_zero, List.set_cons_succ]
  refine step_take (i := 11) (v := ?_) rfl (by kernel_rfl) (by kernel_rfl) (by kernel_rfl) (fun _ _ _ h => h) (by rfl) ?ys12 (by assumption) ?_
  case ys12 => (intro w hSw; (try dsimp only at hSw); go_simp; (try with_reducible rfl))
  try simp only [Act.put, List.setIfInBounds_toArray, List.set_cons_zero, List.set_cons_succ]
  refine step_take (i := 12) (v := ?_) rfl (by kernel_rfl) (by kernel_rfl) (by kernel_rfl) (fun _ _ _ h => h) (by rfl) ?ys13 (by assumption) ?_
  case ys13 => (intro w hSw; (try dsimp only at hSw); go_simp; (try with_reducible rfl))
  try simp only [Act.put, List.setIfInBounds_toArray, List.set_cons_zero, List.set_cons_succ]
  refine step_alone 13 rfl (by kernel_rfl) (by rfl) (fun K hK => ?_)
  go_simp
  refine hK.out _ _ ?_ (fun hHeld => ?_)
  · exact ⟨(World.cell?_of_block (Below.heap_setCell _ _ _ q hqb)).trans d5, (World.cell?_of_block (Below.heap_setCell _ _ _ q hqb)).trans d6⟩
  clear hK K
  try simp only [Act.put, List.setIfInBounds_toArray, List.set_cons_zero, List.set_cons_succ]
  refine wpAnyH_done (by kernel_rfl) ?_ _
  rw [xor8]
  obtain ⟨hP5, hK5⟩ := hP4.byte hs hu t1 t24 t3 t44 hsg hpv (i := i) (sg.packed[i] ^^^ d.turn)
  obtain ⟨cur4, hcur4⟩ := (Own.type hb4 gb rfl).2
  have hans5 : Blk (w4.setCell ⟨gb, ob + i, none⟩ (.int .u8 ((sg.packed[i] ^^^ d.turn).toNat : Int))).drew w.heap.size 105 #[.int .i64 0, .int .i64 0, .int .i64 0, .int .i64 0, .slice none 0 0] := hans4.far (p := ⟨gb, ob + i, none⟩) (Blk.ne hans4 hcur4 (by decide)) _
  have d15 : (w4.setCell ⟨gb, ob + i, none⟩ (.int .u8 ((sg.packed[i] ^^^ d.turn).toNat : Int))).drew.cell? ⟨q, o + 1, none⟩ = some (.int .i64 (k : Int)) := (World.cell?_of_block (Below.heap_setCell _ _ _ q hqb)).trans (by rw [HN.out] at d1; exact d1)
  have hF5 : FltAt (w4.setCell ⟨gb, ob + i, none⟩ (.int .u8 ((sg.packed[i] ^^^ d.turn).toNat : Int))).drew B gF tag ⟨f.sh.set k { s with man := { s.man with segs := s.man.segs.set j { sg with packed := sg.packed.set i (sg.packed[i] ^^^ d.turn) } } }, f.book⟩ := hP5.drew.at_
  have hT5 : TagOk (w4.setCell ⟨gb, ob + i, none⟩ (.int .u8 ((sg.packed[i] ^^^ d.turn).toNat : Int))).drew B tag := (hT.size hxw4.size).size (by show w4.heap.size ≤ (w4.setCell ⟨gb, ob + i, none⟩ (.int .u8 ((sg.packed[i] ^^^ d.turn).toNat : Int))).heap.size; simp)
  have hK6 : Kept w (w4.setCell ⟨gb, ob + i, none⟩ (.int .u8 ((sg.packed[i] ^^^ d.turn).toNat : Int))).drew B tag tag := ((Kept.of_below hxw4 hBw).trans hK5 hBw).trans (Kept.of_below ((Below.refl _ _).drew) (by have := hxw4.size; simp; omega)) hBw
  clear hP5 hK5
  generalize (w4.setCell ⟨gb, ob + i, none⟩ (.int .u8 ((sg.packed[i] ^^^ d.turn).toNat : Int))).drew = w5 at *
  have a90 : w5.cell? ⟨w.heap.size, 0, none⟩ = some (.int .i64 0) := hans5.cell 0
  have f90 := hans5.frozen 0
  have a91 : w5.cell? ⟨w.heap.size, 1, none⟩ = some (.int .i64 0) := hans5.cell 1
  have f91 := hans5.frozen 1
  have a92 : w5.cell? ⟨w.heap.size, 2, none⟩ = some (.int .i64 0) := hans5.cell 2
  have f92 := hans5.frozen 2
  have a93 : w5.cell? ⟨w.heap.size, 3, none⟩ = some (.int .i64 0) := hans5.cell 3
  have f93 := hans5.frozen 3
  have a94 : w5.cell? ⟨w.heap.size, 4, none⟩ = some (.slice none 0 0) := hans5.cell 4
  have f94 := hans5.frozen 4
  go_wp2_with fail
  have hW : set5 w5 w.heap.size (.int .i64 0) (.int .i64 (k : Int)) (.int .i64 0) (.int .i64 0) (.slice none 0 0) = (((((w5.setCell ⟨w.heap.size, 0, none⟩ (.int .i64 0)).setCell ⟨w.heap.size, 1, none⟩ (.int .i64 (k : Int))).setCell ⟨w.heap.size, 2, none⟩ (.int .i64 0)).setCell ⟨w.heap.size, 3, none⟩ (.int .i64 0)).setCell ⟨w.heap.size, 4, none⟩ (.slice none 0 0)) := rfl
  rw [← hW]
  have hb5 := set5_blk (a := .int .i64 0) (b := .int .i64 (k : Int)) (c := .int .i64 0) (d := .int .i64 0) (e := .slice none 0 0) hans5
  have hF9 := hF5.set5 (a := .int .i64 0) (b := .int .i64 (k : Int)) (c := .int .i64 0) (d := .int .i64 0) (e := .slice none 0 0) hans5
  have hT9 : TagOk (set5 w5 w.heap.size (.int .i64 0) (.int .i64 (k : Int)) (.int .i64 0) (.int .i64 0) (.slice none 0 0)) B tag := hT5.size (by rw [set5_size]; exact Nat.le_refl _)
  have hK9 : Kept w (set5 w5 w.heap.size (.int .i64 0) (.int .i64 (k : Int)) (.int .i64 0) (.int .i64 0) (.slice none 0 0)) B tag tag := hK6.set5 (Nat.le_refl _) hBw
  clear hW
  generalize set5 w5 w.heap.size (.int .i64 0) (.int .i64 (k : Int)) (.int .i64 0) (.int .i64 0) (.slice none 0 0) = W at *
  have s0 : W.cell? ⟨w.heap.size, 0, none⟩ = some (.int .i64 0) := hb5.cell 0
  have s1 : W.cell? ⟨w.heap.size, 1, none⟩ = some (.int .i64 (k : Int)) := hb5.cell 1
  have s2 : W.cell? ⟨w.heap.size, 2, none⟩ = some (.int .i64 0) := hb5.cell 2
  have s3 : W.cell? ⟨w.heap.size, 3, none⟩ = some (.int .i64 0) := hb5.cell 3
  have s4 : W.cell? ⟨w.heap.size, 4, none⟩ = some (.slice none 0 0) := hb5.cell 4
  exact bodyPost_ret (v := .agg #[.int .i64 0, .int .i64 (k : Int), .int .i64 0, .int .i64 0, .slice none 0 0]) (by simp [results, Try.results137, go_sem, s0, s1, s2, s3, s4]) rfl (by rw [HS.out]; exact ⟨.slice none 0 0, tag, rfl, hF9, hT9, hK9, Own.nil_ _ _ _ _⟩)
end Go.Proofs.Ytfdibjgmbdkbcaa
