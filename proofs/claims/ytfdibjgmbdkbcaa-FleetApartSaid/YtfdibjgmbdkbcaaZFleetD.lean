/-
  THE WALK of a fleet's submit. Conditions: a fleet of which all holds; what is done is read.
-/
import Derived.Test.YtfdibjgmbdkbcaaZGq
import Derived.Test.YtfdibjgmbdkbcaaZGr
namespace Go.Proofs.Ytfdibjgmbdkbcaa
open Go.RowKit Go.Lib

theorem submit_long {f : Flt} {d : Dob} (h : 200 < d.entry.length) : Fl.submit f d = (f, Fl.no 4) := by unfold Fl.submit; rw [if_pos h]
theorem submit_none {f : Flt} {d : Dob} (h : ¬ 200 < d.entry.length) (hk : f.sh.findIdx? (Fl.inW d.time) = none) : Fl.submit f d = (f, Fl.no 6) := by unfold Fl.submit; rw [if_neg h, hk]
theorem submit_at {f : Flt} {d : Dob} {k : Nat} {s : Shd} (h : ¬ 200 < d.entry.length) (hk : f.sh.findIdx? (Fl.inW d.time) = some k) (hs : f.sh[k]? = some s) : Fl.submit f d = if s.st ≠ 1 then (f, Fl.no 8) else
      match s.ents.findIdx? (· == d.entry) with
      | some i => (f, ⟨0, k, i, 0, []⟩)
      | none => if s.ents.length = 100 then (f, Fl.no 5) else (⟨f.sh.set k { s with ents := s.ents ++ [d.entry] }, f.book⟩, ⟨0, k, s.ents.length, 0, []⟩) := by
  unfold Fl.submit; rw [if_neg h, hk]; simp only; rw [hs]; rfl

set_option maxRecDepth 100000 in
set_option maxHeartbeats 4000000 in
theorem submit_any (w : World) (B gF q o : Nat) (tag : Tag) (f : Flt) (d : Dob) (hF : FltAt w B gF tag f) (hT : TagOk w B tag) (hI : Fl.Inv f) (hd : DoAt w B q o d) :
    Calls Try.prog 134 #[.pointer (some ⟨gF, 0, none⟩), .pointer (some ⟨q, o, none⟩)] w (StepP w B gF tag (Fl.submit f d)) := by
  obtain ⟨i0, hi, hz0, hz1, hz2⟩ := info_parts info_bytes
  have hd' := hd
  obtain ⟨hqB, hBw, _, _, d2, ⟨Ae, ce, d3, hde⟩, _⟩ := hd'
  have hx0 := ((Below.refl w.heap.size w).alloc (Nat.le_refl _) (.cells #[.pointer (some ⟨q, o, none⟩)] 167)).alloc (by simp) (.cells #[.int .i64 0, .int .i64 0, .int .i64 0, .int .i64 0, .slice none 0 0] 105)
  have hxB := hx0.mono hBw
  have c3 := (hxB.cell (p := ⟨q, o + 3, none⟩) hqB).trans d3
  have hentB : d.entry.length ≤ 9223372036854775807 := by
    obtain ⟨A', c', hv, h1, h2, _⟩ := hde
    unfold maxLen at h2
    omega
  obtain ⟨R, HR⟩ : ∃ R, Hid (R = Fl.submit f d) := ⟨_, Lib.hid rfl⟩
  rw [← HR.out]
  by_cases hlong : 200 < d.entry.length
  · have HS := Lib.hid (HR.out.trans (submit_long hlong))
    have hB2 : (200 : Int) < (d.entry.length : Int) := by omega
    go_enter Try.func134, Try.ntmps134
    go_wp2_with fail
    refine bodyPost_ret (v := .agg #[.int .i64 4, .int .i64 0, .int .i64 0, .int .i64 0, .slice none 0 0]) (by simp [results, Try.results134, go_sem]) rfl ?_
    rw [HS.out]
    exact StepP.same hF hT hBw (((Below.refl w.heap.size w).alloc (Nat.le_refl _) _).alloc (by simp) _) rfl rfl
  · have hB2 : decide ((200 : Int) < (d.entry.length : Int)) = false := decide_eq_false (by omega)
    obtain ⟨vs, vb, hgB, hgF, hrs, hrb⟩ := (hF.below hx0).rd
    have hbox : Blk ((w.alloc (.cells #[.pointer (some ⟨q, o, none⟩)] 167)).alloc (.cells #[.int .i64 0, .int .i64 0, .int .i64 0, .int .i64 0, .slice none 0 0] 105)) w.heap.size 167 #[.pointer (some ⟨q, o, none⟩)] := Blk.alloc (heap_alloc_new w _) _
    have hans : Blk ((w.alloc (.cells #[.pointer (some ⟨q, o, none⟩)] 167)).alloc (.cells #[.int .i64 0, .int .i64 0, .int .i64 0, .int .i64 0, .slice none 0 0] 105)) (w.heap.size + 1) 105 #[.int .i64 0, .int .i64 0, .int .i64 0, .int .i64 0, .slice none 0 0] := by
      have := heap_alloc_new (w.alloc (.cells #[.pointer (some ⟨q, o, none⟩)] 167)) (.cells #[.int .i64 0, .int .i64 0, .int .i64 0, .int .i64 0, .slice none 0 0] 105)
      rw [World.size_alloc] at this
      exact this
    have hd0 := hd.below hxB
    have hF0 := hF.below hx0
    have hT0 := hT.size hx0.size
    have hK0 := Kept.of_below (tag := tag) hx0 hBw
    go_enter Try.func134, Try.ntmps134
    go_upto_region 3 with (fail)
    generalize ((w.alloc (.cells #[.pointer (some ⟨q, o, none⟩)] 167)).alloc (.cells #[.int .i64 0, .int .i64 0, .int .i64 0, .int .i64 0, .slice none 0 0] 105)) = w1 at *
    have g0 : w1.cell? ⟨gF, 0, none⟩ = some vs := hgF.cell 0
    obtain ⟨Av, cv, hvs, hncv, hcmv⟩ := hrs.form
    unfold maxLen at hcmv
    subst hvs
    have b0 : w1.cell? ⟨w.heap.size, 0, none⟩ = some (.pointer (some ⟨q, o, none⟩)) := hbox.cell 0
    have e2 := hd0.2.2.2.2.1
    go_wp2_with fail
    have hq1 : q < w1.heap.size := by have := hx0.size; omega
    have hg1 : w.heap.size < w1.heap.size := hbox.lt
    with_reducible refine (idxSh_any w1 _ _ f.sh w.heap.size q o d.time hrs b0 e2 hg1 hq1).mono ?_
    rintro e w2 ⟨rfl, hx2⟩
    have hx3 := hx0.trans (hx2.mono hx0.size)
    have hans2 := hans.below hx2 hans.lt
    have hbox2 := hbox.below hx2 hbox.lt
    have hd2 := hd0.below (hx2.mono (by have := hx0.size; omega))
    have hF2 := hF0.below hx2
    have hT2 := hT0.size hx2.size
    have hgF2 := hgF.below hx2 hgF.lt
    have a0 : w2.cell? ⟨w.heap.size + 1, 0, none⟩ = some (.int .i64 0) := hans2.cell 0
    have a1 : w2.cell? ⟨w.heap.size + 1, 1, none⟩ = some (.int .i64 0) := hans2.cell 1
    have a2 : w2.cell? ⟨w.heap.size + 1, 2, none⟩ = some (.int .i64 0) := hans2.cell 2
    have a3 : w2.cell? ⟨w.heap.size + 1, 3, none⟩ = some (.int .i64 0) := hans2.cell 3
    have a4 : w2.cell? ⟨w.heap.size + 1, 4, none⟩ = some (.slice none 0 0) := hans2.cell 4
    have f0 := hans2.frozen 0
    have f1 := hans2.frozen 1
    have f2 := hans2.frozen 2
    have f3 := hans2.frozen 3
    have f4 := hans2.frozen 4
    cases hk : f.sh.findIdx? (Fl.inW d.time) with
    | none =>
      have HS := Lib.hid (HR.out.trans (submit_none hlong hk))
      have hidx : idx none = -1 := rfl
      rw [hidx]
      clear hidx hk
      go_wp2_with fail
      have hW : set5 w2 (w.heap.size + 1) (.int .i64 6) (.int .i64 0) (.int .i64 0) (.int .i64 0) (.slice none 0 0) = (((((w2.setCell ⟨w.heap.size + 1, 0, none⟩ (.int .i64 6)).setCell ⟨w.heap.size + 1, 1, none⟩ (.int .i64 0)).setCell ⟨w.heap.size + 1, 2, none⟩ (.int .i64 0)).setCell ⟨w.heap.size + 1, 3, none⟩ (.int .i64 0)).setCell ⟨w.heap.size + 1, 4, none⟩ (.slice none 0 0)) := rfl
      rw [← hW]
      have hb5 := set5_blk (a := .int .i64 6) (b := .int .i64 0) (c := .int .i64 0) (d := .int .i64 0) (e := .slice none 0 0) hans2
      have hxe := set5_below (a := .int .i64 6) (b := .int .i64 0) (c := .int .i64 0) (d := .int .i64 0) (e := .slice none 0 0) hx3 (Nat.le_succ _)
      clear hW
      generalize set5 w2 (w.heap.size + 1) (.int .i64 6) (.int .i64 0) (.int .i64 0) (.int .i64 0) (.slice none 0 0) = W at *
      have s0 : W.cell? ⟨w.heap.size + 1, 0, none⟩ = some (.int .i64 6) := hb5.cell 0
      have s1 : W.cell? ⟨w.heap.size + 1, 1, none⟩ = some (.int .i64 0) := hb5.cell 1
      have s2 : W.cell? ⟨w.heap.size + 1, 2, none⟩ = some (.int .i64 0) := hb5.cell 2
      have s3 : W.cell? ⟨w.heap.size + 1, 3, none⟩ = some (.int .i64 0) := hb5.cell 3
      have s4 : W.cell? ⟨w.heap.size + 1, 4, none⟩ = some (.slice none 0 0) := hb5.cell 4
      exact bodyPost_ret (v := .agg #[.int .i64 6, .int .i64 0, .int .i64 0, .int .i64 0, .slice none 0 0]) (by simp [results, Try.results134, go_sem, s0, s1, s2, s3, s4]) rfl (by rw [HS.out]; exact StepP.same hF hT hBw hxe rfl rfl)
    | some k =>
      have hidx : idx (some k) = (k : Int) := rfl
      rw [hidx]
      obtain ⟨hltk, _, _⟩ := List.findIdx?_eq_some_iff_getElem.1 hk
      have hsk : f.sh[k]? = some f.sh[k] := List.getElem?_eq_getElem hltk
      have hsub := submit_at hlong hk hsk
      have hlen8 := hI.len
      have hfine := (hI.sh k _ hsk).fine
      obtain ⟨vs', vb', us, ws, q0, q1, q2, q3, q4, q5, q6, q7⟩ := hF2
      have hvv : vs' = .slice Av f.sh.length cv ∧ vb' = vb := by
        unfold Blk at q1 hgF2
        rw [q1] at hgF2
        injection hgF2 with h
        injection h with h _
        injection h with h
        injection h with h1 h2
        injection h2 with h2 _
        exact ⟨h1, h2⟩
      obtain ⟨rfl, rfl⟩ := hvv
      obtain ⟨gS, oS, cS, hvS, hgSB, hgSlt, hnS, _, hcS⟩ := q3.form (by omega)
      injection hvS with hvS _ hvc
      subst hvS hvc
      have huk : us[k]? = some (us[k]'(by omega)) := List.getElem?_eq_getElem _
      generalize f.sh[k] = s at *
      generalize us[k]'(by omega) = u at *
      have hcell : ∀ (i : Nat) (x : Value), (shCells s u)[i]? = some x → w2.cell? ⟨gS, oS + k * 7 + i, none⟩ = some x := fun i x hx => by
        rw [Nat.add_assoc]
        exact hcS _ x (flat_at shCells (fun _ _ => rfl) f.sh us k i s u x hsk huk hx)
      have p2 : w2.cell? ⟨gS, oS + k * 7 + 2, none⟩ = some (.int .i64 s.st) := hcell 2 _ rfl
      have p3 : w2.cell? ⟨gS, oS + k * 7 + 3, none⟩ = some u.ev := hcell 3 _ rfl
      have hTS := q4 k s u hsk huk
      obtain ⟨⟨es, hes, hTg, hin⟩, hTr, hTseg⟩ := id hTS
      obtain ⟨A5, c5, hev, hlc5, hcm5⟩ := hes.shape
      have hgc : w2.cell? ⟨gF, 0, none⟩ = some (.slice (some ⟨gS, oS, none⟩) f.sh.length cv) := q1.cell 0
      have hkB : (k : Int) < (f.sh.length : Int) := by omega
      have hk0 : (0 : Int) ≤ (k : Int) := by omega
      have hEL : BList w2 (fun b => B ≤ b ∧ b < w2.heap.size) u.ev s.ents := hTS.1.ownL.blist
      obtain ⟨hqB2, _, _, _, _, ⟨Ae2, ce2, e3, hde2⟩, _⟩ := hd2
      have b2 : w2.cell? ⟨w.heap.size, 0, none⟩ = some (.pointer (some ⟨q, o, none⟩)) := hbox2.cell 0
      rw [hev] at p3 hEL
      have HSUB := Lib.hid (HR.out.trans hsub)
      have HEV := Lib.hid hev
      clear hidx hk hsub hcell hcS hev
      by_cases hst : s.st = 1
      · have hstB : (s.st != 1) = false := by rw [bne_eq_false_iff_eq]; exact hst
        have HST := Lib.hid hst
        clear hst
        go_wp2_with fail
        with_reducible refine (idxEnt_any w2 _ _ _ s.ents w.heap.size q o Ae2 ce2 d.entry hEL b2 e3 hde2).mono ?_
        rintro e w2' ⟨rfl, hww⟩
        subst hww
        cases hie : s.ents.findIdx? (· == d.entry) with
        | some i =>
          have hidx : idx (some i) = (i : Int) := rfl
          rw [hidx]
          have HS : Hid (R = (f, ⟨0, (k : Int), (i : Int), 0, []⟩)) := Lib.hid (by rw [HSUB.out, if_neg (by rw [HST.out]; simp), hie])
          have hiB : decide ((i : Int) < 0) = false := decide_eq_false (by omega)
          clear hidx hie
          go_wp2_with fail
          have hW : set5 w2' (w.heap.size + 1) (.int .i64 0) (.int .i64 (k : Int)) (.int .i64 (i : Int)) (.int .i64 0) (.slice none 0 0) = (((((w2'.setCell ⟨w.heap.size + 1, 0, none⟩ (.int .i64 0)).setCell ⟨w.heap.size + 1, 1, none⟩ (.int .i64 (k : Int))).setCell ⟨w.heap.size + 1, 2, none⟩ (.int .i64 (i : Int))).setCell ⟨w.heap.size + 1, 3, none⟩ (.int .i64 0)).setCell ⟨w.heap.size + 1, 4, none⟩ (.slice none 0 0)) := rfl
          rw [← hW]
          have hb5 := set5_blk (a := .int .i64 0) (b := .int .i64 (k : Int)) (c := .int .i64 (i : Int)) (d := .int .i64 0) (e := .slice none 0 0) hans2
          have hxe := set5_below (a := .int .i64 0) (b := .int .i64 (k : Int)) (c := .int .i64 (i : Int)) (d := .int .i64 0) (e := .slice none 0 0) hx3 (Nat.le_succ _)
          clear hW
          generalize set5 w2' (w.heap.size + 1) (.int .i64 0) (.int .i64 (k : Int)) (.int .i64 (i : Int)) (.int .i64 0) (.slice none 0 0) = W at *
          have s0 : W.cell? ⟨w.heap.size + 1, 0, none⟩ = some (.int .i64 0) := hb5.cell 0
          have s1 : W.cell? ⟨w.heap.size + 1, 1, none⟩ = some (.int .i64 (k : Int)) := hb5.cell 1
          have s2 : W.cell? ⟨w.heap.size + 1, 2, none⟩ = some (.int .i64 (i : Int)) := hb5.cell 2
          have s3 : W.cell? ⟨w.heap.size + 1, 3, none⟩ = some (.int .i64 0) := hb5.cell 3
          have s4 : W.cell? ⟨w.heap.size + 1, 4, none⟩ = some (.slice none 0 0) := hb5.cell 4
          exact bodyPost_ret (v := .agg #[.int .i64 0, .int .i64 (k : Int), .int .i64 (i : Int), .int .i64 0, .slice none 0 0]) (by simp [results, Try.results134, go_sem, s0, s1, s2, s3, s4]) rfl (by rw [HS.out]; exact StepP.same hF hT hBw hxe rfl rfl)
        | none =>
          have hidx : idx none = -1 := rfl
          rw [hidx]
          by_cases h100 : s.ents.length = 100
          · have HS : Hid (R = (f, Fl.no 5)) := Lib.hid (by rw [HSUB.out, if_neg (by rw [HST.out]; simp), hie]; simp only; rw [if_pos h100])
            have hB100 : ((s.ents.length : Int) == 100) = true := by rw [beq_iff_eq]; omega
            clear hidx hie h100
            go_wp2_with fail
            have hW : set5 w2' (w.heap.size + 1) (.int .i64 5) (.int .i64 0) (.int .i64 0) (.int .i64 0) (.slice none 0 0) = (((((w2'.setCell ⟨w.heap.size + 1, 0, none⟩ (.int .i64 5)).setCell ⟨w.heap.size + 1, 1, none⟩ (.int .i64 0)).setCell ⟨w.heap.size + 1, 2, none⟩ (.int .i64 0)).setCell ⟨w.heap.size + 1, 3, none⟩ (.int .i64 0)).setCell ⟨w.heap.size + 1, 4, none⟩ (.slice none 0 0)) := rfl
            rw [← hW]
            have hb5 := set5_blk (a := .int .i64 5) (b := .int .i64 0) (c := .int .i64 0) (d := .int .i64 0) (e := .slice none 0 0) hans2
            have hxe := set5_below (a := .int .i64 5) (b := .int .i64 0) (c := .int .i64 0) (d := .int .i64 0) (e := .slice none 0 0) hx3 (Nat.le_succ _)
            clear hW
            generalize set5 w2' (w.heap.size + 1) (.int .i64 5) (.int .i64 0) (.int .i64 0) (.int .i64 0) (.slice none 0 0) = W at *
            have s0 : W.cell? ⟨w.heap.size + 1, 0, none⟩ = some (.int .i64 5) := hb5.cell 0
            have s1 : W.cell? ⟨w.heap.size + 1, 1, none⟩ = some (.int .i64 0) := hb5.cell 1
            have s2 : W.cell? ⟨w.heap.size + 1, 2, none⟩ = some (.int .i64 0) := hb5.cell 2
            have s3 : W.cell? ⟨w.heap.size + 1, 3, none⟩ = some (.int .i64 0) := hb5.cell 3
            have s4 : W.cell? ⟨w.heap.size + 1, 4, none⟩ = some (.slice none 0 0) := hb5.cell 4
            exact bodyPost_ret (v := .agg #[.int .i64 5, .int .i64 0, .int .i64 0, .int .i64 0, .slice none 0 0]) (by simp [results, Try.results134, go_sem, s0, s1, s2, s3, s4]) rfl (by rw [HS.out]; exact StepP.same hF hT hBw hxe rfl rfl)
          · have HS : Hid (R = (⟨f.sh.set k { s with ents := s.ents ++ [d.entry] }, f.book⟩, ⟨0, (k : Int), (s.ents.length : Int), 0, []⟩)) := Lib.hid (by rw [HSUB.out, if_neg (by rw [HST.out]; simp), hie]; simp only; rw [if_neg h100])
            have hB100 : ((s.ents.length : Int) == 100) = false := by rw [beq_eq_false_iff_ne]; omega
            clear hidx hie h100
            have hS0 : SubS w q o Ae2 d.entry.length ce2 w2'.drew := ⟨b2, e3⟩
            have hgw : w.heap.size < w2'.heap.size := hbox2.lt
            have hsz3 := hx3.size
            have hBw2 : B ≤ w2'.heap.size := Nat.le_trans hBw hsz3
            have hqw : q < w2'.heap.size := Nat.lt_of_lt_of_le hqB2 hBw2
            have hcl : d.entry.length ≤ 140737488355000 := by omega
            obtain ⟨curS, hcurS⟩ : ∃ cur, w2'.heap[gS]? = some (.cells cur 156 (0, 0)) := (Own.type q3 gS rfl).2
            have hrow : (Value.slice A5 s.ents.length c5).ownBlock ≠ some w.heap.size := fun e => Own.ne_blk hes hbox2 (by decide) (by rw [HEV.out]; exact e)
            have hrowS : (Value.slice A5 s.ents.length c5).ownBlock ≠ some gS := fun e => Own.ne_blk hes hcurS (by decide) (by rw [HEV.out]; exact e)
            have hgSw : gS ≠ w.heap.size := fun e => by
              subst e
              have h1 := hbox2
              unfold Blk at h1
              rw [hcurS] at h1
              injection h1 with h1
              injection h1 with _ h2
              exact absurd h2 (by decide)
            have hgSq : gS ≠ q := by omega
            have hfit : s.ents.length ≤ 100 := by have := hfine.1; omega
            clear hsz3
            go_upto_region 14 with (fail)
            refine wp_region_held_drew (S := (fun z : World => z.cell? ⟨w.heap.size, 0, none⟩ = some (.pointer (some ⟨q, o, none⟩)) ∧ z.cell? ⟨q, o + 3, none⟩ = some (.slice Ae2 d.entry.length ce2))) (by kernel_rfl) ?_ (fun hHeld => ?_)
            · exact hS0
            refine step_take (i := 0) (v := ?_) rfl (by kernel_rfl) (by kernel_rfl) (by kernel_rfl) (fun _ _ _ h => h) (by rfl) ?yr1 (by assumption) ?_
            case yr1 => (intro w hSw; (try dsimp only at hSw); go_simp; (try with_reducible rfl))
            try simp only [Act.put, List.setIfInBounds_toArray, List.set_cons_zero, List.set_cons_succ]
            refine step_take (i := 1) (v := ?_) rfl (by kernel_rfl) (by kernel_rfl) (by kernel_rfl) (fun _ _ _ h => h) (by rfl) ?yr2 (by assumption) ?_
            case yr2 => (intro w hSw; (try dsimp only at hSw); go_simp; (try with_reducible rfl))
            try simp only [Act.put, List.setIfInBounds_toArray, List.set_cons_zero, List.set_cons_succ]
            refine step_take (i := 2) (v := ?_) rfl (by kernel_rfl) (by kernel_rfl) (by kernel_rfl) (fun _ _ _ h => h) (by rfl) ?yr3 (by assumption) ?_
            case yr3 => (intro w hSw; (try dsimp only at hSw); go_simp; (try with_reducible rfl))
            try simp only [Act.put, List.setIfInBounds_toArray, List.set_cons_zero, List.set_cons_succ]
            refine step_take (i := 3) (v := ?_) rfl (by kernel_rfl) (by kernel_rfl) (by kernel_rfl) (fun _ _ _ h => h) (by rfl) ?yr4 (by assumption) ?_
            case yr4 => (intro w hSw; (try dsimp only at hSw); go_simp; (try with_reducible rfl))
            try simp only [Act.put, List.setIfInBounds_toArray, List.set_cons_zero, List.set_cons_succ]
            refine step_take (i := 5) (v := ?_) rfl (by kernel_rfl) (by kernel_rfl) (by kernel_rfl) (fun _ _ _ h => h) (by rfl) ?yr5 (by assumption) ?_
            case yr5 => (intro w hSw; (try dsimp only at hSw); go_simp; (try with_reducible rfl))
            try simp only [Act.put, List.setIfInBounds_toArray, List.set_cons_zero, List.set_cons_succ]
            refine step_take (i := 6) (v := ?_) rfl (by kernel_rfl) (by kernel_rfl) (by kernel_rfl) (fun _ _ _ h => h) (by rfl) ?yr6 (by assumption) ?_
            case yr6 => (intro w hSw; (try dsimp only at hSw); go_simp; (try with_reducible rfl))
            try simp only [Act.put, List.setIfInBounds_toArray, List.set_cons_zero, List.set_cons_succ]
            refine step_take (i := 7) (v := ?_) rfl (by kernel_rfl) (by kernel_rfl) (by kernel_rfl) (fun _ _ _ h => h) (by rfl) ?yr7 (by assumption) ?_
            case yr7 => (intro w hSw; (try dsimp only at hSw); go_simp; (try with_reducible rfl))
            try simp only [Act.put, List.setIfInBounds_toArray, List.set_cons_zero, List.set_cons_succ]
            refine step_take (i := 8) (v := ?_) rfl (by kernel_rfl) (by kernel_rfl) (by kernel_rfl) (fun _ _ _ h => h) (by rfl) ?yr8 (by assumption) ?_
            case yr8 => (intro w hSw; (try dsimp only at hSw); go_simp; (try with_reducible rfl))
            try simp only [Act.put, List.setIfInBounds_toArray, List.set_cons_zero, List.set_cons_succ]
            refine step_two 4 9 rfl rfl (by kernel_rfl) (by rfl) (by rfl) (fun K hK => ?_) (fun K hK => ?_)
            · skip
              go_simp
              refine hK.out _ _ ?_ (fun hHeld => ?_)
              · exact hS0
              clear hK K
              try simp only [Act.put, List.setIfInBounds_toArray, List.set_cons_zero, List.set_cons_succ]
              refine step_alone 9 rfl (by kernel_rfl) (by rfl) (fun K hK => ?_)
              go_simp
              refine (clone_any w2'.drew _ (.slice Ae2 d.entry.length ce2) d.entry (hde2.drewN 1) hcl).mono ?_
              rintro e w6 ⟨v6, rfl, ho6, hx6⟩
              obtain ⟨A6, c6, hv6, _, _⟩ := Own.shape ho6
              subst hv6
              have hS6 := hS0.keep hx6 hgw hqw
              have hsz6 : w2'.heap.size ≤ w6.heap.size := by have := hx6.size; exact this
              have p36 : w6.cell? ⟨gS, oS + k * 7 + 3, none⟩ = some (.slice A5 s.ents.length c5) := (hx6.cell (p := ⟨gS, oS + k * 7 + 3, none⟩) hgSlt).trans p3
              have hx7 : Below w2'.heap.size w2' (w6.alloc (.cells #[.slice A6 d.entry.length c6] 22)) := Below.alloc (Below.trans (Below.refl w2'.heap.size w2').drew hx6) hsz6 _
              have hS7 := hS6.keep ((Below.refl _ w6).alloc (Nat.le_refl _) (.cells #[.slice A6 d.entry.length c6] 22)) (Nat.lt_of_lt_of_le hgw hsz6) (Nat.lt_of_lt_of_le hqw hsz6)
              have p37 : (w6.alloc (.cells #[.slice A6 d.entry.length c6] 22)).cell? ⟨gS, oS + k * 7 + 3, none⟩ = some (.slice A5 s.ents.length c5) := (hx7.cell (p := ⟨gS, oS + k * 7 + 3, none⟩) hgSlt).trans p3
              go_simp
              refine hK.out _ _ ?_ (fun hHeld => ?_)
              · exact hS6
              clear hK K
              try simp only [Act.put, List.setIfInBounds_toArray, List.set_cons_zero, List.set_cons_succ]
              refine step_alone 10 rfl (by kernel_rfl) (by rfl) (fun K hK => ?_)
              go_simp
              refine hK.out _ _ ?_ (fun hHeld => ?_)
              · exact hS7
              clear hK K
              try simp only [Act.put, List.setIfInBounds_toArray, List.set_cons_zero, List.set_cons_succ]
              refine step_alone 11 rfl (by kernel_rfl) (by rfl) (fun K hK => ?_)
              have hes7 := hes.below hx7
              have hsrc := SlAt.new w6 22 [.slice A6 d.entry.length c6] 1 rfl (by decide)
              refine wp_append_Own (w6.alloc (.cells #[.slice A6 d.entry.length c6] 22)) (.tmp 58) (.tmp 64) 40 (by rfl) B 22 i0 _ 1 24 Try.underlying40 hi hz0 hz1 hz2 rfl (by omega) (.slice A5 s.ents.length c5) s.ents.length es (by rfl) (by rw [← HEV.out]; exact hes7) _ _ 1 [.slice A6 d.entry.length c6] (by rfl) hsrc (by simp [Value.oneCell']) (by simp only [maxLen]; omega) (by omega) (by have := hx7.size; omega) ?_
              intro v8 w8 hown8 hgr8 hat8
              obtain ⟨A8, c8, hv8, _, _⟩ := Own.shape hown8
              subst hv8
              have hS8 := hS7.grown hgr8 (fun b hb => (hes.lt b (by rw [HEV.out]; exact hb)).1) hqB2 (Nat.lt_of_lt_of_le hgw hx7.size) (Nat.lt_of_lt_of_le hqw hx7.size) hrow
              have p38 : w8.cell? ⟨gS, oS + k * 7 + 3, none⟩ = some (.slice A5 s.ents.length c5) := (World.cell?_of_block (hgr8.block gS (Nat.lt_of_lt_of_le hgSlt hx7.size) (fun e => hrowS e.symm))).trans p37
              have pf8 : w8.frozen? ⟨gS, oS + k * 7 + 3, none⟩ = false := frozen_of_row w8 gS _ curS 156 ((hgr8.block gS (Nat.lt_of_lt_of_le hgSlt hx7.size) (fun e => hrowS e.symm)).trans ((hx7.block gS hgSlt).trans hcurS))
              refine hK.out _ _ ?_ (fun hHeld => ?_)
              · exact hS8
              clear hK K
              try simp only [Act.put, List.setIfInBounds_toArray, List.set_cons_zero, List.set_cons_succ]
              refine step_take (i := 12) (v := ?_) rfl (by kernel_rfl) (by kernel_rfl) (by kernel_rfl) (fun _ _ _ h => h) (by rfl) ?yr12 (by assumption) ?_
              case yr12 => (intro w hSw; (try dsimp only at hSw); go_simp; (try with_reducible rfl))
              try simp only [Act.put, List.setIfInBounds_toArray, List.set_cons_zero, List.set_cons_succ]
              refine step_take (i := 13) (v := ?_) rfl (by kernel_rfl) (by kernel_rfl) (by kernel_rfl) (fun _ _ _ h => h) (by rfl) ?yr13 (by assumption) ?_
              case yr13 => (intro w hSw; (try dsimp only at hSw); go_simp; (try with_reducible rfl))
              try simp only [Act.put, List.setIfInBounds_toArray, List.set_cons_zero, List.set_cons_succ]
              refine step_alone 14 rfl (by kernel_rfl) (by rfl) (fun K hK => ?_)
              go_simp
              refine hK.out _ _ ?_ (fun hHeld => ?_)
              · exact hS8.set hgSw hgSq _ _
              clear hK K
              try simp only [Act.put, List.setIfInBounds_toArray, List.set_cons_zero, List.set_cons_succ]
              refine wpAnyH_done (by kernel_rfl) ?_ _
              have hT8 := submit_take hBw hx3 q0 q1 q2 q3 q4 q5 q6 q7 hT2 hsk huk hes hTg hin HEV hans2 ho6 hx7 hgr8 hown8 hat8
              have hans9 := hT8.1
              have HST8 := Lib.hid hT8.2
              clear hT8
              have a90 : (w8.setCell ⟨gS, oS + k * 7 + 3, none⟩ (.slice A8 (s.ents.length + 1) c8)).cell? ⟨w.heap.size + 1, 0, none⟩ = some (.int .i64 0) := hans9.cell 0
              have f90 := hans9.frozen 0
              have a91 : (w8.setCell ⟨gS, oS + k * 7 + 3, none⟩ (.slice A8 (s.ents.length + 1) c8)).cell? ⟨w.heap.size + 1, 1, none⟩ = some (.int .i64 0) := hans9.cell 1
              have f91 := hans9.frozen 1
              have a92 : (w8.setCell ⟨gS, oS + k * 7 + 3, none⟩ (.slice A8 (s.ents.length + 1) c8)).cell? ⟨w.heap.size + 1, 2, none⟩ = some (.int .i64 0) := hans9.cell 2
              have f92 := hans9.frozen 2
              have a93 : (w8.setCell ⟨gS, oS + k * 7 + 3, none⟩ (.slice A8 (s.ents.length + 1) c8)).cell? ⟨w.heap.size + 1, 3, none⟩ = some (.int .i64 0) := hans9.cell 3
              have f93 := hans9.frozen 3
              have a94 : (w8.setCell ⟨gS, oS + k * 7 + 3, none⟩ (.slice A8 (s.ents.length + 1) c8)).cell? ⟨w.heap.size + 1, 4, none⟩ = some (.slice none 0 0) := hans9.cell 4
              have f94 := hans9.frozen 4
              generalize hw9 : w8.setCell ⟨gS, oS + k * 7 + 3, none⟩ (.slice A8 (s.ents.length + 1) c8) = w9 at *
              go_wp2_with fail
              have hW : set5 w9 (w.heap.size + 1) (.int .i64 0) (.int .i64 (k : Int)) (.int .i64 (s.ents.length : Int)) (.int .i64 0) (.slice none 0 0) = (((((w9.setCell ⟨w.heap.size + 1, 0, none⟩ (.int .i64 0)).setCell ⟨w.heap.size + 1, 1, none⟩ (.int .i64 (k : Int))).setCell ⟨w.heap.size + 1, 2, none⟩ (.int .i64 (s.ents.length : Int))).setCell ⟨w.heap.size + 1, 3, none⟩ (.int .i64 0)).setCell ⟨w.heap.size + 1, 4, none⟩ (.slice none 0 0)) := rfl
              rw [← hW]
              have hb5 := set5_blk (a := .int .i64 0) (b := .int .i64 (k : Int)) (c := .int .i64 (s.ents.length : Int)) (d := .int .i64 0) (e := .slice none 0 0) hans9
              clear hW
              generalize set5 w9 (w.heap.size + 1) (.int .i64 0) (.int .i64 (k : Int)) (.int .i64 (s.ents.length : Int)) (.int .i64 0) (.slice none 0 0) = W at *
              have s0 : W.cell? ⟨w.heap.size + 1, 0, none⟩ = some (.int .i64 0) := hb5.cell 0
              have s1 : W.cell? ⟨w.heap.size + 1, 1, none⟩ = some (.int .i64 (k : Int)) := hb5.cell 1
              have s2 : W.cell? ⟨w.heap.size + 1, 2, none⟩ = some (.int .i64 (s.ents.length : Int)) := hb5.cell 2
              have s3 : W.cell? ⟨w.heap.size + 1, 3, none⟩ = some (.int .i64 0) := hb5.cell 3
              have s4 : W.cell? ⟨w.heap.size + 1, 4, none⟩ = some (.slice none 0 0) := hb5.cell 4
              exact bodyPost_ret (v := .agg #[.int .i64 0, .int .i64 (k : Int), .int .i64 (s.ents.length : Int), .int .i64 0, .slice none 0 0]) (by simp [results, Try.results134, go_sem, s0, s1, s2, s3, s4]) rfl (by rw [HS.out]; exact HST8.out)
            · skip
              go_simp
              refine (clone_any w2'.drew _ (.slice Ae2 d.entry.length ce2) d.entry (hde2.drewN 1) hcl).mono ?_
              rintro e w6 ⟨v6, rfl, ho6, hx6⟩
              obtain ⟨A6, c6, hv6, _, _⟩ := Own.shape ho6
              subst hv6
              have hS6 := hS0.keep hx6 hgw hqw
              have hsz6 : w2'.heap.size ≤ w6.heap.size := by have := hx6.size; exact this
              have p36 : w6.cell? ⟨gS, oS + k * 7 + 3, none⟩ = some (.slice A5 s.ents.length c5) := (hx6.cell (p := ⟨gS, oS + k * 7 + 3, none⟩) hgSlt).trans p3
              have hx7 : Below w2'.heap.size w2' (w6.alloc (.cells #[.slice A6 d.entry.length c6] 22)) := Below.alloc (Below.trans (Below.refl w2'.heap.size w2').drew hx6) hsz6 _
              have hS7 := hS6.keep ((Below.refl _ w6).alloc (Nat.le_refl _) (.cells #[.slice A6 d.entry.length c6] 22)) (Nat.lt_of_lt_of_le hgw hsz6) (Nat.lt_of_lt_of_le hqw hsz6)
              have p37 : (w6.alloc (.cells #[.slice A6 d.entry.length c6] 22)).cell? ⟨gS, oS + k * 7 + 3, none⟩ = some (.slice A5 s.ents.length c5) := (hx7.cell (p := ⟨gS, oS + k * 7 + 3, none⟩) hgSlt).trans p3
              go_simp
              refine hK.out _ _ ?_ (fun hHeld => ?_)
              · exact hS6
              clear hK K
              try simp only [Act.put, List.setIfInBounds_toArray, List.set_cons_zero, List.set_cons_succ]
              refine step_two 4 10 rfl rfl (by kernel_rfl) (by rfl) (by rfl) (fun K hK => ?_) (fun K hK => ?_)
              · skip
                go_simp
                refine hK.out _ _ ?_ (fun hHeld => ?_)
                · exact hS6
                clear hK K
                try simp only [Act.put, List.setIfInBounds_toArray, List.set_cons_zero, List.set_cons_succ]
                refine step_alone 10 rfl (by kernel_rfl) (by rfl) (fun K hK => ?_)
                go_simp
                refine hK.out _ _ ?_ (fun hHeld => ?_)
                · exact hS7
                clear hK K
                try simp only [Act.put, List.setIfInBounds_toArray, List.set_cons_zero, List.set_cons_succ]
                refine step_alone 11 rfl (by kernel_rfl) (by rfl) (fun K hK => ?_)
                have hes7 := hes.below hx7
                have hsrc := SlAt.new w6 22 [.slice A6 d.entry.length c6] 1 rfl (by decide)
                refine wp_append_Own (w6.alloc (.cells #[.slice A6 d.entry.length c6] 22)) (.tmp 58) (.tmp 64) 40 (by rfl) B 22 i0 _ 1 24 Try.underlying40 hi hz0 hz1 hz2 rfl (by omega) (.slice A5 s.ents.length c5) s.ents.length es (by rfl) (by rw [← HEV.out]; exact hes7) _ _ 1 [.slice A6 d.entry.length c6] (by rfl) hsrc (by simp [Value.oneCell']) (by simp only [maxLen]; omega) (by omega) (by have := hx7.size; omega) ?_
                intro v8 w8 hown8 hgr8 hat8
                obtain ⟨A8, c8, hv8, _, _⟩ := Own.shape hown8
                subst hv8
                have hS8 := hS7.grown hgr8 (fun b hb => (hes.lt b (by rw [HEV.out]; exact hb)).1) hqB2 (Nat.lt_of_lt_of_le hgw hx7.size) (Nat.lt_of_lt_of_le hqw hx7.size) hrow
                have p38 : w8.cell? ⟨gS, oS + k * 7 + 3, none⟩ = some (.slice A5 s.ents.length c5) := (World.cell?_of_block (hgr8.block gS (Nat.lt_of_lt_of_le hgSlt hx7.size) (fun e => hrowS e.symm))).trans p37
                have pf8 : w8.frozen? ⟨gS, oS + k * 7 + 3, none⟩ = false := frozen_of_row w8 gS _ curS 156 ((hgr8.block gS (Nat.lt_of_lt_of_le hgSlt hx7.size) (fun e => hrowS e.symm)).trans ((hx7.block gS hgSlt).trans hcurS))
                refine hK.out _ _ ?_ (fun hHeld => ?_)
                · exact hS8
                clear hK K
                try simp only [Act.put, List.setIfInBounds_toArray, List.set_cons_zero, List.set_cons_succ]
                refine step_take (i := 12) (v := ?_) rfl (by kernel_rfl) (by kernel_rfl) (by kernel_rfl) (fun _ _ _ h => h) (by rfl) ?yr17 (by assumption) ?_
                case yr17 => (intro w hSw; (try dsimp only at hSw); go_simp; (try with_reducible rfl))
                try simp only [Act.put, List.setIfInBounds_toArray, List.set_cons_zero, List.set_cons_succ]
                refine step_take (i := 13) (v := ?_) rfl (by kernel_rfl) (by kernel_rfl) (by kernel_rfl) (fun _ _ _ h => h) (by rfl) ?yr18 (by assumption) ?_
                case yr18 => (intro w hSw; (try dsimp only at hSw); go_simp; (try with_reducible rfl))
                try simp only [Act.put, List.setIfInBounds_toArray, List.set_cons_zero, List.set_cons_succ]
                refine step_alone 14 rfl (by kernel_rfl) (by rfl) (fun K hK => ?_)
                go_simp
                refine hK.out _ _ ?_ (fun hHeld => ?_)
                · exact hS8.set hgSw hgSq _ _
                clear hK K
                try simp only [Act.put, List.setIfInBounds_toArray, List.set_cons_zero, List.set_cons_succ]
                refine wpAnyH_done (by kernel_rfl) ?_ _
                have hT8 := submit_take hBw hx3 q0 q1 q2 q3 q4 q5 q6 q7 hT2 hsk huk hes hTg hin HEV hans2 ho6 hx7 hgr8 hown8 hat8
                have hans9 := hT8.1
                have HST8 := Lib.hid hT8.2
                clear hT8
                have a90 : (w8.setCell ⟨gS, oS + k * 7 + 3, none⟩ (.slice A8 (s.ents.length + 1) c8)).cell? ⟨w.heap.size + 1, 0, none⟩ = some (.int .i64 0) := hans9.cell 0
                have f90 := hans9.frozen 0
                have a91 : (w8.setCell ⟨gS, oS + k * 7 + 3, none⟩ (.slice A8 (s.ents.length + 1) c8)).cell? ⟨w.heap.size + 1, 1, none⟩ = some (.int .i64 0) := hans9.cell 1
                have f91 := hans9.frozen 1
                have a92 : (w8.setCell ⟨gS, oS + k * 7 + 3, none⟩ (.slice A8 (s.ents.length + 1) c8)).cell? ⟨w.heap.size + 1, 2, none⟩ = some (.int .i64 0) := hans9.cell 2
                have f92 := hans9.frozen 2
                have a93 : (w8.setCell ⟨gS, oS + k * 7 + 3, none⟩ (.slice A8 (s.ents.length + 1) c8)).cell? ⟨w.heap.size + 1, 3, none⟩ = some (.int .i64 0) := hans9.cell 3
                have f93 := hans9.frozen 3
                have a94 : (w8.setCell ⟨gS, oS + k * 7 + 3, none⟩ (.slice A8 (s.ents.length + 1) c8)).cell? ⟨w.heap.size + 1, 4, none⟩ = some (.slice none 0 0) := hans9.cell 4
                have f94 := hans9.frozen 4
                generalize hw9 : w8.setCell ⟨gS, oS + k * 7 + 3, none⟩ (.slice A8 (s.ents.length + 1) c8) = w9 at *
                go_wp2_with fail
                have hW : set5 w9 (w.heap.size + 1) (.int .i64 0) (.int .i64 (k : Int)) (.int .i64 (s.ents.length : Int)) (.int .i64 0) (.slice none 0 0) = (((((w9.setCell ⟨w.heap.size + 1, 0, none⟩ (.int .i64 0)).setCell ⟨w.heap.size + 1, 1, none⟩ (.int .i64 (k : Int))).setCell ⟨w.heap.size + 1, 2, none⟩ (.int .i64 (s.ents.length : Int))).setCell ⟨w.heap.size + 1, 3, none⟩ (.int .i64 0)).setCell ⟨w.heap.size + 1, 4, none⟩ (.slice none 0 0)) := rfl
                rw [← hW]
                have hb5 := set5_blk (a := .int .i64 0) (b := .int .i64 (k : Int)) (c := .int .i64 (s.ents.length : Int)) (d := .int .i64 0) (e := .slice none 0 0) hans9
                clear hW
                generalize set5 w9 (w.heap.size + 1) (.int .i64 0) (.int .i64 (k : Int)) (.int .i64 (s.ents.length : Int)) (.int .i64 0) (.slice none 0 0) = W at *
                have s0 : W.cell? ⟨w.heap.size + 1, 0, none⟩ = some (.int .i64 0) := hb5.cell 0
                have s1 : W.cell? ⟨w.heap.size + 1, 1, none⟩ = some (.int .i64 (k : Int)) := hb5.cell 1
                have s2 : W.cell? ⟨w.heap.size + 1, 2, none⟩ = some (.int .i64 (s.ents.length : Int)) := hb5.cell 2
                have s3 : W.cell? ⟨w.heap.size + 1, 3, none⟩ = some (.int .i64 0) := hb5.cell 3
                have s4 : W.cell? ⟨w.heap.size + 1, 4, none⟩ = some (.slice none 0 0) := hb5.cell 4
                exact bodyPost_ret (v := .agg #[.int .i64 0, .int .i64 (k : Int), .int .i64 (s.ents.length : Int), .int .i64 0, .slice none 0 0]) (by simp [results, Try.results134, go_sem, s0, s1, s2, s3, s4]) rfl (by rw [HS.out]; exact HST8.out)
              · skip
                go_simp
                refine hK.out _ _ ?_ (fun hHeld => ?_)
                · exact hS7
                clear hK K
                try simp only [Act.put, List.setIfInBounds_toArray, List.set_cons_zero, List.set_cons_succ]
                refine step_alone 4 rfl (by kernel_rfl) (by rfl) (fun K hK => ?_)
                go_simp
                refine hK.out _ _ ?_ (fun hHeld => ?_)
                · exact hS7
                clear hK K
                try simp only [Act.put, List.setIfInBounds_toArray, List.set_cons_zero, List.set_cons_succ]
                refine step_alone 11 rfl (by kernel_rfl) (by rfl) (fun K hK => ?_)
                have hes7 := hes.below hx7
                have hsrc := SlAt.new w6 22 [.slice A6 d.entry.length c6] 1 rfl (by decide)
                refine wp_append_Own (w6.alloc (.cells #[.slice A6 d.entry.length c6] 22)) (.tmp 58) (.tmp 64) 40 (by rfl) B 22 i0 _ 1 24 Try.underlying40 hi hz0 hz1 hz2 rfl (by omega) (.slice A5 s.ents.length c5) s.ents.length es (by rfl) (by rw [← HEV.out]; exact hes7) _ _ 1 [.slice A6 d.entry.length c6] (by rfl) hsrc (by simp [Value.oneCell']) (by simp only [maxLen]; omega) (by omega) (by have := hx7.size; omega) ?_
                intro v8 w8 hown8 hgr8 hat8
                obtain ⟨A8, c8, hv8, _, _⟩ := Own.shape hown8
                subst hv8
                have hS8 := hS7.grown hgr8 (fun b hb => (hes.lt b (by rw [HEV.out]; exact hb)).1) hqB2 (Nat.lt_of_lt_of_le hgw hx7.size) (Nat.lt_of_lt_of_le hqw hx7.size) hrow
                have p38 : w8.cell? ⟨gS, oS + k * 7 + 3, none⟩ = some (.slice A5 s.ents.length c5) := (World.cell?_of_block (hgr8.block gS (Nat.lt_of_lt_of_le hgSlt hx7.size) (fun e => hrowS e.symm))).trans p37
                have pf8 : w8.frozen? ⟨gS, oS + k * 7 + 3, none⟩ = false := frozen_of_row w8 gS _ curS 156 ((hgr8.block gS (Nat.lt_of_lt_of_le hgSlt hx7.size) (fun e => hrowS e.symm)).trans ((hx7.block gS hgSlt).trans hcurS))
                refine hK.out _ _ ?_ (fun hHeld => ?_)
                · exact hS8
                clear hK K
                try simp only [Act.put, List.setIfInBounds_toArray, List.set_cons_zero, List.set_cons_succ]
                refine step_take (i := 12) (v := ?_) rfl (by kernel_rfl) (by kernel_rfl) (by kernel_rfl) (fun _ _ _ h => h) (by rfl) ?yr22 (by assumption) ?_
                case yr22 => (intro w hSw; (try dsimp only at hSw); go_simp; (try with_reducible rfl))
                try simp only [Act.put, List.setIfInBounds_toArray, List.set_cons_zero, List.set_cons_succ]
                refine step_take (i := 13) (v := ?_) rfl (by kernel_rfl) (by kernel_rfl) (by kernel_rfl) (fun _ _ _ h => h) (by rfl) ?yr23 (by assumption) ?_
                case yr23 => (intro w hSw; (try dsimp only at hSw); go_simp; (try with_reducible rfl))
                try simp only [Act.put, List.setIfInBounds_toArray, List.set_cons_zero, List.set_cons_succ]
                refine step_alone 14 rfl (by kernel_rfl) (by rfl) (fun K hK => ?_)
                go_simp
                refine hK.out _ _ ?_ (fun hHeld => ?_)
                · exact hS8.set hgSw hgSq _ _
                clear hK K
                try simp only [Act.put, List.setIfInBounds_toArray, List.set_cons_zero, List.set_cons_succ]
                refine wpAnyH_done (by kernel_rfl) ?_ _
                have hT8 := submit_take hBw hx3 q0 q1 q2 q3 q4 q5 q6 q7 hT2 hsk huk hes hTg hin HEV hans2 ho6 hx7 hgr8 hown8 hat8
                have hans9 := hT8.1
                have HST8 := Lib.hid hT8.2
                clear hT8
                have a90 : (w8.setCell ⟨gS, oS + k * 7 + 3, none⟩ (.slice A8 (s.ents.length + 1) c8)).cell? ⟨w.heap.size + 1, 0, none⟩ = some (.int .i64 0) := hans9.cell 0
                have f90 := hans9.frozen 0
                have a91 : (w8.setCell ⟨gS, oS + k * 7 + 3, none⟩ (.slice A8 (s.ents.length + 1) c8)).cell? ⟨w.heap.size + 1, 1, none⟩ = some (.int .i64 0) := hans9.cell 1
                have f91 := hans9.frozen 1
                have a92 : (w8.setCell ⟨gS, oS + k * 7 + 3, none⟩ (.slice A8 (s.ents.length + 1) c8)).cell? ⟨w.heap.size + 1, 2, none⟩ = some (.int .i64 0) := hans9.cell 2
                have f92 := hans9.frozen 2
                have a93 : (w8.setCell ⟨gS, oS + k * 7 + 3, none⟩ (.slice A8 (s.ents.length + 1) c8)).cell? ⟨w.heap.size + 1, 3, none⟩ = some (.int .i64 0) := hans9.cell 3
                have f93 := hans9.frozen 3
                have a94 : (w8.setCell ⟨gS, oS + k * 7 + 3, none⟩ (.slice A8 (s.ents.length + 1) c8)).cell? ⟨w.heap.size + 1, 4, none⟩ = some (.slice none 0 0) := hans9.cell 4
                have f94 := hans9.frozen 4
                generalize hw9 : w8.setCell ⟨gS, oS + k * 7 + 3, none⟩ (.slice A8 (s.ents.length + 1) c8) = w9 at *
                go_wp2_with fail
                have hW : set5 w9 (w.heap.size + 1) (.int .i64 0) (.int .i64 (k : Int)) (.int .i64 (s.ents.length : Int)) (.int .i64 0) (.slice none 0 0) = (((((w9.setCell ⟨w.heap.size + 1, 0, none⟩ (.int .i64 0)).setCell ⟨w.heap.size + 1, 1, none⟩ (.int .i64 (k : Int))).setCell ⟨w.heap.size + 1, 2, none⟩ (.int .i64 (s.ents.length : Int))).setCell ⟨w.heap.size + 1, 3, none⟩ (.int .i64 0)).setCell ⟨w.heap.size + 1, 4, none⟩ (.slice none 0 0)) := rfl
                rw [← hW]
                have hb5 := set5_blk (a := .int .i64 0) (b := .int .i64 (k : Int)) (c := .int .i64 (s.ents.length : Int)) (d := .int .i64 0) (e := .slice none 0 0) hans9
                clear hW
                generalize set5 w9 (w.heap.size + 1) (.int .i64 0) (.int .i64 (k : Int)) (.int .i64 (s.ents.length : Int)) (.int .i64 0) (.slice none 0 0) = W at *
                have s0 : W.cell? ⟨w.heap.size + 1, 0, none⟩ = some (.int .i64 0) := hb5.cell 0
                have s1 : W.cell? ⟨w.heap.size + 1, 1, none⟩ = some (.int .i64 (k : Int)) := hb5.cell 1
                have s2 : W.cell? ⟨w.heap.size + 1, 2, none⟩ = some (.int .i64 (s.ents.length : Int)) := hb5.cell 2
                have s3 : W.cell? ⟨w.heap.size + 1, 3, none⟩ = some (.int .i64 0) := hb5.cell 3
                have s4 : W.cell? ⟨w.heap.size + 1, 4, none⟩ = some (.slice none 0 0) := hb5.cell 4
                exact bodyPost_ret (v := .agg #[.int .i64 0, .int .i64 (k : Int), .int .i64 (s.ents.length : Int), .int .i64 0, .slice none 0 0]) (by simp [results, Try.results134, go_sem, s0, s1, s2, s3, s4]) rfl (by rw [HS.out]; exact HST8.out)
      · have hstB : (s.st != 1) = true := by rw [bne_iff_ne]; exact hst
        have HS : Hid (R = (f, Fl.no 8)) := Lib.hid (by rw [HSUB.out, if_pos hst])
        clear hst
        go_wp2_with fail
        have hW : set5 w2 (w.heap.size + 1) (.int .i64 8) (.int .i64 0) (.int .i64 0) (.int .i64 0) (.slice none 0 0) = (((((w2.setCell ⟨w.heap.size + 1, 0, none⟩ (.int .i64 8)).setCell ⟨w.heap.size + 1, 1, none⟩ (.int .i64 0)).setCell ⟨w.heap.size + 1, 2, none⟩ (.int .i64 0)).setCell ⟨w.heap.size + 1, 3, none⟩ (.int .i64 0)).setCell ⟨w.heap.size + 1, 4, none⟩ (.slice none 0 0)) := rfl
        rw [← hW]
        have hb5 := set5_blk (a := .int .i64 8) (b := .int .i64 0) (c := .int .i64 0) (d := .int .i64 0) (e := .slice none 0 0) hans2
        have hxe := set5_below (a := .int .i64 8) (b := .int .i64 0) (c := .int .i64 0) (d := .int .i64 0) (e := .slice none 0 0) hx3 (Nat.le_succ _)
        clear hW
        generalize set5 w2 (w.heap.size + 1) (.int .i64 8) (.int .i64 0) (.int .i64 0) (.int .i64 0) (.slice none 0 0) = W at *
        have s0 : W.cell? ⟨w.heap.size + 1, 0, none⟩ = some (.int .i64 8) := hb5.cell 0
        have s1 : W.cell? ⟨w.heap.size + 1, 1, none⟩ = some (.int .i64 0) := hb5.cell 1
        have s2 : W.cell? ⟨w.heap.size + 1, 2, none⟩ = some (.int .i64 0) := hb5.cell 2
        have s3 : W.cell? ⟨w.heap.size + 1, 3, none⟩ = some (.int .i64 0) := hb5.cell 3
        have s4 : W.cell? ⟨w.heap.size + 1, 4, none⟩ = some (.slice none 0 0) := hb5.cell 4
        exact bodyPost_ret (v := .agg #[.int .i64 8, .int .i64 0, .int .i64 0, .int .i64 0, .slice none 0 0]) (by simp [results, Try.results134, go_sem, s0, s1, s2, s3, s4]) rfl (by rw [HS.out]; exact StepP.same hF hT hBw hxe rfl rfl)
end Go.Proofs.Ytfdibjgmbdkbcaa
