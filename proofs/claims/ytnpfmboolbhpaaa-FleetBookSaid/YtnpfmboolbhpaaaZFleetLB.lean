/-
  THE WALK of FleetBook. Conditions: what comes in is read.
-/
import Derived.Maps.OwnOps
import Derived.Maps.Views
import Derived.Test.YtnpfmboolbhpaaaZGf
import Derived.Test.YtnpfmboolbhpaaaZBookE
import Derived.Test.YtnpfmboolbhpaaaZFleetL7
import Derived.Test.YtnpfmboolbhpaaaZGv
import Derived.Test.YtnpfmboolbhpaaaZFleetBP
namespace Go.Proofs.Ytnpfmboolbhpaaa
open Go.RowKit Go.Lib Go.Maps

theorem law_intB : Keyed Try.prog 3 := int_keyed Try.underlying3
theorem plainElem_bool_invB {H : Type} {P : Program} {e : TypeId} (he : P.underlying e = some .bool) {v : Value} {z : DataW H × List MemPlace} (h : plainElem P e v = some z) : ∃ x, v = .bool x ∧ z = (.lit (.bool x), []) := by
  unfold plainElem at h
  rw [he] at h
  cases v <;> simp at h
  subst h
  exact ⟨_, rfl, rfl⟩
theorem zero_boolB (w : World) : (zeroValue 4).run Try.prog w = .ok (.bool false) w := by kernel_rfl
theorem ownsMap_below {H : Type} {P : Program} {k : TypeId} {R : Value → Option (DataW H × List MemPlace)} {w w' : World} {b n : Nat} {D : DataW H} (h : w.ownsMap P k R b n D) (hx : Below w.heap.size w w') : w'.ownsMap P k R b n D := by
  have hlt := h.lt
  obtain ⟨es, clock, hb, F, hs, hD⟩ := h
  exact ⟨es, clock, (hx.block b hlt).trans hb, F, hs, hD⟩
theorem ownsMap_drewN {H : Type} {P : Program} {k : TypeId} {R : Value → Option (DataW H × List MemPlace)} {w : World} {b n : Nat} {D : DataW H} (h : w.ownsMap P k R b n D) (m : Nat) : (w.drewN m).ownsMap P k R b n D := h
/-- a set of numbers -/
def SetI (D : DataW Unit) (l : List Int) : Prop := IsMap D ∧ ∀ x : Int, D.atKey (.int .i64 x) (.lit (.bool false)) = .lit (.bool (decide (x ∈ l)))
theorem SetI.nil_ : SetI (.map []) [] := ⟨⟨_, rfl⟩, fun _ => rfl⟩
theorem SetI.put {D : DataW Unit} {l : List Int} (h : SetI D l) (e : Int) : SetI (D.put (.int .i64 e) (.lit (.bool true))) (l ++ [e]) := by
  refine ⟨h.1.put _ _, fun x => ?_⟩
  by_cases hx : x = e
  · subst hx
    rw [atKey_put_same h.1 (by trivial)]
    simp
  · rw [atKey_put_other (fun he => hx (by injection he)), h.2 x]
    simp [hx]
set_option maxRecDepth 100000 in
theorem look_setI {w : World} {g n : Nat} {D : DataW Unit} {l : List Int} (hown : w.ownsMap Try.prog 3 (plainElem Try.prog 4) g n D) (hD : SetI D l) (k : Nat) (hk : k < 100) :
    (Instr.lookup 74 (.map (some g)) (.int .i64 (k : Int)) false).run Try.prog w = .ok (.bool (decide ((k : Int) ∈ l))) w := by
  obtain ⟨v, ps, hrun, hv⟩ := hown.lookup law_intB Try.underlying74 (zero_boolB w) (plainElem_bool Try.underlying4 false) (keyOf_int_mk Try.underlying3 (a := (k : Int)) (WalkArith.wf_i64 (by omega)))
  obtain ⟨x, rfl, hx⟩ := plainElem_bool_invB Try.underlying4 hv
  have h := hD.2 (k : Int)
  injection hx with hx _
  have hx' : D.atKey (.int .i64 (k : Int)) (.lit (.bool false)) = .lit (.bool x) := hx
  rw [h] at hx'
  injection hx' with hx'
  injection hx' with hx'
  rw [hx']
  exact hrun

set_option maxRecDepth 100000 in
set_option maxHeartbeats 8000000 in
theorem fleetBook_walk (w : World) (v0 : Value) (l0 : List (Int × Int)) (h0 : RdL w (fun _ => True) v0 l0) (v1 : Value) (l1 : List Dob) (h1 : RdL w (fun _ => True) v1 l1) (n2 : Int) :
    Calls Try.prog 11 #[v0, v1, .int .i64 n2] w fun e w' => e = .returned (.bool true) ∧ Below w.heap.size w w' := by
  obtain ⟨A0, c0, hv0, hn0, hm0⟩ := h0.form
  obtain ⟨A1, c1, hv1, hn1, hm1⟩ := h1.form
  subst hv0 hv1
  unfold maxLen at hm0 hm1
  go_enter Try.func11, Try.ntmps11
  go_wp2_with fail
  with_reducible refine (alive7 w).mono ?_
  rintro e w1 ⟨rfl, hx1⟩
  by_cases hneg : n2 < 0
  · have hnegB : decide (n2 < 0) = true := decide_eq_true hneg
    go_wp2_with fail
    go_ret
    exact ⟨rfl, hx1⟩
  have hnegB : decide (n2 < 0) = false := decide_eq_false hneg
  by_cases hbig : (l1.length : Int) < n2
  · have hbigB : decide ((l1.length : Int) < n2) = true := decide_eq_true hbig
    go_wp2_with fail
    go_ret
    exact ⟨rfl, hx1⟩
  obtain ⟨k, hk⟩ : ∃ k : Nat, n2 = (k : Int) := ⟨n2.toNat, by omega⟩
  subst hk
  have hbigB : decide (l1.length < k) = false := decide_eq_false (by omega)
  have hkl : k ≤ l1.length := by omega
  have hkc : k ≤ c1 := by omega
  have hkI : (k : Int) ≤ (c1 : Int) := by omega
  have hk0 : (0 : Int) ≤ (k : Int) := by omega
  clear hneg hbig
  obtain ⟨fx, lax, ax, bx, hpl⟩ : ∃ f_ la_ a_ b_, Fl.play l0 l1 = (f_, la_, (a_, b_)) := ⟨_, _, _, _, rfl⟩
  have HP := Lib.hid (play_any w1 _ _ _ _ l0 l1 (h0.below hx1) (h1.below hx1))
  rw [hpl] at HP
  have HPLx := Lib.hid hpl
  clear hpl
  go_wp2_with fail
  refine HP.out.mono ?_
  rintro e w2 ⟨vs, vb, va, rfl, qsx, qbx, qax, hxpx⟩
  simp only at qsx qbx qax ⊢
  replace qsx := qsx.weak (F' := fun b => b < w2.heap.size) fun b hb _ => hb
  replace qbx := qbx.weak (F' := fun b => b < w2.heap.size) fun b hb _ => hb
  replace qax := qax.weak (F' := fun b => b < w2.heap.size) fun b hb _ => hb
  obtain ⟨Asx, csx, hvs, hlsx, hcsx⟩ := qsx.form
  obtain ⟨Abx, cbx, hvb, hlbx, hcbx⟩ := qbx.form
  obtain ⟨Aax, cax, hva, hlax, hcax⟩ := qax.form
  unfold maxLen at hcsx hcbx hcax
  subst hvs hvb hva
  clear HP
  go_upto_region 6 with (fail)
  have hxqx := ((Below.refl w2.heap.size w2).alloc (Nat.le_refl _) (.cells #[.slice Asx fx.sh.length csx, .slice Abx fx.book.length cbx] 35)).alloc (by simp) (.cells #[.int .i64 (ax : Int), .int .i64 (bx : Int)] 39)
  have hbFx : Blk ((w2.alloc (.cells #[.slice Asx fx.sh.length csx, .slice Abx fx.book.length cbx] 35)).alloc (.cells #[.int .i64 (ax : Int), .int .i64 (bx : Int)] 39)) w2.heap.size 35 #[.slice Asx fx.sh.length csx, .slice Abx fx.book.length cbx] := Blk.alloc (heap_alloc_new w2 _) _
  have hbWx : Blk ((w2.alloc (.cells #[.slice Asx fx.sh.length csx, .slice Abx fx.book.length cbx] 35)).alloc (.cells #[.int .i64 (ax : Int), .int .i64 (bx : Int)] 39)) (w2.heap.size + 1) 39 #[.int .i64 (ax : Int), .int .i64 (bx : Int)] := by
    have := heap_alloc_new (w2.alloc (.cells #[.slice Asx fx.sh.length csx, .slice Abx fx.book.length cbx] 35)) (.cells #[.int .i64 (ax : Int), .int .i64 (bx : Int)] 39)
    rw [World.size_alloc] at this
    exact this
  generalize ((w2.alloc (.cells #[.slice Asx fx.sh.length csx, .slice Abx fx.book.length cbx] 35)).alloc (.cells #[.int .i64 (ax : Int), .int .i64 (bx : Int)] 39)) = w3 at *
  have hxsx := hxpx.trans (hxqx.mono hxpx.size)
  have hxxB := hx1.trans (hxsx.mono hx1.size)
  replace qsx := qsx.below hxqx
  replace qbx := qbx.below hxqx
  replace qax := qax.below hxqx
  have hgwx : w1.heap.size ≤ w2.heap.size := hxpx.size
  clear hxpx hxqx
  generalize w2.heap.size = gx at *
  obtain ⟨fq, laq, aq, bq, hpl⟩ : ∃ f_ la_ a_ b_, Fl.play l0 (l1.take k) = (f_, la_, (a_, b_)) := ⟨_, _, _, _, rfl⟩
  have HP := Lib.hid (play_any w3 _ _ _ _ l0 (l1.take k) (h0.below hxxB) ((h1.below hxxB).first k hkl))
  rw [hpl] at HP
  have HPLq := Lib.hid hpl
  clear hpl
  go_wp2_with fail
  refine HP.out.mono ?_
  rintro e w4 ⟨vs, vb, va, rfl, qsq, qbq, qaq, hxpq⟩
  simp only at qsq qbq qaq ⊢
  replace qsq := qsq.weak (F' := fun b => b < w4.heap.size) fun b hb _ => hb
  replace qbq := qbq.weak (F' := fun b => b < w4.heap.size) fun b hb _ => hb
  replace qaq := qaq.weak (F' := fun b => b < w4.heap.size) fun b hb _ => hb
  obtain ⟨Asq, csq, hvs, hlsq, hcsq⟩ := qsq.form
  obtain ⟨Abq, cbq, hvb, hlbq, hcbq⟩ := qbq.form
  obtain ⟨Aaq, caq, hva, hlaq, hcaq⟩ := qaq.form
  unfold maxLen at hcsq hcbq hcaq
  subst hvs hvb hva
  clear HP
  go_upto_region 7 with (fail)
  have hxqq := ((Below.refl w4.heap.size w4).alloc (Nat.le_refl _) (.cells #[.slice Asq fq.sh.length csq, .slice Abq fq.book.length cbq] 35)).alloc (by simp) (.cells #[.int .i64 (aq : Int), .int .i64 (bq : Int)] 39)
  have hbFq : Blk ((w4.alloc (.cells #[.slice Asq fq.sh.length csq, .slice Abq fq.book.length cbq] 35)).alloc (.cells #[.int .i64 (aq : Int), .int .i64 (bq : Int)] 39)) w4.heap.size 35 #[.slice Asq fq.sh.length csq, .slice Abq fq.book.length cbq] := Blk.alloc (heap_alloc_new w4 _) _
  have hbWq : Blk ((w4.alloc (.cells #[.slice Asq fq.sh.length csq, .slice Abq fq.book.length cbq] 35)).alloc (.cells #[.int .i64 (aq : Int), .int .i64 (bq : Int)] 39)) (w4.heap.size + 1) 39 #[.int .i64 (aq : Int), .int .i64 (bq : Int)] := by
    have := heap_alloc_new (w4.alloc (.cells #[.slice Asq fq.sh.length csq, .slice Abq fq.book.length cbq] 35)) (.cells #[.int .i64 (aq : Int), .int .i64 (bq : Int)] 39)
    rw [World.size_alloc] at this
    exact this
  generalize ((w4.alloc (.cells #[.slice Asq fq.sh.length csq, .slice Abq fq.book.length cbq] 35)).alloc (.cells #[.int .i64 (aq : Int), .int .i64 (bq : Int)] 39)) = w5 at *
  have hxsq := hxpq.trans (hxqq.mono hxpq.size)
  have hxqB := hxxB.trans (hxsq.mono hxxB.size)
  replace qsq := qsq.below hxqq
  replace qbq := qbq.below hxqq
  replace qaq := qaq.below hxqq
  have hgwq : w3.heap.size ≤ w4.heap.size := hxpq.size
  clear hxpq hxqq
  generalize w4.heap.size = gq at *
  have e1 : w5.cell? ⟨gx + 1, 0, none⟩ = some (.int .i64 (ax : Int)) := (hbWx.below hxsq hbWx.lt).cell 0
  have e2 : w5.cell? ⟨gq + 1, 0, none⟩ = some (.int .i64 (aq : Int)) := hbWq.cell 0
  have hbFx5 := hbFx.below hxsq hbFx.lt
  have qsx5 := qsx.below hxsq
  have qbx5 := qbx.below hxsq
  by_cases hax : ax = 0
  · by_cases haq : aq = 0
    · have hneX : ((ax : Int) != 0) = false := by rw [bne_eq_false_iff_eq]; omega
      have hneY : ((aq : Int) != 0) = false := by rw [bne_eq_false_iff_eq]; omega
      have hplx : Fl.play l0 l1 = (fx, lax, (0, bx)) := HPLx.out.trans (by rw [hax])
      have hplq : Fl.play l0 (l1.take k) = (fq, laq, (0, bq)) := HPLq.out.trans (by rw [haq])
      have hIx := (Fl.play_ok hplx).1
      have hIq := (Fl.play_ok hplq).1
      obtain ⟨hpb1, hpb2⟩ := Fl.play_book hplx hplq
      have HPB := Lib.hid hpb2
      have hb8 := hIx.book_len
      have hs8 := hIx.len
      clear hplx hplq hax haq hpb2 hbWx hbWq qax qaq
      have bza : w5.cell? ⟨gx, 1, none⟩ = some (.slice Abx fx.book.length cbx) := hbFx5.cell 1
      have hHead := Lib.hid (Head_fine w5 _ _ fx.book qbx5 hIx.fineB)
      have hrt : Tr.root ((Bk.rows fx.book).map Tr.leafH) = Fl.bookRoot fx.book := rfl
      rw [hrt] at hHead
      clear hrt
      obtain ⟨bra, HBRa⟩ : ∃ br, Hid (br = Fl.bookRoot fx.book) := ⟨_, Lib.hid rfl⟩
      rw [← HBRa.out] at hHead
      go_wp2_with fail
      with_reducible refine hHead.out.mono ?_
      rintro e w6 ⟨vh, rfl, hoh, hxh⟩
      obtain ⟨Aka, cka, hvh, _, _⟩ := Own.shape hoh
      obtain ⟨nka, hnk⟩ : ∃ n, bra.length = n := ⟨_, rfl⟩
      rw [hnk] at hvh
      subst hvh
      clear hnk hHead
      go_upto_region 10 with (fail)
      have hxh2 := ((Below.refl w6.heap.size w6).alloc (Nat.le_refl _) (.cells #[.int .i64 (fx.book.length : Int), .slice Aka nka cka] 27)).alloc (by simp) (.cells #[.int .i64 0, .int .i64 0] 39)
      have hbHa : Blk ((w6.alloc (.cells #[.int .i64 (fx.book.length : Int), .slice Aka nka cka] 27)).alloc (.cells #[.int .i64 0, .int .i64 0] 39)) w6.heap.size 27 #[.int .i64 (fx.book.length : Int), .slice Aka nka cka] := Blk.alloc (heap_alloc_new w6 _) _
      have hbEa : Blk ((w6.alloc (.cells #[.int .i64 (fx.book.length : Int), .slice Aka nka cka] 27)).alloc (.cells #[.int .i64 0, .int .i64 0] 39)) (w6.heap.size + 1) 39 #[.int .i64 0, .int .i64 0] := by
        have := heap_alloc_new (w6.alloc (.cells #[.int .i64 (fx.book.length : Int), .slice Aka nka cka] 27)) (.cells #[.int .i64 0, .int .i64 0] 39)
        rw [World.size_alloc] at this
        exact this
      generalize ((w6.alloc (.cells #[.int .i64 (fx.book.length : Int), .slice Aka nka cka] 27)).alloc (.cells #[.int .i64 0, .int .i64 0] 39)) = w7 at *
      have hxva := hxh.trans (hxh2.mono hxh.size)
      have hoha := OwnB.bytes (OwnB.below hoh hxh2)
      generalize w6.heap.size = gha at *
      clear hxh hxh2 hoh bza
      have hbFq7 := hbFq.below hxva hbFq.lt
      have hbFx7 := hbFx5.below hxva hbFx5.lt
      have qbq7 := qbq.below hxva
      have bzb : w7.cell? ⟨gq, 1, none⟩ = some (.slice Abq fq.book.length cbq) := hbFq7.cell 1
      have hHead := Lib.hid (Head_fine w7 _ _ fq.book qbq7 hIq.fineB)
      have hrt : Tr.root ((Bk.rows fq.book).map Tr.leafH) = Fl.bookRoot fq.book := rfl
      rw [hrt] at hHead
      clear hrt
      obtain ⟨brb, HBRb⟩ : ∃ br, Hid (br = Fl.bookRoot fq.book) := ⟨_, Lib.hid rfl⟩
      rw [← HBRb.out] at hHead
      go_wp2_with fail
      with_reducible refine hHead.out.mono ?_
      rintro e w8 ⟨vh, rfl, hoh, hxh⟩
      obtain ⟨Akb, ckb, hvh, _, _⟩ := Own.shape hoh
      obtain ⟨nkb, hnk⟩ : ∃ n, brb.length = n := ⟨_, rfl⟩
      rw [hnk] at hvh
      subst hvh
      clear hnk hHead
      go_upto_region 11 with (fail)
      have hxh2 := ((Below.refl w8.heap.size w8).alloc (Nat.le_refl _) (.cells #[.int .i64 (fq.book.length : Int), .slice Akb nkb ckb] 27)).alloc (by simp) (.cells #[.int .i64 0, .int .i64 0] 39)
      have hbHb : Blk ((w8.alloc (.cells #[.int .i64 (fq.book.length : Int), .slice Akb nkb ckb] 27)).alloc (.cells #[.int .i64 0, .int .i64 0] 39)) w8.heap.size 27 #[.int .i64 (fq.book.length : Int), .slice Akb nkb ckb] := Blk.alloc (heap_alloc_new w8 _) _
      have hbEb : Blk ((w8.alloc (.cells #[.int .i64 (fq.book.length : Int), .slice Akb nkb ckb] 27)).alloc (.cells #[.int .i64 0, .int .i64 0] 39)) (w8.heap.size + 1) 39 #[.int .i64 0, .int .i64 0] := by
        have := heap_alloc_new (w8.alloc (.cells #[.int .i64 (fq.book.length : Int), .slice Akb nkb ckb] 27)) (.cells #[.int .i64 0, .int .i64 0] 39)
        rw [World.size_alloc] at this
        exact this
      generalize ((w8.alloc (.cells #[.int .i64 (fq.book.length : Int), .slice Akb nkb ckb] 27)).alloc (.cells #[.int .i64 0, .int .i64 0] 39)) = w9 at *
      have hxvb := hxh.trans (hxh2.mono hxh.size)
      have hohb := OwnB.bytes (OwnB.below hoh hxh2)
      generalize w8.heap.size = ghb at *
      clear hxh hxh2 hoh bzb
      have hx59 := hxva.trans (hxvb.mono hxva.size)
      have hx09 := hxqB.trans (hx59.mono hxqB.size)
      have hbFx9 := hbFx7.below hxvb hbFx7.lt
      have hbHa9 := hbHa.below hxvb hbHa.lt
      have hbEa9 := hbEa.below hxvb hbEa.lt
      have hoha9 := hoha.below hxvb
      have qsx9 := qsx5.below hx59
      have qbx9 := qbx5.below hx59
      have z0 : w9.cell? ⟨gha + 1, 0, none⟩ = some (.int .i64 0) := hbEa9.cell 0
      have z1 : w9.cell? ⟨ghb + 1, 0, none⟩ = some (.int .i64 0) := hbEb.cell 0
      have z2 : w9.cell? ⟨gha, 0, none⟩ = some (.int .i64 (fx.book.length : Int)) := hbHa9.cell 0
      have z3 : w9.cell? ⟨ghb, 0, none⟩ = some (.int .i64 (fq.book.length : Int)) := hbHb.cell 0
      have hlB : decide (fx.book.length < fq.book.length) = false := decide_eq_false (by omega)
      have b1 : w9.cell? ⟨gx, 1, none⟩ = some (.slice Abx fx.book.length cbx) := hbFx9.cell 1
      have m1 : w9.cell? ⟨gha, 1, none⟩ = some (.slice Aka nka cka) := hbHa9.cell 1
      have m3 : w9.cell? ⟨ghb, 1, none⟩ = some (.slice Akb nkb ckb) := hbHb.cell 1
      clear e1 e2 hbFx hbFx5 hbFx7 hbHa hbEa hbEa9 qsx qbx qsx5 qbx5 qbq qbq7 qsq hbFq hbFq7 hbEb
      go_upto_if 89 with (fail)
      go_cut [17, 18] (fun u17 u18 z => Below w9.heap.size w9 z)
      case first =>
        by_cases h0q : 0 < fq.book.length
        · have h0qB : (0 : Int) < (fq.book.length : Int) := by omega
          have HG := Lib.hid (BGrows_fine w9 _ _ fx.book (fq.book.length : Int) qbx9 hIx.fineB (by omega) (by omega))
          rw [Int.toNat_natCast] at HG
          have hgs : Hid (grewS (fq.book.length : Int) brb (fx.book.length : Int) bra (Tr.grows ((Bk.rows fx.book).map Tr.leafH) fq.book.length true) = true) := Lib.hid (by
            have hlr : (Bk.rows fx.book).length = fx.book.length := by unfold Bk.rows; rw [List.length_map]
            have h := grewS_grows (Bk.rows fx.book) (Bk.rows_short hIx.fineB) fq.book.length (by omega) (by omega)
            have htk : (Bk.rows fx.book).take fq.book.length = Bk.rows fq.book := by
              conv => rhs; rw [HPB.out]
              unfold Bk.rows
              rw [List.map_take]
            rw [htk, hlr] at h
            rw [HBRa.out, HBRb.out]
            exact h)
          have hgl : (Tr.grows ((Bk.rows fx.book).map Tr.leafH) fq.book.length true).length ≤ 8 := grows_le7 (n := fx.book.length) (by simp [Bk.rows]) (by omega) fq.book.length true
          generalize Tr.grows ((Bk.rows fx.book).map Tr.leafH) fq.book.length true = gp at *
          clear h0q
          go_wp2_with fail
          with_reducible refine HG.out.mono ?_
          rintro e w10 ⟨rv, rfl, hor, hx10⟩
          obtain ⟨Ap, cp, hrv, _, _, _⟩ := hor.blist.shape
          have hgp := hor.blist
          subst hrv
          go_upto_region 15 with (fail)
          have hxb := (Below.refl w10.heap.size w10).alloc (Nat.le_refl _) (.cells #[.int .i64 0, .int .i64 0] 39)
          have hbG : Blk (w10.alloc (.cells #[.int .i64 0, .int .i64 0] 39)) w10.heap.size 39 #[.int .i64 0, .int .i64 0] := heap_alloc_new w10 _
          have hgp1 := hgp.below hxb
          have hx911 := hx10.trans (hxb.mono hx10.size)
          have hHa := hbHa9.below hx911 hbHa9.lt
          have hHb := hbHb.below hx911 hbHb.lt
          generalize w10.alloc (.cells #[.int .i64 0, .int .i64 0] 39) = w11 at *
          generalize w10.heap.size = gg at *
          have y0 : w11.cell? ⟨gg, 0, none⟩ = some (.int .i64 0) := hbG.cell 0
          have y1 : w11.cell? ⟨gha, 0, none⟩ = some (.int .i64 (fx.book.length : Int)) := hHa.cell 0
          have y2 : w11.cell? ⟨gha, 1, none⟩ = some (.slice Aka nka cka) := hHa.cell 1
          have y3 : w11.cell? ⟨ghb, 0, none⟩ = some (.int .i64 (fq.book.length : Int)) := hHb.cell 0
          have y4 : w11.cell? ⟨ghb, 1, none⟩ = some (.slice Akb nkb ckb) := hHb.cell 1
          have HGR := Lib.hid (grew_any w11 _ _ _ (.slice Akb nkb ckb) (.slice Aka nka cka) _ (fq.book.length : Int) (fx.book.length : Int) brb bra gp (hohb.below hx911) (hoha9.below hx911) hgp1 (by omega))
          rw [hgs.out] at HGR
          clear hbG hHa hHb
          go_wp2_with fail
          with_reducible refine HGR.out.mono ?_
          rintro e w12 ⟨rfl, hx12⟩
          have hx912 := hx911.trans (hx12.mono hx911.size)
          go_wp2_with fail
          go_meet
          exact hx912
        · have h0qB : decide ((0 : Int) < (fq.book.length : Int)) = false := decide_eq_false (by omega)
          go_wp2_with fail
          go_meet
          exact Below.refl _ _
      case rest =>
        have hx0c := hx09.trans (hcut.mono hx09.size)
        have hm0 : (wc.alloc (.map #[] 0)).ownsMap Try.prog 3 (plainElem (H := Unit) Try.prog 4) wc.heap.size 0 (.map []) := World.ownsMap_made wc _ _ _
        have hxm := (Below.refl wc.heap.size wc).alloc (Nat.le_refl _) (.map #[] 0)
        have hbFc := hbFx9.below hcut hbFx9.lt
        have qsc := qsx9.below hcut
        have qbc := qbx9.below hcut
        have hbFm := hbFc.below hxm hbFc.lt
        have b1c : wc.cell? ⟨gx, 1, none⟩ = some (.slice Abx fx.book.length cbx) := hbFc.cell 1
        have b1m : (wc.alloc (.map #[] 0)).cell? ⟨gx, 1, none⟩ = some (.slice Abx fx.book.length cbx) := hbFm.cell 1
        have hmm : ∀ (t : TypeId) (w : World), (Instr.makeMap t none).run Try.prog w = .ok (.map (some w.heap.size)) (w.alloc (.map #[] 0)) := fun _ _ => rfl
        clear hcut hbFx9 qsx9 qbx9 z0 z1 z2 z3 b1 m1 m3 hohb hoha9 hbHa9 hbHb hbFm
        go_wp2_with fail
        clear hmm
        generalize wc.alloc (.map #[] 0) = w10 at *
        clear b1m b1c
        go_loopg [112] fx.book.length (fun m i wr => ∃ j : Nat, j + m = fx.book.length ∧ i = .int .i64 (j : Int) ∧ ∃ (D : DataW Unit) (n : Nat), wr.ownsMap Try.prog 3 (plainElem Try.prog 4) wc.heap.size n D ∧ n ≤ j ∧ Hid (SetI D ((fx.book.take j).map fun r => r.sh)) ∧ Below wc.heap.size wc wr)
        case atStart => exact ⟨0, by omega, rfl, _, 0, hm0, Nat.le_refl _, Lib.hid SetI.nil_, hxm⟩
        clear hm0 hxm
        case round =>
          obtain ⟨j, hj, rfl, D, n, hown, hnj, HD, hx⟩ := hrel
          have hcs : wc.heap.size ≤ wr.heap.size := hx.size
          have f0 : wr.cell? ⟨gx, 0, none⟩ = some (.slice Asx fx.sh.length csx) := (hbFc.below hx hbFc.lt).cell 0
          by_cases hlt : j < fx.book.length
          · obtain ⟨k', hk', r1, r2, r3, r4, r5, r6⟩ := Fl.book_row hIx hlt
            obtain ⟨gB, oB, cB, Ar, cr, hA1, _, hgB, p0, p1, p2, p3, p4, hur⟩ := rec_at (qbc.below hx) hlt
            injection hA1 with hA1 hA2 hA3
            clear hA2
            subst hA1 hA3
            obtain ⟨gS, oS, cS, y1, y2, y3, hA1, hFS, hgS, hcS, hy1, _⟩ := shd_at (qsc.below hx) hk'
            injection hA1 with hA1 hA2 hA3
            clear hA2
            subst hA1 hA3
            obtain ⟨Aw, cw, hyw, _, _, _⟩ := hy1.shape
            subst hyw
            have hltB : (j : Int) < (fx.book.length : Int) := by omega
            have hj0 : (0 : Int) ≤ (j : Int) := by omega
            have hkB : (k' : Int) < (fx.sh.length : Int) := by omega
            have hk0' : (0 : Int) ≤ (k' : Int) := by omega
            have hkD : decide (fx.sh.length ≤ k') = false := decide_eq_false (by omega)
            have hgBc : gB < wr.heap.size := hgB
            have hmem : Hid (decide ((k' : Int) ∈ (fx.book.take j).map fun r => r.sh) = false) := Lib.hid (decide_eq_false (fun hm => by
              obtain ⟨r, hr, er⟩ := List.mem_map.1 hm
              obtain ⟨i, hi, hri⟩ := List.mem_take_iff_getElem.1 hr
              exact r2 i (by omega) (by rw [hri]; exact er)))
            have HD2 : Hid (SetI (D.put (.int .i64 (k' : Int)) (.lit (.bool true))) ((fx.book.take (j + 1)).map fun r => r.sh)) := Lib.hid (by
              rw [List.take_succ_eq_append_getElem hlt, List.map_append]
              have := HD.out.put (k' : Int)
              rw [← r1] at this ⊢
              exact this)
            have q0 : wr.cell? ⟨gS, oS + k' * 7, none⟩ = some (.int .i64 fx.sh[k'].fr) := hcS 0 _ rfl
            have q1 := hcS 1 _ rfl
            have q2 := hcS 2 _ rfl
            have q3 := hcS 3 _ rfl
            have st1 : (fx.sh[k'].st == 1) = false := by rw [beq_eq_false_iff_ne]; exact r3
            have hfr : (fx.book[j].fr != fx.sh[k'].fr) = false := by rw [bne_eq_false_iff_eq]; exact r4
            have htl : (fx.book[j].to != fx.sh[k'].til) = false := by rw [bne_eq_false_iff_eq]; exact r5
            rw [r1] at p0
            have H6 := Lib.hid r6
            clear hcS r1 r2 r3 r4 r5 r6
            generalize fx.book[j] = r at *
            generalize fx.sh[k'] = s at *
            obtain ⟨rs, rf, rt, rz, rr⟩ := r
            simp only at p0 p1 p2 p3 p4 hur hfr htl H6
            go_upto_region 21 with (fail)
            have hxb := (Below.refl wr.heap.size wr).alloc (Nat.le_refl _) (.cells #[.int .i64 (k' : Int), .int .i64 rf, .int .i64 rt, .int .i64 rz, .slice Ar rr.length cr] 29)
            have hbR : Blk (wr.alloc (.cells #[.int .i64 (k' : Int), .int .i64 rf, .int .i64 rt, .int .i64 rz, .slice Ar rr.length cr] 29)) wr.heap.size 29 #[.int .i64 (k' : Int), .int .i64 rf, .int .i64 rt, .int .i64 rz, .slice Ar rr.length cr] := heap_alloc_new wr _
            have hownA := hown.alloc (.cells #[.int .i64 (k' : Int), .int .i64 rf, .int .i64 rt, .int .i64 rz, .slice Ar rr.length cr] 29)
            have hlt2 := hown.lt
            generalize wr.alloc (.cells #[.int .i64 (k' : Int), .int .i64 rf, .int .i64 rt, .int .i64 rz, .slice Ar rr.length cr] 29) = w11 at *
            have hur1 := hur.below hxb
            have hy11 := hy1.below hxb
            generalize hgr : wr.heap.size = gr at *
            have hx11 : Below wc.heap.size wc w11 := hx.trans (hxb.mono (by omega))
            have HGR := Lib.hid hgr
            clear hgr
            have k0 : w11.cell? ⟨gr, 0, none⟩ = some (.int .i64 (k' : Int)) := hbR.cell 0
            have k1 : w11.cell? ⟨gr, 1, none⟩ = some (.int .i64 rf) := hbR.cell 1
            have k2 : w11.cell? ⟨gr, 2, none⟩ = some (.int .i64 rt) := hbR.cell 2
            have u0 : w11.cell? ⟨gx, 0, none⟩ = some (.slice (some ⟨gS, oS, none⟩) fx.sh.length csx) := (hbFc.below hx11 hbFc.lt).cell 0
            have v0' := (hxb.cell (p := ⟨gS, oS + k' * 7, none⟩) hgS).trans q0
            have v1' := (hxb.cell (p := ⟨gS, oS + k' * 7 + 1, none⟩) hgS).trans q1
            have v2' := (hxb.cell (p := ⟨gS, oS + k' * 7 + 2, none⟩) hgS).trans q2
            have v3' := (hxb.cell (p := ⟨gS, oS + k' * 7 + 3, none⟩) hgS).trans q3
            have hlook : ∀ n', (Instr.lookup 74 (.map (some wc.heap.size)) (.int .i64 (k' : Int)) false).run Try.prog (w11.drewN n') = .ok (.bool false) (w11.drewN n') := fun n' => by
              have h := look_setI (w := w11.drewN n') hownA HD.out k' (by omega)
              rw [hmem.out] at h
              exact h
            have hlook0 := hlook 0
            have hlookd : (Instr.lookup 74 (.map (some wc.heap.size)) (.int .i64 (k' : Int)) false).run Try.prog w11.drew = .ok (.bool false) w11.drew := hlook 1
            have hlook00 : (Instr.lookup 74 (.map (some wc.heap.size)) (.int .i64 (k' : Int)) false).run Try.prog w11 = .ok (.bool false) w11 := hlook 0
            clear q0 q1 q2 q3 p0 p1 p2 p3 p4 f0 hown hxb hy1 hur
            refine wp_region_held_drew (S := (fun z : World => z.cell? ⟨gr, 0, none⟩ = some (.int .i64 (k' : Int)) ∧ z.cell? ⟨gr, 1, none⟩ = some (.int .i64 rf) ∧ z.cell? ⟨gr, 2, none⟩ = some (.int .i64 rt) ∧ z.cell? ⟨gx, 0, none⟩ = some (.slice (some ⟨gS, oS, none⟩) fx.sh.length csx) ∧ z.cell? ⟨gS, oS + k' * 7, none⟩ = some (.int .i64 s.fr) ∧ z.cell? ⟨gS, oS + k' * 7 + 1, none⟩ = some (.int .i64 s.til) ∧ z.cell? ⟨gS, oS + k' * 7 + 2, none⟩ = some (.int .i64 s.st) ∧ (Instr.lookup 74 (.map (some wc.heap.size)) (.int .i64 (k' : Int)) false).run Try.prog z = .ok (.bool false) z)) (by kernel_rfl) ?_ (fun hHeld => ?_)
            · exact ⟨k0, k1, k2, u0, v0', v1', v2', hlookd⟩
            refine step_take (i := 0) (v := ?_) rfl (by kernel_rfl) (by kernel_rfl) (by kernel_rfl) (fun _ _ _ h => h) (by rfl) ?yb1 (by assumption) ?_
            case yb1 => (intro w hSw; (try dsimp only at hSw); go_simp; (try with_reducible rfl))
            try simp only [Act.put, List.setIfInBounds_toArray, List.set_cons_zero, List.set_cons_succ]
            refine step_take (i := 1) (v := ?_) rfl (by kernel_rfl) (by kernel_rfl) (by kernel_rfl) (fun _ _ _ h => h) (by rfl) ?yb2 (by assumption) ?_
            case yb2 => (intro w hSw; (try dsimp only at hSw); go_simp; (try with_reducible rfl))
            try simp only [Act.put, List.setIfInBounds_toArray, List.set_cons_zero, List.set_cons_succ]
            refine step_take (i := 2) (v := ?_) rfl (by kernel_rfl) (by kernel_rfl) (by kernel_rfl) (fun _ _ _ h => h) (by rfl) ?yb3 (by assumption) ?_
            case yb3 => (intro w hSw; (try dsimp only at hSw); go_simp; (try with_reducible rfl))
            try simp only [Act.put, List.setIfInBounds_toArray, List.set_cons_zero, List.set_cons_succ]
            refine step_take (i := 3) (v := ?_) rfl (by kernel_rfl) (by kernel_rfl) (by kernel_rfl) (fun _ _ _ h => h) (by rfl) ?yb4 (by assumption) ?_
            case yb4 => (intro w hSw; (try dsimp only at hSw); go_simp; (try with_reducible rfl))
            try simp only [Act.put, List.setIfInBounds_toArray, List.set_cons_zero, List.set_cons_succ]
            refine step_take (i := 4) (v := ?_) rfl (by kernel_rfl) (by kernel_rfl) (by kernel_rfl) (fun _ _ _ h => h) (by rfl) ?yb5 (by assumption) ?_
            case yb5 => (intro w hSw; (try dsimp only at hSw); go_simp; (try with_reducible rfl))
            try simp only [Act.put, List.setIfInBounds_toArray, List.set_cons_zero, List.set_cons_succ]
            refine step_take (i := 5) (v := ?_) rfl (by kernel_rfl) (by kernel_rfl) (by kernel_rfl) (fun _ _ _ h => h) (by rfl) ?yb6 (by assumption) ?_
            case yb6 => (intro w hSw; (try dsimp only at hSw); go_simp; (try with_reducible rfl))
            try simp only [Act.put, List.setIfInBounds_toArray, List.set_cons_zero, List.set_cons_succ]
            refine step_take (i := 6) (v := ?_) rfl (by kernel_rfl) (by kernel_rfl) (by kernel_rfl) (fun _ _ _ h => h) (by rfl) ?yb7 (by assumption) ?_
            case yb7 => (intro w hSw; (try dsimp only at hSw); go_simp; (try with_reducible rfl))
            try simp only [Act.put, List.setIfInBounds_toArray, List.set_cons_zero, List.set_cons_succ]
            refine step_take (i := 7) (v := ?_) rfl (by kernel_rfl) (by kernel_rfl) (by kernel_rfl) (fun _ _ _ h => h) (by rfl) ?yb8 (by assumption) ?_
            case yb8 => (intro w hSw; (try dsimp only at hSw); go_simp; (try with_reducible rfl))
            try simp only [Act.put, List.setIfInBounds_toArray, List.set_cons_zero, List.set_cons_succ]
            refine step_take (i := 8) (v := ?_) rfl (by kernel_rfl) (by kernel_rfl) (by kernel_rfl) (fun _ _ _ h => h) (by rfl) ?yb9 (by assumption) ?_
            case yb9 => (intro w hSw; (try dsimp only at hSw); go_simp; (try with_reducible rfl))
            try simp only [Act.put, List.setIfInBounds_toArray, List.set_cons_zero, List.set_cons_succ]
            refine step_take (i := 9) (v := ?_) rfl (by kernel_rfl) (by kernel_rfl) (by kernel_rfl) (fun _ _ _ h => h) (by rfl) ?yb10 (by assumption) ?_
            case yb10 => (intro w hSw; (try dsimp only at hSw); go_simp; (try with_reducible rfl))
            try simp only [Act.put, List.setIfInBounds_toArray, List.set_cons_zero, List.set_cons_succ]
            refine step_take (i := 10) (v := ?_) rfl (by kernel_rfl) (by kernel_rfl) (by kernel_rfl) (fun _ _ _ h => h) (by rfl) ?yb11 (by assumption) ?_
            case yb11 => (intro w hSw; (try dsimp only at hSw); go_simp; (try with_reducible rfl))
            try simp only [Act.put, List.setIfInBounds_toArray, List.set_cons_zero, List.set_cons_succ]
            refine step_take (i := 11) (v := ?_) rfl (by kernel_rfl) (by kernel_rfl) (by kernel_rfl) (fun _ _ _ h => h) (by rfl) ?yb12 (by assumption) ?_
            case yb12 => (intro w hSw; (try dsimp only at hSw); go_simp; (try with_reducible rfl))
            try simp only [Act.put, List.setIfInBounds_toArray, List.set_cons_zero, List.set_cons_succ]
            refine step_take (i := 12) (v := ?_) rfl (by kernel_rfl) (by kernel_rfl) (by kernel_rfl) (fun _ _ _ h => h) (by rfl) ?yb13 (by assumption) ?_
            case yb13 => (intro w hSw; (try dsimp only at hSw); go_simp; (try with_reducible rfl))
            try simp only [Act.put, List.setIfInBounds_toArray, List.set_cons_zero, List.set_cons_succ]
            refine step_take (i := 13) (v := ?_) rfl (by kernel_rfl) (by kernel_rfl) (by kernel_rfl) (fun _ _ _ h => h) (by rfl) ?yb14 (by assumption) ?_
            case yb14 => (intro w hSw; (try dsimp only at hSw); go_simp; (try with_reducible rfl))
            try simp only [Act.put, List.setIfInBounds_toArray, List.set_cons_zero, List.set_cons_succ]
            refine step_take (i := 14) (v := ?_) rfl (by kernel_rfl) (by kernel_rfl) (by kernel_rfl) (fun _ _ _ h => h) (by rfl) ?yb15 (by assumption) ?_
            case yb15 => (intro w hSw; (try dsimp only at hSw); go_simp; (try with_reducible rfl))
            try simp only [Act.put, List.setIfInBounds_toArray, List.set_cons_zero, List.set_cons_succ]
            refine step_take (i := 15) (v := ?_) rfl (by kernel_rfl) (by kernel_rfl) (by kernel_rfl) (fun _ _ _ h => h) (by rfl) ?yb16 (by assumption) ?_
            case yb16 => (intro w hSw; (try dsimp only at hSw); go_simp; (try with_reducible rfl))
            try simp only [Act.put, List.setIfInBounds_toArray, List.set_cons_zero, List.set_cons_succ]
            refine step_take (i := 16) (v := ?_) rfl (by kernel_rfl) (by kernel_rfl) (by kernel_rfl) (fun _ _ _ h => h) (by rfl) ?yb17 (by assumption) ?_
            case yb17 => (intro w hSw; (try dsimp only at hSw); go_simp; (try with_reducible rfl))
            try simp only [Act.put, List.setIfInBounds_toArray, List.set_cons_zero, List.set_cons_succ]
            refine step_take (i := 17) (v := ?_) rfl (by kernel_rfl) (by kernel_rfl) (by kernel_rfl) (fun _ _ _ h => h) (by rfl) ?yb18 (by assumption) ?_
            case yb18 => (intro w hSw; (try dsimp only at hSw); go_simp; (try with_reducible rfl))
            try simp only [Act.put, List.setIfInBounds_toArray, List.set_cons_zero, List.set_cons_succ]
            refine step_take (i := 18) (v := ?_) rfl (by kernel_rfl) (by kernel_rfl) (by kernel_rfl) (fun _ _ _ h => h) (by rfl) ?yb19 (by assumption) ?_
            case yb19 => (intro w hSw; (try dsimp only at hSw); go_simp; (try with_reducible rfl))
            try simp only [Act.put, List.setIfInBounds_toArray, List.set_cons_zero, List.set_cons_succ]
            refine step_take (i := 19) (v := ?_) rfl (by kernel_rfl) (by kernel_rfl) (by kernel_rfl) (fun _ _ _ h => h) (by rfl) ?yb20 (by assumption) ?_
            case yb20 => (intro w hSw; (try dsimp only at hSw); go_simp; (try with_reducible rfl))
            try simp only [Act.put, List.setIfInBounds_toArray, List.set_cons_zero, List.set_cons_succ]
            refine step_take (i := 20) (v := ?_) rfl (by kernel_rfl) (by kernel_rfl) (by kernel_rfl) (fun _ _ _ h => h) (by rfl) ?yb21 (by assumption) ?_
            case yb21 => (intro w hSw; (try dsimp only at hSw); go_simp; (try with_reducible rfl))
            try simp only [Act.put, List.setIfInBounds_toArray, List.set_cons_zero, List.set_cons_succ]
            refine step_take (i := 21) (v := ?_) rfl (by kernel_rfl) (by kernel_rfl) (by kernel_rfl) (fun _ _ _ h => h) (by rfl) ?yb22 (by assumption) ?_
            case yb22 => (intro w hSw; (try dsimp only at hSw); go_simp; (try with_reducible rfl))
            try simp only [Act.put, List.setIfInBounds_toArray, List.set_cons_zero, List.set_cons_succ]
            refine step_take (i := 22) (v := ?_) rfl (by kernel_rfl) (by kernel_rfl) (by kernel_rfl) (fun _ _ _ h => h) (by rfl) ?yb23 (by assumption) ?_
            case yb23 => (intro w hSw; (try dsimp only at hSw); go_simp; (try with_reducible rfl))
            try simp only [Act.put, List.setIfInBounds_toArray, List.set_cons_zero, List.set_cons_succ]
            refine step_take (i := 23) (v := ?_) rfl (by kernel_rfl) (by kernel_rfl) (by kernel_rfl) (fun _ _ _ h => h) (by rfl) ?yb24 (by assumption) ?_
            case yb24 => (intro w hSw; (try dsimp only at hSw); go_simp; (try with_reducible rfl))
            try simp only [Act.put, List.setIfInBounds_toArray, List.set_cons_zero, List.set_cons_succ]
            refine step_take (i := 24) (v := ?_) rfl (by kernel_rfl) (by kernel_rfl) (by kernel_rfl) (fun _ _ _ h => h) (by rfl) ?yb25 (by assumption) ?_
            case yb25 => (intro w hSw; (try dsimp only at hSw); go_simp; (try with_reducible rfl))
            try simp only [Act.put, List.setIfInBounds_toArray, List.set_cons_zero, List.set_cons_succ]
            refine step_take (i := 25) (v := ?_) rfl (by kernel_rfl) (by kernel_rfl) (by kernel_rfl) (fun _ _ _ h => h) (by rfl) ?yb26 (by assumption) ?_
            case yb26 => (intro w hSw; (try dsimp only at hSw); go_simp; (try with_reducible rfl))
            try simp only [Act.put, List.setIfInBounds_toArray, List.set_cons_zero, List.set_cons_succ]
            refine step_take (i := 26) (v := ?_) rfl (by kernel_rfl) (by kernel_rfl) (by kernel_rfl) (fun _ _ _ h => h) (by rfl) ?yb27 (by assumption) ?_
            case yb27 => (intro w hSw; (try dsimp only at hSw); go_simp; (try with_reducible rfl))
            try simp only [Act.put, List.setIfInBounds_toArray, List.set_cons_zero, List.set_cons_succ]
            refine step_take (i := 27) (v := ?_) rfl (by kernel_rfl) (by kernel_rfl) (by kernel_rfl) (fun _ _ _ h => h) (by rfl) ?yb28 (by assumption) ?_
            case yb28 => (intro w hSw; (try dsimp only at hSw); go_simp; (try with_reducible rfl))
            try simp only [Act.put, List.setIfInBounds_toArray, List.set_cons_zero, List.set_cons_succ]
            refine step_take (i := 28) (v := ?_) rfl (by kernel_rfl) (by kernel_rfl) (by kernel_rfl) (fun _ _ _ h => h) (by rfl) ?yb29 (by assumption) ?_
            case yb29 => (intro w hSw; (try dsimp only at hSw); go_simp; (try with_reducible rfl))
            try simp only [Act.put, List.setIfInBounds_toArray, List.set_cons_zero, List.set_cons_succ]
            refine step_take (i := 29) (v := ?_) rfl (by kernel_rfl) (by kernel_rfl) (by kernel_rfl) (fun _ _ _ h => h) (by rfl) ?yb30 (by assumption) ?_
            case yb30 => (intro w hSw; (try dsimp only at hSw); go_simp; (try with_reducible rfl))
            try simp only [Act.put, List.setIfInBounds_toArray, List.set_cons_zero, List.set_cons_succ]
            refine step_take (i := 30) (v := ?_) rfl (by kernel_rfl) (by kernel_rfl) (by kernel_rfl) (fun _ _ _ h => h) (by rfl) ?yb31 (by assumption) ?_
            case yb31 => (intro w hSw; (try dsimp only at hSw); go_simp; (try with_reducible rfl))
            try simp only [Act.put, List.setIfInBounds_toArray, List.set_cons_zero, List.set_cons_succ]
            refine step_take (i := 31) (v := ?_) rfl (by kernel_rfl) (by kernel_rfl) (by kernel_rfl) (fun _ _ _ h => h) (by rfl) ?yb32 (by assumption) ?_
            case yb32 => (intro w hSw; (try dsimp only at hSw); go_simp; (try with_reducible rfl))
            try simp only [Act.put, List.setIfInBounds_toArray, List.set_cons_zero, List.set_cons_succ]
            refine step_take (i := 32) (v := ?_) rfl (by kernel_rfl) (by kernel_rfl) (by kernel_rfl) (fun _ _ _ h => h) (by rfl) ?yb33 (by assumption) ?_
            case yb33 => (intro w hSw; (try dsimp only at hSw); go_simp; (try with_reducible rfl))
            try simp only [Act.put, List.setIfInBounds_toArray, List.set_cons_zero, List.set_cons_succ]
            refine step_take (i := 33) (v := ?_) rfl (by kernel_rfl) (by kernel_rfl) (by kernel_rfl) (fun _ _ _ h => h) (by rfl) ?yb34 (by assumption) ?_
            case yb34 => (intro w hSw; (try dsimp only at hSw); go_simp; (try with_reducible rfl))
            try simp only [Act.put, List.setIfInBounds_toArray, List.set_cons_zero, List.set_cons_succ]
            refine step_take (i := 34) (v := ?_) rfl (by kernel_rfl) (by kernel_rfl) (by kernel_rfl) (fun _ _ _ h => h) (by rfl) ?yb35 (by assumption) ?_
            case yb35 => (intro w hSw; (try dsimp only at hSw); go_simp; (try with_reducible rfl))
            try simp only [Act.put, List.setIfInBounds_toArray, List.set_cons_zero, List.set_cons_succ]
            refine step_take (i := 35) (v := ?_) rfl (by kernel_rfl) (by kernel_rfl) (by kernel_rfl) (fun _ _ _ h => h) (by rfl) ?yb36 (by assumption) ?_
            case yb36 => (intro w hSw; (try dsimp only at hSw); go_simp; (try with_reducible rfl))
            try simp only [Act.put, List.setIfInBounds_toArray, List.set_cons_zero, List.set_cons_succ]
            refine step_take (i := 36) (v := ?_) rfl (by kernel_rfl) (by kernel_rfl) (by kernel_rfl) (fun _ _ _ h => h) (by rfl) ?yb37 (by assumption) ?_
            case yb37 => (intro w hSw; (try dsimp only at hSw); go_simp; (try with_reducible rfl))
            try simp only [Act.put, List.setIfInBounds_toArray, List.set_cons_zero, List.set_cons_succ]
            refine step_take (i := 37) (v := ?_) rfl (by kernel_rfl) (by kernel_rfl) (by kernel_rfl) (fun _ _ _ h => h) (by rfl) ?yb38 (by assumption) ?_
            case yb38 => (intro w hSw; (try dsimp only at hSw); go_simp; (try with_reducible rfl))
            try simp only [Act.put, List.setIfInBounds_toArray, List.set_cons_zero, List.set_cons_succ]
            refine step_take (i := 38) (v := ?_) rfl (by kernel_rfl) (by kernel_rfl) (by kernel_rfl) (fun _ _ _ h => h) (by rfl) ?yb39 (by assumption) ?_
            case yb39 => (intro w hSw; (try dsimp only at hSw); go_simp; (try with_reducible rfl))
            try simp only [Act.put, List.setIfInBounds_toArray, List.set_cons_zero, List.set_cons_succ]
            refine step_take (i := 39) (v := ?_) rfl (by kernel_rfl) (by kernel_rfl) (by kernel_rfl) (fun _ _ _ h => h) (by rfl) ?yb40 (by assumption) ?_
            case yb40 => (intro w hSw; (try dsimp only at hSw); go_simp; (try with_reducible rfl))
            try simp only [Act.put, List.setIfInBounds_toArray, List.set_cons_zero, List.set_cons_succ]
            refine step_take (i := 40) (v := ?_) rfl (by kernel_rfl) (by kernel_rfl) (by kernel_rfl) (fun _ _ _ h => h) (by rfl) ?yb41 (by assumption) ?_
            case yb41 => (intro w hSw; (try dsimp only at hSw); go_simp; (try with_reducible rfl))
            try simp only [Act.put, List.setIfInBounds_toArray, List.set_cons_zero, List.set_cons_succ]
            refine step_take (i := 41) (v := ?_) rfl (by kernel_rfl) (by kernel_rfl) (by kernel_rfl) (fun _ _ _ h => h) (by rfl) ?yb42 (by assumption) ?_
            case yb42 => (intro w hSw; (try dsimp only at hSw); go_simp; (try with_reducible rfl))
            try simp only [Act.put, List.setIfInBounds_toArray, List.set_cons_zero, List.set_cons_succ]
            refine step_take (i := 42) (v := ?_) rfl (by kernel_rfl) (by kernel_rfl) (by kernel_rfl) (fun _ _ _ h => h) (by rfl) ?yb43 (by assumption) ?_
            case yb43 => (intro w hSw; (try dsimp only at hSw); go_simp; (try with_reducible rfl))
            try simp only [Act.put, List.setIfInBounds_toArray, List.set_cons_zero, List.set_cons_succ]
            refine step_take (i := 43) (v := ?_) rfl (by kernel_rfl) (by kernel_rfl) (by kernel_rfl) (fun _ _ _ h => h) (by rfl) ?yb44 (by assumption) ?_
            case yb44 => (intro w hSw; (try dsimp only at hSw); go_simp; (try with_reducible rfl))
            try simp only [Act.put, List.setIfInBounds_toArray, List.set_cons_zero, List.set_cons_succ]
            refine step_take (i := 44) (v := ?_) rfl (by kernel_rfl) (by kernel_rfl) (by kernel_rfl) (fun _ _ _ h => h) (by rfl) ?yb45 (by assumption) ?_
            case yb45 => (intro w hSw; (try dsimp only at hSw); go_simp; (try with_reducible rfl))
            try simp only [Act.put, List.setIfInBounds_toArray, List.set_cons_zero, List.set_cons_succ]
            refine step_take (i := 45) (v := ?_) rfl (by kernel_rfl) (by kernel_rfl) (by kernel_rfl) (fun _ _ _ h => h) (by rfl) ?yb46 (by assumption) ?_
            case yb46 => (intro w hSw; (try dsimp only at hSw); go_simp; (try with_reducible rfl))
            try simp only [Act.put, List.setIfInBounds_toArray, List.set_cons_zero, List.set_cons_succ]
            refine wpAnyH_done (by kernel_rfl) ?_ _
            have hkey := keyOf_int_mk (P := Try.prog) (k := 3) Try.underlying3 (a := (k' : Int)) (WalkArith.wf_i64 (by omega))
            have hmapg : gr ≠ wc.heap.size := by have := HGR.out; omega
            have hxd : Below wc.heap.size wc w11.drew := hx11.drew
            have hownd : w11.drew.ownsMap Try.prog 3 (plainElem Try.prog 4) wc.heap.size n D := hownA.drew
            have hbRd : Blk w11.drew gr 29 #[.int .i64 (k' : Int), .int .i64 rf, .int .i64 rt, .int .i64 rz, .slice Ar rr.length cr] := hbR
            have hurd : Bytes w11.drew (fun b => b < gx) (.slice Ar rr.length cr) rr := hur1.drewN 1
            have hyd : BList w11.drew (fun b => b < gx) (.slice Aw s.ents.length cw) s.ents := BList.drewN hy11 1
            have k0d : w11.drew.cell? ⟨gr, 0, none⟩ = some (.int .i64 (k' : Int)) := k0
            have v2d : w11.drew.cell? ⟨gS, oS + k' * 7 + 2, none⟩ = some (.int .i64 s.st) := v2'
            have v3d : w11.drew.cell? ⟨gS, oS + k' * 7 + 3, none⟩ = some (.slice Aw s.ents.length cw) := v3'
            have hgSc : gS < wc.heap.size := Nat.lt_trans hFS hbFc.lt
            have hnc : n < maxLen := by simp only [maxLen]; omega
            clear hlook hlook0 hlookd hlook00 v0' v1' v2' v3' k0 k1 k2 u0 hownA hbR hx11 hur1 hy11 st1 hfr htl
            generalize w11.drew = w12 at *
            go_upto_region 23 with (fail)
            by_cases h4 : s.st = 4
            · have h4B : (s.st != 4) = false := by rw [bne_eq_false_iff_eq]; exact h4
              clear h4
              generalize s.st = st at *
              generalize s.ents = wa at *
              go_wp2_with (at_mapUpdate
                           refine wpList_mapUpdate_own _ rfl (.tmp 162) (.tmp 164) (.const (.bool true)) 74 rfl 3 4 law_intB Try.underlying74 _ wc.heap.size n D rfl hownd hnc (.int .i64 (k' : Int)) (.bool true) (.int .i64 (k' : Int)) rfl rfl hkey (.lit (.bool true)) [] (plainElem_bool Try.underlying4 true) ?_
                           intro w13 hown13 hgr13
                           have hx1213 : Below wc.heap.size w12 w13 := (Below.refl wc.heap.size w12).grown hgr13 hxd.size (fun b hb => by injection hb with hb; omega)
                           have hx13 : Below wc.heap.size wc w13 := hxd.trans hx1213
                           have hbR13 : Blk w13 gr 29 #[.int .i64 (k' : Int), .int .i64 rf, .int .i64 rt, .int .i64 rz, .slice Ar rr.length cr] := hbRd.keep (hgr13.block gr hbRd.lt (fun e => hmapg (Option.some.inj e)))
                           have m0 : w13.cell? ⟨gr, 0, none⟩ = some (.int .i64 (k' : Int)) := hbR13.cell 0
                           have m1 : w13.cell? ⟨gx, 0, none⟩ = some (.slice (some ⟨gS, oS, none⟩) fx.sh.length csx) := (hbFc.below hx13 hbFc.lt).cell 0
                           have m2 : w13.cell? ⟨gS, oS + k' * 7 + 2, none⟩ = some (.int .i64 st) := (hx1213.cell (p := ⟨gS, _, none⟩) hgSc).trans v2d
                           have m3 : w13.cell? ⟨gS, oS + k' * 7 + 3, none⟩ = some (.slice Aw wa.length cw) := (hx1213.cell (p := ⟨gS, _, none⟩) hgSc).trans v3d)
              go_roundg (gk - 1)
              case measure => omega
              case rel => exact ⟨j + 1, by omega, by go_num, _, n + 1, hown13, by omega, HD2, hx13⟩
            · have h4B : (s.st != 4) = true := by rw [bne_iff_ne]; exact h4
              obtain ⟨hfine, hrz, hrr⟩ := H6.out h4
              have HRR := Lib.hid hrr
              have hszB : (rz != (s.ents.length : Int)) = false := by rw [bne_eq_false_iff_eq]; exact hrz
              clear h4 hrz hrr H6
              generalize s.st = st at *
              generalize s.ents = wa at *
              go_wp2_with (at_mapUpdate
                           refine wpList_mapUpdate_own _ rfl (.tmp 162) (.tmp 164) (.const (.bool true)) 74 rfl 3 4 law_intB Try.underlying74 _ wc.heap.size n D rfl hownd hnc (.int .i64 (k' : Int)) (.bool true) (.int .i64 (k' : Int)) rfl rfl hkey (.lit (.bool true)) [] (plainElem_bool Try.underlying4 true) ?_
                           intro w13 hown13 hgr13
                           have hx1213 : Below wc.heap.size w12 w13 := (Below.refl wc.heap.size w12).grown hgr13 hxd.size (fun b hb => by injection hb with hb; omega)
                           have hx13 : Below wc.heap.size wc w13 := hxd.trans hx1213
                           have hbR13 : Blk w13 gr 29 #[.int .i64 (k' : Int), .int .i64 rf, .int .i64 rt, .int .i64 rz, .slice Ar rr.length cr] := hbRd.keep (hgr13.block gr hbRd.lt (fun e => hmapg (Option.some.inj e)))
                           have m0 : w13.cell? ⟨gr, 0, none⟩ = some (.int .i64 (k' : Int)) := hbR13.cell 0
                           have m1 : w13.cell? ⟨gx, 0, none⟩ = some (.slice (some ⟨gS, oS, none⟩) fx.sh.length csx) := (hbFc.below hx13 hbFc.lt).cell 0
                           have m2 : w13.cell? ⟨gS, oS + k' * 7 + 2, none⟩ = some (.int .i64 st) := (hx1213.cell (p := ⟨gS, _, none⟩) hgSc).trans v2d
                           have m3 : w13.cell? ⟨gS, oS + k' * 7 + 3, none⟩ = some (.slice Aw wa.length cw) := (hx1213.cell (p := ⟨gS, _, none⟩) hgSc).trans v3d)
              have hy13 := rdL_blist.1 ((rdL_blist.2 hyd).below_of hx1213 (fun b hb => Nat.lt_trans hb hbFc.lt))
              have hur13 := rdL_bytes.1 ((rdL_bytes.2 hurd).below_of hx1213 (fun b hb => Nat.lt_trans hb hbFc.lt))
              clear m0 m1 m2 m3
              with_reducible refine (Root_fine w13 _ _ wa hy13 hfine).mono ?_
              rintro e w14 ⟨rv, rfl, hor, hx14⟩
              obtain ⟨Av, cv, hrv, _, _⟩ := Own.shape hor
              have hrl : (Tr.root (wa.map Tr.leafH)).length = 32 := Tr.length_rootL wa
              rw [hrl] at hrv
              subst hrv
              clear hrl
              go_upto_region 26 with (fail)
              have hxb5 := (Below.refl w14.heap.size w14).alloc (Nat.le_refl _) (.cells #[.int .i64 0, .int .i64 0] 39)
              have hx1315 := hx14.trans (hxb5.mono hx14.size)
              have hs13 : wc.heap.size ≤ w13.heap.size := hx13.size
              have hx15 := hx13.trans (hx1315.mono hs13)
              have hbR15 := hbR13.below hx1315 hbR13.lt
              have hor15 := (OwnB.bytes hor).below hxb5
              have hur15 := hur13.below hx1315
              have hown15 := ownsMap_below hown13 hx1315
              have m1 : (w14.alloc (.cells #[.int .i64 0, .int .i64 0] 39)).cell? ⟨gx, 0, none⟩ = some (.slice (some ⟨gS, oS, none⟩) fx.sh.length csx) := (hbFc.below hx15 hbFc.lt).cell 0
              have m3 : (w14.alloc (.cells #[.int .i64 0, .int .i64 0] 39)).cell? ⟨gS, oS + k' * 7 + 3, none⟩ = some (.slice Aw wa.length cw) := ((hx1213.trans (hx1315.mono hs13)).cell (p := ⟨gS, _, none⟩) hgSc).trans v3d
              generalize w14.alloc (.cells #[.int .i64 0, .int .i64 0] 39) = w15 at *
              have m0 : w15.cell? ⟨gr, 0, none⟩ = some (.int .i64 (k' : Int)) := hbR15.cell 0
              have m4 : w15.cell? ⟨gr, 3, none⟩ = some (.int .i64 rz) := hbR15.cell 3
              have m5 : w15.cell? ⟨gr, 4, none⟩ = some (.slice Ar rr.length cr) := hbR15.cell 4
              have hsame := fun n' => same_any (w15.drewN n') _ _ _ _ _ _ (hor15.drewN n') (hur15.drewN n')
              have hsB : (Tr.root (wa.map Tr.leafH) == rr) = true := by rw [HRR.out]; exact beq_self_eq_true _
              simp only [hsB] at hsame
              have HSM := Lib.hid hsame
              clear hsame hsB hor15 hur15 hbR15 hbR13 hor hur13 hy13 hfine hown13 v2d v3d k0d hyd hurd hbRd
              go_quiet ((go_at_call 27; exact Calls.quiet_of (HSM.out _)))
              go_wp2_with fail
              go_roundg (gk - 1)
              case measure => omega
              case rel => exact ⟨j + 1, by omega, by go_num, _, n + 1, ownsMap_drewN hown15 nq, by omega, HD2, below_drewN hx15 nq⟩
          · have hltB : decide ((j : Int) < (fx.book.length : Int)) = false := decide_eq_false (by omega)
            have HD3 : Hid (SetI D (fx.book.map fun r => r.sh)) := Lib.hid (by have h := HD.out; rw [List.take_of_length_le (by omega)] at h; exact h)
            clear HD
            generalize gk = gk0 at *
            generalize wr = w20 at *
            go_wp2_with fail
            clear f0
            go_loopg [208] fx.sh.length (fun m i wr => ∃ j' : Nat, j' + m = fx.sh.length ∧ i = .int .i64 (j' : Int) ∧ wr.ownsMap Try.prog 3 (plainElem Try.prog 4) wc.heap.size n D ∧ Below wc.heap.size wc wr)
            case atStart => exact ⟨0, by omega, rfl, hown, hx⟩
            case round =>
              obtain ⟨j', hj', rfl, hown', hx'⟩ := hrel
              have hx0' := hx0c.trans (hx'.mono hx0c.size)
              by_cases hlt' : j' < fx.sh.length
              · obtain ⟨gS, oS, cS, y1, y2, y3, hA1, _, hgS, hcS, hy1, hy2, hy3⟩ := shd_at (qsc.below hx') hlt'
                injection hA1 with hA1 hA2 hA3
                clear hA2
                subst hA1 hA3
                obtain ⟨xA1, xc1, ex1, _, _, _⟩ := hy1.shape
                obtain ⟨xA2, xc2, ex2⟩ := hy2.form
                obtain ⟨xA3, xc3, ex3, _, _⟩ := hy3.form
                subst ex1 ex2 ex3
                have hltB' : (j' : Int) < (fx.sh.length : Int) := by omega
                have hj0' : (0 : Int) ≤ (j' : Int) := by omega
                have q0 : wr.cell? ⟨gS, oS + j' * 7, none⟩ = some (.int .i64 fx.sh[j'].fr) := hcS 0 _ rfl
                have q1 := hcS 1 _ rfl
                have q2 := hcS 2 _ rfl
                have q3 := hcS 3 _ rfl
                have q4 := hcS 4 _ rfl
                have q5 := hcS 5 _ rfl
                have q6 := hcS 6 _ rfl
                obtain ⟨bb, hbb⟩ : ∃ bb, decide ((j' : Int) ∈ fx.book.map fun r => r.sh) = bb := ⟨_, rfl⟩
                have hst : (fx.sh[j'].st != 1) = bb := by
                  rw [← hbb]
                  have h := Fl.in_book hIx hlt'
                  by_cases hm : (j' : Int) ∈ fx.book.map fun r => r.sh
                  · rw [decide_eq_true hm, bne_iff_ne]
                    obtain ⟨r, hr, er⟩ := List.mem_map.1 hm
                    exact h.1 ⟨r, hr, er⟩
                  · rw [decide_eq_false hm, bne_eq_false_iff_eq]
                    by_cases h1 : fx.sh[j'].st = 1
                    · exact h1
                    · obtain ⟨r, hr, er⟩ := h.2 h1
                      exact absurd (List.mem_map.2 ⟨r, hr, er⟩) hm
                have HBB := Lib.hid hbb
                clear hcS hbb
                generalize fx.sh[j'] = s at *
                have hxb := (Below.refl wr.heap.size wr).alloc (Nat.le_refl _) (.cells #[.int .i64 s.fr, .int .i64 s.til, .int .i64 s.st, .slice xA1 s.ents.length xc1, .int .i64 s.man.size, .slice xA2 s.man.root.length xc2, .slice xA3 s.man.segs.length xc3] 62)
                have hbX : Blk (wr.alloc (.cells #[.int .i64 s.fr, .int .i64 s.til, .int .i64 s.st, .slice xA1 s.ents.length xc1, .int .i64 s.man.size, .slice xA2 s.man.root.length xc2, .slice xA3 s.man.segs.length xc3] 62)) wr.heap.size 62 #[.int .i64 s.fr, .int .i64 s.til, .int .i64 s.st, .slice xA1 s.ents.length xc1, .int .i64 s.man.size, .slice xA2 s.man.root.length xc2, .slice xA3 s.man.segs.length xc3] := heap_alloc_new wr _
                have hownA := hown'.alloc (.cells #[.int .i64 s.fr, .int .i64 s.til, .int .i64 s.st, .slice xA1 s.ents.length xc1, .int .i64 s.man.size, .slice xA2 s.man.root.length xc2, .slice xA3 s.man.segs.length xc3] 62)
                have hxx := hx'.trans (hxb.mono hx'.size)
                go_upto_region 32 with (fail)
                generalize wr.alloc (.cells #[.int .i64 s.fr, .int .i64 s.til, .int .i64 s.st, .slice xA1 s.ents.length xc1, .int .i64 s.man.size, .slice xA2 s.man.root.length xc2, .slice xA3 s.man.segs.length xc3] 62) = w21 at *
                have x2 : w21.cell? ⟨wr.heap.size, 2, none⟩ = some (.int .i64 s.st) := hbX.cell 2
                have hlook := look_setI hownA HD3.out j' (by omega)
                rw [HBB.out] at hlook
                have hbbn : (bb != bb) = false := by cases bb <;> rfl
                clear q0 q1 q2 q3 q4 q5 q6 hbX
                generalize s.st = st at *
                go_wp2_with fail
                go_roundg (gk - 1)
                case measure => omega
                case rel => exact ⟨j' + 1, by omega, by go_num, hownA, hxx⟩
              · have hltB' : decide ((j' : Int) < (fx.sh.length : Int)) = false := decide_eq_false (by omega)
                go_wp2_with fail
                go_ret
                exact ⟨rfl, hx0'⟩
    · have hneX : ((ax : Int) != 0) = false := by rw [bne_eq_false_iff_eq]; omega
      have hneY : ((aq : Int) != 0) = true := by rw [bne_iff_ne]; omega
      go_wp2_with fail
      go_ret
      exact ⟨rfl, hxqB⟩
  · have hneX : ((ax : Int) != 0) = true := by rw [bne_iff_ne]; omega
    go_wp2_with fail
    go_ret
    exact ⟨rfl, hxqB⟩
end Go.Proofs.Ytnpfmboolbhpaaa
