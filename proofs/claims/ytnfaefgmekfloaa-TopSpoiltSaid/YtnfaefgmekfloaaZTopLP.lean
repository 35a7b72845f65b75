/-
  THE WALK of TopSpoilt. Conditions: what comes in is read.
-/
import Derived.Test.YtnfaefgmekfloaaZGh
import Derived.Test.YtnfaefgmekfloaaZGv
import Derived.Test.YtnfaefgmekfloaaZTopD
import Derived.Test.YtnfaefgmekfloaaZTopO
namespace Go.Proofs.Ytnfaefgmekfloaa
open Go.RowKit Go.Lib

theorem SlAt.newN (w : World) (e : TypeId) (cs : List Value) (n m : Nat) (hn : cs.length = m * n) (hm : m ≤ maxLen) : SlAt (w.alloc (.cells cs.toArray e)) (fun k => k = w.heap.size) n (.slice (some ⟨w.heap.size, 0, none⟩) m m) m cs := by
  refine ⟨_, m, rfl, Nat.le_refl _, hm, by omega, fun _ => ⟨w.heap.size, 0, rfl, rfl, by simp, fun j u hu => ?_⟩⟩
  rw [Nat.zero_add, World.cell?_alloc_new, ← Array.getElem?_toList]
  exact hu
theorem OwnR.snoc2 {α : Type} [Rp α] {w' : World} {B : Nat} {e : TypeId} {F : Nat → Prop} {v' : Value} {l : List α} {xs e1 e2 : List Value} {a b : α} (h2 : ∀ (i : Nat) (x : α), l[i]? = some x → ∃ ecs, Rp.rd w' F ecs x ∧ ∀ j u, ecs[j]? = some u → xs[i * Rp.sz α + j]? = some u)
    (hx : xs.length = l.length * Rp.sz α) (ha : Rp.rd w' F e1 a) (hb : Rp.rd w' F e2 b) (hown : Own w' B e (Rp.sz α) v' (l.length + 2) (xs ++ (e1 ++ e2))) : OwnR w' B e F v' (l ++ [a, b]) := by
  have l1 := Rp.len ha
  have l2 := Rp.len hb
  refine ⟨xs ++ (e1 ++ e2), by simpa using hown, fun i y hi => ?_⟩
  rcases Nat.lt_or_ge i l.length with hlt | hge
  · rw [List.getElem?_append_left hlt] at hi
    obtain ⟨es, he, hj⟩ := h2 i y hi
    refine ⟨es, he, fun j u hu => ?_⟩
    have hl := hj j u hu
    obtain ⟨hl1, _⟩ := List.getElem?_eq_some_iff.1 hl
    rw [List.getElem?_append_left hl1]
    exact hl
  · rw [List.getElem?_append_right hge] at hi
    have hlt2 := (List.getElem?_eq_some_iff.1 hi).1
    have h01 : i = l.length ∨ i = l.length + 1 := by simp at hlt2; omega
    rcases h01 with h0 | h1
    · rw [h0, Nat.sub_self] at hi
      simp only [List.getElem?_cons_zero, Option.some.injEq] at hi
      subst hi
      refine ⟨e1, ha, fun j u hu => ?_⟩
      have hjl := (List.getElem?_eq_some_iff.1 hu).1
      rw [h0, List.getElem?_append_right (by omega), show l.length * Rp.sz α + j - xs.length = j by omega, List.getElem?_append_left hjl]
      exact hu
    · rw [h1, Nat.add_sub_cancel_left] at hi
      simp only [List.getElem?_cons_succ, List.getElem?_cons_zero, Option.some.injEq] at hi
      subst hi
      refine ⟨e2, hb, fun j u hu => ?_⟩
      rw [h1, Nat.succ_mul, List.getElem?_append_right (by omega), show l.length * Rp.sz α + Rp.sz α + j - xs.length = e1.length + j by omega, List.getElem?_append_right (by omega), Nat.add_sub_cancel_left]
      exact hu

set_option maxRecDepth 100000 in
set_option maxHeartbeats 8000000 in
theorem topSpoilt_walk (w : World) (v0 : Value) (a : List Bs) (h0 : BList w (fun _ => True) v0 a) (n1 n2 n3 : Int) (wf3 : (Lit.int .u8 n3).wf = true) :
    Calls Try.prog 3 #[v0, .int .i64 n1, .int .i64 n2, .int .u8 n3] w fun e w' => e = .returned (.bool true) ∧ Below w.heap.size w w' := by
  obtain ⟨A0, c0, hv0, hn0, hm0, _⟩ := h0.shape
  subst hv0
  unfold maxLen at hm0
  obtain ⟨i0, hi, hz0, hz1, hz2⟩ := info_parts info_dob
  have hb3 := bounds_u8 wf3
  obtain ⟨x, hx3⟩ : ∃ x : UInt8, bv x = .int .u8 n3 := ⟨UInt8.ofNat n3.toNat, by rw [bv_def, UInt8.toNat_ofNat']; congr 1; omega⟩
  go_enter Try.func3, Try.ntmps3
  go_wp2_with fail
  with_reducible refine (aliveT w).mono ?_
  rintro e w1 ⟨rfl, hx1⟩
  have h01 := h0.below hx1
  go_wp2_with fail
  with_reducible refine (unlike_any w1 _ _ a h01).mono ?_
  rintro e w2 ⟨b, rfl, hub, hx12⟩
  have hx02 := hx1.trans (hx12.mono hx1.size)
  cases b with
  | false =>
    go_wp2_with fail
    go_ret
    exact ⟨rfl, hx02⟩
  | true =>
    have hu := hub rfl
    have hu30 := hu.2.2
    have hrd : RdL w2 (fun b => b < w2.heap.size) (.slice A0 a.length c0) a := (rdL_blist.2 (h01.below hx12)).weak fun b hb _ => hb
    go_wp2_with fail
    with_reducible refine (year_at w2 w2.heap.size (fun b => b < w2.heap.size) (.slice none 0 0) _ [] 0 a 2 2 rfl (OwnR.nil_ _ _ _ _ _) (Nat.le_refl _) (fun b hb => ⟨hb, by simp [Value.ownBlock]⟩) hrd (by decide) (by decide) (by decide) (by simp) hu30).mono ?_
    rintro e w3 ⟨v3, rfl, hG⟩
    have hx23 := hG.bel
    obtain ⟨Al, cl, hv3, hlc3, hcl3⟩ := hG.own.shape
    have hll : (Fl.yearL [] 0 a 2).length = a.length + 2 := by simp [Fl.yearL]
    rw [hll] at hv3 hlc3
    subst hv3
    unfold maxLen at hcl3
    obtain ⟨xs, hown, hin⟩ := hG.own
    rw [hll] at hown
    have hub' := Lib.hid hu
    have HLL := Lib.hid hll
    clear hll hub hu
    generalize hL2 : Fl.yearL [] 0 a 2 = L2 at *
    have HL2 := Lib.hid hL2
    clear hL2
    go_wp2_with fail
    with_reducible refine (doT w3 4 0).mono ?_
    rintro e w4 ⟨rfl, hx34⟩
    have hown4 := hown.below hx34
    have hownA := hown4.alloc (.cells #[.int .i64 5, .int .i64 0, .int .i64 0, .slice none 0 0, .int .i64 n1, .int .i64 n2, .int .u8 n3, .int .i64 4, .int .i64 0, .int .i64 0, .slice none 0 0, .int .i64 0, .int .i64 0, .int .u8 0] 29)
    have hsrc := SlAt.newN w4 29 [.int .i64 5, .int .i64 0, .int .i64 0, .slice none 0 0, .int .i64 n1, .int .i64 n2, .int .u8 n3, .int .i64 4, .int .i64 0, .int .i64 0, .slice none 0 0, .int .i64 0, .int .i64 0, .int .u8 0] 7 2 rfl (by decide)
    have hx3A : Below w3.heap.size w3 (w4.alloc (.cells #[.int .i64 5, .int .i64 0, .int .i64 0, .slice none 0 0, .int .i64 n1, .int .i64 n2, .int .u8 n3, .int .i64 4, .int .i64 0, .int .i64 0, .slice none 0 0, .int .i64 0, .int .i64 0, .int .u8 0] 29)) := hx34.alloc hx34.size _
    have hx2A : Below w2.heap.size w2 (w4.alloc (.cells #[.int .i64 5, .int .i64 0, .int .i64 0, .slice none 0 0, .int .i64 n1, .int .i64 n2, .int .u8 n3, .int .i64 4, .int .i64 0, .int .i64 0, .slice none 0 0, .int .i64 0, .int .i64 0, .int .u8 0] 29)) := hx23.trans (hx3A.mono hx23.size)
    have hBA : w2.heap.size ≤ (w4.alloc (.cells #[.int .i64 5, .int .i64 0, .int .i64 0, .slice none 0 0, .int .i64 n1, .int .i64 n2, .int .u8 n3, .int .i64 4, .int .i64 0, .int .i64 0, .slice none 0 0, .int .i64 0, .int .i64 0, .int .u8 0] 29)).heap.size := hx2A.size
    go_wp2_with (at_builtin
                 refine wpList_append_Own _ (by rfl) (.tmp 22) (.tmp 28) 25 (by rfl) w2.heap.size 29 i0 _ 7 72 Try.underlying25 hi hz0 hz1 hz2 (by rfl) (by omega) (.slice Al (a.length + 2) cl) (a.length + 2) xs (by rfl) hownA _ _ 2 [.int .i64 5, .int .i64 0, .int .i64 0, .slice none 0 0, .int .i64 n1, .int .i64 n2, .int .u8 n3, .int .i64 4, .int .i64 0, .int .i64 0, .slice none 0 0, .int .i64 0, .int .i64 0, .int .u8 0] (by rfl) hsrc (by simp [Value.oneCell']) (by simp only [maxLen]; omega) (by omega) hBA ?_
                 intro v5 w5 hown5 hgr5 hat5)
    have hlt3 := hownA.lt
    have hx25 : Below w2.heap.size w2 w5 := hx2A.grown hgr5 hBA (fun k hk => (hlt3 k hk).1)
    have hx35 : Below w2.heap.size w3 w5 := (hx3A.mono hx23.size).grown hgr5 hBA (fun k hk => (hlt3 k hk).1)
    have hO5 : OwnR w5 w2.heap.size 29 (fun b => b < w2.heap.size) v5 (L2 ++ [Fl.spoilD n1 n2 x, Fl.doD 4 0]) :=
      OwnR.snoc2 (fun i y hy => by obtain ⟨es, he, hj⟩ := hin i y hy; exact ⟨es, Rp.below_of he hx35 (fun _ h => h), hj⟩) (by rw [hown.1, HLL.out]) (dob_rd (Fl.spoilD n1 n2 x) (bytes_nil _ _)) (dob_rd (Fl.doD 4 0) (bytes_nil _ _)) (by rw [HLL.out, show bv (Fl.spoilD n1 n2 x).turn = .int .u8 n3 from hx3]; exact hown5)
    have hl5 : RdL w5 (fun b => b < w5.heap.size) v5 (L2 ++ [Fl.spoilD n1 n2 x, Fl.doD 4 0]) := OwnR.rd (OwnR.weak hO5 (fun k hk _ => hk)) (fun k hk => (hO5.lt k hk).2)
    obtain ⟨ly, HLY⟩ : ∃ ly, Hid (ly = L2 ++ [Fl.spoilD n1 n2 x, Fl.doD 4 0]) := ⟨_, Lib.hid rfl⟩
    obtain ⟨kk, HKK⟩ : ∃ kk, Hid (kk = a.length + 3) := ⟨_, Lib.hid rfl⟩
    have hkk30 : kk ≤ 33 := by rw [HKK.out]; omega
    rw [← HLY.out] at hl5
    have HLL5 : Hid (ly.length = kk + 1) := Lib.hid (by rw [HLY.out, List.length_append, HLL.out, HKK.out]; rfl)
    obtain ⟨Am, cm, hv5, _, _⟩ := hl5.form
    rw [HLL5.out] at hv5
    subst hv5
    have hx05 := hx02.trans (hx25.mono hx02.size)
    clear hG hown hin hO5 hown5 hgr5 hat5 hlt3 hownA hsrc hown4 hx35 hx3A hx2A hBA
    with_reducible refine (windows_at w5 1 1 rfl (by decide)).mono ?_
    rintro e w6 ⟨vw, rfl, hvw, hx56⟩
    have hx06 := hx05.trans (hx56.mono hx05.size)
    have hvr : RdL w6 (fun _ => True) vw (Fl.windowsL 1) := OwnR.rd hvw (fun _ _ => trivial)
    obtain ⟨Aw, cw, hvw6, _, _⟩ := hvr.form
    subst hvw6
    have hl6 := hl5.below hx56
    clear hvw hl5
    obtain ⟨fx, lax, ax, bx, hpl⟩ : ∃ f_ la_ a_ b_, Fl.play (Fl.windowsL 1) ly = (f_, la_, (a_, b_)) := ⟨_, _, _, _, rfl⟩
    have HP := Lib.hid (play_any w6 _ _ _ _ (Fl.windowsL 1) ly hvr hl6)
    rw [hpl] at HP
    have HPLx := Lib.hid hpl
    clear hpl
    go_wp2_with fail
    refine HP.out.mono ?_
    rintro e w7 ⟨vs, vb, va, rfl, qsx, qbx, qax, hxpx⟩
    simp only at qsx qbx qax ⊢
    replace qsx := qsx.weak (F' := fun b => b < w7.heap.size) fun b hb _ => hb
    replace qbx := qbx.weak (F' := fun b => b < w7.heap.size) fun b hb _ => hb
    replace qax := qax.weak (F' := fun b => b < w7.heap.size) fun b hb _ => hb
    obtain ⟨Asx, csx, hvs, hlsx, hcsx⟩ := qsx.form
    obtain ⟨Abx, cbx, hvb, hlbx, hcbx⟩ := qbx.form
    obtain ⟨Aax, cax, hva, hlax, hcax⟩ := qax.form
    unfold maxLen at hcsx hcbx hcax
    subst hvs hvb hva
    clear HP
    go_upto_region 7 with (fail)
    have hxqx := ((Below.refl w7.heap.size w7).alloc (Nat.le_refl _) (.cells #[.slice Asx fx.sh.length csx, .slice Abx fx.book.length cbx] 34)).alloc (by simp) (.cells #[.int .i64 (ax : Int), .int .i64 (bx : Int)] 38)
    have hbFx : Blk ((w7.alloc (.cells #[.slice Asx fx.sh.length csx, .slice Abx fx.book.length cbx] 34)).alloc (.cells #[.int .i64 (ax : Int), .int .i64 (bx : Int)] 38)) w7.heap.size 34 #[.slice Asx fx.sh.length csx, .slice Abx fx.book.length cbx] := Blk.alloc (heap_alloc_new w7 _) _
    have hbWx : Blk ((w7.alloc (.cells #[.slice Asx fx.sh.length csx, .slice Abx fx.book.length cbx] 34)).alloc (.cells #[.int .i64 (ax : Int), .int .i64 (bx : Int)] 38)) (w7.heap.size + 1) 38 #[.int .i64 (ax : Int), .int .i64 (bx : Int)] := by
      have := heap_alloc_new (w7.alloc (.cells #[.slice Asx fx.sh.length csx, .slice Abx fx.book.length cbx] 34)) (.cells #[.int .i64 (ax : Int), .int .i64 (bx : Int)] 38)
      rw [World.size_alloc] at this
      exact this
    generalize ((w7.alloc (.cells #[.slice Asx fx.sh.length csx, .slice Abx fx.book.length cbx] 34)).alloc (.cells #[.int .i64 (ax : Int), .int .i64 (bx : Int)] 38)) = w8 at *
    have hxsx := hxpx.trans (hxqx.mono hxpx.size)
    have hxxB := hx06.trans (hxsx.mono hx06.size)
    replace qsx := qsx.below hxqx
    replace qbx := qbx.below hxqx
    replace qax := qax.below hxqx
    have hgwx : w6.heap.size ≤ w7.heap.size := hxpx.size
    clear hxpx hxqx
    generalize w7.heap.size = gx at *
    obtain ⟨m, y, hm, hrun⟩ := Fl.run_spoilt hub'.out n1 n2 x
    have hpl0 : Fl.play (Fl.windowsL 1) ly = ((if (Shf.verC m).1.1 = 0 then Fl.shd1 a 4 [] m else Fl.shd1 a 3 a m), Fl.ansT a ++ [Fl.ansH a, Fl.ansH a, y, if (Shf.verC m).1.1 = 0 then Fl.ansH a else Fl.no (Shf.verC m).1.1], (0, 0)) := by
      unfold Fl.play
      rw [Fl.wrong_windows 1 (by decide), if_neg (by simp), if_neg (by rw [HLL5.out]; omega), HLY.out, ← HL2.out, hrun]
    have hpp := hpl0.symm.trans HPLx.out
    injection hpp with q1 q2
    injection q2 with q2 q3
    injection q3 with q3 q4
    have b0 : ((ax : Int) != 0) = false := by rw [← q3]; rfl
    have hlen : lax.length = kk + 1 := by rw [← q2, HKK.out]; simp [Fl.ansT]
    obtain ⟨er, HER⟩ : ∃ er, Hid (er = (Shf.verC m).1.1) := ⟨_, Lib.hid rfl⟩
    have hkl : kk < lax.length := by omega
    have hlast : Hid (lax[kk].err = er) := Lib.hid (by
      simp only [← q2, HKK.out]
      rw [List.getElem_append_right (by simp [Fl.ansT])]
      have hz : a.length + 3 - (Fl.ansT a).length = 3 := by simp [Fl.ansT]
      simp only [hz]
      rw [HER.out]
      show (if (Shf.verC m).1.1 = 0 then Fl.ansH a else Fl.no (Shf.verC m).1.1).err = _
      split
      · rename_i h; rw [h]; rfl
      · rfl)
    have hsh : 0 < fx.sh.length := by rw [← q1]; split <;> exact Nat.zero_lt_one
    have hman : Hid (fx.sh[0].man = m) := Lib.hid (by simp only [← q1]; split <;> rfl)
    have hst : Hid (fx.sh[0].st = if er = 0 then 4 else 3) := Lib.hid (by simp only [← q1, HER.out]; split <;> rfl)
    have hents : Hid (er ≠ 0 → fx.sh[0].ents = a) := Lib.hid (fun h => by simp only [← q1]; rw [HER.out] at h; simp only [if_neg h]; rfl)
    have hvl : Hid (er = 0 → (Shf.verC m).2.length = a.length) := Lib.hid (fun h => by
      rw [HER.out] at h
      obtain ⟨_, _, _, _, h5, _⟩ := Shf.verC_ok h
      rw [h5, hm]
      omega)
    have e0 : w8.cell? ⟨gx + 1, 0, none⟩ = some (.int .i64 (ax : Int)) := hbWx.cell 0
    have f0 : w8.cell? ⟨gx, 0, none⟩ = some (.slice Asx fx.sh.length csx) := hbFx.cell 0
    obtain ⟨gS, oS, cS, y1, y2, y3, hA1, _, hgS, hcS, hy1, hy2, hy3⟩ := shd_at qsx hsh
    injection hA1 with hA1 hA2 hA3
    clear hA2
    subst hA1 hA3
    obtain ⟨g6, o6, c6, u6, hA1, -, hg6, z0, -⟩ := ans_at qax hkl
    injection hA1 with hA1 hA2 hA3
    clear hA2
    subst hA1 hA3
    rw [hlast.out] at z0
    obtain ⟨AE, cE, hy1f, _, _, _⟩ := hy1.shape
    obtain ⟨AM, cM, hy2f⟩ := hy2.form
    obtain ⟨AS, cSg, hy3f, _, _⟩ := hy3.form
    subst hy1f hy2f hy3f
    rw [hst.out] at hcS
    rw [hman.out] at hcS hy2 hy3
    have s2 : w8.cell? ⟨gS, oS + 2, none⟩ = some (.int .i64 (if er = 0 then 4 else 3)) := by have h := hcS 2 _ rfl; rw [Nat.zero_mul, Nat.add_zero] at h; exact h
    have s3 : w8.cell? ⟨gS, oS + 3, none⟩ = some (.slice AE fx.sh[0].ents.length cE) := by have h := hcS 3 _ rfl; rw [Nat.zero_mul, Nat.add_zero] at h; exact h
    have s4 : w8.cell? ⟨gS, oS + 4, none⟩ = some (.int .i64 m.size) := by have h := hcS 4 _ rfl; rw [Nat.zero_mul, Nat.add_zero] at h; exact h
    have s5 : w8.cell? ⟨gS, oS + 5, none⟩ = some (.slice AM m.root.length cM) := by have h := hcS 5 _ rfl; rw [Nat.zero_mul, Nat.add_zero] at h; exact h
    have s6 : w8.cell? ⟨gS, oS + 6, none⟩ = some (.slice AS m.segs.length cSg) := by have h := hcS 6 _ rfl; rw [Nat.zero_mul, Nat.add_zero] at h; exact h
    have hshB : (0 : Int) < (fx.sh.length : Int) := by omega
    have HV := Lib.hid (verify_any w8 _ _ _ _ m hy2 hy3)
    obtain ⟨ea, HEA⟩ : ∃ ea, Hid (ea = (Shf.verC m).1.2) := ⟨_, Lib.hid rfl⟩
    have hfv : fv (Shf.verC m).1 = .agg #[.int .i64 (er : Int), .int .i64 (ea : Int)] := by rw [HER.out, HEA.out]; rfl
    unfold VerPost at HV
    rw [hfv] at HV
    have h08 := h0.below hxxB
    clear hfv hpl0 q1 q2 q3 q4 hrun hcS qsx qbx qax hm
    generalize (Shf.verC m).2 = vl at *
    go_wp2_with fail
    with_reducible refine HV.out.mono ?_
    rintro e w9 ⟨vv, rfl, hov, hx89⟩
    obtain ⟨AV, cV, hvv, _, _, _⟩ := hov.blist.shape
    subst hvv
    go_upto_region 10 with (fail)
    have hxb := (Below.refl w9.heap.size w9).alloc (Nat.le_refl _) (.cells #[.int .i64 (er : Int), .int .i64 (ea : Int)] 38)
    have hbV : Blk (w9.alloc (.cells #[.int .i64 (er : Int), .int .i64 (ea : Int)] 38)) w9.heap.size 38 #[.int .i64 (er : Int), .int .i64 (ea : Int)] := heap_alloc_new w9 _
    have hx810 := hx89.trans (hxb.mono hx89.size)
    have hx010 := hxxB.trans (hx810.mono hxxB.size)
    have hbF10 := hbFx.below hx810 hbFx.lt
    have z10 := (hx810.cell (p := ⟨g6, _, none⟩) hg6).trans z0
    have s210 := (hx810.cell (p := ⟨gS, oS + 2, none⟩) hgS).trans s2
    have s310 := (hx810.cell (p := ⟨gS, oS + 3, none⟩) hgS).trans s3
    have hy110 := hy1.below hx810
    have h010 := h08.below hx810
    generalize w9.alloc (.cells #[.int .i64 (er : Int), .int .i64 (ea : Int)] 38) = w10 at *
    generalize w9.heap.size = gv at *
    have f10 : w10.cell? ⟨gx, 0, none⟩ = some (.slice (some ⟨gS, oS, none⟩) fx.sh.length csx) := hbF10.cell 0
    have v10 : w10.cell? ⟨gv, 0, none⟩ = some (.int .i64 (er : Int)) := hbV.cell 0
    have hkB : (kk : Int) < (kk : Int) + 1 := by omega
    have hk0 : (0 : Int) ≤ (kk : Int) := by omega
    clear s2 s3 s4 s5 s6 z0 e0 f0 hbV hbF10 hbFx hbWx hy1 hy2 hy3
    by_cases h0e : er = 0
    · have hvl2 := hvl.out h0e
      rw [if_pos h0e] at s210
      have hlB : ((vl.length : Int) == (a.length : Int)) = true := by rw [hvl2]; simp
      have heB : ((er : Int) == 0) = true := by rw [h0e]; rfl
      clear hvl2 h0e
      generalize fx.sh[0].ents.length = nE at *
      go_wp2_with fail
      go_ret
      exact ⟨rfl, hx010⟩
    · have hents2 := hents.out h0e
      rw [if_neg h0e] at s210
      have heB : ((er : Int) == 0) = false := by rw [beq_eq_false_iff_ne]; omega
      rw [hents2] at s310 hy110
      have H2 := Lib.hid (fun n' => same2_yes (w10.drewN n') _ _ _ _ a (BList.drewN hy110 n') (BList.drewN h010 n'))
      have hee : ((er : Int) == (er : Int)) = true := by simp
      clear hents2 h0e hy110 h010
      go_wp2_with fail
      go_quiet ((go_at_call 18; exact Calls.quiet_of (H2.out _)))
      go_wp2_with fail
      go_ret
      exact ⟨rfl, below_drewN hx010 nq⟩
end Go.Proofs.Ytnfaefgmekfloaa
