/-
  THE WALK of TopYears. Conditions: what comes in is read.
-/
import Derived.Test.YtnfaefgmekfloaaZFleetCk
import Derived.Test.YtnfaefgmekfloaaZGv
import Derived.Test.YtnfaefgmekfloaaZTopD
import Derived.Test.YtnfaefgmekfloaaZTopO
namespace Go.Proofs.Ytnfaefgmekfloaa
open Go.RowKit Go.Lib

set_option maxRecDepth 100000 in
set_option maxHeartbeats 8000000 in
theorem topYears_walk (w : World) (v0 : Value) (a : List Bs) (h0 : BList w (fun _ => True) v0 a) (v1 : Value) (b : List Bs) (h1 : BList w (fun _ => True) v1 b) (v2 : Value) (c : List Bs) (h2 : BList w (fun _ => True) v2 c) :
    Calls Try.prog 8 #[v0, v1, v2] w fun e w' => e = .returned (.bool true) ∧ Below w.heap.size w w' := by
  obtain ⟨A0, c0, hv0, hn0, hm0, _⟩ := h0.shape
  obtain ⟨A1, c1, hv1, hn1, hm1, _⟩ := h1.shape
  obtain ⟨A2, c2, hv2, hn2, hm2, _⟩ := h2.shape
  subst hv0 hv1 hv2
  unfold maxLen at hm0 hm1 hm2
  go_enter Try.func8, Try.ntmps8
  go_wp2_with fail
  with_reducible refine (aliveT w).mono ?_
  rintro e w1 ⟨rfl, hx1⟩
  go_wp2_with fail
  with_reducible refine (unlike_any w1 _ _ a (h0.below hx1)).mono ?_
  rintro e w2 ⟨u0, rfl, hub0, hy0⟩
  have hx2 := hx1.trans (hy0.mono hx1.size)
  by_cases hc0 : u0 = false
  · subst hc0
    go_wp2_with fail
    go_ret
    exact ⟨rfl, hx2⟩
  have hct0 : u0 = true := by simpa using hc0
  subst hct0
  have hu0 := Lib.hid (hub0 rfl)
  have hl0 := hu0.out.2.2
  clear hc0 hub0
  go_wp2_with fail
  with_reducible refine (unlike_any w2 _ _ b (h1.below hx2)).mono ?_
  rintro e w3 ⟨u1, rfl, hub1, hy1⟩
  have hx3 := hx2.trans (hy1.mono hx2.size)
  by_cases hc1 : u1 = false
  · subst hc1
    go_wp2_with fail
    go_ret
    exact ⟨rfl, hx3⟩
  have hct1 : u1 = true := by simpa using hc1
  subst hct1
  have hu1 := Lib.hid (hub1 rfl)
  have hl1 := hu1.out.2.2
  clear hc1 hub1
  go_wp2_with fail
  with_reducible refine (unlike_any w3 _ _ c (h2.below hx3)).mono ?_
  rintro e w4 ⟨u2, rfl, hub2, hy2⟩
  have hx4 := hx3.trans (hy2.mono hx3.size)
  by_cases hc2 : u2 = false
  · subst hc2
    go_wp2_with fail
    go_ret
    exact ⟨rfl, hx4⟩
  have hct2 : u2 = true := by simpa using hc2
  subst hct2
  have hu2 := Lib.hid (hub2 rfl)
  have hl2 := hu2.out.2.2
  clear hc2 hub2
  go_wp2_with fail
  with_reducible refine (windows_at w4 3 3 rfl (by decide)).mono ?_
  rintro e w5 ⟨vw, rfl, hvw, hx45⟩
  have hx05 := hx4.trans (hx45.mono hx4.size)
  have hvr : RdL w5 (fun b => b < w5.heap.size) vw (Fl.windowsL 3) := OwnR.rd (OwnR.weak hvw (fun k hk _ => hk)) (fun k hk => (hvw.lt k hk).2)
  obtain ⟨Aw, cw, hvw5, _, _⟩ := hvr.form
  subst hvw5
  have ha5 : RdL w5 (fun b => b < w5.heap.size) (.slice A0 a.length c0) a := (rdL_blist.2 (h0.below hx05)).weak fun b hb _ => hb
  have hb5 : RdL w5 (fun b => b < w5.heap.size) (.slice A1 b.length c1) b := (rdL_blist.2 (h1.below hx05)).weak fun b hb _ => hb
  have hc5 : RdL w5 (fun b => b < w5.heap.size) (.slice A2 c.length c2) c := (rdL_blist.2 (h2.below hx05)).weak fun b hb _ => hb
  clear hvw
  go_wp2_with fail
  with_reducible refine (year_at w5 w5.heap.size (fun b => b < w5.heap.size) (.slice none 0 0) _ [] 0 a 3 3 rfl (OwnR.nil_ _ _ _ _ _) (Nat.le_refl _) (fun b hb => ⟨hb, by simp [Value.ownBlock]⟩) ha5 (by decide) (by decide) (by decide) (by simp) hl0).mono ?_
  rintro e w6 ⟨v6, rfl, hG6⟩
  have hlt6 := hG6.own.lt
  have hln6 : (Fl.yearL [] 0 a 3).length = a.length + 3 := by simp [Fl.yearL]
  have hx56 := hG6.bel
  go_wp2_with fail
  with_reducible refine (year_at w6 w5.heap.size (fun b => b < w5.heap.size) v6 _ (Fl.yearL [] 0 a 3) 1 b 2 2 rfl hG6.own hG6.size (fun b hb => ⟨Nat.lt_of_lt_of_le hb hG6.size, fun e => by have := hlt6 b e; omega⟩) (hb5.below hx56) (by decide) (by decide) (by decide) (by omega) hl1).mono ?_
  rintro e w7 ⟨v7, rfl, hG7⟩
  have hlt7 := hG7.own.lt
  have hln7 : (Fl.yearL (Fl.yearL [] 0 a 3) 1 b 2).length = a.length + 3 + (b.length + 2) := by rw [Fl.yearL_app, List.length_append, hln6]; simp [Fl.yearL]
  have hx57 := hx56.trans hG7.bel
  have hs7 : w5.heap.size ≤ w7.heap.size := hx57.size
  go_wp2_with fail
  with_reducible refine (year_at w7 w5.heap.size (fun b => b < w5.heap.size) v7 _ (Fl.yearL (Fl.yearL [] 0 a 3) 1 b 2) 2 c 1 1 rfl hG7.own hs7 (fun b hb => ⟨Nat.lt_of_lt_of_le hb hs7, fun e => by have := hlt7 b e; omega⟩) (hc5.below hx57) (by decide) (by decide) (by decide) (by omega) hl2).mono ?_
  rintro e w8 ⟨v8, rfl, hG8⟩
  have hx58 := hx57.trans hG8.bel
  have hln8 : (Fl.yearL (Fl.yearL (Fl.yearL [] 0 a 3) 1 b 2) 2 c 1).length = a.length + 3 + (b.length + 2) + (c.length + 1) := by rw [Fl.yearL_app, List.length_append, hln7]; simp [Fl.yearL]
  have hl8 : RdL w8 (fun _ => True) v8 (Fl.yearL (Fl.yearL (Fl.yearL [] 0 a 3) 1 b 2) 2 c 1) := OwnR.rd (OwnR.weak hG8.own (fun _ _ _ => trivial)) (fun _ _ => trivial)
  have hw8 := hvr.below hx58
  have hx08 := hx05.trans (hx58.mono hx05.size)
  have H120 : (Fl.yearL (Fl.yearL (Fl.yearL [] 0 a 3) 1 b 2) 2 c 1).length ≤ 120 := by omega
  obtain ⟨Al, cl, hv8, _, _⟩ := hl8.form
  subst hv8
  have hpl0 : ∃ la, Fl.play (Fl.windowsL 3) (Fl.yearL (Fl.yearL (Fl.yearL [] 0 a 3) 1 b 2) 2 c 1) = (Fl.yearsF a b c, la, (0, 0)) := ⟨(Fl.run (Fl.start (Fl.windowsL 3)) (Fl.yearL (Fl.yearL (Fl.yearL [] 0 a 3) 1 b 2) 2 c 1)).2, by
    unfold Fl.play
    rw [Fl.wrong_windows 3 (by decide), if_neg (by simp), if_neg (by omega), Fl.run_years hu0.out hu1.out hu2.out]⟩
  have HPL0 := Lib.hid hpl0
  have HYS : Hid (∀ (k : Nat) (l : List Bs), [a, b, c][k]? = some l → _) := Lib.hid (fun k l hk => Fl.years_show hu0.out hu1.out hu2.out k l hk)
  clear hpl0 hG6 hG7 hG8 hlt6 hlt7 hln6 hln7 hln8 ha5 hb5 hc5 hvr
  generalize (Fl.yearL (Fl.yearL (Fl.yearL [] 0 a 3) 1 b 2) 2 c 1) = ly at *
  obtain ⟨fx, lax, ax, bx, hpl⟩ : ∃ f_ la_ a_ b_, Fl.play (Fl.windowsL 3) ly = (f_, la_, (a_, b_)) := ⟨_, _, _, _, rfl⟩
  have HP := Lib.hid (play_any w8 _ _ _ _ (Fl.windowsL 3) ly hw8 hl8)
  rw [hpl] at HP
  have HPLx := Lib.hid hpl
  clear hpl
  go_wp2_with fail
  refine HP.out.mono ?_
  rintro e w9 ⟨vs, vb, va, rfl, qsx, qbx, qax, hxpx⟩
  simp only at qsx qbx qax ⊢
  replace qsx := qsx.weak (F' := fun b => b < w9.heap.size) fun b hb _ => hb
  replace qbx := qbx.weak (F' := fun b => b < w9.heap.size) fun b hb _ => hb
  replace qax := qax.weak (F' := fun b => b < w9.heap.size) fun b hb _ => hb
  obtain ⟨Asx, csx, hvs, hlsx, hcsx⟩ := qsx.form
  obtain ⟨Abx, cbx, hvb, hlbx, hcbx⟩ := qbx.form
  obtain ⟨Aax, cax, hva, hlax, hcax⟩ := qax.form
  unfold maxLen at hcsx hcbx hcax
  subst hvs hvb hva
  clear HP
  go_upto_region 6 with (fail)
  have hxqx := ((Below.refl w9.heap.size w9).alloc (Nat.le_refl _) (.cells #[.slice Asx fx.sh.length csx, .slice Abx fx.book.length cbx] 34)).alloc (by simp) (.cells #[.int .i64 (ax : Int), .int .i64 (bx : Int)] 38)
  have hbFx : Blk ((w9.alloc (.cells #[.slice Asx fx.sh.length csx, .slice Abx fx.book.length cbx] 34)).alloc (.cells #[.int .i64 (ax : Int), .int .i64 (bx : Int)] 38)) w9.heap.size 34 #[.slice Asx fx.sh.length csx, .slice Abx fx.book.length cbx] := Blk.alloc (heap_alloc_new w9 _) _
  have hbWx : Blk ((w9.alloc (.cells #[.slice Asx fx.sh.length csx, .slice Abx fx.book.length cbx] 34)).alloc (.cells #[.int .i64 (ax : Int), .int .i64 (bx : Int)] 38)) (w9.heap.size + 1) 38 #[.int .i64 (ax : Int), .int .i64 (bx : Int)] := by
    have := heap_alloc_new (w9.alloc (.cells #[.slice Asx fx.sh.length csx, .slice Abx fx.book.length cbx] 34)) (.cells #[.int .i64 (ax : Int), .int .i64 (bx : Int)] 38)
    rw [World.size_alloc] at this
    exact this
  generalize ((w9.alloc (.cells #[.slice Asx fx.sh.length csx, .slice Abx fx.book.length cbx] 34)).alloc (.cells #[.int .i64 (ax : Int), .int .i64 (bx : Int)] 38)) = w10 at *
  have hxsx := hxpx.trans (hxqx.mono hxpx.size)
  have hxxB := hx08.trans (hxsx.mono hx08.size)
  replace qsx := qsx.below hxqx
  replace qbx := qbx.below hxqx
  replace qax := qax.below hxqx
  have hgwx : w8.heap.size ≤ w9.heap.size := hxpx.size
  clear hxpx hxqx
  generalize w9.heap.size = gx at *
  obtain ⟨la0, hpl1⟩ := HPL0.out
  have hpp := hpl1.symm.trans HPLx.out
  injection hpp with q1 q2
  injection q2 with q2 q3
  injection q3 with q3 q4
  have b0 : ((ax : Int) != 0) = false := by rw [← q3]; rfl
  have hI : Fl.Inv fx := (Fl.play_ok (b := bx) (HPLx.out.trans (by rw [← q3]))).1
  rw [q1] at HYS
  have hbl : Hid ((fx.book.length : Int) = 3) := Lib.hid (by rw [← q1]; rfl)
  have e0 : w10.cell? ⟨gx + 1, 0, none⟩ = some (.int .i64 (ax : Int)) := hbWx.cell 0
  have bz1 : w10.cell? ⟨gx, 1, none⟩ = some (.slice Abx fx.book.length cbx) := hbFx.cell 1
  have b3 : ((fx.book.length : Int) != 3) = false := by rw [hbl.out]; rfl
  have hHead := Lib.hid (Head_fine w10 _ _ fx.book qbx hI.fineB)
  have hrt : Tr.root ((Bk.rows fx.book).map Tr.leafH) = Fl.bookRoot fx.book := rfl
  rw [hrt] at hHead
  obtain ⟨br, HBR⟩ : ∃ br, Hid (br = Fl.bookRoot fx.book) := ⟨_, Lib.hid rfl⟩
  rw [← HBR.out] at hHead
  clear hrt hpl1 q1 q2 q3 q4 qax
  have h010 := h0.below hxxB
  have h110 := h1.below hxxB
  have h210 := h2.below hxxB
  go_wp2_with fail
  with_reducible refine hHead.out.mono ?_
  rintro e w11 ⟨vh, rfl, hoh, hx11⟩
  obtain ⟨Ak, ck, hvh, _, _⟩ := Own.shape hoh
  obtain ⟨nk, hnk⟩ : ∃ n, br.length = n := ⟨_, rfl⟩
  rw [hnk] at hvh
  subst hvh
  clear hnk
  go_upto_region 7 with (fail)
  have hx1112 := ((Below.refl w11.heap.size w11).alloc (Nat.le_refl _) (.cells #[.int .i64 (fx.book.length : Int), .slice Ak nk ck] 46)).alloc (by simp) (.cells #[.int .i64 0, .int .i64 0] 38)
  have hbH : Blk ((w11.alloc (.cells #[.int .i64 (fx.book.length : Int), .slice Ak nk ck] 46)).alloc (.cells #[.int .i64 0, .int .i64 0] 38)) w11.heap.size 46 #[.int .i64 (fx.book.length : Int), .slice Ak nk ck] := Blk.alloc (heap_alloc_new w11 _) _
  have hbE : Blk ((w11.alloc (.cells #[.int .i64 (fx.book.length : Int), .slice Ak nk ck] 46)).alloc (.cells #[.int .i64 0, .int .i64 0] 38)) (w11.heap.size + 1) 38 #[.int .i64 0, .int .i64 0] := by
    have := heap_alloc_new (w11.alloc (.cells #[.int .i64 (fx.book.length : Int), .slice Ak nk ck] 46)) (.cells #[.int .i64 0, .int .i64 0] 38)
    rw [World.size_alloc] at this
    exact this
  generalize ((w11.alloc (.cells #[.int .i64 (fx.book.length : Int), .slice Ak nk ck] 46)).alloc (.cells #[.int .i64 0, .int .i64 0] 38)) = w12 at *
  have hx1012 := hx11.trans (hx1112.mono hx11.size)
  have hx012 := hxxB.trans (hx1012.mono hxxB.size)
  have hoh12 := OwnB.bytes (OwnB.below hoh hx1112)
  have hbF12 := hbFx.below hx1012 hbFx.lt
  have hbW12 := hbWx.below hx1012 hbWx.lt
  have qs12 := qsx.below hx1012
  have qb12 := qbx.below hx1012
  generalize w11.heap.size = gh at *
  have z0 : w12.cell? ⟨gh + 1, 0, none⟩ = some (.int .i64 0) := hbE.cell 0
  have z1 : w12.cell? ⟨gh, 0, none⟩ = some (.int .i64 (fx.book.length : Int)) := hbH.cell 0
  have z2 : w12.cell? ⟨gx + 1, 0, none⟩ = some (.int .i64 (ax : Int)) := hbW12.cell 0
  have hgh : gh < w12.heap.size := hbH.lt
  have hxl := (Below.refl w12.heap.size w12).alloc (Nat.le_refl _) (.cells #[.slice A0 a.length c0, .slice A1 b.length c1, .slice A2 c.length c2] 22)
  have hbL : Blk (w12.alloc (.cells #[.slice A0 a.length c0, .slice A1 b.length c1, .slice A2 c.length c2] 22)) w12.heap.size 22 #[.slice A0 a.length c0, .slice A1 b.length c1, .slice A2 c.length c2] := heap_alloc_new w12 _
  have hx013 := hx012.trans (hxl.mono hx012.size)
  have hbF13 := hbF12.below hxl hbF12.lt
  have hbH13 := hbH.below hxl hgh
  have qs13 := qs12.below hxl
  have qb13 := qb12.below hxl
  have hoh13 := hoh12.below hxl
  have h013 := h010.below (hx1012.trans (hxl.mono hx1012.size))
  have h113 := h110.below (hx1012.trans (hxl.mono hx1012.size))
  have h213 := h210.below (hx1012.trans (hxl.mono hx1012.size))
  clear hbE hbFx hbWx hbW12 hbF12 qsx qbx qs12 qb12 hoh hoh12 h010 h110 h210 hbH e0 bz1 hx11 hx1112
  go_wp2_with fail
  generalize w12.alloc (.cells #[.slice A0 a.length c0, .slice A1 b.length c1, .slice A2 c.length c2] 22) = w13 at *
  generalize w12.heap.size = gL at *
  clear z0 z1 z2
  have hsel : ∀ j, j < 3 → ∃ l A c', [a, b, c][j]? = some l ∧ w13.cell? ⟨gL, j, none⟩ = some (.slice A l.length c') ∧ l.length ≤ c' ∧ c' ≤ 2 ^ 63 - 1 ∧ ∃ F, BList w13 F (.slice A l.length c') l := fun j hj => by
    match j, hj with
    | 0, _ => exact ⟨a, A0, c0, rfl, hbL.cell 0, hn0, hm0, _, h013⟩
    | 1, _ => exact ⟨b, A1, c1, rfl, hbL.cell 1, hn1, hm1, _, h113⟩
    | 2, _ => exact ⟨c, A2, c2, rfl, hbL.cell 2, hn2, hm2, _, h213⟩
  have hgL : gL < w13.heap.size := hbL.lt
  have HSEL := Lib.hid hsel
  clear hsel h013 h113 h213 hbL
  go_loopg [70] 3 (fun m i wr => ∃ j : Nat, j + m = 3 ∧ i = .int .i64 (j : Int) ∧ Below w13.heap.size w13 wr)
  case atStart => exact ⟨0, by omega, rfl, Below.refl _ _⟩
  case round =>
    obtain ⟨j, hj, rfl, hx⟩ := hrel
    have hxr := hx013.trans (hx.mono hx013.size)
    by_cases hlt : j < 3
    · obtain ⟨l, A, c', hjl, hcl, hlc, hlm, F, hll⟩ := HSEL.out j hlt
      have hclr : wr.cell? ⟨gL, j, none⟩ = some (.slice A l.length c') := (hx.cell (p := ⟨gL, j, none⟩) hgL).trans hcl
      have hltB : (j : Int) < 3 := by omega
      have hj0 : (0 : Int) ≤ (j : Int) := by omega
      obtain ⟨hy1, hy2⟩ := HYS.out j l hjl
      have HY1 := Lib.hid hy1
      have HY2 := Lib.hid hy2
      clear hcl hjl hy1 hy2
      generalize gk = gk0 at *
      generalize wr = w14 at *
      go_wp2_with fail
      clear hclr
      go_loopg [77] l.length (fun m i wr => ∃ n : Nat, n + m = l.length ∧ i = .int .i64 (n : Int) ∧ Below w14.heap.size w14 wr)
      case atStart => exact ⟨0, by omega, rfl, Below.refl _ _⟩
      case round =>
        obtain ⟨n, hn, rfl, hxn⟩ := hrel
        have hx13n := hx.trans (hxn.mono hx.size)
        have hx0n := hx013.trans (hx13n.mono hx013.size)
        have b0 : wr.cell? ⟨gx, 0, none⟩ = some (.slice Asx fx.sh.length csx) := (hbF13.below hx13n hbF13.lt).cell 0
        have b1 : wr.cell? ⟨gx, 1, none⟩ = some (.slice Abx fx.book.length cbx) := (hbF13.below hx13n hbF13.lt).cell 1
        by_cases hlw : n < l.length
        · obtain ⟨gW, oW, uW, hAw, hcW, _, hgW, huW⟩ := (hll.below hx13n).at_ hlw
          subst hAw
          obtain ⟨Au, cu, hUW⟩ := huW.form
          subst hUW
          obtain ⟨sh, hsc, hse, hck⟩ := HY1.out n hlw
          have HCK := Lib.hid hck
          have HSE := Lib.hid hse
          have HSW := Lib.hid (show_own wr _ _ _ _ fx (j : Int) (n : Int) (qs13.below hx13n) (qb13.below hx13n) hI)
          rw [hsc] at HSW
          clear hsc hck hse
          have hnB : (n : Int) < (l.length : Int) := by omega
          have hn0' : (0 : Int) ≤ (n : Int) := by omega
          go_wp2_with fail
          with_reducible refine HSW.out.mono ?_
          rintro e w15 ⟨cs8, rfl, hrd, hx15⟩
          simp only at hrd ⊢
          obtain ⟨AE, cE, AP, cP, AR, cR, AB, cB, AH, cH, hcs8, hE, _⟩ := shw_open hrd
          subst hcs8
          go_upto_region 16 with (fail)
          have hxb2 := (Below.refl w15.heap.size w15).alloc (Nat.le_refl _) (.cells #[.slice AE sh.entry.length cE, .int .i64 sh.place, .int .i64 sh.shard, .slice AP sh.path.length cP, .int .i64 sh.rcd.sh, .int .i64 sh.rcd.fr, .int .i64 sh.rcd.to, .int .i64 sh.rcd.sz, .slice AR sh.rcd.root.length cR, .int .i64 sh.row, .slice AB sh.bpath.length cB, .int .i64 sh.hsz, .slice AH sh.hroot.length cH] 70)
          have hbS : Blk (w15.alloc (.cells #[.slice AE sh.entry.length cE, .int .i64 sh.place, .int .i64 sh.shard, .slice AP sh.path.length cP, .int .i64 sh.rcd.sh, .int .i64 sh.rcd.fr, .int .i64 sh.rcd.to, .int .i64 sh.rcd.sz, .slice AR sh.rcd.root.length cR, .int .i64 sh.row, .slice AB sh.bpath.length cB, .int .i64 sh.hsz, .slice AH sh.hroot.length cH] 70)) w15.heap.size 70 #[.slice AE sh.entry.length cE, .int .i64 sh.place, .int .i64 sh.shard, .slice AP sh.path.length cP, .int .i64 sh.rcd.sh, .int .i64 sh.rcd.fr, .int .i64 sh.rcd.to, .int .i64 sh.rcd.sz, .slice AR sh.rcd.root.length cR, .int .i64 sh.row, .slice AB sh.bpath.length cB, .int .i64 sh.hsz, .slice AH sh.hroot.length cH] := heap_alloc_new w15 _
          have hxs := hx15.trans (hxb2.mono hx15.size)
          have hE1 := hE.below hxb2
          have hrd1 := Rp.below hrd hxb2
          have hW1 := huW.below hxs
          have hcW1 : (w15.alloc (.cells #[.slice AE sh.entry.length cE, .int .i64 sh.place, .int .i64 sh.shard, .slice AP sh.path.length cP, .int .i64 sh.rcd.sh, .int .i64 sh.rcd.fr, .int .i64 sh.rcd.to, .int .i64 sh.rcd.sz, .slice AR sh.rcd.root.length cR, .int .i64 sh.row, .slice AB sh.bpath.length cB, .int .i64 sh.hsz, .slice AH sh.hroot.length cH] 70)).cell? ⟨gW, oW + n, none⟩ = some (.slice Au l[n].length cu) := (hxs.cell (p := ⟨gW, _, none⟩) hgW).trans hcW
          have hgW1 : gW < (w15.alloc (.cells #[.slice AE sh.entry.length cE, .int .i64 sh.place, .int .i64 sh.shard, .slice AP sh.path.length cP, .int .i64 sh.rcd.sh, .int .i64 sh.rcd.fr, .int .i64 sh.rcd.to, .int .i64 sh.rcd.sz, .slice AR sh.rcd.root.length cR, .int .i64 sh.row, .slice AB sh.bpath.length cB, .int .i64 sh.hsz, .slice AH sh.hroot.length cH] 70)).heap.size := Nat.lt_of_lt_of_le hgW hxs.size
          have hx14s := hxn.trans (hxs.mono hxn.size)
          have hx13s := hx.trans (hx14s.mono hx.size)
          have hbHs := hbH13.below hx13s (by have := hbH13.lt; omega)
          have hohs := hoh13.below hx13s
          clear hE hrd hx15 hxb2 hcW huW b0 b1 hgW hxs
          generalize w15.alloc (.cells #[.slice AE sh.entry.length cE, .int .i64 sh.place, .int .i64 sh.shard, .slice AP sh.path.length cP, .int .i64 sh.rcd.sh, .int .i64 sh.rcd.fr, .int .i64 sh.rcd.to, .int .i64 sh.rcd.sz, .slice AR sh.rcd.root.length cR, .int .i64 sh.row, .slice AB sh.bpath.length cB, .int .i64 sh.hsz, .slice AH sh.hroot.length cH] 70) = w16 at *
          generalize w15.heap.size = gs at *
          have hsB : (sh.entry == l[n]) = true := by rw [HSE.out]; simp
          have HSB := Lib.hid hsB
          have HCK2 : Hid (Fl.checkC sh (fx.book.length : Int) br = true) := Lib.hid (by rw [hbl.out, HBR.out]; exact HCK.out)
          clear hsB HSE HCK
          generalize l[n] = ln at *
          have c_0 : w16.cell? ⟨gs, 0, none⟩ = some (.slice AE sh.entry.length cE) := hbS.cell 0
          have c_1 : w16.cell? ⟨gs, 1, none⟩ = some (.int .i64 sh.place) := hbS.cell 1
          have c_2 : w16.cell? ⟨gs, 2, none⟩ = some (.int .i64 sh.shard) := hbS.cell 2
          have c_3 : w16.cell? ⟨gs, 3, none⟩ = some (.slice AP sh.path.length cP) := hbS.cell 3
          have c_4 : w16.cell? ⟨gs, 4, none⟩ = some (.int .i64 sh.rcd.sh) := hbS.cell 4
          have c_5 : w16.cell? ⟨gs, 5, none⟩ = some (.int .i64 sh.rcd.fr) := hbS.cell 5
          have c_6 : w16.cell? ⟨gs, 6, none⟩ = some (.int .i64 sh.rcd.to) := hbS.cell 6
          have c_7 : w16.cell? ⟨gs, 7, none⟩ = some (.int .i64 sh.rcd.sz) := hbS.cell 7
          have c_8 : w16.cell? ⟨gs, 8, none⟩ = some (.slice AR sh.rcd.root.length cR) := hbS.cell 8
          have c_9 : w16.cell? ⟨gs, 9, none⟩ = some (.int .i64 sh.row) := hbS.cell 9
          have c_10 : w16.cell? ⟨gs, 10, none⟩ = some (.slice AB sh.bpath.length cB) := hbS.cell 10
          have c_11 : w16.cell? ⟨gs, 11, none⟩ = some (.int .i64 sh.hsz) := hbS.cell 11
          have c_12 : w16.cell? ⟨gs, 12, none⟩ = some (.slice AH sh.hroot.length cH) := hbS.cell 12
          have hd0 : w16.cell? ⟨gh, 0, none⟩ = some (.int .i64 (fx.book.length : Int)) := hbHs.cell 0
          have hd1 : w16.cell? ⟨gh, 1, none⟩ = some (.slice Ak nk ck) := hbHs.cell 1
          have hgS1 : gs < w16.heap.size := hbS.lt
          have hgH1 : gh < w16.heap.size := hbHs.lt
          have hSS : ∀ z : World, (∀ k, k < w16.heap.size → z.heap[k]? = w16.heap[k]?) → (z.cell? ⟨gs, 0, none⟩ = some (.slice AE sh.entry.length cE) ∧ z.cell? ⟨gs, 1, none⟩ = some (.int .i64 sh.place) ∧ z.cell? ⟨gs, 2, none⟩ = some (.int .i64 sh.shard) ∧ z.cell? ⟨gs, 3, none⟩ = some (.slice AP sh.path.length cP) ∧ z.cell? ⟨gs, 4, none⟩ = some (.int .i64 sh.rcd.sh) ∧ z.cell? ⟨gs, 5, none⟩ = some (.int .i64 sh.rcd.fr) ∧ z.cell? ⟨gs, 6, none⟩ = some (.int .i64 sh.rcd.to) ∧ z.cell? ⟨gs, 7, none⟩ = some (.int .i64 sh.rcd.sz) ∧ z.cell? ⟨gs, 8, none⟩ = some (.slice AR sh.rcd.root.length cR) ∧ z.cell? ⟨gs, 9, none⟩ = some (.int .i64 sh.row) ∧ z.cell? ⟨gs, 10, none⟩ = some (.slice AB sh.bpath.length cB) ∧ z.cell? ⟨gs, 11, none⟩ = some (.int .i64 sh.hsz) ∧ z.cell? ⟨gs, 12, none⟩ = some (.slice AH sh.hroot.length cH) ∧ z.cell? ⟨gW, oW + n, none⟩ = some (.slice Au ln.length cu) ∧ z.cell? ⟨gh, 0, none⟩ = some (.int .i64 (fx.book.length : Int)) ∧ z.cell? ⟨gh, 1, none⟩ = some (.slice Ak nk ck)) := fun z hz => ⟨(World.cell?_of_block (hz _ hgS1)).trans c_0, (World.cell?_of_block (hz _ hgS1)).trans c_1, (World.cell?_of_block (hz _ hgS1)).trans c_2, (World.cell?_of_block (hz _ hgS1)).trans c_3, (World.cell?_of_block (hz _ hgS1)).trans c_4, (World.cell?_of_block (hz _ hgS1)).trans c_5, (World.cell?_of_block (hz _ hgS1)).trans c_6, (World.cell?_of_block (hz _ hgS1)).trans c_7, (World.cell?_of_block (hz _ hgS1)).trans c_8, (World.cell?_of_block (hz _ hgS1)).trans c_9, (World.cell?_of_block (hz _ hgS1)).trans c_10, (World.cell?_of_block (hz _ hgS1)).trans c_11, (World.cell?_of_block (hz _ hgS1)).trans c_12, (World.cell?_of_block (hz _ hgW1)).trans hcW1, (World.cell?_of_block (hz _ hgH1)).trans hd0, (World.cell?_of_block (hz _ hgH1)).trans hd1⟩
          clear hbS hbHs
          refine wp_region_held_drew (S := (fun z : World => z.cell? ⟨gs, 0, none⟩ = some (.slice AE sh.entry.length cE) ∧ z.cell? ⟨gs, 1, none⟩ = some (.int .i64 sh.place) ∧ z.cell? ⟨gs, 2, none⟩ = some (.int .i64 sh.shard) ∧ z.cell? ⟨gs, 3, none⟩ = some (.slice AP sh.path.length cP) ∧ z.cell? ⟨gs, 4, none⟩ = some (.int .i64 sh.rcd.sh) ∧ z.cell? ⟨gs, 5, none⟩ = some (.int .i64 sh.rcd.fr) ∧ z.cell? ⟨gs, 6, none⟩ = some (.int .i64 sh.rcd.to) ∧ z.cell? ⟨gs, 7, none⟩ = some (.int .i64 sh.rcd.sz) ∧ z.cell? ⟨gs, 8, none⟩ = some (.slice AR sh.rcd.root.length cR) ∧ z.cell? ⟨gs, 9, none⟩ = some (.int .i64 sh.row) ∧ z.cell? ⟨gs, 10, none⟩ = some (.slice AB sh.bpath.length cB) ∧ z.cell? ⟨gs, 11, none⟩ = some (.int .i64 sh.hsz) ∧ z.cell? ⟨gs, 12, none⟩ = some (.slice AH sh.hroot.length cH) ∧ z.cell? ⟨gW, oW + n, none⟩ = some (.slice Au ln.length cu) ∧ z.cell? ⟨gh, 0, none⟩ = some (.int .i64 (fx.book.length : Int)) ∧ z.cell? ⟨gh, 1, none⟩ = some (.slice Ak nk ck))) (by kernel_rfl) ?_ (fun hHeld => ?_)
          · exact hSS w16.drew (fun _ _ => rfl)
          refine step_take (i := 0) (v := ?_) rfl (by kernel_rfl) (by kernel_rfl) (by kernel_rfl) (fun _ _ _ h => h) (by rfl) ?yy1 (by assumption) ?_
          case yy1 => (intro w hSw; (try dsimp only at hSw); go_simp; (try with_reducible rfl))
          try simp only [Act.put, List.setIfInBounds_toArray, List.set_cons_zero, List.set_cons_succ]
          refine step_take (i := 1) (v := ?_) rfl (by kernel_rfl) (by kernel_rfl) (by kernel_rfl) (fun _ _ _ h => h) (by rfl) ?yy2 (by assumption) ?_
          case yy2 => (intro w hSw; (try dsimp only at hSw); go_simp; (try with_reducible rfl))
          try simp only [Act.put, List.setIfInBounds_toArray, List.set_cons_zero, List.set_cons_succ]
          refine step_take (i := 2) (v := ?_) rfl (by kernel_rfl) (by kernel_rfl) (by kernel_rfl) (fun _ _ _ h => h) (by rfl) ?yy3 (by assumption) ?_
          case yy3 => (intro w hSw; (try dsimp only at hSw); go_simp; (try with_reducible rfl))
          try simp only [Act.put, List.setIfInBounds_toArray, List.set_cons_zero, List.set_cons_succ]
          refine step_take (i := 3) (v := ?_) rfl (by kernel_rfl) (by kernel_rfl) (by kernel_rfl) (fun _ _ _ h => h) (by rfl) ?yy4 (by assumption) ?_
          case yy4 => (intro w hSw; (try dsimp only at hSw); go_simp; (try with_reducible rfl))
          try simp only [Act.put, List.setIfInBounds_toArray, List.set_cons_zero, List.set_cons_succ]
          refine step_take (i := 4) (v := ?_) rfl (by kernel_rfl) (by kernel_rfl) (by kernel_rfl) (fun _ _ _ h => h) (by rfl) ?yy5 (by assumption) ?_
          case yy5 => (intro w hSw; (try dsimp only at hSw); go_simp; (try with_reducible rfl))
          try simp only [Act.put, List.setIfInBounds_toArray, List.set_cons_zero, List.set_cons_succ]
          refine step_take (i := 5) (v := ?_) rfl (by kernel_rfl) (by kernel_rfl) (by kernel_rfl) (fun _ _ _ h => h) (by rfl) ?yy6 (by assumption) ?_
          case yy6 => (intro w hSw; (try dsimp only at hSw); go_simp; (try with_reducible rfl))
          try simp only [Act.put, List.setIfInBounds_toArray, List.set_cons_zero, List.set_cons_succ]
          refine step_take (i := 6) (v := ?_) rfl (by kernel_rfl) (by kernel_rfl) (by kernel_rfl) (fun _ _ _ h => h) (by rfl) ?yy7 (by assumption) ?_
          case yy7 => (intro w hSw; (try dsimp only at hSw); go_simp; (try with_reducible rfl))
          try simp only [Act.put, List.setIfInBounds_toArray, List.set_cons_zero, List.set_cons_succ]
          refine step_take (i := 7) (v := ?_) rfl (by kernel_rfl) (by kernel_rfl) (by kernel_rfl) (fun _ _ _ h => h) (by rfl) ?yy8 (by assumption) ?_
          case yy8 => (intro w hSw; (try dsimp only at hSw); go_simp; (try with_reducible rfl))
          try simp only [Act.put, List.setIfInBounds_toArray, List.set_cons_zero, List.set_cons_succ]
          refine step_take (i := 8) (v := ?_) rfl (by kernel_rfl) (by kernel_rfl) (by kernel_rfl) (fun _ _ _ h => h) (by rfl) ?yy9 (by assumption) ?_
          case yy9 => (intro w hSw; (try dsimp only at hSw); go_simp; (try with_reducible rfl))
          try simp only [Act.put, List.setIfInBounds_toArray, List.set_cons_zero, List.set_cons_succ]
          refine step_alone 9 rfl (by kernel_rfl) (by rfl) (fun K hK => ?_)
          go_simp
          refine (same_any w16.drew _ _ _ _ sh.entry ln (hE1.drewN 1) (hW1.drewN 1)).mono ?_
          rintro e w17 ⟨rfl, n17, hw17⟩
          rw [HSB.out]
          have hx1617 : Below w16.heap.size w16 w17 := by rw [hw17]; exact below_drewN (Below.refl w16.heap.size w16).drew n17
          clear hw17
          go_simp
          refine hK.out _ _ ?_ (fun hHeld => ?_)
          · exact hSS w17 (fun k hk => hx1617.block k hk)
          clear hK K
          try simp only [Act.put, List.setIfInBounds_toArray, List.set_cons_zero, List.set_cons_succ]
          refine step_take (i := 10) (v := ?_) rfl (by kernel_rfl) (by kernel_rfl) (by kernel_rfl) (fun _ _ _ h => h) (by rfl) ?yy11 (by assumption) ?_
          case yy11 => (intro w hSw; (try dsimp only at hSw); go_simp; (try with_reducible rfl))
          try simp only [Act.put, List.setIfInBounds_toArray, List.set_cons_zero, List.set_cons_succ]
          refine step_take (i := 11) (v := ?_) rfl (by kernel_rfl) (by kernel_rfl) (by kernel_rfl) (fun _ _ _ h => h) (by rfl) ?yy12 (by assumption) ?_
          case yy12 => (intro w hSw; (try dsimp only at hSw); go_simp; (try with_reducible rfl))
          try simp only [Act.put, List.setIfInBounds_toArray, List.set_cons_zero, List.set_cons_succ]
          refine step_take (i := 12) (v := ?_) rfl (by kernel_rfl) (by kernel_rfl) (by kernel_rfl) (fun _ _ _ h => h) (by rfl) ?yy13 (by assumption) ?_
          case yy13 => (intro w hSw; (try dsimp only at hSw); go_simp; (try with_reducible rfl))
          try simp only [Act.put, List.setIfInBounds_toArray, List.set_cons_zero, List.set_cons_succ]
          refine step_take (i := 13) (v := ?_) rfl (by kernel_rfl) (by kernel_rfl) (by kernel_rfl) (fun _ _ _ h => h) (by rfl) ?yy14 (by assumption) ?_
          case yy14 => (intro w hSw; (try dsimp only at hSw); go_simp; (try with_reducible rfl))
          try simp only [Act.put, List.setIfInBounds_toArray, List.set_cons_zero, List.set_cons_succ]
          refine step_take (i := 14) (v := ?_) rfl (by kernel_rfl) (by kernel_rfl) (by kernel_rfl) (fun _ _ _ h => h) (by rfl) ?yy15 (by assumption) ?_
          case yy15 => (intro w hSw; (try dsimp only at hSw); go_simp; (try with_reducible rfl))
          try simp only [Act.put, List.setIfInBounds_toArray, List.set_cons_zero, List.set_cons_succ]
          refine step_alone 15 rfl (by kernel_rfl) (by rfl) (fun K hK => ?_)
          go_simp
          refine (check_any w17 _ _ [.slice AE sh.entry.length cE, .int .i64 sh.place, .int .i64 sh.shard, .slice AP sh.path.length cP, .int .i64 sh.rcd.sh, .int .i64 sh.rcd.fr, .int .i64 sh.rcd.to, .int .i64 sh.rcd.sz, .slice AR sh.rcd.root.length cR, .int .i64 sh.row, .slice AB sh.bpath.length cB, .int .i64 sh.hsz, .slice AH sh.hroot.length cH] sh (fx.book.length : Int) br (.slice Ak nk ck) (Rp.below hrd1 hx1617) (hohs.below hx1617)).mono ?_
          rintro e w18 ⟨rfl, hx1718⟩
          rw [HCK2.out]
          have hx1618 := hx1617.trans (hx1718.mono hx1617.size)
          go_simp
          refine hK.out _ _ ?_ (fun hHeld => ?_)
          · exact hSS w18 (fun k hk => hx1618.block k hk)
          clear hK K
          try simp only [Act.put, List.setIfInBounds_toArray, List.set_cons_zero, List.set_cons_succ]
          refine step_take (i := 16) (v := ?_) rfl (by kernel_rfl) (by kernel_rfl) (by kernel_rfl) (fun _ _ _ h => h) (by rfl) ?yy17 (by assumption) ?_
          case yy17 => (intro w hSw; (try dsimp only at hSw); go_simp; (try with_reducible rfl))
          try simp only [Act.put, List.setIfInBounds_toArray, List.set_cons_zero, List.set_cons_succ]
          refine step_take (i := 17) (v := ?_) rfl (by kernel_rfl) (by kernel_rfl) (by kernel_rfl) (fun _ _ _ h => h) (by rfl) ?yy18 (by assumption) ?_
          case yy18 => (intro w hSw; (try dsimp only at hSw); go_simp; (try with_reducible rfl))
          try simp only [Act.put, List.setIfInBounds_toArray, List.set_cons_zero, List.set_cons_succ]
          refine wpAnyH_done (by kernel_rfl) ?_ _
          go_wp2_with fail
          go_roundg (gk - 1)
          case measure => omega
          case rel => exact ⟨n + 1, by omega, by go_num, hx14s.trans (hx1618.mono hx14s.size)⟩
        · have hltB2 : decide ((n : Int) < (l.length : Int)) = false := decide_eq_false (by omega)
          have HSW := Lib.hid (show_own wr _ _ _ _ fx (j : Int) (l.length : Int) (qs13.below hx13n) (qb13.below hx13n) hI)
          rw [HY2.out] at HSW
          go_wp2_with fail
          with_reducible refine HSW.out.mono ?_
          rintro e w15 ⟨cs8, rfl, hrd, hx15⟩
          simp only at hrd ⊢
          obtain ⟨AE, cE, AP, cP, AR, cR, AB, cB, AH, cH, hcs8, _⟩ := shw_open hrd
          subst hcs8
          clear hrd
          have hx14s := hxn.trans ((hx15.alloc hx15.size (.cells #[.slice AE Fl.zeroS.entry.length cE, .int .i64 Fl.zeroS.place, .int .i64 Fl.zeroS.shard, .slice AP Fl.zeroS.path.length cP, .int .i64 Fl.zeroS.rcd.sh, .int .i64 Fl.zeroS.rcd.fr, .int .i64 Fl.zeroS.rcd.to, .int .i64 Fl.zeroS.rcd.sz, .slice AR Fl.zeroS.rcd.root.length cR, .int .i64 Fl.zeroS.row, .slice AB Fl.zeroS.bpath.length cB, .int .i64 Fl.zeroS.hsz, .slice AH Fl.zeroS.hroot.length cH] 70)).mono hxn.size)
          go_upto_region 20 with (fail)
          generalize w15.alloc (.cells #[.slice AE Fl.zeroS.entry.length cE, .int .i64 Fl.zeroS.place, .int .i64 Fl.zeroS.shard, .slice AP Fl.zeroS.path.length cP, .int .i64 Fl.zeroS.rcd.sh, .int .i64 Fl.zeroS.rcd.fr, .int .i64 Fl.zeroS.rcd.to, .int .i64 Fl.zeroS.rcd.sz, .slice AR Fl.zeroS.rcd.root.length cR, .int .i64 Fl.zeroS.row, .slice AB Fl.zeroS.bpath.length cB, .int .i64 Fl.zeroS.hsz, .slice AH Fl.zeroS.hroot.length cH] 70) = w16 at *
          go_wp2_with fail
          go_roundg (gk0 - 1)
          case measure => omega
          case rel => exact ⟨j + 1, by omega, by go_num, hx.trans (hx14s.mono hx.size)⟩
    · have hltB : decide ((j : Int) < 3) = false := decide_eq_false (by omega)
      go_wp2_with fail
      go_ret
      exact ⟨rfl, hxr⟩
end Go.Proofs.Ytnfaefgmekfloaa
