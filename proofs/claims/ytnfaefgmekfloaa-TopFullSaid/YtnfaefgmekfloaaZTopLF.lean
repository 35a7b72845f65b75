/-
  THE WALK of TopFull. Conditions: none.
-/
import Derived.Test.YtnfaefgmekfloaaZTopD
import Derived.Test.YtnfaefgmekfloaaZTopO
namespace Go.Proofs.Ytnfaefgmekfloaa
open Go.RowKit Go.Lib

theorem bv_small {j : Nat} (h : j < 200) : bv (UInt8.ofNat j) = .int .u8 (j : Int) := by rw [bv_def, UInt8.toNat_ofNat']; congr 1; omega
theorem Fl.fullL_len (n : Nat) : (Fl.fullL n).length = n := by simp [Fl.fullL]
theorem Fl.fullL_succ (n : Nat) : Fl.fullL (n + 1) = Fl.fullL n ++ [Fl.subD 5 (Fl.entF n)] := by simp [Fl.fullL, List.range_succ]
set_option maxRecDepth 100000 in
set_option maxHeartbeats 8000000 in
theorem topFull_walk (w : World) (n0 n1 : Int) :
    Calls Try.prog 7 #[.int .i64 n0, .int .i64 n1] w fun e w' => e = .returned (.bool true) ∧ Below w.heap.size w w' := by
  obtain ⟨i0, hi, hz0, hz1, hz2⟩ := info_parts info_dob
  go_enter Try.func7, Try.ntmps7
  go_wp2_with fail
  with_reducible refine (aliveT w).mono ?_
  rintro e w1 ⟨rfl, hx1⟩
  by_cases c0 : n0 < 0
  · have cB : decide (n0 < 0) = true := decide_eq_true c0
    go_wp2_with fail
    go_ret
    exact ⟨rfl, hx1⟩
  have c0B : decide (n0 < 0) = false := decide_eq_false c0
  by_cases c1 : 110 < n0
  · have cB : decide (110 < n0) = true := decide_eq_true c1
    go_wp2_with fail
    go_ret
    exact ⟨rfl, hx1⟩
  have c1B : decide (110 < n0) = false := decide_eq_false c1
  by_cases c2 : n1 < 0
  · have cB : decide (n1 < 0) = true := decide_eq_true c2
    go_wp2_with fail
    go_ret
    exact ⟨rfl, hx1⟩
  have c2B : decide (n1 < 0) = false := decide_eq_false c2
  by_cases c3 : n0 ≤ n1
  · have cB : decide (n0 ≤ n1) = true := decide_eq_true c3
    go_wp2_with fail
    go_ret
    exact ⟨rfl, hx1⟩
  have c3B : decide (n0 ≤ n1) = false := decide_eq_false c3
  obtain ⟨n, hn⟩ : ∃ n : Nat, n0 = (n : Int) := ⟨n0.toNat, by omega⟩
  obtain ⟨g, hg⟩ : ∃ g : Nat, n1 = (g : Int) := ⟨n1.toNat, by omega⟩
  subst hn hg
  have hn110 : n ≤ 110 := by omega
  have hgn : g < n := by omega
  have c3C : decide (n ≤ g) = false := decide_eq_false (by omega)
  clear c0 c1 c2 c3 c3B
  go_wp2_with fail
  go_loopg [5, 29] n (fun m v i wr => ∃ (j : Nat) (F : Nat → Prop), j + m = n ∧ i = .int .i64 (j : Int) ∧ (∀ b, F b → b < wr.heap.size ∧ v.ownBlock ≠ some b) ∧ OwnR wr w1.heap.size 29 F v (Fl.fullL j) ∧ Below w1.heap.size w1 wr)
  case atStart => exact ⟨0, fun _ => False, by omega, rfl, fun b hb => hb.elim, OwnR.nil_ _ _ _ _ _, Below.refl _ _⟩
  case round =>
    obtain ⟨j, F, hj, rfl, hF, hO, hx⟩ := hrel
    have hBr : w1.heap.size ≤ wr.heap.size := hx.size
    obtain ⟨A1, c1, hv1, hl1, hc1⟩ := hO.shape
    unfold maxLen at hc1
    have hlj := Fl.fullL_len j
    rw [hlj] at hv1 hl1
    subst hv1
    by_cases hlt : j < n
    · have hltB : (j : Int) < (n : Int) := by omega
      have hj0 : (0 : Int) ≤ (j : Int) := by omega
      have hj110 : (j : Int) < 110 := by omega
      have e1 := bv_small (j := j) (by omega)
      have e2 : bv (UInt8.ofNat (j / 7)) = .int .u8 ((j : Int) / 7) := by rw [bv_small (by omega)]; congr 1
      have hE := RdL.newF wr (fun _ => False) 5 [[.int .u8 (j : Int)], [.int .u8 ((j : Int) / 7)]] (Fl.entF j) (by simp [Fl.entF, maxLen]) rfl (fun i a ha => by
        match i, ha with
        | 0, ha => injection ha with ha; subst ha; exact ⟨_, rfl, by rw [← e1]; rfl⟩
        | 1, ha => injection ha with ha; subst ha; exact ⟨_, rfl, by rw [← e2]; rfl⟩)
      have hxa : Below wr.heap.size wr (wr.alloc (.cells #[.int .u8 (j : Int), .int .u8 ((j : Int) / 7)] 5)) := (Below.refl _ _).alloc (Nat.le_refl _) _
      have hltO := hO.lt
      have hF2 : ∀ b, (F b ∨ b = wr.heap.size) → b < (wr.alloc (.cells #[.int .u8 (j : Int), .int .u8 ((j : Int) / 7)] 5)).heap.size ∧ (Value.slice A1 j c1).ownBlock ≠ some b := fun b hb => by
        rcases hb with hb | hb
        · obtain ⟨h1, h2⟩ := hF b hb
          exact ⟨Nat.lt_of_lt_of_le h1 hxa.size, h2⟩
        · subst hb
          exact ⟨by simp, fun e => by have := hltO _ e; omega⟩
      have hOa : OwnR (wr.alloc (.cells #[.int .u8 (j : Int), .int .u8 ((j : Int) / 7)] 5)) w1.heap.size 29 (fun b => F b ∨ b = wr.heap.size) (.slice A1 j c1) (Fl.fullL j) := by
        exact (hO.alloc (.cells #[.int .u8 (j : Int), .int .u8 ((j : Int) / 7)] 5)).weak (F' := fun b => F b ∨ b = wr.heap.size) fun b _ hb => .inl hb
      have hEb : Bytes (wr.alloc (.cells #[.int .u8 (j : Int), .int .u8 ((j : Int) / 7)] 5)) (fun b => F b ∨ b = wr.heap.size) (.slice (some ⟨wr.heap.size, 0, none⟩) 2 2) (Fl.entF j) := rdL_bytes.1 (hE.weak fun b _ hb => by rcases hb with hb | hb; exact hb.elim; exact .inr hb)
      obtain ⟨xs, hown, hin⟩ := hOa
      have hownA := hown.alloc (.cells #[.int .i64 1, .int .i64 0, .int .i64 5, .slice (some ⟨wr.heap.size, 0, none⟩) 2 2, .int .i64 0, .int .i64 0, .int .u8 0] 29)
      rw [hlj] at hown hownA
      have hsrc := SlAt.newK (wr.alloc (.cells #[.int .u8 (j : Int), .int .u8 ((j : Int) / 7)] 5)) 29 [.int .i64 1, .int .i64 0, .int .i64 5, .slice (some ⟨wr.heap.size, 0, none⟩) 2 2, .int .i64 0, .int .i64 0, .int .u8 0] 7 rfl
      rw [World.size_alloc] at hsrc
      have hxA : Below (wr.alloc (.cells #[.int .u8 (j : Int), .int .u8 ((j : Int) / 7)] 5)).heap.size (wr.alloc (.cells #[.int .u8 (j : Int), .int .u8 ((j : Int) / 7)] 5)) ((wr.alloc (.cells #[.int .u8 (j : Int), .int .u8 ((j : Int) / 7)] 5)).alloc (.cells #[.int .i64 1, .int .i64 0, .int .i64 5, .slice (some ⟨wr.heap.size, 0, none⟩) 2 2, .int .i64 0, .int .i64 0, .int .u8 0] 29)) := (Below.refl _ _).alloc (Nat.le_refl _) _
      have hBa : w1.heap.size ≤ (wr.alloc (.cells #[.int .u8 (j : Int), .int .u8 ((j : Int) / 7)] 5)).heap.size := Nat.le_trans hBr hxa.size
      have hBA : w1.heap.size ≤ ((wr.alloc (.cells #[.int .u8 (j : Int), .int .u8 ((j : Int) / 7)] 5)).alloc (.cells #[.int .i64 1, .int .i64 0, .int .i64 5, .slice (some ⟨wr.heap.size, 0, none⟩) 2 2, .int .i64 0, .int .i64 0, .int .u8 0] 29)).heap.size := Nat.le_trans hBa hxA.size
      have HG := Lib.hid (Gro.refl (w := wr.alloc (.cells #[.int .u8 (j : Int), .int .u8 ((j : Int) / 7)] 5)) (B := w1.heap.size) (F := fun b => F b ∨ b = wr.heap.size) (v := .slice A1 j c1) (L := Fl.fullL j) ⟨xs, by rw [hlj]; exact hown, hin⟩)
      have HLJ := Lib.hid hlj
      have HT := Lib.hid (Fl.fullL_succ j)
      have hx1a := hx.trans (hxa.mono hBr)
      clear hlj e1 e2 hO hE
      generalize Fl.fullL j = L1 at *
      go_wp2_with (at_builtin
                   refine wpList_append_Own _ (by rfl) (.tmp 32) (.tmp 40) 25 (by rfl) w1.heap.size 29 i0 _ 7 72 Try.underlying25 hi hz0 hz1 hz2 (by rfl) (by omega) (.slice A1 j c1) j xs (by rfl) hownA _ _ 1 [.int .i64 1, .int .i64 0, .int .i64 5, .slice (some ⟨wr.heap.size, 0, none⟩) 2 2, .int .i64 0, .int .i64 0, .int .u8 0] (by rfl) hsrc (by simp [Value.oneCell']) (by simp only [maxLen]; omega) (by omega) hBA ?_
                   intro v2 w2 hown2 hgr2 hat2
                   have hG2 : Gro (wr.alloc (.cells #[.int .u8 (j : Int), .int .u8 ((j : Int) / 7)] 5)) w2 w1.heap.size (fun b => F b ∨ b = wr.heap.size) (.slice A1 j c1) v2 (L1 ++ [Fl.subD 5 (Fl.entF j)]) := HG.out.snoc hF2 hin (by rw [hown.1, HLJ.out]; rfl) HLJ.out.symm hxA hBa hgr2 hat2 (fun b hb => (hown.lt b hb).1) (d := Fl.subD 5 (Fl.entF j)) hEb hown2
                   have hx2 := hx1a.trans (hG2.bel.mono (Nat.le_refl _)))
      go_roundg (gk - 1)
      case measure => omega
      case rel => exact ⟨j + 1, fun b => F b ∨ b = wr.heap.size, by omega, by go_num, fun b hb => ⟨Nat.lt_of_lt_of_le (hF2 b hb).1 hG2.size, hG2.far (hF2 b hb).1 (hF2 b hb).2⟩, by rw [HT.out]; exact hG2.own, hx2⟩
    · have hltB : decide ((j : Int) < (n : Int)) = false := decide_eq_false (by omega)
      have hjn : j = n := by omega
      have HJN := Lib.hid hjn
      have hO2 : OwnR wr w1.heap.size 29 F (.slice A1 j c1) (Fl.fullL n) := by rw [← hjn]; exact hO
      clear hjn hO
      have hgl : g < (Fl.fullL n).length := by rw [Fl.fullL_len]; exact hgn
      have hel : Hid ((Fl.fullL n)[g] = Fl.subD 5 (Fl.entF g)) := Lib.hid (by simp [Fl.fullL])
      obtain ⟨gO, oO, cO, hA, hgO, ecs, hre, hce⟩ := own_at hO2 hgl
      injection hA with hA hA1 hA2
      clear hA1
      subst hA hA2
      rw [hel.out] at hre
      obtain ⟨f1, f1', rfl, g1, f2, f2', rfl, g2, f3, f3', rfl, g3, f4, f4', rfl, ⟨u, g4', g4⟩, f5, f5', rfl, g5, f6, f7, rfl, g6, g7⟩ := hre
      have q1 : f1 = [.int .i64 1] := g1
      have q2 : f2 = [.int .i64 0] := g2
      have q3 : f3 = [.int .i64 5] := g3
      have q5 : f5 = [.int .i64 0] := g5
      have q6 : f6 = [.int .i64 0] := g6
      have q7 : f7 = [.int .u8 0] := g7
      subst q1 q2 q3 g4' q5 q6 q7
      have hub : Bytes wr F u (Fl.entF g) := rdL_bytes.1 g4
      obtain ⟨AE, cE, hU⟩ := hub.form
      have he2 : (Fl.entF g).length = 2 := rfl
      rw [he2] at hU
      subst hU
      have p0 : wr.cell? ⟨gO, oO + g * 7, none⟩ = some (.int .i64 1) := hce 0 _ rfl
      have p1 : wr.cell? ⟨gO, oO + g * 7 + 1, none⟩ = some (.int .i64 0) := hce 1 _ rfl
      have p2 : wr.cell? ⟨gO, oO + g * 7 + 2, none⟩ = some (.int .i64 5) := hce 2 _ rfl
      have p3 : wr.cell? ⟨gO, oO + g * 7 + 3, none⟩ = some (.slice AE 2 cE) := hce 3 _ rfl
      have p4 : wr.cell? ⟨gO, oO + g * 7 + 4, none⟩ = some (.int .i64 0) := hce 4 _ rfl
      have p5 : wr.cell? ⟨gO, oO + g * 7 + 5, none⟩ = some (.int .i64 0) := hce 5 _ rfl
      have p6 : wr.cell? ⟨gO, oO + g * 7 + 6, none⟩ = some (.int .u8 0) := hce 6 _ rfl
      have HG := Lib.hid (Gro.refl (B := w1.heap.size) (F := F) hO2)
      obtain ⟨xs, hown, hin⟩ := hO2
      rw [Fl.fullL_len] at hown
      have hgj : (g : Int) < (j : Int) := by have := HJN.out; omega
      have hg0 : (0 : Int) ≤ (g : Int) := by omega
      have hownJ : Own wr w1.heap.size 29 7 (.slice (some ⟨gO, oO, none⟩) j c1) j xs := by rw [HJN.out] at *; exact hown
      have hownA := hownJ.alloc (.cells #[.int .i64 1, .int .i64 0, .int .i64 5, .slice AE 2 cE, .int .i64 0, .int .i64 0, .int .u8 0] 29)
      have hsrc := SlAt.newK wr 29 [.int .i64 1, .int .i64 0, .int .i64 5, .slice AE 2 cE, .int .i64 0, .int .i64 0, .int .u8 0] 7 rfl
      have hxA : Below wr.heap.size wr (wr.alloc (.cells #[.int .i64 1, .int .i64 0, .int .i64 5, .slice AE 2 cE, .int .i64 0, .int .i64 0, .int .u8 0] 29)) := (Below.refl _ _).alloc (Nat.le_refl _) _
      have hBA : w1.heap.size ≤ (wr.alloc (.cells #[.int .i64 1, .int .i64 0, .int .i64 5, .slice AE 2 cE, .int .i64 0, .int .i64 0, .int .u8 0] 29)).heap.size := Nat.le_trans hBr hxA.size
      have HFL := Lib.hid (Fl.fullL_len n)
      have hj110 : j ≤ 110 := by have := HJN.out; omega
      clear g1 g2 g3 g4 g5 g6 g7 hce hown hel he2
      generalize gk = gk0 at *
      generalize wr = w2 at *
      go_wp2_with (at_builtin
                   refine wpList_append_Own _ (by rfl) (.tmp 43) (.tmp 48) 25 (by rfl) w1.heap.size 29 i0 _ 7 72 Try.underlying25 hi hz0 hz1 hz2 (by rfl) (by omega) (.slice (some ⟨gO, oO, none⟩) j c1) j xs (by rfl) hownA _ _ 1 [.int .i64 1, .int .i64 0, .int .i64 5, .slice AE 2 cE, .int .i64 0, .int .i64 0, .int .u8 0] (by rfl) hsrc (by simp [Value.oneCell']) (by simp only [maxLen]; omega) (by omega) hBA ?_
                   intro v3 w3 hown3 hgr3 hat3
                   have hG3 : Gro w2 w3 w1.heap.size F (.slice (some ⟨gO, oO, none⟩) j c1) v3 (Fl.fullL n ++ [Fl.subD 5 (Fl.entF g)]) := HG.out.snoc hF hin (by rw [hownJ.1, HFL.out, HJN.out]) (by rw [HFL.out, HJN.out]) hxA hBr hgr3 hat3 (fun b hb => (hownJ.lt b hb).1) (d := Fl.subD 5 (Fl.entF g)) hub hown3)
      have hx03 := hx1.trans ((hx.trans (hG3.bel)).mono hx1.size)
      have hl3 : RdL w3 (fun _ => True) v3 (Fl.fullL n ++ [Fl.subD 5 (Fl.entF g)]) := OwnR.rd (OwnR.weak hG3.own (fun _ _ _ => trivial)) (fun _ _ => trivial)
      obtain ⟨Al, cl, hv3, _, _⟩ := hl3.form
      have hll : (Fl.fullL n ++ [Fl.subD 5 (Fl.entF g)]).length = n + 1 := by rw [List.length_append, Fl.fullL_len]; rfl
      rw [hll] at hv3
      subst hv3
      have HLL := Lib.hid hll
      clear hll hG3 hown3 hgr3 hat3
      with_reducible refine (windows_at w3 1 1 rfl (by decide)).mono ?_
      rintro e w4 ⟨vw, rfl, hvw, hx34⟩
      have hx04 := hx03.trans (hx34.mono hx03.size)
      have hvr : RdL w4 (fun _ => True) vw (Fl.windowsL 1) := OwnR.rd hvw (fun _ _ => trivial)
      obtain ⟨Aw, cw, hvw4, _, _⟩ := hvr.form
      subst hvw4
      have hl4 := hl3.below hx34
      clear hvw hl3
      obtain ⟨ly, HLY⟩ : ∃ ly, Hid (ly = Fl.fullL n ++ [Fl.subD 5 (Fl.entF g)]) := ⟨_, Lib.hid rfl⟩
      rw [← HLY.out] at hl4 HLL
      obtain ⟨fx, lax, ax, bx, hpl⟩ : ∃ f_ la_ a_ b_, Fl.play (Fl.windowsL 1) ly = (f_, la_, (a_, b_)) := ⟨_, _, _, _, rfl⟩
      have HP := Lib.hid (play_any w4 _ _ _ _ (Fl.windowsL 1) ly hvr hl4)
      rw [hpl] at HP
      have HPLx := Lib.hid hpl
      clear hpl
      go_wp2_with fail
      refine HP.out.mono ?_
      rintro e w5 ⟨vs, vb, va, rfl, qsx, qbx, qax, hxpx⟩
      simp only at qsx qbx qax ⊢
      replace qsx := qsx.weak (F' := fun b => b < w5.heap.size) fun b hb _ => hb
      replace qbx := qbx.weak (F' := fun b => b < w5.heap.size) fun b hb _ => hb
      replace qax := qax.weak (F' := fun b => b < w5.heap.size) fun b hb _ => hb
      obtain ⟨Asx, csx, hvs, hlsx, hcsx⟩ := qsx.form
      obtain ⟨Abx, cbx, hvb, hlbx, hcbx⟩ := qbx.form
      obtain ⟨Aax, cax, hva, hlax, hcax⟩ := qax.form
      unfold maxLen at hcsx hcbx hcax
      subst hvs hvb hva
      clear HP
      go_upto_region 13 with (fail)
      have hxqx := ((Below.refl w5.heap.size w5).alloc (Nat.le_refl _) (.cells #[.slice Asx fx.sh.length csx, .slice Abx fx.book.length cbx] 34)).alloc (by simp) (.cells #[.int .i64 (ax : Int), .int .i64 (bx : Int)] 38)
      have hbFx : Blk ((w5.alloc (.cells #[.slice Asx fx.sh.length csx, .slice Abx fx.book.length cbx] 34)).alloc (.cells #[.int .i64 (ax : Int), .int .i64 (bx : Int)] 38)) w5.heap.size 34 #[.slice Asx fx.sh.length csx, .slice Abx fx.book.length cbx] := Blk.alloc (heap_alloc_new w5 _) _
      have hbWx : Blk ((w5.alloc (.cells #[.slice Asx fx.sh.length csx, .slice Abx fx.book.length cbx] 34)).alloc (.cells #[.int .i64 (ax : Int), .int .i64 (bx : Int)] 38)) (w5.heap.size + 1) 38 #[.int .i64 (ax : Int), .int .i64 (bx : Int)] := by
        have := heap_alloc_new (w5.alloc (.cells #[.slice Asx fx.sh.length csx, .slice Abx fx.book.length cbx] 34)) (.cells #[.int .i64 (ax : Int), .int .i64 (bx : Int)] 38)
        rw [World.size_alloc] at this
        exact this
      generalize ((w5.alloc (.cells #[.slice Asx fx.sh.length csx, .slice Abx fx.book.length cbx] 34)).alloc (.cells #[.int .i64 (ax : Int), .int .i64 (bx : Int)] 38)) = w6 at *
      have hxsx := hxpx.trans (hxqx.mono hxpx.size)
      have hxxB := hx04.trans (hxsx.mono hx04.size)
      replace qsx := qsx.below hxqx
      replace qbx := qbx.below hxqx
      replace qax := qax.below hxqx
      have hgwx : w4.heap.size ≤ w5.heap.size := hxpx.size
      clear hxpx hxqx
      generalize w5.heap.size = gx at *
      have hpl0 : Fl.play (Fl.windowsL 1) ly = ((Fl.run (Fl.start (Fl.windowsL 1)) ly).1, (Fl.run (Fl.start (Fl.windowsL 1)) ly).2, (0, 0)) := by
        unfold Fl.play
        rw [Fl.wrong_windows 1 (by decide), if_neg (by simp), if_neg (by rw [HLL.out]; omega)]
      have hpp := hpl0.symm.trans HPLx.out
      injection hpp with q1 q2
      injection q2 with q2 q3
      injection q3 with q3 q4
      have b0 : ((ax : Int) != 0) = false := by rw [← q3]; rfl
      have hlen : Hid (lax.length = n + 1) := Lib.hid (by rw [← q2, Fl.length_run, HLL.out])
      have HAT : Hid (∀ i (h : i < n) (h2 : i < lax.length), lax[i].err = 0 ↔ i < 100) := Lib.hid (fun i h h2 => by
        obtain ⟨x, hx1, hx2⟩ := Fl.full_at (again := g) hn110 h
        rw [← HLY.out, q2, List.getElem?_eq_getElem h2] at hx1
        injection hx1 with hx1
        rw [hx1]
        exact hx2)
      have HAG : Hid (∀ (h2 : n < lax.length), (g < 100 → lax[n].err = 0 ∧ lax[n].pl = g) ∧ (¬ g < 100 → lax[n].err = 5)) := Lib.hid (fun h2 => by
        obtain ⟨x, hx1, hx2⟩ := Fl.full_again hn110 hgn
        rw [← HLY.out, q2, List.getElem?_eq_getElem h2] at hx1
        injection hx1 with hx1
        rw [hx1]
        exact hx2)
      have e0 : w6.cell? ⟨gx + 1, 0, none⟩ = some (.int .i64 (ax : Int)) := hbWx.cell 0
      clear hpl0 q1 q2 q3 q4 hbFx hbWx qsx qbx
      go_wp2_with fail
      clear e0
      go_loopg [61] n (fun m i wr => ∃ j : Nat, j + m = n ∧ i = .int .i64 (j : Int) ∧ Below w6.heap.size w6 wr)
      case atStart => exact ⟨0, by omega, rfl, Below.refl _ _⟩
      case round =>
        obtain ⟨i, hi', rfl, hxi⟩ := hrel
        have hxr := hxxB.trans (hxi.mono hxxB.size)
        by_cases hlti : i < n
        · have hlt2 : i < lax.length := by have := hlen.out; omega
          obtain ⟨g6, o6, c6, u6, hA1, -, hg6, z0, -⟩ := ans_at (qax.below hxi) hlt2
          injection hA1 with hA1 hA2 hA3
          clear hA2
          subst hA1 hA3
          have hltB : (i : Int) < (n : Int) := by omega
          have hlt2B : (i : Int) < (lax.length : Int) := by omega
          have hi0 : (0 : Int) ≤ (i : Int) := by omega
          have hA := HAT.out i hlti hlt2
          generalize lax[i].err = re at *
          by_cases h100 : i < 100
          · have hre : re = 0 := hA.2 h100
            subst hre
            have h100B : (i : Int) < 100 := by omega
            clear hA
            go_wp2_with fail
            go_roundg (gk - 1)
            case measure => omega
            case rel => exact ⟨i + 1, by omega, by go_num, hxi⟩
          · have hre : ((re : Int) == 0) = false := by rw [beq_eq_false_iff_ne]; intro h; exact h100 (hA.1 (by omega))
            have h100B : decide ((i : Int) < 100) = false := decide_eq_false (by omega)
            clear hA
            go_wp2_with fail
            go_roundg (gk - 1)
            case measure => omega
            case rel => exact ⟨i + 1, by omega, by go_num, hxi⟩
        · have hltB : decide ((i : Int) < (n : Int)) = false := decide_eq_false (by omega)
          have hlt2 : n < lax.length := by have := hlen.out; omega
          obtain ⟨g6, o6, c6, u6, hA1, -, hg6, z0, z1, z2, -⟩ := ans_at (qax.below hxi) hlt2
          injection hA1 with hA1 hA2 hA3
          clear hA2
          subst hA1 hA3
          obtain ⟨k1, k2⟩ := HAG.out hlt2
          have hlt2B : (n : Int) < (lax.length : Int) := by omega
          have hn0 : (0 : Int) ≤ (n : Int) := by omega
          by_cases hg1 : g < 100
          · obtain ⟨k3, k4⟩ := k1 hg1
            rw [k3] at z0
            rw [k4] at z2
            have hgB : (g : Int) < 100 := by omega
            clear k1 k2 k3 k4
            go_wp2_with fail
            go_ret
            exact ⟨rfl, hxr⟩
          · have k3 := k2 hg1
            rw [k3] at z0
            have hgB : decide ((g : Int) < 100) = false := decide_eq_false (by omega)
            clear k1 k2 k3
            go_wp2_with fail
            go_ret
            exact ⟨rfl, hxr⟩
end Go.Proofs.Ytnfaefgmekfloaa
