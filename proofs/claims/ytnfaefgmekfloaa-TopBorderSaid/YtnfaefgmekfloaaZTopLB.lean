/-
  THE WALK of TopBorder. Conditions: none.
-/
import Derived.Test.YtnfaefgmekfloaaZTopD
import Derived.Test.YtnfaefgmekfloaaZTopO
namespace Go.Proofs.Ytnfaefgmekfloaa
open Go.RowKit Go.Lib

set_option maxRecDepth 100000 in
set_option maxHeartbeats 8000000 in
theorem topBorder_walk (w : World) (n0 n1 n2 n3 n4 : Int) :
    Calls Try.prog 4 #[.int .i64 n0, .int .i64 n1, .int .i64 n2, .int .i64 n3, .int .i64 n4] w fun e w' => e = .returned (.bool true) ∧ Below w.heap.size w w' := by
  go_enter Try.func4, Try.ntmps4
  go_wp2_with fail
  with_reducible refine (aliveT w).mono ?_
  rintro e w1 ⟨rfl, hx1⟩
  by_cases c0 : n0 < 0
  · have cB : decide (n0 < 0) = true := decide_eq_true c0
    go_wp2_with fail
    go_ret
    exact ⟨rfl, hx1⟩
  have c0B : decide (n0 < 0) = false := decide_eq_false c0
  by_cases c1 : n1 ≤ n0
  · have cB : decide (n1 ≤ n0) = true := decide_eq_true c1
    go_wp2_with fail
    go_ret
    exact ⟨rfl, hx1⟩
  have c1B : decide (n1 ≤ n0) = false := decide_eq_false c1
  by_cases c2 : n2 < n1
  · have cB : decide (n2 < n1) = true := decide_eq_true c2
    go_wp2_with fail
    go_ret
    exact ⟨rfl, hx1⟩
  have c2B : decide (n2 < n1) = false := decide_eq_false c2
  by_cases c3 : n3 ≤ n2
  · have cB : decide (n3 ≤ n2) = true := decide_eq_true c3
    go_wp2_with fail
    go_ret
    exact ⟨rfl, hx1⟩
  have c3B : decide (n3 ≤ n2) = false := decide_eq_false c3
  by_cases c4 : 1000000 < n3
  · have cB : decide (1000000 < n3) = true := decide_eq_true c4
    go_wp2_with fail
    go_ret
    exact ⟨rfl, hx1⟩
  have c4B : decide (1000000 < n3) = false := decide_eq_false c4
  have hW0 : RdL (w1.alloc (.cells #[.int .i64 n0, .int .i64 n1, .int .i64 n2, .int .i64 n3] 56)) (fun _ => True) (.slice (some ⟨w1.heap.size, 0, none⟩) 2 2) [(n0, n1), (n2, n3)] :=
    RdL.new w1 (fun _ => True) 56 [[.int .i64 n0, .int .i64 n1], [.int .i64 n2, .int .i64 n3]] [(n0, n1), (n2, n3)] (by simp [maxLen]) rfl (fun i a ha => by
      match i, ha with
      | 0, ha => injection ha with ha; subst ha; exact ⟨_, rfl, [_], [_], rfl, rfl, rfl⟩
      | 1, ha => injection ha with ha; subst ha; exact ⟨_, rfl, [_], [_], rfl, rfl, rfl⟩)
  have hB0 : RdL ((w1.alloc (.cells #[.int .i64 n0, .int .i64 n1, .int .i64 n2, .int .i64 n3] 56)).alloc (.cells #[.int .u8 1] 5)) (fun _ => True) (.slice (some ⟨w1.heap.size + 1, 0, none⟩) 1 1) ([1] : Bs) := by
    have := RdL.new (w1.alloc (.cells #[.int .i64 n0, .int .i64 n1, .int .i64 n2, .int .i64 n3] 56)) (fun _ => True) 5 [[bv 1]] ([1] : Bs) (by decide) rfl (fun i a ha => by
      match i, ha with
      | 0, ha => injection ha with ha; subst ha; exact ⟨_, rfl, rfl⟩)
    rw [World.size_alloc] at this
    exact this
  have hD0 : RdL (((w1.alloc (.cells #[.int .i64 n0, .int .i64 n1, .int .i64 n2, .int .i64 n3] 56)).alloc (.cells #[.int .u8 1] 5)).alloc (.cells #[.int .i64 1, .int .i64 0, .int .i64 n4, .slice (some ⟨w1.heap.size + 1, 0, none⟩) 1 1, .int .i64 0, .int .i64 0, .int .u8 0] 29)) (fun _ => True) (.slice (some ⟨w1.heap.size + 1 + 1, 0, none⟩) 1 1) [Fl.subD n4 [1]] := by
    have := RdL.new ((w1.alloc (.cells #[.int .i64 n0, .int .i64 n1, .int .i64 n2, .int .i64 n3] 56)).alloc (.cells #[.int .u8 1] 5)) (fun _ => True) 29 [[.int .i64 1, .int .i64 0, .int .i64 n4, .slice (some ⟨w1.heap.size + 1, 0, none⟩) 1 1, .int .i64 0, .int .i64 0, .int .u8 0]] [Fl.subD n4 [1]] (by simp [maxLen]) rfl (fun i a ha => by
      match i, ha with
      | 0, ha => injection ha with ha; subst ha; exact ⟨_, rfl, dob_rd (Fl.subD n4 [1]) (rdL_bytes.1 hB0)⟩)
    rw [World.size_alloc, World.size_alloc] at this
    exact this
  have hW2 : RdL (((w1.alloc (.cells #[.int .i64 n0, .int .i64 n1, .int .i64 n2, .int .i64 n3] 56)).alloc (.cells #[.int .u8 1] 5)).alloc (.cells #[.int .i64 1, .int .i64 0, .int .i64 n4, .slice (some ⟨w1.heap.size + 1, 0, none⟩) 1 1, .int .i64 0, .int .i64 0, .int .u8 0] 29)) (fun _ => True) (.slice (some ⟨w1.heap.size, 0, none⟩) 2 2) [(n0, n1), (n2, n3)] := (hW0.alloc (.cells #[.int .u8 1] 5)).alloc (.cells #[.int .i64 1, .int .i64 0, .int .i64 n4, .slice (some ⟨w1.heap.size + 1, 0, none⟩) 1 1, .int .i64 0, .int .i64 0, .int .u8 0] 29)
  have hx12 : Below w1.heap.size w1 (((w1.alloc (.cells #[.int .i64 n0, .int .i64 n1, .int .i64 n2, .int .i64 n3] 56)).alloc (.cells #[.int .u8 1] 5)).alloc (.cells #[.int .i64 1, .int .i64 0, .int .i64 n4, .slice (some ⟨w1.heap.size + 1, 0, none⟩) 1 1, .int .i64 0, .int .i64 0, .int .u8 0] 29)) := (((Below.refl w1.heap.size w1).alloc (Nat.le_refl _) (.cells #[.int .i64 n0, .int .i64 n1, .int .i64 n2, .int .i64 n3] 56)).alloc (by simp) (.cells #[.int .u8 1] 5)).alloc (by simp; omega) (.cells #[.int .i64 1, .int .i64 0, .int .i64 n4, .slice (some ⟨w1.heap.size + 1, 0, none⟩) 1 1, .int .i64 0, .int .i64 0, .int .u8 0] 29)
  have hx02 := hx1.trans (hx12.mono hx1.size)
  obtain ⟨hwr, a, hr, k1, k2, k3⟩ := Fl.border (fr := n0) (mi := n1) (ga := n2) (tt := n3) (t := n4) (by omega) (by omega) (by omega) (by omega) (by omega)
  have hpl0 : Fl.play [(n0, n1), (n2, n3)] [Fl.subD n4 [1]] = ((Fl.run (Fl.start [(n0, n1), (n2, n3)]) [Fl.subD n4 [1]]).1, [a], (0, 0)) := by
    unfold Fl.play
    rw [hwr, if_neg (by simp), if_neg (by simp), hr]
  have HPL0 := Lib.hid hpl0
  have HK1 := Lib.hid k1
  have HK2 := Lib.hid k2
  have HK3 := Lib.hid k3
  clear hpl0 hwr hr k1 k2 k3 hW0 hB0
  go_wp2_with fail
  generalize (((w1.alloc (.cells #[.int .i64 n0, .int .i64 n1, .int .i64 n2, .int .i64 n3] 56)).alloc (.cells #[.int .u8 1] 5)).alloc (.cells #[.int .i64 1, .int .i64 0, .int .i64 n4, .slice (some ⟨w1.heap.size + 1, 0, none⟩) 1 1, .int .i64 0, .int .i64 0, .int .u8 0] 29)) = w2 at *
  obtain ⟨fx, lax, ax, bx, hpl⟩ : ∃ f_ la_ a_ b_, Fl.play [(n0, n1), (n2, n3)] [Fl.subD n4 [1]] = (f_, la_, (a_, b_)) := ⟨_, _, _, _, rfl⟩
  have HP := Lib.hid (play_any w2 _ _ _ _ [(n0, n1), (n2, n3)] [Fl.subD n4 [1]] hW2 hD0)
  rw [hpl] at HP
  have HPLx := Lib.hid hpl
  clear hpl
  refine HP.out.mono ?_
  rintro e w3 ⟨vs, vb, va, rfl, qsx, qbx, qax, hxpx⟩
  simp only at qsx qbx qax ⊢
  replace qsx := qsx.weak (F' := fun b => b < w3.heap.size) fun b hb _ => hb
  replace qbx := qbx.weak (F' := fun b => b < w3.heap.size) fun b hb _ => hb
  replace qax := qax.weak (F' := fun b => b < w3.heap.size) fun b hb _ => hb
  obtain ⟨Asx, csx, hvs, hlsx, hcsx⟩ := qsx.form
  obtain ⟨Abx, cbx, hvb, hlbx, hcbx⟩ := qbx.form
  obtain ⟨Aax, cax, hva, hlax, hcax⟩ := qax.form
  unfold maxLen at hcsx hcbx hcax
  subst hvs hvb hva
  clear HP
  go_upto_region 6 with (fail)
  have hxqx := ((Below.refl w3.heap.size w3).alloc (Nat.le_refl _) (.cells #[.slice Asx fx.sh.length csx, .slice Abx fx.book.length cbx] 34)).alloc (by simp) (.cells #[.int .i64 (ax : Int), .int .i64 (bx : Int)] 38)
  have hbFx : Blk ((w3.alloc (.cells #[.slice Asx fx.sh.length csx, .slice Abx fx.book.length cbx] 34)).alloc (.cells #[.int .i64 (ax : Int), .int .i64 (bx : Int)] 38)) w3.heap.size 34 #[.slice Asx fx.sh.length csx, .slice Abx fx.book.length cbx] := Blk.alloc (heap_alloc_new w3 _) _
  have hbWx : Blk ((w3.alloc (.cells #[.slice Asx fx.sh.length csx, .slice Abx fx.book.length cbx] 34)).alloc (.cells #[.int .i64 (ax : Int), .int .i64 (bx : Int)] 38)) (w3.heap.size + 1) 38 #[.int .i64 (ax : Int), .int .i64 (bx : Int)] := by
    have := heap_alloc_new (w3.alloc (.cells #[.slice Asx fx.sh.length csx, .slice Abx fx.book.length cbx] 34)) (.cells #[.int .i64 (ax : Int), .int .i64 (bx : Int)] 38)
    rw [World.size_alloc] at this
    exact this
  generalize ((w3.alloc (.cells #[.slice Asx fx.sh.length csx, .slice Abx fx.book.length cbx] 34)).alloc (.cells #[.int .i64 (ax : Int), .int .i64 (bx : Int)] 38)) = w4 at *
  have hxsx := hxpx.trans (hxqx.mono hxpx.size)
  have hxxB := hx02.trans (hxsx.mono hx02.size)
  replace qsx := qsx.below hxqx
  replace qbx := qbx.below hxqx
  replace qax := qax.below hxqx
  have hgwx : w2.heap.size ≤ w3.heap.size := hxpx.size
  clear hxpx hxqx
  generalize w3.heap.size = gx at *
  have hpp := HPL0.out.symm.trans HPLx.out
  injection hpp with q1 q2
  injection q2 with q2 q3
  injection q3 with q3 q4
  have e0 : w4.cell? ⟨gx + 1, 0, none⟩ = some (.int .i64 (ax : Int)) := hbWx.cell 0
  have b0 : ((ax : Int) != 0) = false := by rw [← q3]; rfl
  have hl1 : lax.length = 1 := by rw [← q2]; rfl
  have hl0 : 0 < lax.length := by omega
  have ha0 : lax[0] = a := by simp only [← q2]; rfl
  obtain ⟨g6, o6, c6, u6, hA1, -, hg6, z0, z1, -⟩ := ans_at qax hl0
  injection hA1 with hA1 hA2 hA3
  clear hA2
  subst hA1 hA3
  rw [ha0] at z0 z1
  have z0' : w4.cell? ⟨g6, o6, none⟩ = some (.int .i64 (a.err : Int)) := by rw [Nat.zero_mul, Nat.add_zero] at z0; exact z0
  have z1' : w4.cell? ⟨g6, o6 + 1, none⟩ = some (.int .i64 a.sh) := by rw [Nat.zero_mul, Nat.add_zero] at z1; exact z1
  have i0 : (0 : Int) < (lax.length : Int) := by omega
  clear q1 q2 q3 q4 z0 z1 ha0 hl1 hbFx hbWx qsx qbx qax
  by_cases k1 : n0 ≤ n4
  · by_cases k2 : n4 < n1
    · skip
      have he := HK1.out k1 k2
      obtain ⟨he1, he2⟩ := he
      rw [he1] at z0'
      rw [he2] at z1'
      clear he1 he2
      go_wp2_with fail
      go_ret
      exact ⟨rfl, hxxB⟩
    · have k2B : decide (n4 < n1) = false := decide_eq_false k2
      by_cases m1 : n2 ≤ n4
      · by_cases m2 : n4 < n3
        · skip
          have he := HK2.out (fun h => k2 h.2) m1 m2
          obtain ⟨he1, he2⟩ := he
          rw [he1] at z0'
          rw [he2] at z1'
          clear he1 he2
          go_wp2_with fail
          go_ret
          exact ⟨rfl, hxxB⟩
        · have m2B : decide (n4 < n3) = false := decide_eq_false m2
          have he := HK3.out (fun h => k2 h.2) (fun h => m2 h.2)
          rw [he] at z0'
          clear he
          go_wp2_with fail
          go_ret
          exact ⟨rfl, hxxB⟩
      · have m1B : decide (n2 ≤ n4) = false := decide_eq_false m1
        have he := HK3.out (fun h => k2 h.2) (fun h => m1 h.1)
        rw [he] at z0'
        clear he
        go_wp2_with fail
        go_ret
        exact ⟨rfl, hxxB⟩
  · have k1B : decide (n0 ≤ n4) = false := decide_eq_false k1
    by_cases m1 : n2 ≤ n4
    · exfalso
      omega
    · have m1B : decide (n2 ≤ n4) = false := decide_eq_false m1
      have he := HK3.out (fun h => k1 h.1) (fun h => m1 h.1)
      rw [he] at z0'
      clear he
      go_wp2_with fail
      go_ret
      exact ⟨rfl, hxxB⟩
end Go.Proofs.Ytnfaefgmekfloaa
