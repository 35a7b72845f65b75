/-
  THE WALK of yeartop.alive. Conditions: none.
-/
import Derived.Test.YtnfaefgmekfloaaZRepr
import Derived.Test.YtnfaefgmekfloaaZGp
import Derived.Test.YtnfaefgmekfloaaZTopB
import Derived.Test.YtnfaefgmekfloaaZTopC
namespace Go.Proofs.Ytnfaefgmekfloaa
open Go.RowKit Go.Lib

def lT : List Dob := Fl.yearL (Fl.yearL [] 0 [[1], [2]] 3) 1 [[3]] 1
theorem Fl.aliveT_plain : ∃ f la, Fl.play (Fl.windowsL 2) lT = (f, la, (0, 0)) ∧ la.length = 7 ∧ f.book.length = 2 ∧ (∃ h : 0 < f.sh.length, f.sh[0].st = 4) ∧ ∃ h : 6 < la.length, la[6].sz = 1 := by
  have u1 : Fl.Unlike [[1], [2]] := ⟨by decide, by decide, by decide⟩
  have u2 : Fl.Unlike [[3]] := ⟨by decide, by decide, by decide⟩
  have e1 := (Fl.year_run (f := Fl.start (Fl.windowsL 2)) (k := 0) (s := ⟨0, 10, 1, [], Shf.zeroM⟩) rfl rfl rfl rfl (by simp [Fl.start]) u1).2.2
  have e1' : (Fl.run (Fl.start (Fl.windowsL 2)) (Fl.yearL [] 0 [[1], [2]] 3)).1 = ⟨[⟨0, 10, 4, [], Shf.manOf [[1], [2]]⟩, ⟨10, 20, 1, [], Shf.zeroM⟩], [⟨0, 0, 10, 2, Tr.rootL [[1], [2]]⟩]⟩ := e1
  have e2 := (Fl.year_run (f := ⟨[⟨0, 10, 4, [], Shf.manOf [[1], [2]]⟩, ⟨10, 20, 1, [], Shf.zeroM⟩], [⟨0, 0, 10, 2, Tr.rootL [[1], [2]]⟩]⟩) (k := 1) (s := ⟨10, 20, 1, [], Shf.zeroM⟩) rfl rfl rfl rfl (by simp) u2).1
  have e2' : (Fl.run ⟨[⟨0, 10, 4, [], Shf.manOf [[1], [2]]⟩, ⟨10, 20, 1, [], Shf.zeroM⟩], [⟨0, 0, 10, 2, Tr.rootL [[1], [2]]⟩]⟩ (Fl.yearL [] 1 [[3]] 1)).1 = ⟨[⟨0, 10, 4, [], Shf.manOf [[1], [2]]⟩, ⟨10, 20, 2, [[3]], Shf.zeroM⟩], [⟨0, 0, 10, 2, Tr.rootL [[1], [2]]⟩, ⟨1, 10, 20, 1, Tr.rootL [[3]]⟩]⟩ := e2
  have hrun : (Fl.run (Fl.start (Fl.windowsL 2)) lT).1 = ⟨[⟨0, 10, 4, [], Shf.manOf [[1], [2]]⟩, ⟨10, 20, 2, [[3]], Shf.zeroM⟩], [⟨0, 0, 10, 2, Tr.rootL [[1], [2]]⟩, ⟨1, 10, 20, 1, Tr.rootL [[3]]⟩]⟩ := by
    unfold lT
    rw [Fl.yearL_app (Fl.yearL [] 0 [[1], [2]] 3), Fl.run_append, e1', e2']
  have hlen : (Fl.run (Fl.start (Fl.windowsL 2)) lT).2.length = 7 := by rw [Fl.length_run]; rfl
  have hd : lT[6]? = some (Fl.doD 2 1) := rfl
  obtain ⟨r1, _⟩ := Fl.run_at (f := Fl.start (Fl.windowsL 2)) hd
  have htk : lT.take 6 = Fl.yearL [] 0 [[1], [2]] 3 ++ [Fl.subD 15 [3]] := rfl
  have e3 := Fl.submit_new (f := ⟨[⟨0, 10, 4, [], Shf.manOf [[1], [2]]⟩, ⟨10, 20, 1, [], Shf.zeroM⟩], [⟨0, 0, 10, 2, Tr.rootL [[1], [2]]⟩]⟩) (k := 1) (s := ⟨10, 20, 1, [], Shf.zeroM⟩) (t := 15) (e := [3]) rfl rfl rfl (by simp) (by decide) (show 0 < 100 by decide)
  have e4 := Fl.step_freeze (f := ⟨[⟨0, 10, 4, [], Shf.manOf [[1], [2]]⟩, ⟨10, 20, 1, [[3]], Shf.zeroM⟩], [⟨0, 0, 10, 2, Tr.rootL [[1], [2]]⟩]⟩) (k := 1) (s := ⟨10, 20, 1, [[3]], Shf.zeroM⟩) rfl rfl
  have e4' : (Fl.step ⟨[⟨0, 10, 4, [], Shf.manOf [[1], [2]]⟩, ⟨10, 20, 1, [[3]], Shf.zeroM⟩], [⟨0, 0, 10, 2, Tr.rootL [[1], [2]]⟩]⟩ (Fl.doD 2 1)).2.sz = 1 := by
    have h : Fl.step ⟨[⟨0, 10, 4, [], Shf.manOf [[1], [2]]⟩, ⟨10, 20, 1, [[3]], Shf.zeroM⟩], [⟨0, 0, 10, 2, Tr.rootL [[1], [2]]⟩]⟩ (Fl.doD 2 1) = _ := e4
    rw [h]
    rfl
  have e5 : (Fl.run (Fl.start (Fl.windowsL 2)) (lT.take 6)).1 = ⟨[⟨0, 10, 4, [], Shf.manOf [[1], [2]]⟩, ⟨10, 20, 1, [[3]], Shf.zeroM⟩], [⟨0, 0, 10, 2, Tr.rootL [[1], [2]]⟩]⟩ := by
    rw [htk, Fl.run_append, e1']
    simp only [Fl.run, Fl.step_submit, e3]
    rfl
  rw [e5] at r1
  obtain ⟨h6, hg6⟩ := List.getElem?_eq_some_iff.1 r1
  refine ⟨(Fl.run (Fl.start (Fl.windowsL 2)) lT).1, (Fl.run (Fl.start (Fl.windowsL 2)) lT).2, ?_, hlen, by rw [hrun]; rfl, ⟨by rw [hrun]; decide, ?_⟩, h6, by rw [hg6]; exact e4'⟩
  · unfold Fl.play
    rw [Fl.wrong_windows 2 (by decide), if_neg (by simp), if_neg (show ¬ 120 < lT.length by decide)]
  · simp only [hrun, List.getElem_cons_zero]
set_option maxRecDepth 100000 in
set_option maxHeartbeats 8000000 in
theorem aliveT (w : World) : Calls Try.prog 11 #[] w fun e w' => e = .returned (.bool true) ∧ Below w.heap.size w w' := by
  go_enter Try.func11, Try.ntmps11
  go_wp2_with fail
  with_reducible refine (windows_at w 2 2 rfl (by decide)).mono ?_
  rintro e w1 ⟨vw, rfl, hvw, hx1⟩
  have hvr := OwnR.rd (F := fun b => b < w1.heap.size) (OwnR.weak hvw (fun k hk _ => hk)) (fun k hk => (hvw.lt k hk).2)
  have hb1 : RdL (w1.alloc (.cells #[.int .u8 1] 5)) (fun _ => True) (.slice (some ⟨w1.heap.size, 0, none⟩) 1 1) ([1] : Bs) :=
    RdL.new w1 (fun _ => True) 5 [[bv 1]] ([1] : Bs) (by decide) rfl (fun i a ha => by
      match i, ha with
      | 0, ha => injection ha with ha; subst ha; exact ⟨_, rfl, rfl⟩)
  have hb2 : RdL ((w1.alloc (.cells #[.int .u8 1] 5)).alloc (.cells #[.int .u8 2] 5)) (fun _ => True) (.slice (some ⟨(w1.alloc (.cells #[.int .u8 1] 5)).heap.size, 0, none⟩) 1 1) ([2] : Bs) :=
    RdL.new (w1.alloc (.cells #[.int .u8 1] 5)) (fun _ => True) 5 [[bv 2]] ([2] : Bs) (by decide) rfl (fun i a ha => by
      match i, ha with
      | 0, ha => injection ha with ha; subst ha; exact ⟨_, rfl, rfl⟩)
  rw [World.size_alloc] at hb2
  have hl12 : RdL (((w1.alloc (.cells #[.int .u8 1] 5)).alloc (.cells #[.int .u8 2] 5)).alloc (.cells #[.slice (some ⟨w1.heap.size, 0, none⟩) 1 1, .slice (some ⟨w1.heap.size + 1, 0, none⟩) 1 1] 27)) (fun _ => True) (.slice (some ⟨w1.heap.size + 1 + 1, 0, none⟩) 2 2) ([[1], [2]] : List Bs) := by
    have h := RdL.new ((w1.alloc (.cells #[.int .u8 1] 5)).alloc (.cells #[.int .u8 2] 5)) (fun _ => True) 27 [[.slice (some ⟨w1.heap.size, 0, none⟩) 1 1], [.slice (some ⟨w1.heap.size + 1, 0, none⟩) 1 1]] ([[1], [2]] : List Bs) (by decide) rfl (fun i a ha => by
      match i, ha with
      | 0, ha => injection ha with ha; subst ha; exact ⟨_, rfl, _, rfl, hb1.alloc _⟩
      | 1, ha => injection ha with ha; subst ha; exact ⟨_, rfl, _, rfl, hb2⟩)
    rw [World.size_alloc, World.size_alloc] at h
    exact h
  have hx14 : Below w1.heap.size w1 (((w1.alloc (.cells #[.int .u8 1] 5)).alloc (.cells #[.int .u8 2] 5)).alloc (.cells #[.slice (some ⟨w1.heap.size, 0, none⟩) 1 1, .slice (some ⟨w1.heap.size + 1, 0, none⟩) 1 1] 27)) := (((Below.refl w1.heap.size w1).alloc (Nat.le_refl _) (.cells #[.int .u8 1] 5)).alloc (by simp) (.cells #[.int .u8 2] 5)).alloc (by simp; omega) (.cells #[.slice (some ⟨w1.heap.size, 0, none⟩) 1 1, .slice (some ⟨w1.heap.size + 1, 0, none⟩) 1 1] 27)
  have hl12' := hl12.weak (F' := fun b => b < ((((w1.alloc (.cells #[.int .u8 1] 5)).alloc (.cells #[.int .u8 2] 5)).alloc (.cells #[.slice (some ⟨w1.heap.size, 0, none⟩) 1 1, .slice (some ⟨w1.heap.size + 1, 0, none⟩) 1 1] 27))).heap.size) fun b hb _ => hb
  go_wp2_with fail
  generalize (((w1.alloc (.cells #[.int .u8 1] 5)).alloc (.cells #[.int .u8 2] 5)).alloc (.cells #[.slice (some ⟨w1.heap.size, 0, none⟩) 1 1, .slice (some ⟨w1.heap.size + 1, 0, none⟩) 1 1] 27)) = w4 at *
  with_reducible refine (year_at w4 w4.heap.size (fun b => b < w4.heap.size) (.slice none 0 0) _ [] 0 [[1], [2]] 3 3 rfl (OwnR.nil_ _ _ _ _ _) (Nat.le_refl _) (fun b hb => ⟨hb, by simp [Value.ownBlock]⟩) hl12' (by decide) (by decide) (by decide) (by decide) (by decide)).mono ?_
  rintro e w5 ⟨v5, rfl, hG5⟩
  have hx15 := hx14.trans (hG5.bel.mono hx14.size)
  have hl3 : RdL ((w5.alloc (.cells #[.int .u8 3] 5)).alloc (.cells #[.slice (some ⟨w5.heap.size, 0, none⟩) 1 1] 27)) (fun b => b < (((w5.alloc (.cells #[.int .u8 3] 5)).alloc (.cells #[.slice (some ⟨w5.heap.size, 0, none⟩) 1 1] 27))).heap.size ∧ v5.ownBlock ≠ some b) (.slice (some ⟨w5.heap.size + 1, 0, none⟩) 1 1) ([[3]] : List Bs) := by
    have hlt := hG5.own.lt
    have h3' := RdL.newF w5 (fun _ => False) 5 [[bv 3]] ([3] : Bs) (by decide) rfl (fun i a ha => by
      match i, ha with
      | 0, ha => injection ha with ha; subst ha; exact ⟨_, rfl, rfl⟩)
    have h := RdL.newF (w5.alloc (.cells #[.int .u8 3] 5)) (fun b => False ∨ b = w5.heap.size) 27 [[.slice (some ⟨w5.heap.size, 0, none⟩) 1 1]] ([[3]] : List Bs) (by decide) rfl (fun i a ha => by
      match i, ha with
      | 0, ha => injection ha with ha; subst ha; exact ⟨_, rfl, _, rfl, h3'⟩)
    rw [World.size_alloc] at h
    exact h.weak fun b hb hF => ⟨hb, fun e => by have := hlt b e; rcases hF with (hF | hF) | hF <;> first | exact hF | omega⟩
  have hx57 : Below w5.heap.size w5 ((w5.alloc (.cells #[.int .u8 3] 5)).alloc (.cells #[.slice (some ⟨w5.heap.size, 0, none⟩) 1 1] 27)) := ((Below.refl w5.heap.size w5).alloc (Nat.le_refl _) (.cells #[.int .u8 3] 5)).alloc (by simp) (.cells #[.slice (some ⟨w5.heap.size, 0, none⟩) 1 1] 27)
  have hlt5 := hG5.own.lt
  have hL7 : OwnR ((w5.alloc (.cells #[.int .u8 3] 5)).alloc (.cells #[.slice (some ⟨w5.heap.size, 0, none⟩) 1 1] 27)) w4.heap.size 29 (fun b => b < (((w5.alloc (.cells #[.int .u8 3] 5)).alloc (.cells #[.slice (some ⟨w5.heap.size, 0, none⟩) 1 1] 27))).heap.size ∧ v5.ownBlock ≠ some b) v5 (Fl.yearL [] 0 [[1], [2]] 3) :=
    (hG5.own.below hx57).weak fun b hb hF => ⟨hb, fun e => by have := hlt5 b e; have h1 : b < w4.heap.size := hF; omega⟩
  have hsz : w4.heap.size ≤ w5.heap.size := hG5.size
  have hs7 : w4.heap.size ≤ (((w5.alloc (.cells #[.int .u8 3] 5)).alloc (.cells #[.slice (some ⟨w5.heap.size, 0, none⟩) 1 1] 27))).heap.size := Nat.le_trans hsz hx57.size
  have hx17 := hx15.trans (hx57.mono (Nat.le_trans hx14.size hsz))
  go_wp2_with fail
  generalize ((w5.alloc (.cells #[.int .u8 3] 5)).alloc (.cells #[.slice (some ⟨w5.heap.size, 0, none⟩) 1 1] 27)) = w7 at *
  with_reducible refine (year_at w7 w4.heap.size (fun b => b < w7.heap.size ∧ v5.ownBlock ≠ some b) v5 _ (Fl.yearL [] 0 [[1], [2]] 3) 1 [[3]] 1 1 rfl hL7 hs7 (fun b hb => hb) hl3 (by decide) (by decide) (by decide) (by decide) (by decide)).mono ?_
  rintro e w8 ⟨v8, rfl, hG8⟩
  have hx18 := hx17.trans (hG8.bel.mono hx14.size)
  have hw8 := hvr.below hx18
  have hl8 : RdL w8 (fun _ => True) v8 lT := OwnR.rd (OwnR.weak hG8.own (fun _ _ _ => trivial)) (fun _ _ => trivial)
  obtain ⟨Aw, cw, hvw8, _, _⟩ := hw8.form
  obtain ⟨Al, cl, hvl8, _, _⟩ := hl8.form
  subst hvw8 hvl8
  have hx08 := hx1.trans (hx18.mono hx1.size)
  clear hG8 hG5 hvr hvw hL7 hl3 hlt5 hl12 hl12' hb1 hb2
  obtain ⟨fA, la, hplain, p1, p2, ⟨p3, p3'⟩, p4, p4'⟩ := Fl.aliveT_plain
  obtain ⟨fx, lax, ax, bx, hpl⟩ : ∃ f_ la_ a_ b_, Fl.play (Fl.windowsL 2) lT = (f_, la_, (a_, b_)) := ⟨_, _, _, _, rfl⟩
  have HP := Lib.hid (play_any w8 _ _ _ _ (Fl.windowsL 2) lT hw8 hl8)
  rw [hpl] at HP
  have HPLx := Lib.hid hpl
  clear hpl
  go_wp2_with fail
  refine HP.out.mono ?_
  rintro e w9 ⟨vs, vb, va, rfl, qsx, qbx, qax, hxpx⟩
  simp only at qsx qbx qax ⊢
  replace qsx := qsx.weak (F' := fun b => b < w9.heap.size) fun b hb _ => hb
  replace qbx := qbx.weak (F' := fun b => b < w9.heap.size) fun b hb _ => hb
  replace qax := qax.weak (F' := fun b => b < w9.heap.size) fun b hb _ => hb
  obtain ⟨Asx, csx, hvs, hlsx, hcsx⟩ := qsx.form
  obtain ⟨Abx, cbx, hvb, hlbx, hcbx⟩ := qbx.form
  obtain ⟨Aax, cax, hva, hlax, hcax⟩ := qax.form
  unfold maxLen at hcsx hcbx hcax
  subst hvs hvb hva
  clear HP
  go_upto_region 2 with (fail)
  have hxqx := ((Below.refl w9.heap.size w9).alloc (Nat.le_refl _) (.cells #[.slice Asx fx.sh.length csx, .slice Abx fx.book.length cbx] 34)).alloc (by simp) (.cells #[.int .i64 (ax : Int), .int .i64 (bx : Int)] 38)
  have hbFx : Blk ((w9.alloc (.cells #[.slice Asx fx.sh.length csx, .slice Abx fx.book.length cbx] 34)).alloc (.cells #[.int .i64 (ax : Int), .int .i64 (bx : Int)] 38)) w9.heap.size 34 #[.slice Asx fx.sh.length csx, .slice Abx fx.book.length cbx] := Blk.alloc (heap_alloc_new w9 _) _
  have hbWx : Blk ((w9.alloc (.cells #[.slice Asx fx.sh.length csx, .slice Abx fx.book.length cbx] 34)).alloc (.cells #[.int .i64 (ax : Int), .int .i64 (bx : Int)] 38)) (w9.heap.size + 1) 38 #[.int .i64 (ax : Int), .int .i64 (bx : Int)] := by
    have := heap_alloc_new (w9.alloc (.cells #[.slice Asx fx.sh.length csx, .slice Abx fx.book.length cbx] 34)) (.cells #[.int .i64 (ax : Int), .int .i64 (bx : Int)] 38)
    rw [World.size_alloc] at this
    exact this
  generalize ((w9.alloc (.cells #[.slice Asx fx.sh.length csx, .slice Abx fx.book.length cbx] 34)).alloc (.cells #[.int .i64 (ax : Int), .int .i64 (bx : Int)] 38)) = w10 at *
  have hxsx := hxpx.trans (hxqx.mono hxpx.size)
  have hxxB := hx08.trans (hxsx.mono hx08.size)
  replace qsx := qsx.below hxqx
  replace qbx := qbx.below hxqx
  replace qax := qax.below hxqx
  have hgwx : w8.heap.size ≤ w9.heap.size := hxpx.size
  clear hxpx hxqx
  generalize w9.heap.size = gx at *
  have hpp := hplain.symm.trans HPLx.out
  injection hpp with q1 q2
  injection q2 with q2 q3
  injection q3 with q3 q4
  subst q1 q2
  have e0 : w10.cell? ⟨gx + 1, 0, none⟩ = some (.int .i64 (ax : Int)) := hbWx.cell 0
  have f0 : w10.cell? ⟨gx, 0, none⟩ = some (.slice Asx fA.sh.length csx) := hbFx.cell 0
  have f1 : w10.cell? ⟨gx, 1, none⟩ = some (.slice Abx fA.book.length cbx) := hbFx.cell 1
  obtain ⟨gS, oS, cS, y1, y2, y3, hA1, _, hgS, hcS, _⟩ := shd_at qsx p3
  injection hA1 with hA1 hA2 hA3
  clear hA2
  subst hA1 hA3
  obtain ⟨g6, o6, c6, u6, hA1, _, hg6, _, _, _, z3, _⟩ := ans_at qax p4
  injection hA1 with hA1 hA2 hA3
  clear hA2
  subst hA1 hA3
  have s2 : w10.cell? ⟨gS, oS + 2, none⟩ = some (.int .i64 fA.sh[0].st) := by have := hcS 2 _ rfl; rw [Nat.zero_mul, Nat.add_zero] at this; exact this
  rw [p3'] at s2
  rw [p4'] at z3
  have z3' : w10.cell? ⟨g6, o6 + 33, none⟩ = some (.int .i64 1) := z3
  have b0 : ((ax : Int) == 0) = true := by rw [← q3]; rfl
  have b1 : ((la.length : Int) == 7) = true := by rw [p1]; rfl
  have b2 : ((fA.book.length : Int) == 2) = true := by rw [p2]; rfl
  have i0 : (0 : Int) < (fA.sh.length : Int) := by omega
  have i6 : (6 : Int) < (la.length : Int) := by omega
  clear p1 p2 p3' p4' q3 q4 hplain hcS z3 hbFx hbWx qsx qbx qax
  go_wp2_with fail
  go_ret
  exact ⟨rfl, hxxB⟩
end Go.Proofs.Ytnfaefgmekfloaa
