/-
  THE WALK of tree.Push. Conditions: what is read is bytes, and lists of bytes.
-/
import Derived.Test.YtfdibjgmbdkbcaaTreeK
namespace Go.Proofs.Ytfdibjgmbdkbcaa
open Go.RowKit Go.Lib

set_option maxRecDepth 100000 in
set_option maxHeartbeats 2000000 in
theorem push_bad (w : World) (F F' : Nat → Prop) (vp vb : Value) (n : Int) (ps : List Bs) (b : Bs) (hp : BList w F vp ps) (hbb : Bytes w F' vb b) (hb : ¬ (edgeOk n ps 99 ∧ b.length ≤ 200)) :
    Calls Try.prog 35 #[.agg #[.int .i64 n, vp], vb] w fun e w' => (∃ k : Nat, (k : Int) ≠ 0 ∧ (edgeOk n ps 99 → k = 4) ∧ (¬ edgeOk n ps 99 → k = 2) ∧ e = .returned (.tuple #[.agg #[.int .i64 0, .slice none 0 0], .int .i64 (k : Int)])) ∧ Below w.heap.size w w' := by
  obtain ⟨A, c, hvp, _, hcm, _⟩ := hp.shape
  subst hvp
  obtain ⟨A2, c2, hvb, _, hc2⟩ := hbb.form'
  subst hvb
  unfold maxLen at hcm hc2
  obtain ⟨W, hW⟩ : ∃ W, W = (w.alloc (.cells #[.int .i64 n, .slice A ps.length c] 45)).alloc (.cells #[.int .i64 0, .slice none 0 0] 45) := ⟨_, rfl⟩
  have hx0 : Below w.heap.size w W := by rw [hW]; exact ((Below.refl _ _).alloc (Nat.le_refl _) _).alloc (by simp) _
  have hbo : Blk W w.heap.size 45 #[.int .i64 n, .slice A ps.length c] := by rw [hW]; exact Blk.alloc (heap_alloc_new w _) _
  have hbn : Blk W (w.heap.size + 1) 45 #[.int .i64 0, .slice none 0 0] := by rw [hW]; have := heap_alloc_new (w.alloc (.cells #[.int .i64 n, .slice A ps.length c] 45)) (.cells #[.int .i64 0, .slice none 0 0] 45); rwa [World.size_alloc] at this
  have hpw : BList W F (.slice A ps.length c) ps := hp.below hx0
  have e0 : W.cell? ⟨w.heap.size, 0, none⟩ = some (.int .i64 n) := hbo.cell 0
  have e1 : W.cell? ⟨w.heap.size, 1, none⟩ = some (.slice A ps.length c) := hbo.cell 1
  have r0 : W.cell? ⟨w.heap.size + 1, 0, none⟩ = some (.int .i64 0) := hbn.cell 0
  have r1 : W.cell? ⟨w.heap.size + 1, 1, none⟩ = some (.slice none 0 0) := hbn.cell 1
  have f0 := hbn.frozen 0
  have f1 := hbn.frozen 1
  have HW := Lib.hid hW
  have hend : ∀ nq : Nat, Blk (((W.drewN nq).setCell ⟨w.heap.size + 1, 0, none⟩ (.int .i64 0)).setCell ⟨w.heap.size + 1, 1, none⟩ (.slice none 0 0)) (w.heap.size + 1) 45 #[.int .i64 0, .slice none 0 0] ∧
      Below w.heap.size w (((W.drewN nq).setCell ⟨w.heap.size + 1, 0, none⟩ (.int .i64 0)).setCell ⟨w.heap.size + 1, 1, none⟩ (.slice none 0 0)) := fun nq =>
    ⟨((hbn.drewN nq).set_ 0 (.int .i64 0)).set_ 1 (.slice none 0 0), ((below_drewN hx0 nq).setCell (p := ⟨w.heap.size + 1, 0, none⟩) (by simp) _).setCell (p := ⟨w.heap.size + 1, 1, none⟩) (by simp) _⟩
  have HE := Lib.hid hend
  clear hW hend hbo hbn
  have hcase : n < 0 ∨ (¬ n < 0 ∧ 99 < n) ∨ (¬ n < 0 ∧ ¬ 99 < n ∧ ¬ ps.length = Tr.ones n.toNat) ∨ (¬ n < 0 ∧ ¬ 99 < n ∧ ps.length = Tr.ones n.toNat ∧ allD ps = false) ∨ (edgeOk n ps 99 ∧ 200 < b.length) := by
    by_cases he : edgeOk n ps 99
    · exact .inr (.inr (.inr (.inr ⟨he, by rcases Nat.lt_or_ge 200 b.length with h | h; exact h; exact absurd ⟨he, h⟩ hb⟩)))
    · unfold edgeOk at he
      cases h : allD ps with
      | true => rw [h] at he; simp at he; omega
      | false => simp; omega
  clear hb
  rcases hcase with h1 | ⟨h1, h2⟩ | ⟨h1, h2, h3⟩ | ⟨h1, h2, h3, h4⟩ | ⟨he, h5⟩
  · have hno : ¬ edgeOk n ps 99 := fun h => absurd h.1 (by omega)
    have HN := Lib.hid hno
    have b1 : decide (n < 0) = true := decide_eq_true (by omega)
    clear hno
    go_enter Try.func35, Try.ntmps35
    go_wp2_with fail
    rw [← HW.out]
    go_quiet (fail)
    go_wp2_with fail
    obtain ⟨hb6, hx6⟩ := HE.out nq
    generalize ((W.drewN nq).setCell ⟨w.heap.size + 1, 0, none⟩ (.int .i64 0)).setCell ⟨w.heap.size + 1, 1, none⟩ (.slice none 0 0) = w6 at *
    have e4 : w6.cell? ⟨w.heap.size + 1, 0, none⟩ = some (.int .i64 0) := hb6.cell 0
    have e5 : w6.cell? ⟨w.heap.size + 1, 1, none⟩ = some (.slice none 0 0) := hb6.cell 1
    exact bodyPost_ret (v := .tuple #[.agg #[.int .i64 0, .slice none 0 0], .int .i64 2]) (by simp [results, Try.results35, go_sem, e4, e5]) rfl ⟨⟨2, by decide, fun h => absurd h HN.out, fun _ => rfl, rfl⟩, hx6⟩
  · have hno : ¬ edgeOk n ps 99 := fun h => absurd h.2.1 (by omega)
    have HN := Lib.hid hno
    have b1 : decide (n < 0) = false := decide_eq_false (by omega)
    have b2 : decide (100 ≤ n) = true := decide_eq_true (by omega)
    clear hno
    go_enter Try.func35, Try.ntmps35
    go_wp2_with fail
    rw [← HW.out]
    go_quiet (fail)
    go_wp2_with fail
    obtain ⟨hb6, hx6⟩ := HE.out nq
    generalize ((W.drewN nq).setCell ⟨w.heap.size + 1, 0, none⟩ (.int .i64 0)).setCell ⟨w.heap.size + 1, 1, none⟩ (.slice none 0 0) = w6 at *
    have e4 : w6.cell? ⟨w.heap.size + 1, 0, none⟩ = some (.int .i64 0) := hb6.cell 0
    have e5 : w6.cell? ⟨w.heap.size + 1, 1, none⟩ = some (.slice none 0 0) := hb6.cell 1
    exact bodyPost_ret (v := .tuple #[.agg #[.int .i64 0, .slice none 0 0], .int .i64 2]) (by simp [results, Try.results35, go_sem, e4, e5]) rfl ⟨⟨2, by decide, fun h => absurd h HN.out, fun _ => rfl, rfl⟩, hx6⟩
  · have hno : ¬ edgeOk n ps 99 := fun h => absurd h.2.2.1 h3
    have HN := Lib.hid hno
    have b1 : decide (n < 0) = false := decide_eq_false (by omega)
    have b2 : decide (100 ≤ n) = false := decide_eq_false (by omega)
    obtain ⟨ni, hni⟩ : ∃ k : Nat, n = (k : Int) := ⟨n.toNat, by omega⟩
    subst hni
    rw [Int.toNat_natCast] at h3
    have b3 : ((ps.length : Int) != (Tr.ones ni : Int)) = true := by rw [bne_iff_ne]; omega
    clear hno h3
    go_enter Try.func35, Try.ntmps35
    go_wp2_with fail
    rw [← HW.out]
    go_quiet ((go_at_call 95; exact Calls.quiet_of_same (ones_any ni (by omega) _)))
    go_wp2_with fail
    obtain ⟨hb6, hx6⟩ := HE.out nq
    generalize ((W.drewN nq).setCell ⟨w.heap.size + 1, 0, none⟩ (.int .i64 0)).setCell ⟨w.heap.size + 1, 1, none⟩ (.slice none 0 0) = w6 at *
    have e4 : w6.cell? ⟨w.heap.size + 1, 0, none⟩ = some (.int .i64 0) := hb6.cell 0
    have e5 : w6.cell? ⟨w.heap.size + 1, 1, none⟩ = some (.slice none 0 0) := hb6.cell 1
    exact bodyPost_ret (v := .tuple #[.agg #[.int .i64 0, .slice none 0 0], .int .i64 2]) (by simp [results, Try.results35, go_sem, e4, e5]) rfl ⟨⟨2, by decide, fun h => absurd h HN.out, fun _ => rfl, rfl⟩, hx6⟩
  · have hno : ¬ edgeOk n ps 99 := fun h => by have := h.2.2.2; rw [h4] at this; cases this
    have HN := Lib.hid hno
    have b1 : decide (n < 0) = false := decide_eq_false (by omega)
    have b2 : decide (100 ≤ n) = false := decide_eq_false (by omega)
    obtain ⟨ni, hni⟩ : ∃ k : Nat, n = (k : Int) := ⟨n.toNat, by omega⟩
    subst hni
    rw [Int.toNat_natCast] at h3
    have b3 : ((ps.length : Int) != (Tr.ones ni : Int)) = false := by rw [bne_eq_false_iff_eq]; omega
    have hd := fun n => digests_any (W.drewN n) F _ ps (hpw.drewN n)
    rw [h4] at hd
    have HD := Lib.hid hd
    clear hd h4 hno h3
    go_enter Try.func35, Try.ntmps35
    go_wp2_with fail
    rw [← HW.out]
    go_quiet ((first | (go_at_call 95; exact Calls.quiet_of_same (ones_any ni (by omega) _)) | (go_at_call 89; exact Calls.quiet_of_same (HD.out _))))
    go_wp2_with fail
    obtain ⟨hb6, hx6⟩ := HE.out nq
    generalize ((W.drewN nq).setCell ⟨w.heap.size + 1, 0, none⟩ (.int .i64 0)).setCell ⟨w.heap.size + 1, 1, none⟩ (.slice none 0 0) = w6 at *
    have e4 : w6.cell? ⟨w.heap.size + 1, 0, none⟩ = some (.int .i64 0) := hb6.cell 0
    have e5 : w6.cell? ⟨w.heap.size + 1, 1, none⟩ = some (.slice none 0 0) := hb6.cell 1
    exact bodyPost_ret (v := .tuple #[.agg #[.int .i64 0, .slice none 0 0], .int .i64 2]) (by simp [results, Try.results35, go_sem, e4, e5]) rfl ⟨⟨2, by decide, fun h => absurd h HN.out, fun _ => rfl, rfl⟩, hx6⟩
  · have HN := Lib.hid he
    obtain ⟨h1, h2, h3, h4⟩ := he
    have b1 : decide (n < 0) = false := decide_eq_false (by omega)
    have b2 : decide (100 ≤ n) = false := decide_eq_false (by omega)
    have b5 : decide ((200 : Int) < (b.length : Int)) = true := decide_eq_true (by omega)
    obtain ⟨ni, hni⟩ : ∃ k : Nat, n = (k : Int) := ⟨n.toNat, by omega⟩
    subst hni
    rw [Int.toNat_natCast] at h3
    have b3 : ((ps.length : Int) != (Tr.ones ni : Int)) = false := by rw [bne_eq_false_iff_eq]; omega
    have hd := fun n => digests_any (W.drewN n) F _ ps (hpw.drewN n)
    rw [h4] at hd
    have HD := Lib.hid hd
    clear hd h4 h3
    go_enter Try.func35, Try.ntmps35
    go_wp2_with fail
    rw [← HW.out]
    go_quiet ((first | (go_at_call 95; exact Calls.quiet_of_same (ones_any ni (by omega) _)) | (go_at_call 89; exact Calls.quiet_of_same (HD.out _))))
    go_wp2_with fail
    obtain ⟨hb6, hx6⟩ := HE.out nq
    generalize ((W.drewN nq).setCell ⟨w.heap.size + 1, 0, none⟩ (.int .i64 0)).setCell ⟨w.heap.size + 1, 1, none⟩ (.slice none 0 0) = w6 at *
    have e4 : w6.cell? ⟨w.heap.size + 1, 0, none⟩ = some (.int .i64 0) := hb6.cell 0
    have e5 : w6.cell? ⟨w.heap.size + 1, 1, none⟩ = some (.slice none 0 0) := hb6.cell 1
    exact bodyPost_ret (v := .tuple #[.agg #[.int .i64 0, .slice none 0 0], .int .i64 4]) (by simp [results, Try.results35, go_sem, e4, e5]) rfl ⟨⟨4, by decide, fun _ => rfl, fun h => absurd HN.out h, rfl⟩, hx6⟩

/-- a slice's beginning, of a row of the call's own -/
theorem Own.first {w : World} {base : Nat} {e : TypeId} {n c g off : Nat} {xs : List Value} (h : Own w base e 1 (.slice (some ⟨g, off, none⟩) n c) n xs) (k : Nat) (hk : k ≤ n) :
    Own w base e 1 (.slice (some ⟨g, off, none⟩) k c) k (xs.take k) := by
  obtain ⟨hl, ⟨h0, _⟩ | ⟨g2, off2, cap2, cur, hv2, hb, hg, hn, hm, hs, ht⟩⟩ := h
  · cases h0
  · injection hv2 with e1 e2 e3
    injection e1 with e1
    injection e1 with e1 e4
    subst e1 e3 e4
    refine ⟨by rw [List.length_take]; omega, .inr ⟨g, off, c, cur, rfl, hb, hg, by omega, hm, hs, ?_⟩⟩
    rw [← ht, List.take_take, Nat.mul_one, Nat.mul_one, Nat.min_eq_left hk]

theorem push_len (n : Nat) : ∀ (ps : List Bs), ps.length = Tr.ones n → n % 2 = 1 → 0 < ps.length ∧ ps.dropLast.length = Tr.ones (n / 2) := by
  intro ps h ho
  rw [Tr.ones_step n (by omega)] at h
  rw [List.length_dropLast]
  omega

set_option maxRecDepth 100000 in
set_option maxHeartbeats 4000000 in
theorem push_ok (w : World) (F F' : Nat → Prop) (vp vb : Value) (n : Int) (ps : List Bs) (b : Bs) (hp : BList w F vp ps) (hbb : Bytes w F' vb b) (he : edgeOk n ps 99) (hb2 : b.length ≤ 200) :
    Calls Try.prog 35 #[.agg #[.int .i64 n, vp], vb] w fun e w' => ∃ v, e = .returned (.tuple #[.agg #[.int .i64 (n + 1), v], .int .i64 0]) ∧ OwnL w' w.heap.size v (Tr.pushF ps n.toNat (Tr.leafH b)) ∧ Below w.heap.size w w' := by
  obtain ⟨i0, hi, hz0, hz1, hz2⟩ := info_parts info_bytes
  obtain ⟨A, c, hvp, hpc, hcm, hA⟩ := hp.shape
  subst hvp
  obtain ⟨A2, c2, hvb, _, hc2⟩ := hbb.form'
  subst hvb
  unfold maxLen at hcm hc2
  obtain ⟨W, hW⟩ : ∃ W, W = (w.alloc (.cells #[.int .i64 n, .slice A ps.length c] 45)).alloc (.cells #[.int .i64 0, .slice none 0 0] 45) := ⟨_, rfl⟩
  have hx0 : Below w.heap.size w W := by rw [hW]; exact ((Below.refl _ _).alloc (Nat.le_refl _) _).alloc (by simp) _
  have hbo : Blk W w.heap.size 45 #[.int .i64 n, .slice A ps.length c] := by rw [hW]; exact Blk.alloc (heap_alloc_new w _) _
  have hbn : Blk W (w.heap.size + 1) 45 #[.int .i64 0, .slice none 0 0] := by rw [hW]; have := heap_alloc_new (w.alloc (.cells #[.int .i64 n, .slice A ps.length c] 45)) (.cells #[.int .i64 0, .slice none 0 0] 45); rwa [World.size_alloc] at this
  have hsz : w.heap.size + 1 < W.heap.size := by rw [hW]; simp
  obtain ⟨h1, h2, h3, h4⟩ := he
  obtain ⟨ni, hni⟩ : ∃ k : Nat, n = (k : Int) := ⟨n.toNat, by omega⟩
  subst hni
  rw [Int.toNat_natCast] at h3 ⊢
  have hpl : ps.length ≤ 100 := by
    have hk : ∀ m, Tr.ones m ≤ m := by
      intro m
      induction m using Nat.strongRecOn with
      | ind m ih =>
        by_cases h0 : m = 0
        · subst h0; rw [Tr.ones_zero]; exact Nat.le_refl _
        · rw [Tr.ones_step m (by omega)]
          have := ih (m / 2) (by omega); omega
    have := hk ni; omega
  have b1 : decide ((ni : Int) < 0) = false := decide_eq_false (by omega)
  have b2 : decide ((100 : Int) ≤ (ni : Int)) = false := decide_eq_false (by omega)
  have b3 : ((ps.length : Int) != (Tr.ones ni : Int)) = false := by rw [bne_eq_false_iff_eq]; omega
  have b4 : decide ((200 : Int) < (b.length : Int)) = false := decide_eq_false (by omega)
  have hpw : BList W F (.slice A ps.length c) ps := hp.below hx0
  have hd := fun n => digests_any (W.drewN n) F _ ps (hpw.drewN n)
  rw [h4] at hd
  have HD := Lib.hid hd
  have hsp := allD_short h4
  have HW := Lib.hid hW
  have H3 := Lib.hid h3
  have e0 : W.cell? ⟨w.heap.size, 0, none⟩ = some (.int .i64 ni) := hbo.cell 0
  have e1 : W.cell? ⟨w.heap.size, 1, none⟩ = some (.slice A ps.length c) := hbo.cell 1
  clear hd h3 h4 hW hA
  go_enter Try.func35, Try.ntmps35
  go_wp2_with fail
  rw [← HW.out]
  go_quiet ((first | (go_at_call 95; exact Calls.quiet_of_same (ones_any ni (by omega) _)) | (go_at_call 89; exact Calls.quiet_of_same (HD.out _))))
  go_wp2_with fail
  refine (cloneL_any (W.drewN nq) F _ ps (hpw.drewN nq) (by omega)).mono ?_
  rintro e w1 ⟨v1, vs, rfl, hown1, hvs, hx1⟩
  have hx1' : Below W.heap.size W w1 := (below_drewN (Below.refl _ _) nq).trans hx1
  have hown1' : Own w1 W.heap.size 22 1 v1 ps.length vs := hown1
  have hvs' : ∀ (i : Nat) (b : Bs), ps[i]? = some b → ∃ u : Value, vs[i]? = some u ∧ Bytes W (fun k => F k ∧ k < W.heap.size) u b := hvs
  obtain ⟨A1, c1, hv1, hc1, hcm1⟩ := hown1'.shape
  subst hv1
  unfold maxLen at hcm1
  clear hown1 hvs hx1
  go_wp2_with fail
  go_loopg [45] ps.length (fun k ui wr => ∃ (j : Nat) (us : List Value), j + k = ps.length ∧ ui = .int .i64 (j : Int) ∧ Own wr W.heap.size 22 1 (.slice A1 ps.length c1) ps.length us ∧
    (∀ (i : Nat) (b : Bs), ps[i]? = some b → ∃ u : Value, us[i]? = some u ∧ if i < j then OwnB wr W.heap.size u b else vs[i]? = some u) ∧ Below W.heap.size W wr)
  case atStart => exact ⟨0, vs, by omega, rfl, hown1', fun i b hb => by obtain ⟨u, hu, _⟩ := hvs' i b hb; exact ⟨u, hu, by rw [if_neg (by omega)]; exact hu⟩, hx1'⟩
  case round =>
    clear hown1' hx1'
    obtain ⟨j, us, hj, rfl, hown, hus, hx⟩ := hrel
    have HUS := Lib.hid hus
    clear hus
    by_cases hlt : j < ps.length
    · obtain ⟨g, off, cap, hvv, hgB, hgl, _, _, _⟩ := hown.form (by omega)
      injection hvv with q1 q2 q3
      subst q1 q3
      have hltB : (j : Int) < (ps.length : Int) := by omega
      obtain ⟨u, hu, hif⟩ := HUS.out j ps[j] (List.getElem?_eq_getElem hlt)
      rw [if_neg (by omega)] at hif
      obtain ⟨u2, hu2, hub⟩ := hvs' j ps[j] (List.getElem?_eq_getElem hlt)
      rw [hif] at hu2
      injection hu2 with hu2
      subst hu2
      obtain ⟨hcell, hfz⟩ := hown.at_ hu
      have hubr := hub.below hx
      have hxl : ps[j].length ≤ 1000 := hsp _ (List.getElem_mem _)
      obtain ⟨x, hxx⟩ : ∃ x, x = ps[j] := ⟨_, rfl⟩
      rw [← hxx] at hubr hxl
      have HX := Lib.hid hxx
      clear hif hub hxx
      go_wp2_with fail
      refine (clone_any wr _ _ x hubr (by omega)).mono ?_
      rintro e w2 ⟨v2, rfl, hown2, hx2⟩
      obtain ⟨A3, c3, hv3, _, _⟩ := Own.shape hown2
      subst hv3
      have hownr := hown.below hx2
      obtain ⟨hcell2, hfz2⟩ := hownr.at_ hu
      have hset := hownr.set_ j (.slice A3 x.length c3)
      have hapart := Own.apart hown2 hownr (by decide)
      have hxr := hx.trans (hx2.mono hx.size)
      have hxs := hxr.setCell (p := ⟨g, off + j, none⟩) hgB (.slice A3 x.length c3)
      have hjl : j < us.length := by have := hown.1; omega
      have hnext : ∀ (i : Nat) (b : Bs), ps[i]? = some b → ∃ u : Value, (us.set j (.slice A3 x.length c3))[i]? = some u ∧ if i < j + 1 then OwnB (w2.setCell ⟨g, off + j, none⟩ (.slice A3 x.length c3)) W.heap.size u b else vs[i]? = some u := fun i b hb => by
        obtain ⟨u', hu', hi'⟩ := HUS.out i b hb
        rcases Nat.lt_trichotomy i j with h | h | h
        · rw [if_pos h] at hi'
          refine ⟨u', by rw [List.getElem?_set_ne (by omega)]; exact hu', ?_⟩
          rw [if_pos (by omega)]
          refine Own.setCell (p := ⟨g, off + j, none⟩) (Own.below hi' hx2) (fun e => ?_) _
          exact Own.apart (Own.below hi' hx2) hownr (by decide) g e rfl
        · subst h
          refine ⟨.slice A3 x.length c3, by rw [List.getElem?_set_self hjl], ?_⟩
          rw [if_pos (by omega)]
          have hbx : b = x := by
            have h5 := HX.out
            rw [List.getElem?_eq_getElem hlt] at hb
            injection hb with hb
            rw [← hb, h5]
          rw [hbx]
          exact Own.setCell (p := ⟨g, off + i, none⟩) (OwnB.mono hown2 hx.size) (fun e => hapart g e rfl) _
        · rw [if_neg (by omega)] at hi'
          exact ⟨u', by rw [List.getElem?_set_ne (by omega)]; exact hu', by rw [if_neg (by omega)]; exact hi'⟩
      have HNX := Lib.hid hnext
      clear hnext hapart hubr
      go_wp2_with fail
      go_roundg (gk - 1)
      case measure => omega
      case rel => exact ⟨j + 1, _, by omega, by go_num, hset, HNX.out, hxs⟩
    · have hltB : decide ((j : Int) < (ps.length : Int)) = false := decide_eq_false (by omega)
      have hL : OwnL wr W.heap.size (.slice A1 ps.length c1) ps := ⟨us, hown, fun i b hb => by
        obtain ⟨u, hu, hi'⟩ := HUS.out i b hb
        have hil : i < ps.length := by
          rcases Nat.lt_or_ge i ps.length with h | h
          · exact h
          · rw [List.getElem?_eq_none h] at hb; cases hb
        rw [if_pos (by omega)] at hi'
        exact ⟨u, hu, hi'⟩⟩
      have hbr := (hbb.below hx0).below hx
      have g0 : wr.cell? ⟨w.heap.size, 0, none⟩ = some (.int .i64 ni) := (hx.cell (p := ⟨w.heap.size, 0, none⟩) (by show w.heap.size < _; omega)).trans e0
      have hwr := hx.size
      clear HUS hown
      go_wp2_with fail
      refine (leaf_any wr _ _ b hbr (by omega)).mono ?_
      rintro e w3 ⟨v3, rfl, hown3, hx3⟩
      obtain ⟨A5, c5, hv5, _, _⟩ := Own.shape hown3
      subst hv5
      have g0' : w3.cell? ⟨w.heap.size, 0, none⟩ = some (.int .i64 ni) := (hx3.cell (p := ⟨w.heap.size, 0, none⟩) (by show w.heap.size < _; omega)).trans g0
      have hL3 := hL.below hx3
      have hx4 := hx.trans (hx3.mono hwr)
      have ho3 : OwnB w3 W.heap.size _ (Tr.leafH b) := OwnB.mono hown3 hwr
      have hll : (Tr.leafH b).length ≤ 1000 := by rw [Tr.length_leafH]; omega
      clear hL hown3 g0 hbr
      generalize hLB : Tr.leafH b = lb at *
      have HLB := Lib.hid hLB
      clear hLB
      go_wp2_with fail
      go_loopg [6, 9, 10] ni (fun k ul ud un wr => un = .int .i64 (k : Int) ∧ ∃ (qs : List Bs) (d : Bs), OwnL wr W.heap.size ul qs ∧ OwnB wr W.heap.size ud d ∧ d.length ≤ 1000 ∧ Short qs ∧ qs.length ≤ 100 ∧ k ≤ 100 ∧ Hid (qs.length = Tr.ones k) ∧ Hid (Tr.pushF qs k d = Tr.pushF ps ni lb) ∧ Below W.heap.size W wr)
      case atStart => exact ⟨rfl, ps, lb, hL3, ho3, hll, hsp, hpl, by omega, H3, Lib.hid rfl, hx4⟩
      case round =>
        clear hL3 ho3 hx4 g0' hx3
        obtain ⟨rfl, qs, d, hLq, hod, hdl, hsq, hql, hk, HQ, HP, hxq⟩ := hrel
        obtain ⟨A6, c6, hv6, _, _⟩ := Own.shape hod
        subst hv6
        obtain ⟨vq, hq1, hq2⟩ := hLq
        obtain ⟨A7, c7, hv7, hc7, hcm7⟩ := hq1.shape
        subst hv7
        unfold maxLen at hcm7
        have hwq := hxq.size
        by_cases hodd : gk % 2 = 1
        · have t1 : ((gk : Int) % 2 == 1) = true := by rw [beq_iff_eq]; omega
          obtain ⟨hp1, hp2⟩ := push_len gk qs HQ.out hodd
          obtain ⟨g, off, cap, hvv, hgB, hgl, _, _, hqc⟩ := hq1.form (by omega)
          injection hvv with q1 q2 q3
          subst q1 q3
          have hlast : qs[qs.length - 1]? = some (qs.getLastD []) := by
            rw [List.getLastD_eq_getLast?, List.getLast?_eq_getElem?, List.getElem?_eq_getElem (by omega)]
            try rfl
          obtain ⟨u, hu, hou⟩ := hq2 _ _ hlast
          have hcu := hqc _ u hu
          have hlx : (qs.getLastD []).length ≤ 1000 := hsq _ (List.mem_of_getElem? hlast)
          have hnx := HP.out
          rw [Tr.pushF_odd hodd] at hnx
          have HNX := Lib.hid hnx
          have HP2 := Lib.hid hp2
          generalize hLx : qs.getLastD [] = x at *
          have kW : IntKind.i64.wrap ((qs.length : Int) - 1) = (qs.length : Int) - 1 := IntWalk.i64_in _ (by omega)
          have kT : ((qs.length : Int) - 1).toNat = qs.length - 1 := by omega
          have kL : (1 : Int) ≤ (qs.length : Int) := by omega
          have kC : (qs.length : Int) - 1 ≤ (c7 : Int) := by omega
          clear hlast hnx hLx hp2 HP
          go_wp2_with fail
          refine (node_any wr _ _ _ _ x d (OwnB.bytes hou) (OwnB.bytes hod) (by omega)).mono ?_
          rintro e w4 ⟨v4, rfl, hown4, hx4⟩
          have hxn := hxq.trans (hx4.mono hwq)
          have hfr := (hq1.below hx4).first (qs.length - 1) (by omega)
          have hLn : OwnL w4 W.heap.size (.slice (some ⟨g, off, none⟩) (qs.length - 1) c7) qs.dropLast := by
            refine ⟨vq.take (qs.length - 1), by rw [List.length_dropLast]; exact hfr, fun i b hb => ?_⟩
            have hil : i < qs.length - 1 := by
              rcases Nat.lt_or_ge i (qs.length - 1) with h | h
              · exact h
              · rw [List.getElem?_eq_none (by rw [List.length_dropLast]; exact h)] at hb; cases hb
            have hb' : qs[i]? = some b := by
              rw [List.dropLast_eq_take, List.getElem?_take_of_lt hil] at hb
              exact hb
            obtain ⟨u', hu', ho'⟩ := hq2 i b hb'
            exact ⟨u', by rw [List.getElem?_take_of_lt hil]; exact hu', OwnB.below ho' hx4⟩
          go_wp2_with fail
          go_roundg (gk / 2)
          case measure => omega
          case rel => exact ⟨congrArg (Value.int .i64) (by omega), _, _, hLn, OwnB.mono hown4 hwq, by rw [Tr.length_nodeH]; omega, fun y hy => hsq y (List.dropLast_subset _ hy), by rw [List.length_dropLast]; omega, by omega, HP2, HNX, hxn⟩
        · have t1 : ((gk : Int) % 2 == 1) = false := by rw [beq_eq_false_iff_ne]; omega
          have hnx := HP.out
          rw [Tr.pushF_even hodd] at hnx
          have HNX := Lib.hid hnx
          clear hnx HP
          have g0 : wr.cell? ⟨w.heap.size, 0, none⟩ = some (.int .i64 ni) := (hxq.cell (p := ⟨w.heap.size, 0, none⟩) (by show w.heap.size < _; omega)).trans e0
          have hbq := hbn.below hxq hbn.lt
          have r0 : wr.cell? ⟨w.heap.size + 1, 0, none⟩ = some (.int .i64 0) := hbq.cell 0
          have r1 : wr.cell? ⟨w.heap.size + 1, 1, none⟩ = some (.slice none 0 0) := hbq.cell 1
          have f0 := hbq.frozen 0
          have f1 := hbq.frozen 1
          have hwq2 : w.heap.size ≤ wr.heap.size := by omega
          have hxw : Below w.heap.size w wr := hx0.trans (hxq.mono (by omega))
          have kN : IntKind.i64.wrap ((ni : Int) + 1) = (ni : Int) + 1 := IntWalk.i64_in _ (by omega)
          obtain ⟨p1, p2, p3⟩ := OwnL.prep (w := wr.drew) (B := W.heap.size) hq1.drew (fun i b hb => hq2 i b hb) hod
          have hxa := hxw.drew.alloc hwq2 (.cells #[.slice A6 d.length c6] 22)
          have ga := (World.cell?_alloc_lt wr.drew (.cells #[.slice A6 d.length c6] 22) ⟨w.heap.size, 0, none⟩ (by show w.heap.size < wr.heap.size; omega)).trans g0
          have hba : Blk (wr.drew.alloc (.cells #[.slice A6 d.length c6] 22)) (w.heap.size + 1) 45 #[.int .i64 0, .slice none 0 0] := Blk.alloc (hbq.drewN 1) _
          have hne := p1.ne_blk hba (by decide)
          have hsz2 : W.heap.size ≤ (wr.drew.alloc (.cells #[.slice A6 d.length c6] 22)).heap.size := by simp; omega
          go_wp2_with fail
          go_region_held3 (fun z : World => z.cell? ⟨w.heap.size, 0, none⟩ = some (.int .i64 ni) ∧ Below w.heap.size w z) (first | assumption | exact ⟨g0, hxw.drew⟩ | exact ⟨ga, hxa⟩ | exact hSe)
            ((refine step_append_Own _ (by rfl) (.tmp 81) (.tmp 83) 40 (by rfl) W.heap.size 22 i0 _ 1 24 Try.underlying40 hi hz0 hz1 hz2 (by rfl) (by omega) _ _ _ (by rfl) p1 _ _ _ _ (by rfl) p2 (by simp [Value.oneCell']) (by simp only [maxLen]; omega) (by omega) hsz2 ?_
              intro v5 w5 hown5 hgr5 hat5
              have hL5 := p3 _ _ hown5 hgr5
              obtain ⟨A8, c8, hv8, _, _⟩ := hown5.shape
              subst hv8
              have hx5 : Below w.heap.size w w5 := hxa.grown hgr5 hxa.size (fun k hk => by have := (p1.lt k hk).1; omega)
              have hb5 : Blk w5 (w.heap.size + 1) 45 #[.int .i64 0, .slice none 0 0] := hba.keep (hgr5.block _ hba.lt (fun e => hne e.symm))
              have hbo5 : w5.cell? ⟨w.heap.size, 0, none⟩ = some (.int .i64 ni) := (World.cell?_of_block (hgr5.block w.heap.size (by simp; omega) (fun e => by have := (p1.lt _ e.symm).1; omega))).trans ga
              have hS5 : w5.cell? ⟨w.heap.size, 0, none⟩ = some (.int .i64 ni) ∧ Below w.heap.size w w5 := ⟨hbo5, hx5⟩
              have r05 : w5.cell? ⟨w.heap.size + 1, 0, none⟩ = some (.int .i64 0) := hb5.cell 0
              have r15 : w5.cell? ⟨w.heap.size + 1, 1, none⟩ = some (.slice none 0 0) := hb5.cell 1
              have f05 := hb5.frozen 0
              have f15 := hb5.frozen 1
              have hSe : ((w5.setCell ⟨w.heap.size + 1, 0, none⟩ (.int .i64 ((ni : Int) + 1))).setCell ⟨w.heap.size + 1, 1, none⟩ (.slice A8 (qs.length + 1) c8)).cell? ⟨w.heap.size, 0, none⟩ = some (.int .i64 ni) ∧ Below w.heap.size w ((w5.setCell ⟨w.heap.size + 1, 0, none⟩ (.int .i64 ((ni : Int) + 1))).setCell ⟨w.heap.size + 1, 1, none⟩ (.slice A8 (qs.length + 1) c8)) :=
                ⟨by rw [World.cell?_setCell_other _ _ _ _ (by simp), World.cell?_setCell_other _ _ _ _ (by simp)]; exact hbo5, (hx5.setCell (p := ⟨w.heap.size + 1, 0, none⟩) (by simp) _).setCell (p := ⟨w.heap.size + 1, 1, none⟩) (by simp) _⟩))
          go_wp2_with fail
          have hb6 := (hb5.set_ 0 (.int .i64 ((ni : Int) + 1))).set_ 1 (.slice A8 (qs.length + 1) c8)
          have hL6 := OwnL.setBlk (OwnL.setBlk hL5 hb5 (by decide) (by decide) 0 (.int .i64 ((ni : Int) + 1))) (hb5.set_ 0 (.int .i64 ((ni : Int) + 1))) (by decide) (by decide) 1 (.slice A8 (qs.length + 1) c8)
          have hx6 := hSe.2
          clear hSe
          generalize (w5.setCell ⟨w.heap.size + 1, 0, none⟩ (.int .i64 ((ni : Int) + 1))).setCell ⟨w.heap.size + 1, 1, none⟩ (.slice A8 (qs.length + 1) c8) = w6 at *
          have e4 : w6.cell? ⟨w.heap.size + 1, 0, none⟩ = some (.int .i64 ((ni : Int) + 1)) := hb6.cell 0
          have e5 : w6.cell? ⟨w.heap.size + 1, 1, none⟩ = some (.slice A8 (qs.length + 1) c8) := hb6.cell 1
          refine bodyPost_ret (v := .tuple #[.agg #[.int .i64 ((ni : Int) + 1), .slice A8 (qs.length + 1) c8], .int .i64 0]) (by simp [results, Try.results35, go_sem, e4, e5]) rfl ⟨_, rfl, ?_, hx6⟩
          rw [HLB.out, ← HNX.out]
          exact hL6.mono (by omega)
end Go.Proofs.Ytfdibjgmbdkbcaa
