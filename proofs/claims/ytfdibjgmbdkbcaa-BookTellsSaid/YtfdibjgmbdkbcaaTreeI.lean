/-
  THE WALK of tree.Grew. Conditions: what is read is bytes, and lists of bytes; the list is no longer than memory lets one more in.
-/
import Derived.Test.YtfdibjgmbdkbcaaTreeH
import Derived.Deep.DeepCutAuto
import Derived.Laws.BitsAllLaws
import Derived.Laws.BitsLemmas
namespace Go.Proofs.Ytfdibjgmbdkbcaa
open Go.RowKit Go.Lib

/-- whether digests show that the one grew to the other -/
def grewS (m : Int) (ro : Bs) (n : Int) (rn : Bs) (p : List Bs) : Bool :=
  decide (1 ≤ m ∧ m ≤ n ∧ n ≤ 100) && (allD p && (decide (ro.length = 32) && (match Tr.two m.toNat n.toNat true ro p with
    | none => false
    | some ab => ab.1 == ro && ab.2 == rn)))
theorem grewS_no {m n : Int} {ro rn : Bs} {p : List Bs} (h : ¬ (1 ≤ m ∧ m ≤ n ∧ n ≤ 100)) : grewS m ro n rn p = false := by
  unfold grewS
  rw [decide_eq_false h]
  rfl

theorem ofInt_i64 (a : Nat) (ha : a < 9223372036854775808) : (BitVec.ofInt 64 (a : Int)).toNat = a := by
  rw [BitVec.ofInt_natCast, BitVec.toNat_ofNat]; exact Nat.mod_eq_of_lt (by omega)
theorem i64_and_nat (a b : Nat) (ha : a < 9223372036854775808) (hb : b < 9223372036854775808) : bits .and .i64 (a : Int) (b : Int) = ((a &&& b : Nat) : Int) := by
  have hx : a &&& b < 2 ^ 63 := Nat.and_lt_two_pow _ (by omega)
  show IntKind.i64.wrap ((BitVec.ofInt 64 (a : Int) &&& BitVec.ofInt 64 (b : Int)).toNat : Int) = _
  rw [BitVec.toNat_and, ofInt_i64 a ha, ofInt_i64 b hb, IntKind.wrap_i64]
  omega
theorem pow2_bits (m : Nat) (h1 : 1 ≤ m) (hm : m ≤ 100) : (bits .and .i64 (m : Int) ((m : Int) - 1) == 0) = Tr.pow2 m := by
  have e : (m : Int) - 1 = ((m - 1 : Nat) : Int) := by omega
  rw [e, i64_and_nat m (m - 1) (by omega) (by omega)]
  unfold Tr.pow2
  rw [Bool.eq_iff_iff, beq_iff_eq, beq_iff_eq]
  omega

/-- 'append([][]byte{x}, l...)' -/
theorem BList.cons_ {w' : World} {B : Nat} {v : Value} {u : Value} {x : Bs} {ll : List Bs} {vs : List Value} {n : Nat} (hn : n = ll.length + 1) (hown : Own w' B 22 1 v n ([u] ++ vs))
    (hx : Bytes w' (fun k => k < w'.heap.size) u x) (hl : ∀ (i : Nat) (b : Bs), ll[i]? = some b → ∃ u : Value, vs[i]? = some u ∧ Bytes w' (fun k => k < w'.heap.size) u b) : BList w' (fun k => k < w'.heap.size) v (x :: ll) := by
  subst hn
  refine ⟨[u] ++ vs, hown.slAt (fun k hk => (hown.lt k hk).2), fun i b hb => ?_⟩
  rcases i with _ | i
  · simp only [List.getElem?_cons_zero, Option.some.injEq] at hb
    subst hb
    exact ⟨u, rfl, hx⟩
  · exact hl i b hb
theorem blist_oneCell {w : World} {F : Nat → Prop} {ll : List Bs} {vs : List Value} (hv : vs.length = ll.length) (h : ∀ (i : Nat) (b : Bs), ll[i]? = some b → ∃ u : Value, vs[i]? = some u ∧ Bytes w F u b) : ∀ u ∈ vs, u.oneCell' = true := by
  intro u hu
  obtain ⟨i, hi, rfl⟩ := List.getElem_of_mem hu
  obtain ⟨u', hu', hb⟩ := h i ll[i] (List.getElem?_eq_getElem (by omega))
  rw [List.getElem?_eq_getElem hi] at hu'
  injection hu' with hu'
  obtain ⟨A, c, hv⟩ := hb.form
  rw [hu', hv]
  rfl

set_option maxRecDepth 100000 in
set_option maxHeartbeats 4000000 in
theorem grew_any (w : World) (F F' F'' : Nat → Prop) (vo vn vp : Value) (m n : Int) (ro rn : Bs) (p : List Bs) (hro : Bytes w F vo ro) (hrn : Bytes w F' vn rn) (hp : BList w F'' vp p) (hreach : p.length ≤ 5864062014634) :
    Calls Try.prog 27 #[.agg #[.int .i64 m, vo], .agg #[.int .i64 n, vn], vp] w fun e w' => e = .returned (.bool (grewS m ro n rn p)) ∧ Below w.heap.size w w' := by
  obtain ⟨i0, hi, hz0, hz1, hz2⟩ := info_parts info_bytes
  obtain ⟨A, c, hvp, hpc, hcm, _⟩ := hp.shape
  subst hvp
  obtain ⟨A2, c2, hvo, _, hc2⟩ := hro.form'
  subst hvo
  obtain ⟨A3, c3, hvn, _, _⟩ := hrn.form'
  subst hvn
  unfold maxLen at hc2 hcm
  obtain ⟨W, hW⟩ : ∃ W, W = (w.alloc (.cells #[.int .i64 m, .slice A2 ro.length c2] 39)).alloc (.cells #[.int .i64 n, .slice A3 rn.length c3] 39) := ⟨_, rfl⟩
  have hx0 : Below w.heap.size w W := by rw [hW]; exact ((Below.refl _ _).alloc (Nat.le_refl _) _).alloc (by simp) _
  have hroW : Bytes W F (.slice A2 ro.length c2) ro := by rw [hW]; exact (hro.alloc _).alloc _
  have hrnW : Bytes W F' (.slice A3 rn.length c3) rn := by rw [hW]; exact (hrn.alloc _).alloc _
  have hpW : BList W F'' (.slice A p.length c) p := by rw [hW]; exact (hp.alloc _).alloc _
  have hbo : Blk W w.heap.size 39 #[.int .i64 m, .slice A2 ro.length c2] := by rw [hW]; exact Blk.alloc (heap_alloc_new w _) _
  have hbn : Blk W (w.heap.size + 1) 39 #[.int .i64 n, .slice A3 rn.length c3] := by rw [hW]; have := heap_alloc_new (w.alloc (.cells #[.int .i64 m, .slice A2 ro.length c2] 39)) (.cells #[.int .i64 n, .slice A3 rn.length c3] 39); rwa [World.size_alloc] at this
  have hWs : w.heap.size + 1 < W.heap.size := by rw [hW]; simp
  by_cases hall : 1 ≤ m ∧ m ≤ n ∧ n ≤ 100
  · obtain ⟨a1, a2, a3⟩ := hall
    have hS : Hid (grewS m ro n rn p = (allD p && (decide (ro.length = 32) && (match Tr.two m.toNat n.toNat true ro p with | none => false | some ab => ab.1 == ro && ab.2 == rn)))) := Lib.hid (by unfold grewS; rw [decide_eq_true ⟨a1, a2, a3⟩]; rfl)
    have b1 : decide (m < 1) = false := by simp; omega
    have b2 : decide (n < m) = false := by simp; omega
    have b3 : decide (100 < n) = false := by simp; omega
    have hd := digests_any W F'' _ p hpW
    have HD := Lib.hid hd
    clear hd
    cases hal : allD p with
    | false =>
      rw [hal] at HD
      have HS : Hid (grewS m ro n rn p = false) := Lib.hid (by rw [hS.out, hal]; rfl)
      have HW := Lib.hid hW
      clear hS hal hW
      go_enter Try.func27, Try.ntmps27
      go_wp2_with fail
      rw [← HW.out]
      refine HD.out.mono ?_
      rintro e w' ⟨rfl, hw⟩
      subst hw
      go_wp2_with fail
      go_ret
      exact ⟨by rw [HS.out]; rfl, hx0⟩
    | true =>
      rw [hal] at HD
      by_cases h32 : ro.length = 32
      · have b4 : ((ro.length : Int) != 32) = false := by rw [bne_eq_false_iff_eq]; omega
        have hsp := allD_short hal
        have HS : Hid (grewS m ro n rn p = (match Tr.two m.toNat n.toNat true ro p with | none => false | some ab => ab.1 == ro && ab.2 == rn)) := Lib.hid (by rw [hS.out, hal, decide_eq_true h32]; rfl)
        have H32 := Lib.hid h32
        clear hS hal h32
        obtain ⟨ni, hni⟩ : ∃ k : Nat, n = (k : Int) := ⟨n.toNat, by omega⟩
        obtain ⟨mi, hmi⟩ : ∃ k : Nat, m = (k : Int) := ⟨m.toNat, by omega⟩
        subst hni hmi
        simp only [Int.toNat_natCast] at HS
        have b2' : decide (ni < mi) = false := by simp; omega
        have HW := Lib.hid hW
        have e0 : W.cell? ⟨w.heap.size, 0, none⟩ = some (.int .i64 mi) := hbo.cell 0
        have e1 : W.cell? ⟨w.heap.size, 1, none⟩ = some (.slice A2 ro.length c2) := hbo.cell 1
        have e2 : W.cell? ⟨w.heap.size + 1, 0, none⟩ = some (.int .i64 ni) := hbn.cell 0
        have e3 : W.cell? ⟨w.heap.size + 1, 1, none⟩ = some (.slice A3 rn.length c3) := hbn.cell 1
        clear hW
        go_enter Try.func27, Try.ntmps27
        go_wp2_with fail
        rw [← HW.out]
        refine HD.out.mono ?_
        rintro e w' ⟨rfl, hw⟩
        subst hw
        clear HD
        by_cases heq : mi = ni
        · subst heq
          have h2 := HS.out
          rw [Tr.two_whole (by omega)] at h2
          have b5 : ((mi : Int) == (mi : Int)) = true := by simp
          by_cases hp0 : p = []
          · subst hp0
            have HF : Hid (grewS (mi : Int) ro (mi : Int) rn [] = (ro == rn)) := Lib.hid (by rw [h2]; simp)
            have hq := equal_any w' _ _ _ _ ro rn hroW hrnW
            have HQ := Lib.hid hq
            have hz : ((0 : Int) == 0) = true := rfl
            simp only [List.length_nil] at *
            clear h2 HS hq
            go_wp2_with fail
            refine HQ.out.mono ?_
            rintro e w2 ⟨rfl, hw⟩
            subst hw
            go_wp2_with fail
            go_ret
            exact ⟨by rw [HF.out]; rfl, hx0⟩
          · have HF : Hid (grewS (mi : Int) ro (mi : Int) rn p = false) := Lib.hid (by rw [h2, if_neg hp0])
            have hz : ((p.length : Int) == 0) = false := by rw [beq_eq_false_iff_ne]; have := List.length_pos_iff.2 hp0; omega
            clear h2 HS hp0
            go_wp2_with fail
            go_ret
            exact ⟨by rw [HF.out]; rfl, hx0⟩
        · have b5 : ((mi : Int) == (ni : Int)) = false := by rw [beq_eq_false_iff_ne]; omega
          have hlt : mi < ni := by omega
          have hq := Tr.grew2_whole mi ni ro p (by omega) hlt (by omega)
          have hpb := pow2_bits mi (by omega) (by omega)
          have hsq : Short (if Tr.pow2 mi = true then ro :: p else p) := by
            split
            · intro x hx
              rcases List.mem_cons.1 hx with h | h
              · subst h; have := H32.out; omega
              · exact hsp x h
            · exact hsp
          obtain ⟨q, hqd⟩ : ∃ q, q = (if Tr.pow2 mi = true then ro :: p else p) := ⟨_, rfl⟩
          rw [← hqd] at hq hsq
          rw [← hq] at HS
          have HB := Lib.hid hpb
          have HQ := Lib.hid hqd
          clear hq hpb hqd heq
          go_upto_if 60 with (fail)
          go_cut [2] (fun v w2 => BList w2 (fun k => k < w2.heap.size) v q ∧ Below w'.heap.size w' w2)
          case first =>
            cases hb : Tr.pow2 mi with
            | true =>
              have hbB := HB.out
              rw [hb] at hbB
              have hqq : q = ro :: p := by rw [HQ.out, hb]; rfl
              have HQQ := Lib.hid hqq
              obtain ⟨vs, hvs1, hvs2⟩ := hpW
              have hown := Own.new w' w'.heap.size 22 [.slice A2 ro.length c2] 1 rfl (by decide) (Nat.le_refl _)
              have hxn := (Below.refl w'.heap.size w').alloc (Nat.le_refl _) (.cells #[.slice A2 ro.length c2] 22)
              have hsrc := hvs1.alloc (.cells #[.slice A2 ro.length c2] 22)
              have hvl : vs.length = p.length := by obtain ⟨_, _, _, _, _, h, _⟩ := hvs1; omega
              have hone := blist_oneCell hvl hvs2
              have HVL := Lib.hid hvl
              clear hb hqq hvl
              go_wp2_with (at_builtin
                           refine wpList_append_Own _ rfl (.tmp 63) (.tmp 64) 40 rfl w'.heap.size 22 i0 _ 1 24 Try.underlying40 hi hz0 hz1 hz2 rfl (by omega) (.slice (some ⟨w'.heap.size, 0, none⟩) 1 1) 1 [.slice A2 ro.length c2] (by rfl) hown F'' (.slice A p.length c) p.length vs (by rfl) hsrc hone (by simp only [maxLen]; omega) (by omega) (by simp) ?_
                           intro v1 w1 hown1 hgr1 hat1
                           have hx2 : Below w'.heap.size w' w1 := hxn.grown hgr1 hxn.size (fun k hk => (hown.lt k hk).1))
              go_meet
              refine ⟨?_, hx2⟩
              rw [HQQ.out]
              refine BList.cons_ (by omega) hown1 ((hroW.below hx2).weak (fun k hk _ => hk)) (fun i b hb => ?_)
              obtain ⟨u, hu, hub⟩ := hvs2 i b hb
              exact ⟨u, hu, (hub.below hx2).weak (fun k hk _ => hk)⟩
            | false =>
              have hbB := HB.out
              rw [hb] at hbB
              have hqq : q = p := by rw [HQ.out, hb]; rfl
              have HQQ := Lib.hid hqq
              clear hb hqq
              go_wp2_with fail
              go_meet
              exact ⟨by rw [HQQ.out]; exact hpW.weak (fun k hk _ => hk), Below.refl _ _⟩
          case rest =>
            obtain ⟨hqb, hxq⟩ := hcut
            have hws : w.heap.size + 1 < wc.heap.size := by have := hxq.size; omega
            have e0' : wc.cell? ⟨w.heap.size, 0, none⟩ = some (.int .i64 mi) := (hxq.cell (p := ⟨w.heap.size, 0, none⟩) (by show w.heap.size < _; omega)).trans e0
            have e1' : wc.cell? ⟨w.heap.size, 1, none⟩ = some (.slice A2 ro.length c2) := (hxq.cell (p := ⟨w.heap.size, 1, none⟩) (by show w.heap.size < _; omega)).trans e1
            have e2' : wc.cell? ⟨w.heap.size + 1, 0, none⟩ = some (.int .i64 ni) := (hxq.cell (p := ⟨w.heap.size + 1, 0, none⟩) (by show w.heap.size + 1 < _; omega)).trans e2
            have e3' : wc.cell? ⟨w.heap.size + 1, 1, none⟩ = some (.slice A3 rn.length c3) := (hxq.cell (p := ⟨w.heap.size + 1, 1, none⟩) (by show w.heap.size + 1 < _; omega)).trans e3
            have hroC := hroW.below hxq
            have hrnC := hrnW.below hxq
            have hxw : Below w.heap.size w wc := hx0.trans (hxq.mono hx0.size)
            obtain ⟨A4, c4, hv4, hqc, hcm4, hA4⟩ := hqb.shape
            subst hv4
            unfold maxLen at hcm4
            clear e0 e1 e2 e3 hbo hbn hpW hroW hrnW hx0 hxq HB HQ HW
            match q, hqb with
            | [], hqb =>
              have HS2 : Hid (grewS (mi : Int) ro (ni : Int) rn p = false) := Lib.hid (by rw [HS.out]; rfl)
              clear HS hA4
              simp only [List.length_nil] at *
              have hz : ((0 : Int) == 0) = true := rfl
              go_wp2_with fail
              go_ret
              exact ⟨by rw [HS2.out]; rfl, hxw⟩
            | x :: q', hqb =>
              obtain ⟨b, off, rfl, hF4, hb4⟩ := hA4 (by simp)
              obtain ⟨b', off', u, hA', hcu, _, _, hub⟩ := hqb.at_ (j := 0) (by simp)
              injection hA' with hA'
              injection hA' with g1 g2
              subst g1 g2
              have hcu' : wc.cell? ⟨b, off, none⟩ = some u := hcu
              have hx1k : x.length ≤ 1000 := hsq x (by simp)
              have hsq' : Short q' := fun y hy => hsq y (by simp [hy])
              have hlB : (((x :: q').length : Int) == 0) = false := by rw [beq_eq_false_iff_ne, List.length_cons]; omega
              have hl1 : (1 : Int) ≤ ((x :: q').length : Int) := by rw [List.length_cons]; omega
              have hl0 : (0 : Int) < ((x :: q').length : Int) := by rw [List.length_cons]; omega
              have hHS : Hid (grewS (mi : Int) ro (ni : Int) rn p = match Tr.climb2 (x, x) (Tr.strip (mi - 1) (ni - 1)).1 (Tr.strip (mi - 1) (ni - 1)).2 q' with | none => false | some ab => ab.1 == ro && ab.2 == rn) := Lib.hid (by rw [HS.out]; rfl)
              have htl := hqb.tail
              have hqc' : (q'.length + 1 : Int) ≤ (c4 : Int) := by simp only [List.length_cons] at hqc; omega
              clear HS hA4 hcu
              go_wp2_with fail
              go_quiet (fail)
              go_wp2_with fail
              go_loopg [7, 8] (mi - 1) (fun k ui ul wr => ui = .int .i64 (k : Int) ∧ ∃ l' : Nat, ul = .int .i64 (l' : Int) ∧ k ≤ 100 ∧ l' ≤ 100 ∧ Hid (Tr.strip k l' = Tr.strip (mi - 1) (ni - 1)) ∧ wr = wc.drewN nq)
              case atStart => exact ⟨congrArg (Value.int .i64) (by omega), ni - 1, congrArg (Value.int .i64) (by omega), by omega, by omega, Lib.hid rfl, rfl⟩
              case round =>
                obtain ⟨rfl, l', rfl, hk1, hl1', HST, rfl⟩ := hrel
                by_cases hodd : gk % 2 = 1
                · have t1 : ((gk : Int) % 2 == 1) = true := by rw [beq_iff_eq]; omega
                  have hst := HST.out
                  rw [Tr.strip_odd hodd] at hst
                  have HST2 := Lib.hid hst
                  clear hst
                  go_wp2_with fail
                  go_roundg (gk / 2)
                  case measure => omega
                  case rel => exact ⟨congrArg (Value.int .i64) (by omega), l' / 2, congrArg (Value.int .i64) (by omega), by omega, by omega, HST2, rfl⟩
                · have t1 : ((gk : Int) % 2 == 1) = false := by rw [beq_eq_false_iff_ne]; omega
                  have hst := HST.out
                  rw [Tr.strip_even hodd] at hst
                  have HS3 : Hid (grewS (mi : Int) ro (ni : Int) rn p = match Tr.climb2 (x, x) gk l' q' with | none => false | some ab => ab.1 == ro && ab.2 == rn) := Lib.hid (by have h := hHS.out; rw [← hst] at h; exact h)
                  clear hst HST hHS
                  go_wp2_with fail
                  go_quiet (fail)
                  go_upto_region 13 with (fail)
                  go_cut [89, 90, 91] (fun s ll jj w2 => BList w2 (fun k => k < w2.heap.size) s q' ∧ ll = .int .i64 (q'.length : Int) ∧ jj = .int .i64 0 ∧ ∃ t : Nat, w2 = wc.drewN t)
                  case first =>
                    by_cases hc4 : c4 = 1
                    · have htl1 : BList wc (fun k => k < wc.heap.size) (.slice (some ⟨b, off, none⟩) q'.length 0) q' := by subst hc4; exact htl
                      have hq0 : q'.length = 0 := by omega
                      have hc4B : ((c4 : Int) == 1) = true := by rw [beq_iff_eq]; omega
                      clear htl hq0
                      subst hc4
                      go_wp2_with fail
                      go_meet
                      exact ⟨htl1, rfl, rfl, _, rfl⟩
                    · have htl1 : BList wc (fun k => k < wc.heap.size) (.slice (some ⟨b, off + 1, none⟩) q'.length (c4 - 1)) q' := by rw [if_neg hc4] at htl; exact htl
                      have hc4B : ((c4 : Int) == 1) = false := by rw [beq_eq_false_iff_ne]; omega
                      clear htl
                      go_wp2_with fail
                      go_meet
                      exact ⟨htl1, rfl, rfl, _, rfl⟩
                  case rest =>
                    obtain ⟨hqt0, rfl, rfl, t, rfl⟩ := hcut
                    have hqt : BList wc (fun k => k < wc.heap.size) _ q' := hqt0
                    clear hqt0
                    obtain ⟨A5, c5, hv5, hqc5, hcm5, hA5⟩ := hqt.shape
                    subst hv5
                    unfold maxLen at hcm5
                    have hub1 : Bytes (wc.drewN t) (fun k => k < wc.heap.size) u x := hub
                    obtain ⟨s1, hs1⟩ : ∃ s, s = gk := ⟨_, rfl⟩
                    obtain ⟨s2, hs2⟩ : ∃ s, s = l' := ⟨_, rfl⟩
                    rw [← hs1, ← hs2] at HS3
                    have HS1 := Lib.hid hs1
                    have HS2 := Lib.hid hs2
                    have hq63 : q'.length ≤ 9223372036854775806 := by omega
                    clear hs1 hs2 htl hcu' hub
                    go_wp2_with fail
                    go_loopg [7, 8, 9, 10, 91] q'.length (fun k ui ul ua ub uj wr => ∃ (i l : Nat) (a b' : Bs) (j : Nat), j + k = q'.length ∧ ui = .int .i64 (i : Int) ∧ ul = .int .i64 (l : Int) ∧ uj = .int .i64 (j : Int) ∧ i ≤ 100 ∧ l ≤ 100 ∧
                      Bytes wr (fun k => k < wr.heap.size) ua a ∧ Bytes wr (fun k => k < wr.heap.size) ub b' ∧ a.length ≤ 1000 ∧ b'.length ≤ 1000 ∧ Hid (Tr.climb2 (a, b') i l (q'.drop j) = Tr.climb2 (x, x) s1 s2 q') ∧ Below wc.heap.size wc wr)
                    case atStart => exact ⟨gk, l', x, x, 0, by omega, rfl, rfl, rfl, by omega, by omega, hub1, hub1, hx1k, hx1k, Lib.hid (by rw [HS1.out, HS2.out]; rfl), below_drewN (Below.refl _ _) t⟩
                    case round =>
                      clear hub1 HS1 HS2
                      generalize gk = gk0 at *
                      obtain ⟨i, l, a, b', j, hj, rfl, rfl, rfl, hi1, hl1', hab, hbb, ha1, hb1, HC, hxr⟩ := hrel
                      have hwr := hxr.size
                      have f1' : wr.cell? ⟨w.heap.size, 1, none⟩ = some (.slice A2 ro.length c2) := (hxr.cell (p := ⟨w.heap.size, 1, none⟩) (by show w.heap.size < _; omega)).trans e1'
                      have f3' : wr.cell? ⟨w.heap.size + 1, 1, none⟩ = some (.slice A3 rn.length c3) := (hxr.cell (p := ⟨w.heap.size + 1, 1, none⟩) (by show w.heap.size + 1 < _; omega)).trans e3'
                      obtain ⟨Aa, ca, hva, _, _⟩ := hab.form'
                      subst hva
                      obtain ⟨Ab, cb, hvb, _, _⟩ := hbb.form'
                      subst hvb
                      clear e0' e1' e2' e3'
                      by_cases hjl : j < q'.length
                      · obtain ⟨b5, off5, u5, hA6, hcu, _, hb5, hub⟩ := hqt.at_ hjl
                        subst hA6
                        have hcd := (hxr.cell (p := ⟨b5, off5 + j, none⟩) hb5).trans hcu
                        have hdb : Bytes wr (fun k => k < wr.heap.size) u5 q'[j] := (hub.below hxr).weak (fun k hk _ => hk)
                        have hd1 : q'[j].length ≤ 1000 := hsq' _ (List.getElem_mem hjl)
                        have hdr : q'.drop j = q'[j] :: q'.drop (j + 1) := List.drop_eq_getElem_cons hjl
                        have hjB : (j : Int) < (q'.length : Int) := by omega
                        generalize q'[j] = d at *
                        have HD := Lib.hid hdr
                        clear hdr hcu hub
                        by_cases hl : l = 0
                        · have HF : Hid (grewS (mi : Int) ro (ni : Int) rn p = false) := Lib.hid (by rw [HS3.out, ← HC.out, HD.out, Tr.climb2, if_pos hl])
                          have t1 : ((l : Int) == 0) = true := by rw [beq_iff_eq]; omega
                          clear hl HC HS3
                          go_wp2_with fail
                          go_ret
                          exact ⟨by rw [HF.out]; rfl, hxw.trans (hxr.mono hxw.size)⟩
                        · have t0 : ((l : Int) == 0) = false := by rw [beq_eq_false_iff_ne]; omega
                          have hcase : i % 2 = 1 ∨ (¬ i % 2 = 1 ∧ i = l) ∨ (¬ i % 2 = 1 ∧ ¬ i = l) := by omega
                          rcases hcase with ho | ⟨ho, he⟩ | ⟨ho, he⟩
                          · have t3 : ((i : Int) % 2 == 1) = true := by rw [beq_iff_eq]; omega
                            have hc1 : Hid (Tr.climb2 (Tr.nodeH d a, Tr.nodeH d b') ((Tr.strip0 i l).1 / 2) ((Tr.strip0 i l).2 / 2) (q'.drop (j + 1)) = Tr.climb2 (x, x) s1 s2 q') := Lib.hid (by rw [← HC.out, HD.out, Tr.climb2, if_neg (by omega), if_pos (by omega)]; rfl)
                            clear ho hl
                            try clear he
                            have hn1 := node_any wr _ _ _ _ d a hdb hab (by omega)
                            go_wp2_with fail
                            refine hn1.mono ?_
                            rintro e w5 ⟨va, rfl, howna, hx5⟩
                            have hbb5 := hbb.below hx5
                            have hdb5 := hdb.below hx5
                            go_wp2_with fail
                            refine (node_any w5 _ _ _ _ d b' hdb5 hbb5 (by omega)).mono ?_
                            rintro e w6 ⟨vb, rfl, hownb, hx6⟩
                            have hA6 : Bytes w6 (fun k => k < w6.heap.size) va (Tr.nodeH d a) := ((OwnB.bytes howna).below hx6).weak (fun k hk _ => hk)
                            have hB6 : Bytes w6 (fun k => k < w6.heap.size) vb (Tr.nodeH d b') := (OwnB.bytes hownb).weak (fun k hk _ => hk)
                            have hx6' := (hxr.trans (hx5.mono hxr.size)).trans (hx6.mono (by have := hxr.size; have := hx5.size; omega))
                            clear hx5 hx6 hbb5 hdb5
                            go_wp2_with fail
                            go_loopg [7, 8] i (fun k ui ul wr => ui = .int .i64 (k : Int) ∧ ∃ l' : Nat, ul = .int .i64 (l' : Int) ∧ k ≤ 100 ∧ l' ≤ 100 ∧ Hid (Tr.strip0 k l' = Tr.strip0 i l) ∧ wr = w6)
                            case atStart => exact ⟨rfl, l, rfl, by omega, by omega, Lib.hid rfl, rfl⟩
                            case round =>
                              obtain ⟨rfl, l', rfl, hk1, hl1, HST, rfl⟩ := hrel
                              by_cases hgo : gk % 2 = 0 ∧ 0 < gk
                              · have t1 : ((gk : Int) % 2 == 0) = true := by rw [beq_iff_eq]; omega
                                have t2 : (0 : Int) < (gk : Int) := by omega
                                have hst := HST.out
                                rw [Tr.strip0_even hgo] at hst
                                have HST2 := Lib.hid hst
                                clear hst
                                go_wp2_with fail
                                go_roundg (gk / 2)
                                case measure => omega
                                case rel => exact ⟨congrArg (Value.int .i64) (by omega), l' / 2, congrArg (Value.int .i64) (by omega), by omega, by omega, HST2, rfl⟩
                              · have hst := HST.out
                                rw [Tr.strip0_odd hgo] at hst
                                have HCN : Hid (Tr.climb2 (Tr.nodeH d a, Tr.nodeH d b') (gk / 2) (l' / 2) (q'.drop (j + 1)) = Tr.climb2 (x, x) s1 s2 q') := Lib.hid (by have h := hc1.out; rw [← hst] at h; exact h)
                                clear hst
                                have hgo' : gk % 2 = 1 ∨ (gk % 2 = 0 ∧ gk = 0) := by omega
                                clear hgo
                                rcases hgo' with h1 | ⟨h1, h2⟩
                                · have t1 : ((gk : Int) % 2 == 0) = false := by rw [beq_eq_false_iff_ne]; omega
                                  go_wp2_with fail
                                  go_roundg (gk0 - 1)
                                  case measure => omega
                                  case rel => exact ⟨gk / 2, l' / 2, _, _, j + 1, by omega, congrArg (Value.int .i64) (by omega), congrArg (Value.int .i64) (by omega), by go_num, by omega, by omega, hA6, hB6, by rw [Tr.length_nodeH]; omega, by rw [Tr.length_nodeH]; omega, HCN, hx6'⟩
                                · subst h2
                                  have t1 : (((0 : Nat) : Int) % 2 == 0) = true := rfl
                                  go_wp2_with fail
                                  go_roundg (gk0 - 1)
                                  case measure => omega
                                  case rel => exact ⟨0, l' / 2, _, _, j + 1, by omega, by simp, congrArg (Value.int .i64) (by omega), by go_num, by omega, by omega, hA6, hB6, by rw [Tr.length_nodeH]; omega, by rw [Tr.length_nodeH]; omega, HCN, hx6'⟩
                          · have t3 : ((i : Int) % 2 == 1) = false := by rw [beq_eq_false_iff_ne]; omega
                            have t4 : ((i : Int) == (l : Int)) = true := by rw [beq_iff_eq]; omega
                            have hc1 : Hid (Tr.climb2 (Tr.nodeH d a, Tr.nodeH d b') ((Tr.strip0 i l).1 / 2) ((Tr.strip0 i l).2 / 2) (q'.drop (j + 1)) = Tr.climb2 (x, x) s1 s2 q') := Lib.hid (by rw [← HC.out, HD.out, Tr.climb2, if_neg (by omega), if_pos (by omega)]; rfl)
                            clear ho hl
                            try clear he
                            have hn1 := node_any wr _ _ _ _ d a hdb hab (by omega)
                            go_wp2_with fail
                            refine hn1.mono ?_
                            rintro e w5 ⟨va, rfl, howna, hx5⟩
                            have hbb5 := hbb.below hx5
                            have hdb5 := hdb.below hx5
                            go_wp2_with fail
                            refine (node_any w5 _ _ _ _ d b' hdb5 hbb5 (by omega)).mono ?_
                            rintro e w6 ⟨vb, rfl, hownb, hx6⟩
                            have hA6 : Bytes w6 (fun k => k < w6.heap.size) va (Tr.nodeH d a) := ((OwnB.bytes howna).below hx6).weak (fun k hk _ => hk)
                            have hB6 : Bytes w6 (fun k => k < w6.heap.size) vb (Tr.nodeH d b') := (OwnB.bytes hownb).weak (fun k hk _ => hk)
                            have hx6' := (hxr.trans (hx5.mono hxr.size)).trans (hx6.mono (by have := hxr.size; have := hx5.size; omega))
                            clear hx5 hx6 hbb5 hdb5
                            go_wp2_with fail
                            go_loopg [7, 8] i (fun k ui ul wr => ui = .int .i64 (k : Int) ∧ ∃ l' : Nat, ul = .int .i64 (l' : Int) ∧ k ≤ 100 ∧ l' ≤ 100 ∧ Hid (Tr.strip0 k l' = Tr.strip0 i l) ∧ wr = w6)
                            case atStart => exact ⟨rfl, l, rfl, by omega, by omega, Lib.hid rfl, rfl⟩
                            case round =>
                              obtain ⟨rfl, l', rfl, hk1, hl1, HST, rfl⟩ := hrel
                              by_cases hgo : gk % 2 = 0 ∧ 0 < gk
                              · have t1 : ((gk : Int) % 2 == 0) = true := by rw [beq_iff_eq]; omega
                                have t2 : (0 : Int) < (gk : Int) := by omega
                                have hst := HST.out
                                rw [Tr.strip0_even hgo] at hst
                                have HST2 := Lib.hid hst
                                clear hst
                                go_wp2_with fail
                                go_roundg (gk / 2)
                                case measure => omega
                                case rel => exact ⟨congrArg (Value.int .i64) (by omega), l' / 2, congrArg (Value.int .i64) (by omega), by omega, by omega, HST2, rfl⟩
                              · have hst := HST.out
                                rw [Tr.strip0_odd hgo] at hst
                                have HCN : Hid (Tr.climb2 (Tr.nodeH d a, Tr.nodeH d b') (gk / 2) (l' / 2) (q'.drop (j + 1)) = Tr.climb2 (x, x) s1 s2 q') := Lib.hid (by have h := hc1.out; rw [← hst] at h; exact h)
                                clear hst
                                have hgo' : gk % 2 = 1 ∨ (gk % 2 = 0 ∧ gk = 0) := by omega
                                clear hgo
                                rcases hgo' with h1 | ⟨h1, h2⟩
                                · have t1 : ((gk : Int) % 2 == 0) = false := by rw [beq_eq_false_iff_ne]; omega
                                  go_wp2_with fail
                                  go_roundg (gk0 - 1)
                                  case measure => omega
                                  case rel => exact ⟨gk / 2, l' / 2, _, _, j + 1, by omega, congrArg (Value.int .i64) (by omega), congrArg (Value.int .i64) (by omega), by go_num, by omega, by omega, hA6, hB6, by rw [Tr.length_nodeH]; omega, by rw [Tr.length_nodeH]; omega, HCN, hx6'⟩
                                · subst h2
                                  have t1 : (((0 : Nat) : Int) % 2 == 0) = true := rfl
                                  go_wp2_with fail
                                  go_roundg (gk0 - 1)
                                  case measure => omega
                                  case rel => exact ⟨0, l' / 2, _, _, j + 1, by omega, by simp, congrArg (Value.int .i64) (by omega), by go_num, by omega, by omega, hA6, hB6, by rw [Tr.length_nodeH]; omega, by rw [Tr.length_nodeH]; omega, HCN, hx6'⟩
                          · have t3 : ((i : Int) % 2 == 1) = false := by rw [beq_eq_false_iff_ne]; omega
                            have t4 : ((i : Int) == (l : Int)) = false := by rw [beq_eq_false_iff_ne]; omega
                            have HCN : Hid (Tr.climb2 (a, Tr.nodeH b' d) (i / 2) (l / 2) (q'.drop (j + 1)) = Tr.climb2 (x, x) s1 s2 q') := Lib.hid (by rw [← HC.out, HD.out, Tr.climb2, if_neg hl, if_neg (by omega)]; rfl)
                            clear ho he hl HC HS3
                            go_wp2_with fail
                            refine (node_any wr _ _ _ _ b' d hbb hdb (by omega)).mono ?_
                            rintro e w5 ⟨vb, rfl, hownb, hx5⟩
                            have hab5 : Bytes w5 (fun k => k < w5.heap.size) _ a := (hab.below hx5).weak (fun k hk _ => hk)
                            have hbb5 : Bytes w5 (fun k => k < w5.heap.size) vb (Tr.nodeH b' d) := (OwnB.bytes hownb).weak (fun k hk _ => hk)
                            have hx6 := hxr.trans (hx5.mono hwr)
                            go_wp2_with fail
                            go_roundg (gk0 - 1)
                            case measure => omega
                            case rel => exact ⟨i / 2, l / 2, _, _, j + 1, by omega, congrArg (Value.int .i64) (by omega), congrArg (Value.int .i64) (by omega), by go_num, by omega, by omega, hab5, hbb5, ha1, by rw [Tr.length_nodeH]; omega, HCN, hx6⟩
                      · have hjB : decide ((j : Int) < (q'.length : Int)) = false := by simp; omega
                        have hc := HC.out
                        rw [List.drop_of_length_le (by omega), Tr.climb2] at hc
                        by_cases hl : l = 0
                        · rw [if_pos hl] at hc
                          have HF : Hid (grewS (mi : Int) ro (ni : Int) rn p = (a == ro && b' == rn)) := Lib.hid (by rw [HS3.out, ← hc])
                          have t1 : ((l : Int) == 0) = true := by rw [beq_iff_eq]; omega
                          have q1 := equal_any wr _ _ _ _ a ro hab (hroC.below hxr)
                          have q2 := equal_any wr _ _ _ _ b' rn hbb (hrnC.below hxr)
                          clear hl HC HS3 hc
                          cases heqa : (a == ro) with
                          | false =>
                            rw [heqa] at q1 HF
                            have HQ1 := Lib.hid q1
                            clear q1 q2 heqa
                            go_wp2_with fail
                            refine HQ1.out.mono ?_
                            rintro e w' ⟨rfl, hw⟩
                            subst hw
                            go_wp2_with fail
                            go_ret
                            exact ⟨by rw [HF.out]; rfl, hxw.trans (hxr.mono hxw.size)⟩
                          | true =>
                            rw [heqa] at q1 HF
                            have HQ1 := Lib.hid q1
                            have HQ2 := Lib.hid q2
                            clear q1 q2 heqa
                            go_wp2_with fail
                            refine HQ1.out.mono ?_
                            rintro e w' ⟨rfl, hw⟩
                            subst hw
                            go_wp2_with fail
                            refine HQ2.out.mono ?_
                            rintro e w' ⟨rfl, hw⟩
                            subst hw
                            go_wp2_with fail
                            go_ret
                            exact ⟨by rw [HF.out]; rfl, hxw.trans (hxr.mono hxw.size)⟩
                        · rw [if_neg hl] at hc
                          have HF : Hid (grewS (mi : Int) ro (ni : Int) rn p = false) := Lib.hid (by rw [HS3.out, ← hc])
                          have t1 : ((l : Int) == 0) = false := by rw [beq_eq_false_iff_ne]; omega
                          clear hl HC HS3 hc
                          go_wp2_with fail
                          go_ret
                          exact ⟨by rw [HF.out]; rfl, hxw.trans (hxr.mono hxw.size)⟩
      · have b4 : ((ro.length : Int) != 32) = true := by rw [bne_iff_ne]; omega
        have HS : Hid (grewS m ro n rn p = false) := Lib.hid (by rw [hS.out, hal, decide_eq_false h32]; rfl)
        have e1 : W.cell? ⟨w.heap.size, 1, none⟩ = some (.slice A2 ro.length c2) := hbo.cell 1
        have HW := Lib.hid hW
        clear hS hal h32 hW
        go_enter Try.func27, Try.ntmps27
        go_wp2_with fail
        rw [← HW.out]
        refine HD.out.mono ?_
        rintro e w' ⟨rfl, hw⟩
        subst hw
        go_wp2_with fail
        go_ret
        exact ⟨by rw [HS.out]; rfl, hx0⟩
  · have HS := Lib.hid (grewS_no (ro := ro) (rn := rn) (p := p) hall)
    have hcase : m < 1 ∨ (¬ m < 1 ∧ n < m) ∨ (¬ m < 1 ∧ ¬ n < m ∧ 100 < n) := by omega
    clear hall
    have HW := Lib.hid hW
    clear hW
    rcases hcase with h1 | ⟨h1, h2⟩ | ⟨h1, h2, h3⟩
    · have b1 : decide (m < 1) = true := by simp; omega
      go_enter Try.func27, Try.ntmps27
      go_wp2_with fail
      go_ret
      exact ⟨by rw [HS.out]; rfl, by rw [← HW.out]; exact hx0⟩
    · have b1 : decide (m < 1) = false := by simp; omega
      have b2 : decide (n < m) = true := by simp; omega
      go_enter Try.func27, Try.ntmps27
      go_wp2_with fail
      go_ret
      exact ⟨by rw [HS.out]; rfl, by rw [← HW.out]; exact hx0⟩
    · have b1 : decide (m < 1) = false := by simp; omega
      have b2 : decide (n < m) = false := by simp; omega
      have b3 : decide (100 < n) = true := by simp; omega
      go_enter Try.func27, Try.ntmps27
      go_wp2_with fail
      go_ret
      exact ⟨by rw [HS.out]; rfl, by rw [← HW.out]; exact hx0⟩
end Go.Proofs.Ytfdibjgmbdkbcaa
