/-
  THE WALK of yearref2.Push. Conditions: what comes in is read as a list of bytes, and bytes.
-/
import Derived.Test.YtfdibjgmbdkbcaaR2E
import Derived.Test.YtfdibjgmbdkbcaaTreeL
namespace Go.Proofs.Ytfdibjgmbdkbcaa
open Go.RowKit Go.Lib

set_option maxRecDepth 100000 in
set_option maxHeartbeats 4000000 in
theorem rpush_form (w : World) (F F' : Nat → Prop) (vp vb : Value) (n : Int) (ps : List Bs) (b : Bs) (hp : BList w F vp ps) (hbb : Bytes w F' vb b) (he : ¬ edgeOk n ps 99) :
    Calls Try.prog 36 #[.agg #[.int .i64 n, vp], vb] w fun e w' => e = .returned (.tuple #[.agg #[.int .i64 0, .slice none 0 0], .int .i64 2]) ∧ Below w.heap.size w w' := by
  obtain ⟨A, c, hvp, hpc, hcm, hA⟩ := hp.shape
  subst hvp
  obtain ⟨A2, c2, hvb, _, hc2⟩ := hbb.form'
  subst hvb
  unfold maxLen at hcm hc2
  obtain ⟨W, hW⟩ : ∃ W, W = (w.alloc (.cells #[.int .i64 n, .slice A ps.length c] 45)).alloc (.cells #[.int .i64 0, .slice none 0 0] 45) := ⟨_, rfl⟩
  have hx0 : Below w.heap.size w W := by rw [hW]; exact ((Below.refl _ _).alloc (Nat.le_refl _) _).alloc (by simp) _
  have hbo : Blk W w.heap.size 45 #[.int .i64 n, .slice A ps.length c] := by rw [hW]; exact Blk.alloc (heap_alloc_new w _) _
  have hbn : Blk W (w.heap.size + 1) 45 #[.int .i64 0, .slice none 0 0] := by rw [hW]; have := heap_alloc_new (w.alloc (.cells #[.int .i64 n, .slice A ps.length c] 45)) (.cells #[.int .i64 0, .slice none 0 0] 45); rwa [World.size_alloc] at this
  have hsz : w.heap.size + 1 < W.heap.size := by rw [hW]; simp
  have hr := redge_no W F _ n ps 99 (hp.below hx0) (by decide) he
  have HR := Lib.hid hr
  have HW := Lib.hid hW
  clear hr hW he hA
  go_enter Try.func36, Try.ntmps36
  go_wp2_with fail
  rw [← HW.out]
  refine HR.out.mono ?_
  rintro e w1 ⟨rfl, hx1⟩
  have hxw := hx0.trans (hx1.mono hx0.size)
  have hb1 := hbn.below hx1 hbn.lt
  have r0 : w1.cell? ⟨w.heap.size + 1, 0, none⟩ = some (.int .i64 0) := hb1.cell 0
  have r1 : w1.cell? ⟨w.heap.size + 1, 1, none⟩ = some (.slice none 0 0) := hb1.cell 1
  have f0 := hb1.frozen 0
  have f1 := hb1.frozen 1
  go_wp2_with fail
  have hb6 := (hb1.set_ 0 (.int .i64 0)).set_ 1 (.slice none 0 0)
  have hx6 := (hxw.setCell (p := ⟨w.heap.size + 1, 0, none⟩) (by simp) (.int .i64 0)).setCell (p := ⟨w.heap.size + 1, 1, none⟩) (by simp) (.slice none 0 0)
  generalize (w1.setCell ⟨w.heap.size + 1, 0, none⟩ (.int .i64 0)).setCell ⟨w.heap.size + 1, 1, none⟩ (.slice none 0 0) = w6 at *
  have e4 : w6.cell? ⟨w.heap.size + 1, 0, none⟩ = some (.int .i64 0) := hb6.cell 0
  have e5 : w6.cell? ⟨w.heap.size + 1, 1, none⟩ = some (.slice none 0 0) := hb6.cell 1
  exact bodyPost_ret (v := .tuple #[.agg #[.int .i64 0, .slice none 0 0], .int .i64 2]) (by simp [results, Try.results36, go_sem, e4, e5]) rfl ⟨rfl, hx6⟩

set_option maxRecDepth 100000 in
set_option maxHeartbeats 4000000 in
theorem rpush_much (w : World) (F F' : Nat → Prop) (vp vb : Value) (n : Int) (ps : List Bs) (b : Bs) (hp : BList w F vp ps) (hbb : Bytes w F' vb b) (he : edgeOk n ps 99) (hb2 : ¬ b.length ≤ 200) :
    Calls Try.prog 36 #[.agg #[.int .i64 n, vp], vb] w fun e w' => e = .returned (.tuple #[.agg #[.int .i64 0, .slice none 0 0], .int .i64 4]) ∧ Below w.heap.size w w' := by
  obtain ⟨A, c, hvp, hpc, hcm, hA⟩ := hp.shape
  subst hvp
  obtain ⟨A2, c2, hvb, _, hc2⟩ := hbb.form'
  subst hvb
  unfold maxLen at hcm hc2
  obtain ⟨W, hW⟩ : ∃ W, W = (w.alloc (.cells #[.int .i64 n, .slice A ps.length c] 45)).alloc (.cells #[.int .i64 0, .slice none 0 0] 45) := ⟨_, rfl⟩
  have hx0 : Below w.heap.size w W := by rw [hW]; exact ((Below.refl _ _).alloc (Nat.le_refl _) _).alloc (by simp) _
  have hbo : Blk W w.heap.size 45 #[.int .i64 n, .slice A ps.length c] := by rw [hW]; exact Blk.alloc (heap_alloc_new w _) _
  have hbn : Blk W (w.heap.size + 1) 45 #[.int .i64 0, .slice none 0 0] := by rw [hW]; have := heap_alloc_new (w.alloc (.cells #[.int .i64 n, .slice A ps.length c] 45)) (.cells #[.int .i64 0, .slice none 0 0] 45); rwa [World.size_alloc] at this
  have hsz : w.heap.size + 1 < W.heap.size := by rw [hW]; simp
  have hr := redge_yes W F _ n ps 99 (hp.below hx0) (by decide) he
  have HR := Lib.hid hr
  have HW := Lib.hid hW
  have b4 : (200 : Int) < (b.length : Int) := by omega
  clear hr hW he hA
  go_enter Try.func36, Try.ntmps36
  go_wp2_with fail
  rw [← HW.out]
  refine HR.out.mono ?_
  rintro e w1 ⟨rfl, hx1⟩
  have hxw := hx0.trans (hx1.mono hx0.size)
  have hb1 := hbn.below hx1 hbn.lt
  have r0 : w1.cell? ⟨w.heap.size + 1, 0, none⟩ = some (.int .i64 0) := hb1.cell 0
  have r1 : w1.cell? ⟨w.heap.size + 1, 1, none⟩ = some (.slice none 0 0) := hb1.cell 1
  have f0 := hb1.frozen 0
  have f1 := hb1.frozen 1
  go_wp2_with fail
  have hb6 := (hb1.set_ 0 (.int .i64 0)).set_ 1 (.slice none 0 0)
  have hx6 := (hxw.setCell (p := ⟨w.heap.size + 1, 0, none⟩) (by simp) (.int .i64 0)).setCell (p := ⟨w.heap.size + 1, 1, none⟩) (by simp) (.slice none 0 0)
  generalize (w1.setCell ⟨w.heap.size + 1, 0, none⟩ (.int .i64 0)).setCell ⟨w.heap.size + 1, 1, none⟩ (.slice none 0 0) = w6 at *
  have e4 : w6.cell? ⟨w.heap.size + 1, 0, none⟩ = some (.int .i64 0) := hb6.cell 0
  have e5 : w6.cell? ⟨w.heap.size + 1, 1, none⟩ = some (.slice none 0 0) := hb6.cell 1
  exact bodyPost_ret (v := .tuple #[.agg #[.int .i64 0, .slice none 0 0], .int .i64 4]) (by simp [results, Try.results36, go_sem, e4, e5]) rfl ⟨rfl, hx6⟩

/-- a row of the call's own, whose elements lie ahead of the call -/
def RowL (w : World) (B B0 : Nat) (v : Value) (qs : List Bs) (vs : List Value) : Prop :=
  Own w B 22 1 v qs.length vs ∧ ∀ (i : Nat) (b : Bs), qs[i]? = some b → ∃ u : Value, vs[i]? = some u ∧ Bytes w (fun k => k < B0) u b
theorem RowL.below {w w' : World} {B B0 : Nat} {v : Value} {qs : List Bs} {vs : List Value} (h : RowL w B B0 v qs vs) (hb : Below w.heap.size w w') : RowL w' B B0 v qs vs :=
  ⟨h.1.below hb, fun i b hi => by obtain ⟨u, hu, hr⟩ := h.2 i b hi; exact ⟨u, hu, SlAt.below hr hb⟩⟩
/-- the row with one more behind it is a list -/
theorem RowL.more {w0 w : World} {B B0 : Nat} {v u : Value} {qs : List Bs} {d : Bs} {vs : List Value} (h : Own w B 22 1 v (qs.length + 1) (vs ++ [u])) (hl : vs.length = qs.length) (hq : ∀ (i : Nat) (b : Bs), qs[i]? = some b → ∃ u : Value, vs[i]? = some u ∧ Bytes w0 (fun k => k < B0) u b)
    (hk : Below B0 w0 w) (hd : Bytes w (fun _ => True) u d) : BList w (fun _ => True) v (qs ++ [d]) := by
  refine ⟨vs ++ [u], by rw [List.length_append]; exact h.slAt (fun _ _ => trivial), fun i b hi => ?_⟩
  rcases Nat.lt_or_ge i qs.length with hlt | hge
  · rw [List.getElem?_append_left hlt] at hi
    obtain ⟨u', hu', hr⟩ := hq i b hi
    exact ⟨u', by rw [List.getElem?_append_left (by omega)]; exact hu', (SlAt.below_of hr hk (fun k hk => hk)).weak (fun _ _ _ => trivial)⟩
  · have hil : i = qs.length := by
      rcases Nat.lt_or_ge i (qs.length + 1) with h1 | h1
      · omega
      · rw [List.getElem?_eq_none (by rw [List.length_append]; simpa using h1)] at hi; cases hi
    subst hil
    rw [List.getElem?_append_right (Nat.le_refl _), Nat.sub_self] at hi
    injection hi with hi
    subst hi
    exact ⟨u, by rw [List.getElem?_append_right (by omega), hl, Nat.sub_self]; rfl, hd⟩

set_option maxRecDepth 100000 in
set_option maxHeartbeats 8000000 in
theorem rpush_ok (w : World) (F F' : Nat → Prop) (vp vb : Value) (n : Int) (ps : List Bs) (b : Bs) (hp : BList w F vp ps) (hbb : Bytes w F' vb b) (he : edgeOk n ps 99) (hb2 : b.length ≤ 200) :
    Calls Try.prog 36 #[.agg #[.int .i64 n, vp], vb] w fun e w' => ∃ v, e = .returned (.tuple #[.agg #[.int .i64 (n + 1), v], .int .i64 0]) ∧ BList w' (fun _ => True) v (Tr.pushF ps n.toNat (Tr.leafH b)) ∧ Below w.heap.size w w' := by
  obtain ⟨i0, hi, hz0, hz1, hz2⟩ := info_parts info_bytes
  obtain ⟨A, c, hvp, hpc, hcm, hA⟩ := hp.shape
  subst hvp
  obtain ⟨A2, c2, hvb, _, hc2⟩ := hbb.form'
  subst hvb
  unfold maxLen at hcm hc2
  obtain ⟨W, hW⟩ : ∃ W, W = (w.alloc (.cells #[.int .i64 n, .slice A ps.length c] 45)).alloc (.cells #[.int .i64 0, .slice none 0 0] 45) := ⟨_, rfl⟩
  have hx0 : Below w.heap.size w W := by rw [hW]; exact ((Below.refl _ _).alloc (Nat.le_refl _) _).alloc (by simp) _
  have hbo : Blk W w.heap.size 45 #[.int .i64 n, .slice A ps.length c] := by rw [hW]; exact Blk.alloc (heap_alloc_new w _) _
  have hbn : Blk W (w.heap.size + 1) 45 #[.int .i64 0, .slice none 0 0] := by rw [hW]; have := heap_alloc_new (w.alloc (.cells #[.int .i64 n, .slice A ps.length c] 45)) (.cells #[.int .i64 0, .slice none 0 0] 45); rwa [World.size_alloc] at this
  have hsz : w.heap.size + 1 < W.heap.size := by rw [hW]; simp
  have hpW := hp.below hx0
  have hr := redge_yes W F _ n ps 99 hpW (by decide) he
  have HR := Lib.hid hr
  have HW := Lib.hid hW
  obtain ⟨h1, h2, h3, h4⟩ := he
  have h32 := (allD_iff ps).1 h4
  obtain ⟨ni, hni⟩ : ∃ k : Nat, n = (k : Int) := ⟨n.toNat, by omega⟩
  subst hni
  rw [Int.toNat_natCast] at h3 ⊢
  have hpl : ps.length ≤ 100 := by have := ones_le ni; omega
  have b4 : decide ((200 : Int) < (b.length : Int)) = false := decide_eq_false (by omega)
  have H3 := Lib.hid h3
  have e0 : W.cell? ⟨w.heap.size, 0, none⟩ = some (.int .i64 ni) := hbo.cell 0
  have e1 : W.cell? ⟨w.heap.size, 1, none⟩ = some (.slice A ps.length c) := hbo.cell 1
  obtain ⟨vs, hvs1, hvs2⟩ := hp
  have hvl : vs.length = ps.length := by obtain ⟨_, _, _, _, _, h, _⟩ := hvs1; omega
  have hone := blist_oneCell hvl hvs2
  have hvs3 : ∀ (i : Nat) (b : Bs), ps[i]? = some b → ∃ u : Value, vs[i]? = some u ∧ Bytes w (fun k => k < w.heap.size) u b := fun i b hb => by
    obtain ⟨u, hu, hr⟩ := hvs2 i b hb
    exact ⟨u, hu, SlAt.weak hr (fun k hk _ => hk)⟩
  have HV := Lib.hid hvs3
  clear hr hW hA h3 h4 hvs2 hvs3
  go_enter Try.func36, Try.ntmps36
  go_wp2_with fail
  rw [← HW.out]
  refine HR.out.mono ?_
  rintro e w1 ⟨rfl, hx1⟩
  have hxw1 := hx0.trans (hx1.mono hx0.size)
  have hb1 := (hbb.below hx0).below hx1
  have hs1 := hx1.size
  go_wp2_with fail
  refine (In_any w1 _ _ b hb1 (by omega)).mono ?_
  rintro e w2 ⟨v2, rfl, hown2, hx2⟩
  have hs2 := hx2.size
  go_wp2_with fail
  refine (refsum_any w2 _ _ (0 :: b) (OwnB.bytes hown2) (by simp; omega)).mono ?_
  rintro e w3 ⟨v3, rfl, hown3', hx3⟩
  have hs3 := hx3.size
  have hown3 : OwnB w3 W.heap.size v3 (Tr.leafH b) := Own.mono hown3' (by omega)
  have hxW3 := hx1.trans ((hx2.trans (hx3.mono hs2)).mono hs1)
  have hvs4 : SlAt w3 F 1 (.slice A ps.length c) ps.length vs := SlAt.below (SlAt.below hvs1 hx0) hxW3
  have q1 : w3.cell? ⟨w.heap.size, 1, none⟩ = some (.slice A ps.length c) := (hxW3.cell (p := ⟨w.heap.size, 1, none⟩) (by show w.heap.size < _; omega)).trans e1
  have q0 : w3.cell? ⟨w.heap.size, 0, none⟩ = some (.int .i64 ni) := (hxW3.cell (p := ⟨w.heap.size, 0, none⟩) (by show w.heap.size < _; omega)).trans e0
  have q1' := (World.cell?_alloc_lt w3 (.cells #[] 22) ⟨w.heap.size, 1, none⟩ (by show w.heap.size < w3.heap.size; omega)).trans q1
  have hrow0 := Own.new w3 W.heap.size 22 [] 0 rfl (by decide) (by omega)
  have hxa := hxW3.alloc (by omega) (.cells #[] 22)
  have hsrc := hvs4.alloc (.cells #[] 22)
  obtain ⟨A3, c3, hv3, _, _⟩ := Own.shape hown3
  subst hv3
  clear hown2 hown3' hx1 hx2 hx3 hb1
  have hlf : (Tr.leafH b).length = 32 := Tr.length_leafH b
  obtain ⟨lf, hlfe⟩ : ∃ x, Tr.leafH b = x := ⟨_, rfl⟩
  rw [hlfe] at hown3 hlf ⊢
  have HLB := Lib.hid hlfe
  clear hlfe
  have HL := Lib.hid hlf
  clear hlf
  go_wp2_with (at_builtin
               refine wpList_append_Own _ rfl (.tmp 20) (.tmp 22) 40 rfl W.heap.size 22 i0 _ 1 24 Try.underlying40 hi hz0 hz1 hz2 rfl (by omega) _ _ _ rfl hrow0 _ _ _ _ rfl hsrc hone (by simp only [maxLen]; omega) (by omega) (by simp; omega) ?_
               intro v4 w4 hown4 hgr4 hat4
               have hx4 : Below W.heap.size W w4 := hxa.grown hgr4 hxa.size (fun k hk => (hrow0.lt k hk).1)
               have g0' : w4.cell? ⟨w.heap.size, 0, none⟩ = some (.int .i64 ni) := (hx4.cell (p := ⟨w.heap.size, 0, none⟩) (by show w.heap.size < _; omega)).trans e0)
  have hrow : RowL w4 W.heap.size w.heap.size v4 ps vs := by
    refine ⟨by simpa using hown4, fun i b hb => ?_⟩
    obtain ⟨u, hu, hr⟩ := HV.out i b hb
    exact ⟨u, hu, SlAt.below_of hr (hx0.trans (hx4.mono hx0.size)) (fun k hk => hk)⟩
  have ho4 : OwnB w4 W.heap.size (.slice A3 lf.length c3) lf := (Own.alloc hown3 _).stay hgr4 (Own.apart hrow0 (Own.alloc hown3 _) (by decide))
  clear hown4 hgr4 hat4 hsrc hrow0 hxa q0 q1 q1' hvs4 hvs1 hown3 hxW3
  go_wp2_with fail
  go_loopg [6, 7, 8] ni (fun k ud ul un wr => un = .int .i64 (k : Int) ∧ ∃ (qs : List Bs) (us : List Value) (d : Bs), RowL wr W.heap.size w.heap.size ul qs us ∧ OwnB wr W.heap.size ud d ∧ d.length ≤ 32 ∧ (∀ x ∈ qs, x.length = 32) ∧ qs.length ≤ 100 ∧ k ≤ 100 ∧ Hid (qs.length = Tr.ones k) ∧ Hid (Tr.pushF qs k d = Tr.pushF ps ni lf) ∧ Below W.heap.size W wr)
  case atStart => exact ⟨rfl, ps, vs, lf, hrow, ho4, Nat.le_of_eq HL.out, h32, hpl, by omega, H3, Lib.hid rfl, hx4⟩
  case round =>
    clear hrow ho4 hx4 g0'
    obtain ⟨rfl, qs, us, d, ⟨hq1, hq2⟩, hod, hdl, hsq, hql, hk, HQ, HP, hxq⟩ := hrel
    obtain ⟨A6, c6, hv6, _, _⟩ := Own.shape hod
    subst hv6
    obtain ⟨A7, c7, hv7, hc7, hcm7⟩ := hq1.shape
    subst hv7
    unfold maxLen at hcm7
    have hwq := hxq.size
    by_cases hodd : gk % 2 = 1
    · have t1 : ((gk : Int) % 2 == 1) = true := by rw [beq_iff_eq]; omega
      obtain ⟨hp1, hp2⟩ := push_len gk qs HQ.out hodd
      obtain ⟨g, off, cap, hvv, hgB, hgl, _, _, hqc⟩ := hq1.form (by omega)
      injection hvv with q1 q2 q3
      subst q1 q3
      have hlast : qs[qs.length - 1]? = some (qs.getLastD []) := by
        rw [List.getLastD_eq_getLast?, List.getLast?_eq_getElem?, List.getElem?_eq_getElem (by omega)]
        try rfl
      obtain ⟨u, hu, hou⟩ := hq2 _ _ hlast
      have hcu := hqc _ u hu
      have hlx : (qs.getLastD []).length ≤ 32 := Nat.le_of_eq (hsq _ (List.mem_of_getElem? hlast))
      have hnx := HP.out
      rw [Tr.pushF_odd hodd] at hnx
      have HNX := Lib.hid hnx
      have HP2 := Lib.hid hp2
      obtain ⟨x, hLx⟩ : ∃ x, qs.getLastD [] = x := ⟨_, rfl⟩
      rw [hLx] at hou hlx HNX
      obtain ⟨Au, cu, hvu, _, _⟩ := hou.form'
      subst hvu
      have kW : IntKind.i64.wrap ((qs.length : Int) - 1) = (qs.length : Int) - 1 := IntWalk.i64_in _ (by omega)
      have kT : ((qs.length : Int) - 1).toNat = qs.length - 1 := by omega
      have kL : (1 : Int) ≤ (qs.length : Int) := by omega
      have kC : (qs.length : Int) - 1 ≤ (c7 : Int) := by omega
      have hPl := pair_le hlx hdl
      have hPl2 : x.length + d.length ≤ 140737488355100 := by omega
      have HQ1 := Lib.hid hq1
      have HQ2 := Lib.hid hq2
      clear hlast hnx hLx hp2 HP hq1 hq2
      go_wp2_with fail
      refine (Pair_any wr _ _ _ _ x d hou (OwnB.bytes hod) hPl2).mono ?_
      rintro e w4 ⟨v4, rfl, hown4, hx4⟩
      have hs4 := hx4.size
      go_wp2_with fail
      refine (refsum_any w4 _ _ (1 :: (x ++ d)) (OwnB.bytes hown4) hPl).mono ?_
      rintro e w5 ⟨v5, rfl, hown5, hx5⟩
      have hx45 := hx4.trans (hx5.mono hs4)
      have hxn := hxq.trans (hx45.mono hwq)
      have hq1 := HQ1.out
      have hq2 := HQ2.out
      have hfr := (hq1.below hx45).first (qs.length - 1) (by omega)
      have hLn : RowL w5 W.heap.size w.heap.size (.slice (some ⟨g, off, none⟩) (qs.length - 1) c7) qs.dropLast (us.take (qs.length - 1)) := by
        refine ⟨by rw [List.length_dropLast]; exact hfr, fun i b hb => ?_⟩
        have hil : i < qs.length - 1 := by
          rcases Nat.lt_or_ge i (qs.length - 1) with h | h
          · exact h
          · rw [List.getElem?_eq_none (by rw [List.length_dropLast]; exact h)] at hb; cases hb
        have hb' : qs[i]? = some b := by
          rw [List.dropLast_eq_take, List.getElem?_take_of_lt hil] at hb
          exact hb
        obtain ⟨u', hu', ho'⟩ := hq2 i b hb'
        exact ⟨u', by rw [List.getElem?_take_of_lt hil]; exact hu', SlAt.below ho' hx45⟩
      clear hq1 hq2
      have hown6 : OwnB w5 W.heap.size v5 (Tr.nodeH x d) := Own.mono hown5 (by omega)
      go_wp2_with fail
      go_roundg (gk / 2)
      case measure => omega
      case rel => exact ⟨congrArg (Value.int .i64) (by omega), _, _, _, hLn, hown6, Nat.le_refl 32, fun y hy => hsq y (List.dropLast_subset _ hy), by rw [List.length_dropLast]; omega, by omega, HP2, HNX, hxn⟩
    · have t1 : ((gk : Int) % 2 == 1) = false := by rw [beq_eq_false_iff_ne]; omega
      have hnx := HP.out
      rw [Tr.pushF_even hodd] at hnx
      have HNX := Lib.hid hnx
      have HQ2 := Lib.hid hq2
      clear hnx HP hq2
      have g0 : wr.cell? ⟨w.heap.size, 0, none⟩ = some (.int .i64 ni) := (hxq.cell (p := ⟨w.heap.size, 0, none⟩) (by show w.heap.size < _; omega)).trans e0
      have hbq := hbn.below hxq hbn.lt
      have r0 : wr.cell? ⟨w.heap.size + 1, 0, none⟩ = some (.int .i64 0) := hbq.cell 0
      have r1 : wr.cell? ⟨w.heap.size + 1, 1, none⟩ = some (.slice none 0 0) := hbq.cell 1
      have f0 := hbq.frozen 0
      have f1 := hbq.frozen 1
      have hwq2 : w.heap.size ≤ wr.heap.size := by omega
      have hxw : Below w.heap.size w wr := hx0.trans (hxq.mono (by omega))
      have kN : IntKind.i64.wrap ((ni : Int) + 1) = (ni : Int) + 1 := IntWalk.i64_in _ (by omega)
      have p1 := (hq1.drew).alloc (.cells #[.slice A6 d.length c6] 22)
      have p2 := SlAt.new wr.drew 22 [.slice A6 d.length c6] 1 rfl (by decide)
      have pd := Own.alloc (Own.drew hod) (.cells #[.slice A6 d.length c6] 22)
      have hxa := hxw.drew.alloc hwq2 (.cells #[.slice A6 d.length c6] 22)
      have ga := (World.cell?_alloc_lt wr.drew (.cells #[.slice A6 d.length c6] 22) ⟨w.heap.size, 0, none⟩ (by show w.heap.size < wr.heap.size; omega)).trans g0
      have hba : Blk (wr.drew.alloc (.cells #[.slice A6 d.length c6] 22)) (w.heap.size + 1) 45 #[.int .i64 0, .slice none 0 0] := Blk.alloc (hbq.drewN 1) _
      have hne := p1.ne_blk hba (by decide)
      have hsz2 : W.heap.size ≤ (wr.drew.alloc (.cells #[.slice A6 d.length c6] 22)).heap.size := by simp; omega
      go_wp2_with fail
      go_region_held3 (fun z : World => z.cell? ⟨w.heap.size, 0, none⟩ = some (.int .i64 ni) ∧ Below w.heap.size w z) (first | assumption | exact ⟨g0, hxw.drew⟩ | exact ⟨ga, hxa⟩ | exact hSe)
        ((refine step_append_Own _ (by rfl) (.tmp 48) (.tmp 50) 40 (by rfl) W.heap.size 22 i0 _ 1 24 Try.underlying40 hi hz0 hz1 hz2 (by rfl) (by omega) _ _ _ (by rfl) p1 _ _ _ _ (by rfl) p2 (by simp [Value.oneCell']) (by simp only [maxLen]; omega) (by omega) hsz2 ?_
          intro v5 w5 hown5 hgr5 hat5
          have hd5 := pd.stay hgr5 (Own.apart p1 pd (by decide))
          obtain ⟨A8, c8, hv8, _, _⟩ := hown5.shape
          subst hv8
          have hx5 : Below w.heap.size w w5 := hxa.grown hgr5 hxa.size (fun k hk => by have := (p1.lt k hk).1; omega)
          have hxr5 : Below w.heap.size wr w5 := ((((Below.refl w.heap.size wr).drew).alloc hwq2 (.cells #[.slice A6 d.length c6] 22)).grown hgr5 (by simp; omega) (fun k hk => by have := (p1.lt k hk).1; omega))
          have hb5 : Blk w5 (w.heap.size + 1) 45 #[.int .i64 0, .slice none 0 0] := hba.keep (hgr5.block _ hba.lt (fun e => hne e.symm))
          have hbo5 : w5.cell? ⟨w.heap.size, 0, none⟩ = some (.int .i64 ni) := (World.cell?_of_block (hgr5.block w.heap.size (by simp; omega) (fun e => by have := (p1.lt _ e.symm).1; omega))).trans ga
          have hS5 : w5.cell? ⟨w.heap.size, 0, none⟩ = some (.int .i64 ni) ∧ Below w.heap.size w w5 := ⟨hbo5, hx5⟩
          have r05 : w5.cell? ⟨w.heap.size + 1, 0, none⟩ = some (.int .i64 0) := hb5.cell 0
          have r15 : w5.cell? ⟨w.heap.size + 1, 1, none⟩ = some (.slice none 0 0) := hb5.cell 1
          have f05 := hb5.frozen 0
          have f15 := hb5.frozen 1
          have hSe : ((w5.setCell ⟨w.heap.size + 1, 0, none⟩ (.int .i64 ((ni : Int) + 1))).setCell ⟨w.heap.size + 1, 1, none⟩ (.slice A8 (qs.length + 1) c8)).cell? ⟨w.heap.size, 0, none⟩ = some (.int .i64 ni) ∧ Below w.heap.size w ((w5.setCell ⟨w.heap.size + 1, 0, none⟩ (.int .i64 ((ni : Int) + 1))).setCell ⟨w.heap.size + 1, 1, none⟩ (.slice A8 (qs.length + 1) c8)) :=
            ⟨by rw [World.cell?_setCell_other _ _ _ _ (by simp), World.cell?_setCell_other _ _ _ _ (by simp)]; exact hbo5, (hx5.setCell (p := ⟨w.heap.size + 1, 0, none⟩) (by simp) _).setCell (p := ⟨w.heap.size + 1, 1, none⟩) (by simp) _⟩))
      go_wp2_with fail
      have hb6 := (hb5.set_ 0 (.int .i64 ((ni : Int) + 1))).set_ 1 (.slice A8 (qs.length + 1) c8)
      have hne5 := hown5.ne_blk hb5 (by decide)
      have hnd5 := Own.ne_blk hd5 hb5 (by decide)
      have hown6 := (hown5.setCell (p := ⟨w.heap.size + 1, 0, none⟩) hne5 (.int .i64 ((ni : Int) + 1))).setCell (p := ⟨w.heap.size + 1, 1, none⟩) hne5 (.slice A8 (qs.length + 1) c8)
      have hd6 := (Own.setCell (p := ⟨w.heap.size + 1, 0, none⟩) hd5 hnd5 (.int .i64 ((ni : Int) + 1))).setCell (p := ⟨w.heap.size + 1, 1, none⟩) hnd5 (.slice A8 (qs.length + 1) c8)
      have hxr6 := (hxr5.setCell (p := ⟨w.heap.size + 1, 0, none⟩) (by simp) (.int .i64 ((ni : Int) + 1))).setCell (p := ⟨w.heap.size + 1, 1, none⟩) (by simp) (.slice A8 (qs.length + 1) c8)
      have hx6 := hSe.2
      have hul : us.length = qs.length := by have := hq1.1; omega
      clear hSe
      generalize (w5.setCell ⟨w.heap.size + 1, 0, none⟩ (.int .i64 ((ni : Int) + 1))).setCell ⟨w.heap.size + 1, 1, none⟩ (.slice A8 (qs.length + 1) c8) = w6 at *
      have hbl := RowL.more hown6 hul HQ2.out hxr6 ((OwnB.bytes hd6).weak (fun _ _ _ => trivial))
      have e4 : w6.cell? ⟨w.heap.size + 1, 0, none⟩ = some (.int .i64 ((ni : Int) + 1)) := hb6.cell 0
      have e5 : w6.cell? ⟨w.heap.size + 1, 1, none⟩ = some (.slice A8 (qs.length + 1) c8) := hb6.cell 1
      refine bodyPost_ret (v := .tuple #[.agg #[.int .i64 ((ni : Int) + 1), .slice A8 (qs.length + 1) c8], .int .i64 0]) (by simp [results, Try.results36, go_sem, e4, e5]) rfl ⟨_, rfl, ?_, hx6⟩
      rw [HLB.out, ← HNX.out]
      exact hbl
end Go.Proofs.Ytfdibjgmbdkbcaa
