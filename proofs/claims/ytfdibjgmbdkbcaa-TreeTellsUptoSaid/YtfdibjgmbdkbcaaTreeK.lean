/-
  THE WALKS of math/bits.OnesCount, slices.Clone of lists, tree.Top. Conditions: the number is small; what is read is bytes, and lists of bytes.
-/
import Derived.Test.YtfdibjgmbdkbcaaTreeJ
namespace Go.Proofs.Ytfdibjgmbdkbcaa
open Go.RowKit Go.Lib

def onesF : Nat → Nat → Nat
  | 0, _ => 0
  | f + 1, n => n % 2 + onesF f (n / 2)
theorem onesF_ones : ∀ (f n : Nat), n < 2 ^ f → Tr.ones n = onesF f n
  | 0, n, h => by
    have : n = 0 := by simp at h; omega
    subst this
    rw [Tr.ones_zero]; rfl
  | f + 1, n, h => by
    by_cases h0 : n = 0
    · subst h0
      rw [Tr.ones_zero, onesF, ← onesF_ones f (0 / 2) (by rw [Nat.zero_div]; exact Nat.two_pow_pos f), Nat.zero_div, Tr.ones_zero]
    · rw [Tr.ones_step n (by omega), onesF, onesF_ones f (n / 2) (by rw [Nat.pow_succ] at h; omega)]

set_option maxRecDepth 100000 in
set_option maxHeartbeats 1000000 in
theorem ones64 (n : Nat) (hn : n ≤ 128) (w : World) :
    Calls Try.prog 129 #[.int .u64 (n : Int)] w fun e w' => e = .returned (.int .i64 (Tr.ones n : Int)) ∧ w' = w := by
  go_enter Try.func129, Try.ntmps129
  go_wp2_with fail
  go_ret
  refine ⟨congrArg (fun x => Ending.returned (.int .i64 x)) ?_, rfl⟩
  rw [onesF_ones 8 n (by show n < 256; omega)]
  obtain ⟨k, rfl⟩ : ∃ k : Fin 129, n = k.val := ⟨⟨n, by omega⟩, rfl⟩
  clear hn
  revert k
  decide +kernel

theorem ones_any (n : Nat) (hn : n ≤ 128) (w : World) :
    Calls Try.prog 95 #[.int .u64 (n : Int)] w fun e w' => e = .returned (.int .i64 (Tr.ones n : Int)) ∧ w' = w := by
  go_enter Try.func95, Try.ntmps95
  go_wp2_with fail
  refine (ones64 n hn w).mono ?_
  rintro e w' ⟨rfl, rfl⟩
  go_wp2_with fail
  go_ret
  exact ⟨rfl, rfl⟩

set_option maxRecDepth 100000 in
set_option maxHeartbeats 1000000 in
/-- slices.Clone of a list: its own row, of the same elements -/
theorem cloneL_any (w : World) (F : Nat → Prop) (v : Value) (ll : List Bs) (hl : BList w F v ll) (hlen : ll.length ≤ 1000) :
    Calls Try.prog 96 #[v] w fun e w' => ∃ v vs, e = .returned v ∧ Own w' w.heap.size 22 1 v ll.length vs ∧
      (∀ (i : Nat) (b : Bs), ll[i]? = some b → ∃ u : Value, vs[i]? = some u ∧ Bytes w (fun k => F k ∧ k < w.heap.size) u b) ∧ Below w.heap.size w w' := by
  obtain ⟨i0, hi, hz0, hz1, hz2⟩ := info_parts info_bytes
  obtain ⟨A, c, hv, _, _, hA⟩ := hl.shape
  subst hv
  rcases A with _ | a
  · have hll : ll = [] := by
      rcases Nat.eq_zero_or_pos ll.length with h0 | h0
      · exact List.eq_nil_of_length_eq_zero h0
      · obtain ⟨_, _, h, _⟩ := hA h0; cases h
    subst hll
    have he := eql_nil_yes (P := Try.prog) Try.underlying40
    clear hA
    simp only [List.length_nil]
    go_enter Try.func96, Try.ntmps96
    go_wp2_with fail
    go_ret
    exact ⟨_, [], rfl, Own.nil_ _ _ _ _, fun i b hb => by simp at hb, Below.refl _ _⟩
  · obtain ⟨vs, hvs1, hvs2⟩ := hl
    have hown := Own.new w w.heap.size 22 [] 0 rfl (by decide) (Nat.le_refl _)
    have hx := (Below.refl w.heap.size w).alloc (Nat.le_refl _) (.cells #[] 22)
    have hsrc := hvs1.alloc (.cells #[] 22)
    have hvl : vs.length = ll.length := by obtain ⟨_, _, _, _, _, h, _⟩ := hvs1; omega
    have hone := blist_oneCell hvl hvs2
    have he := eql_nil_no (P := Try.prog) Try.underlying40 a
    clear hA
    go_enter Try.func96, Try.ntmps96
    go_wp2_with (at_builtin
                 refine wpList_append_Own _ rfl (.tmp 5) (.tmp 6) 40 rfl w.heap.size 22 i0 _ 1 24 Try.underlying40 hi hz0 hz1 hz2 rfl (by omega) _ _ _ rfl hown _ _ _ _ rfl hsrc hone (by simp only [maxLen]; omega) (by omega) (by simp) ?_
                 intro v1 w1 hown1 hgr1 hat1
                 have hx2 : Below w.heap.size w w1 := hx.grown hgr1 hx.size (fun k hk => (hown.lt k hk).1))
    go_ret
    refine ⟨_, vs, rfl, ?_, fun i b hb => ?_, hx2⟩
    · simpa using hown1
    · obtain ⟨u, hu, hub⟩ := hvs2 i b hb
      exact ⟨u, hu, hub.weak (fun k hk h => ⟨h, hk⟩)⟩

/-- whether an edge is one -/
def edgeOk (n : Int) (ps : List Bs) (most : Int) : Prop := 0 ≤ n ∧ n ≤ most ∧ ps.length = Tr.ones n.toNat ∧ allD ps = true

set_option maxRecDepth 100000 in
set_option maxHeartbeats 2000000 in
theorem top_bad (w : World) (F : Nat → Prop) (vp : Value) (n : Int) (ps : List Bs) (hp : BList w F vp ps) (hb : ¬ edgeOk n ps 100) :
    Calls Try.prog 37 #[.agg #[.int .i64 n, vp]] w fun e w' => e = .returned (.tuple #[.slice none 0 0, .int .i64 2]) ∧ Below w.heap.size w w' := by
  obtain ⟨A, c, hvp, _, hcm, _⟩ := hp.shape
  subst hvp
  unfold maxLen at hcm
  have hx0 : Below w.heap.size w (w.alloc (.cells #[.int .i64 n, .slice A ps.length c] 45)) := (Below.refl _ _).alloc (Nat.le_refl _) _
  have hpw := hp.alloc (.cells #[.int .i64 n, .slice A ps.length c] 45)
  have e0 : (w.alloc (.cells #[.int .i64 n, .slice A ps.length c] 45)).cell? ⟨w.heap.size, 0, none⟩ = some (.int .i64 n) := by rw [World.cell?_alloc_mark]; rfl
  have e1 : (w.alloc (.cells #[.int .i64 n, .slice A ps.length c] 45)).cell? ⟨w.heap.size, 1, none⟩ = some (.slice A ps.length c) := by rw [World.cell?_alloc_mark]; rfl
  have hcase : n < 0 ∨ (¬ n < 0 ∧ 100 < n) ∨ (¬ n < 0 ∧ ¬ 100 < n ∧ ¬ ps.length = Tr.ones n.toNat) ∨ (¬ n < 0 ∧ ¬ 100 < n ∧ ps.length = Tr.ones n.toNat ∧ allD ps = false) := by
    unfold edgeOk at hb
    cases h : allD ps with
    | true => rw [h] at hb; simp at hb; omega
    | false => simp; omega
  clear hb
  rcases hcase with h1 | ⟨h1, h2⟩ | ⟨h1, h2, h3⟩ | ⟨h1, h2, h3, h4⟩
  · have b1 : decide (n < 0) = true := by simp; omega
    go_enter Try.func37, Try.ntmps37
    go_wp2_with fail
    go_quiet (fail)
    go_wp2_with fail
    go_ret2
    exact ⟨rfl, below_drewN hx0 _⟩
  · have b1 : decide (n < 0) = false := by simp; omega
    have b2 : decide (100 < n) = true := by simp; omega
    go_enter Try.func37, Try.ntmps37
    go_wp2_with fail
    go_quiet (fail)
    go_wp2_with fail
    go_ret2
    exact ⟨rfl, below_drewN hx0 _⟩
  · have b1 : decide (n < 0) = false := by simp; omega
    have b2 : decide (100 < n) = false := by simp; omega
    obtain ⟨ni, hni⟩ : ∃ k : Nat, n = (k : Int) := ⟨n.toNat, by omega⟩
    subst hni
    rw [Int.toNat_natCast] at h3
    have b3 : ((ps.length : Int) != (Tr.ones ni : Int)) = true := by rw [bne_iff_ne]; omega
    clear h3
    go_enter Try.func37, Try.ntmps37
    go_wp2_with fail
    go_quiet ((go_at_call 95; exact Calls.quiet_of_same (ones_any ni (by omega) _)))
    go_wp2_with fail
    go_ret2
    exact ⟨rfl, below_drewN hx0 _⟩
  · have b1 : decide (n < 0) = false := by simp; omega
    have b2 : decide (100 < n) = false := by simp; omega
    obtain ⟨ni, hni⟩ : ∃ k : Nat, n = (k : Int) := ⟨n.toNat, by omega⟩
    subst hni
    rw [Int.toNat_natCast] at h3
    have b3 : ((ps.length : Int) != (Tr.ones ni : Int)) = false := by rw [bne_eq_false_iff_eq]; omega
    clear h3
    have hd := fun n => digests_any ((w.alloc (.cells #[.int .i64 (ni : Int), .slice A ps.length c] 45)).drewN n) F _ ps (hpw.drewN n)
    rw [h4] at hd
    have HD := Lib.hid hd
    clear hd h4
    go_enter Try.func37, Try.ntmps37
    go_wp2_with fail
    go_quiet ((first | (go_at_call 95; exact Calls.quiet_of_same (ones_any ni (by omega) _)) | (go_at_call 89; exact Calls.quiet_of_same (HD.out _))))
    go_wp2_with fail
    go_ret2
    exact ⟨rfl, below_drewN hx0 _⟩

/-- the root of parts -/
def topS (ps : List Bs) : Bs := if ps = [] then Tr.nilH else ps.dropLast.foldr Tr.nodeH (ps.getLastD [])
theorem topS_edge (l : List Bs) : topS (Tr.edge l) = Tr.root l := by
  unfold topS
  rcases List.eq_nil_or_concat l with rfl | ⟨q, x, rfl⟩
  · rw [Tr.edge_nil, if_pos rfl, Tr.root_nil]
  · rw [List.concat_eq_append, ← Tr.push_edge q.length q x rfl]
    have h : ∀ (n : Nat) (ps : List Bs) (d : Bs), (Tr.pushF ps n d) ≠ [] := by
      intro n
      induction n using Nat.strongRecOn with
      | ind n ih =>
        intro ps d
        by_cases ho : n % 2 = 1
        · rw [Tr.pushF_odd ho]; exact ih (n / 2) (by omega) _ _
        · rw [Tr.pushF_even ho]; simp
    rw [if_neg (h _ _ _)]
    have g : ∀ (n : Nat) (l : List Bs) (d : Bs), l.length = n → (Tr.pushF (Tr.edge l) n d).dropLast.foldr Tr.nodeH ((Tr.pushF (Tr.edge l) n d).getLastD []) = Tr.root (l ++ [d]) := by
      intro n
      induction n using Nat.strongRecOn with
      | ind n ih =>
        intro l d hl
        by_cases ho : n % 2 = 1
        · rcases List.eq_nil_or_concat l with rfl | ⟨q, y, rfl⟩
          · exfalso; simp at hl; omega
          · rw [List.concat_eq_append] at *
            rw [List.length_append, List.length_singleton] at hl
            have hq : q.length % 2 = 0 := by omega
            rw [Tr.pushF_odd ho, Tr.edge_odd q y hq]
            have e1 : (Tr.edge (Tr.pairs q) ++ [y]).dropLast = Tr.edge (Tr.pairs q) := by simp
            have e2 : (Tr.edge (Tr.pairs q) ++ [y]).getLastD [] = y := by simp
            rw [e1, e2, ih (n / 2) (by omega) (Tr.pairs q) _ (by rw [Tr.length_pairs]; omega), ← Tr.root_pairs _ (q ++ [y] ++ [d]) rfl, List.append_assoc, Tr.pairs_append q _ hq]
            rfl
        · rw [Tr.pushF_even ho, List.dropLast_concat, List.getLastD_concat, Tr.top_edge n l d hl]
    exact g _ _ _ rfl

set_option maxRecDepth 100000 in
set_option maxHeartbeats 2000000 in
theorem top_ok (w : World) (F : Nat → Prop) (vp : Value) (n : Int) (ps : List Bs) (hp : BList w F vp ps) (hb : edgeOk n ps 100) :
    Calls Try.prog 37 #[.agg #[.int .i64 n, vp]] w fun e w' => ∃ v, e = .returned (.tuple #[v, .int .i64 0]) ∧ OwnB w' w.heap.size v (topS ps) ∧ Below w.heap.size w w' := by
  obtain ⟨A, c, hvp, hpc, hcm, hA⟩ := hp.shape
  subst hvp
  unfold maxLen at hcm
  obtain ⟨W, hW⟩ : ∃ W, W = w.alloc (.cells #[.int .i64 n, .slice A ps.length c] 45) := ⟨_, rfl⟩
  have hx0 : Below w.heap.size w W := by rw [hW]; exact (Below.refl _ _).alloc (Nat.le_refl _) _
  have hpw : BList W F (.slice A ps.length c) ps := by rw [hW]; exact hp.alloc _
  have e0 : W.cell? ⟨w.heap.size, 0, none⟩ = some (.int .i64 n) := by rw [hW, World.cell?_alloc_mark]; rfl
  have e1 : W.cell? ⟨w.heap.size, 1, none⟩ = some (.slice A ps.length c) := by rw [hW, World.cell?_alloc_mark]; rfl
  have hsz : w.heap.size < W.heap.size := by rw [hW]; simp
  obtain ⟨h1, h2, h3, h4⟩ := hb
  obtain ⟨ni, hni⟩ : ∃ k : Nat, n = (k : Int) := ⟨n.toNat, by omega⟩
  subst hni
  rw [Int.toNat_natCast] at h3
  have hps1 : 0 < ni → 0 < ps.length := fun h => by
    rw [h3]
    have hk : ∀ m, 0 < m → 0 < Tr.ones m := by
      intro m
      induction m using Nat.strongRecOn with
      | ind m ih =>
        intro hm
        rw [Tr.ones_step m hm]
        by_cases hq : m % 2 = 1
        · omega
        · have := ih (m / 2) (by omega) (by omega); omega
    exact hk ni h
  have hps0 : ni = 0 → ps = [] := fun h => by subst h; rw [Tr.ones_zero] at h3; exact List.eq_nil_of_length_eq_zero h3
  have b1 : decide ((ni : Int) < 0) = false := decide_eq_false (by omega)
  have b2 : decide ((100 : Int) < (ni : Int)) = false := decide_eq_false (by omega)
  have b3 : ((ps.length : Int) != (Tr.ones ni : Int)) = false := by rw [bne_eq_false_iff_eq]; omega
  have hd := fun n => digests_any (W.drewN n) F _ ps (hpw.drewN n)
  rw [h4] at hd
  have HD := Lib.hid hd
  have hsp := allD_short h4
  have HW := Lib.hid hW
  clear hd h3 h4 hW
  by_cases hz : ni = 0
  · have hps := hps0 hz
    have hzB : ((ni : Int) == 0) = true := by rw [beq_iff_eq]; omega
    have HP := Lib.hid hps
    clear hps0 hps1 hps hz
    go_enter Try.func37, Try.ntmps37
    go_wp2_with fail
    rw [← HW.out]
    go_quiet ((first | (go_at_call 95; exact Calls.quiet_of_same (ones_any ni (by omega) _)) | (go_at_call 89; exact Calls.quiet_of_same (HD.out _))))
    go_wp2_with fail
    refine (sum_any _ (fun _ => True) _ [] (SlAt.nil_ _ _ _) (by simp)).mono ?_
    rintro e w1 ⟨v1, rfl, hown1, hx1⟩
    go_wp2_with fail
    go_ret2
    refine ⟨v1, rfl, ?_, (below_drewN hx0 _).trans (hx1.mono (by show w.heap.size ≤ W.heap.size; omega))⟩
    rw [HP.out]
    exact OwnB.mono hown1 (by show w.heap.size ≤ W.heap.size; omega)
  · have hpl := hps1 (by omega)
    have hzB : ((ni : Int) == 0) = false := by rw [beq_eq_false_iff_ne]; omega
    obtain ⟨b, off, rfl, hF, hb4⟩ := hA hpl
    have hpne : ps ≠ [] := List.length_pos_iff.1 hpl
    have hlastg : ps[ps.length - 1]? = some (ps.getLastD []) := by
      rw [List.getLastD_eq_getLast?, List.getLast?_eq_getElem?, List.getElem?_eq_getElem (by omega)]
      try rfl
    obtain ⟨b', off', u, hA', hcu, _, hbl, hub⟩ := hp.at_ (j := ps.length - 1) (by omega)
    injection hA' with hA'
    injection hA' with g1 g2
    subst g1 g2
    have hcu' : W.cell? ⟨b, off + (ps.length - 1), none⟩ = some u := (hx0.cell (p := ⟨b, off + (ps.length - 1), none⟩) hbl).trans hcu
    have hlast : ps[ps.length - 1] = ps.getLastD [] := by
      have := List.getElem?_eq_getElem (l := ps) (i := ps.length - 1) (by omega)
      rw [this] at hlastg
      injection hlastg
    rw [hlast] at hub
    have hlen1 : (ps.getLastD []).length ≤ 1000 := by rw [← hlast]; exact hsp _ (List.getElem_mem _)
    have hT : topS ps = ps.dropLast.foldr Tr.nodeH (ps.getLastD []) := by unfold topS; rw [if_neg hpne]
    have HT := Lib.hid hT
    have hpl1 : (1 : Int) ≤ (ps.length : Int) := by omega
    have kW : IntKind.i64.wrap ((ps.length : Int) - 1) = (ps.length : Int) - 1 := IntWalk.i64_in _ (by omega)
    have kT : ((ps.length : Int) - 1).toNat = ps.length - 1 := by omega
    generalize hL : ps.getLastD [] = L at *
    clear hps0 hps1 hz hA hlast hlastg hL hT hpne hcu
    go_enter Try.func37, Try.ntmps37
    go_wp2_with fail
    rw [← HW.out]
    go_quiet ((first | (go_at_call 95; exact Calls.quiet_of_same (ones_any ni (by omega) _)) | (go_at_call 89; exact Calls.quiet_of_same (HD.out _))))
    go_wp2_with fail
    refine (clone_any _ _ _ L ((hub.below hx0).drewN _) (by omega)).mono ?_
    rintro e w1 ⟨v1, rfl, hown1, hx1⟩
    have hx1' : Below W.heap.size W w1 := (below_drewN (Below.refl _ _) nq).trans hx1
    have hown1' : OwnB w1 w.heap.size v1 L := OwnB.mono hown1 (by show w.heap.size ≤ W.heap.size; omega)
    obtain ⟨A5, c5, hv5, _, _⟩ := Own.shape hown1
    subst hv5
    clear hown1 hx1 hcu' hub
    go_wp2_with fail
    go_loopg [4, 5] (ps.length - 1) (fun k uk ud wr => uk = .int .i64 ((k : Int) - 1) ∧ ∃ d : Bs, OwnB wr w.heap.size ud d ∧ d.length ≤ 1000 ∧ Hid (d = (ps.dropLast.drop k).foldr Tr.nodeH L) ∧ k ≤ ps.length - 1 ∧ Below W.heap.size W wr)
    case atStart => exact ⟨congrArg (Value.int .i64) (by omega), L, hown1', hlen1, Lib.hid (by rw [List.drop_of_length_le (by simp)]; rfl), Nat.le_refl _, hx1'⟩
    case round =>
      clear hown1' hx1'
      obtain ⟨rfl, d, hown, hdl, HDD, hk, hx⟩ := hrel
      obtain ⟨A6, c6, hv6, _, _⟩ := Own.shape hown
      subst hv6
      have e1' : wr.cell? ⟨w.heap.size, 1, none⟩ = some (.slice (some ⟨b, off, none⟩) ps.length c) := (hx.cell (p := ⟨w.heap.size, 1, none⟩) hsz).trans e1
      by_cases hgk : 0 < gk
      · obtain ⟨b', off', u', hA', hcu, _, hbl2, hub⟩ := hp.at_ (j := gk - 1) (by omega)
        injection hA' with hA'
        injection hA' with g1 g2
        subst g1 g2
        have hxw := hx0.trans (hx.mono (by omega))
        have hcu' : wr.cell? ⟨b, off + (gk - 1), none⟩ = some u' := (hxw.cell (p := ⟨b, off + (gk - 1), none⟩) hbl2).trans hcu
        have hub' := hub.below hxw
        have hge : (0 : Int) ≤ (gk : Int) - 1 := by omega
        have hgl : (gk : Int) - 1 < (ps.length : Int) := by omega
        have kT2 : ((gk : Int) - 1).toNat = gk - 1 := by omega
        have hl2 : ps[gk - 1].length ≤ 1000 := hsp _ (List.getElem_mem _)
        have hnx : (ps.dropLast.drop (gk - 1)).foldr Tr.nodeH L = Tr.nodeH ps[gk - 1] d := by
          have h1 : gk - 1 < ps.dropLast.length := by rw [List.length_dropLast]; omega
          rw [List.drop_eq_getElem_cons h1, show gk - 1 + 1 = gk by omega, List.foldr_cons, ← HDD.out, List.getElem_dropLast]
        generalize ps[gk - 1] = x at *
        have HN := Lib.hid hnx
        clear hnx hcu hub
        go_wp2_with fail
        refine (node_any wr _ _ _ _ x d hub' (OwnB.bytes hown) (by omega)).mono ?_
        rintro e w2 ⟨v2, rfl, hown2, hx2⟩
        have hx3 := hx.trans (hx2.mono hx.size)
        go_wp2_with fail
        go_roundg (gk - 1)
        case measure => omega
        case rel => exact ⟨congrArg (Value.int .i64) (by omega), _, OwnB.mono hown2 (by have := hx.size; omega), by rw [Tr.length_nodeH]; omega, Lib.hid HN.out.symm, by omega, hx3⟩
      · have hge : decide ((0 : Int) ≤ (gk : Int) - 1) = false := by simp; omega
        have hgk0 : gk = 0 := by omega
        subst hgk0
        have hlt1 : ((0 : Nat) : Int) - 1 < 0 := by omega
        go_wp2_with fail
        go_ret2
        refine ⟨.slice A6 d.length c6, rfl, ?_, hx0.trans (hx.mono (by omega))⟩
        rw [HT.out]
        have h := HDD.out
        rw [List.drop_zero] at h
        rw [← h]
        exact hown
end Go.Proofs.Ytfdibjgmbdkbcaa
