/-
  THE WALKS of yearref2.Ones, RightEdge, SameEdge, Top. Conditions: what comes in is read as lists of bytes.
-/
import Derived.Test.YtfdibjgmbdkbcaaR2B
import Derived.Test.YtfdibjgmbdkbcaaTreeK
import Derived.Test.YtfdibjgmbdkbcaaSame2
namespace Go.Proofs.Ytfdibjgmbdkbcaa
open Go.RowKit Go.Lib

theorem ones_le : ∀ m, Tr.ones m ≤ m := by
  intro m
  induction m using Nat.strongRecOn with
  | ind m ih =>
    by_cases h0 : m = 0
    · subst h0; rw [Tr.ones_zero]; exact Nat.le_refl _
    · rw [Tr.ones_step m (by omega)]
      have := ih (m / 2) (by omega); omega

set_option maxHeartbeats 1000000 in
theorem rones_any (n : Nat) (hn : n ≤ 128) (w : World) :
    Calls Try.prog 130 #[.int .i64 (n : Int)] w fun e w' => e = .returned (.int .i64 (Tr.ones n : Int)) ∧ w' = w := by
  go_enter Try.func130, Try.ntmps130
  go_wp2_with fail
  go_loopg [0, 3] n (fun k x y wr => ∃ c : Nat, x = .int .i64 (k : Int) ∧ y = .int .i64 (c : Int) ∧ c + k ≤ n ∧ Hid (c + Tr.ones k = Tr.ones n) ∧ wr = w)
  case atStart => exact ⟨0, rfl, rfl, by omega, Lib.hid (by omega), rfl⟩
  case round =>
    obtain ⟨c, rfl, rfl, hck, HC, rfl⟩ := hrel
    by_cases hlt : 0 < gk
    · have hltB : (0 : Int) < (gk : Int) := by omega
      have hnx : Hid (c + gk % 2 + Tr.ones (gk / 2) = Tr.ones n) := Lib.hid (by have h := HC.out; rw [Tr.ones_step gk hlt] at h; omega)
      go_wp2_with fail
      go_roundg (gk / 2)
      case measure => omega
      case rel => exact ⟨c + gk % 2, congrArg (Value.int .i64) (by omega), congrArg (Value.int .i64) (by omega), by omega, hnx, rfl⟩
    · have h0 : gk = 0 := by omega
      subst h0
      have hce : Hid (Tr.ones n = c) := Lib.hid (by have h := HC.out; rw [Tr.ones_zero] at h; omega)
      clear hlt
      go_wp2_with fail
      go_ret
      exact ⟨by rw [hce.out]; rfl, rfl⟩

set_option maxRecDepth 100000 in
set_option maxHeartbeats 2000000 in
theorem redge_no (w : World) (F : Nat → Prop) (vp : Value) (n : Int) (ps : List Bs) (most : Int) (hp : BList w F vp ps) (hm : most ≤ 128) (hno : ¬ edgeOk n ps most) :
    Calls Try.prog 98 #[.agg #[.int .i64 n, vp], .int .i64 most] w fun e w' => e = .returned (.bool false) ∧ Below w.heap.size w w' := by
  obtain ⟨A, c, hvp, _, hcm, _⟩ := hp.shape
  subst hvp
  unfold maxLen at hcm
  have hx0 : Below w.heap.size w (w.alloc (.cells #[.int .i64 n, .slice A ps.length c] 45)) := (Below.refl _ _).alloc (Nat.le_refl _) _
  have hcase : ¬ 0 ≤ n ∨ (0 ≤ n ∧ ¬ n ≤ most) ∨ (0 ≤ n ∧ n ≤ most ∧ ¬ ps.length = Tr.ones n.toNat) ∨ (0 ≤ n ∧ n ≤ most ∧ ps.length = Tr.ones n.toNat ∧ allD ps = false) := by
    unfold edgeOk at hno
    cases h : allD ps with
    | true => rw [h] at hno; simp at hno; omega
    | false => simp; omega
  clear hno
  rcases hcase with h1 | ⟨h1, h2⟩ | ⟨h1, h2, h3⟩ | ⟨h1, h2, h3, h4⟩
  · have b1 : decide (0 ≤ n) = false := decide_eq_false h1
    go_enter Try.func98, Try.ntmps98
    go_wp2_with fail
    go_quiet (fail)
    go_wp2_with fail
    go_ret
    exact ⟨rfl, below_drewN hx0 nq⟩
  · have b2 : decide (n ≤ most) = false := decide_eq_false h2
    go_enter Try.func98, Try.ntmps98
    go_wp2_with fail
    go_quiet (fail)
    go_wp2_with fail
    go_ret
    exact ⟨rfl, below_drewN hx0 nq⟩
  · obtain ⟨ni, hni⟩ : ∃ k : Nat, n = (k : Int) := ⟨n.toNat, by omega⟩
    subst hni
    rw [Int.toNat_natCast] at h3
    have b3 : ((ps.length : Int) == (Tr.ones ni : Int)) = false := by rw [beq_eq_false_iff_ne]; omega
    have b3' : (ps.length == Tr.ones ni) = false := by rw [beq_eq_false_iff_ne]; omega
    clear h3
    go_enter Try.func98, Try.ntmps98
    go_wp2_with fail
    go_quiet ((exact Calls.quiet_of_same (rones_any ni (by omega) _)))
    go_wp2_with fail
    go_ret
    exact ⟨rfl, below_drewN hx0 nq⟩
  · obtain ⟨ni, hni⟩ : ∃ k : Nat, n = (k : Int) := ⟨n.toNat, by omega⟩
    subst hni
    rw [Int.toNat_natCast] at h3
    have b3 : ((ps.length : Int) == (Tr.ones ni : Int)) = true := by rw [beq_iff_eq]; omega
    have hd := fun m => Good_any ((w.alloc (.cells #[.int .i64 (ni : Int), .slice A ps.length c] 45)).drewN m) F _ ps ((hp.alloc _).drewN m)
    rw [h4] at hd
    have HD := Lib.hid hd
    clear h3 h4 hd
    go_enter Try.func98, Try.ntmps98
    go_wp2_with fail
    go_quiet ((first | (go_at_call 130; exact Calls.quiet_of_same (rones_any ni (by omega) _)) | (go_at_call 92; exact Calls.quiet_of_same (HD.out _))))
    go_wp2_with fail
    go_ret
    exact ⟨rfl, below_drewN hx0 nq⟩

set_option maxRecDepth 100000 in
set_option maxHeartbeats 2000000 in
theorem redge_yes (w : World) (F : Nat → Prop) (vp : Value) (n : Int) (ps : List Bs) (most : Int) (hp : BList w F vp ps) (hm : most ≤ 128) (he : edgeOk n ps most) :
    Calls Try.prog 98 #[.agg #[.int .i64 n, vp], .int .i64 most] w fun e w' => e = .returned (.bool true) ∧ Below w.heap.size w w' := by
  obtain ⟨A, c, hvp, _, hcm, _⟩ := hp.shape
  subst hvp
  unfold maxLen at hcm
  have hx0 : Below w.heap.size w (w.alloc (.cells #[.int .i64 n, .slice A ps.length c] 45)) := (Below.refl _ _).alloc (Nat.le_refl _) _
  obtain ⟨h1, h2, h3, h4⟩ := he
  obtain ⟨ni, hni⟩ : ∃ k : Nat, n = (k : Int) := ⟨n.toNat, by omega⟩
  subst hni
  rw [Int.toNat_natCast] at h3
  have b3 : ((ps.length : Int) == (Tr.ones ni : Int)) = true := by rw [beq_iff_eq]; omega
  have hd := fun m => Good_any ((w.alloc (.cells #[.int .i64 (ni : Int), .slice A ps.length c] 45)).drewN m) F _ ps ((hp.alloc _).drewN m)
  rw [h4] at hd
  have HD := Lib.hid hd
  clear h3 h4 hd
  go_enter Try.func98, Try.ntmps98
  go_wp2_with fail
  go_quiet ((first | (go_at_call 130; exact Calls.quiet_of_same (rones_any ni (by omega) _)) | (go_at_call 92; exact Calls.quiet_of_same (HD.out _))))
  go_wp2_with fail
  go_ret
  exact ⟨rfl, below_drewN hx0 nq⟩

set_option maxRecDepth 100000 in
set_option maxHeartbeats 1000000 in
theorem sameEdge_yes (w : World) (F F' : Nat → Prop) (vp vq : Value) (n : Int) (ps : List Bs) (hp : BList w F vp ps) (hq : BList w F' vq ps) :
    Calls Try.prog 39 #[.agg #[.int .i64 n, vp], .agg #[.int .i64 n, vq]] w fun e w' => e = .returned (.bool true) ∧ Below w.heap.size w w' := by
  obtain ⟨A, c, hvp, _, _, _⟩ := hp.shape
  subst hvp
  obtain ⟨A2, c2, hvq, _, _, _⟩ := hq.shape
  subst hvq
  obtain ⟨W, hW⟩ : ∃ W, W = (w.alloc (.cells #[.int .i64 n, .slice A ps.length c] 45)).alloc (.cells #[.int .i64 n, .slice A2 ps.length c2] 45) := ⟨_, rfl⟩
  have hx0 : Below w.heap.size w W := by rw [hW]; exact ((Below.refl _ _).alloc (Nat.le_refl _) _).alloc (by simp) _
  have hpW := hp.below hx0
  have hqW := hq.below hx0
  have hbo : Blk W w.heap.size 45 #[.int .i64 n, .slice A ps.length c] := by rw [hW]; exact Blk.alloc (heap_alloc_new w _) _
  have hbn : Blk W (w.heap.size + 1) 45 #[.int .i64 n, .slice A2 ps.length c2] := by rw [hW]; have := heap_alloc_new (w.alloc (.cells #[.int .i64 n, .slice A ps.length c] 45)) (.cells #[.int .i64 n, .slice A2 ps.length c2] 45); rw [World.size_alloc] at this; exact this
  have e0 : W.cell? ⟨w.heap.size, 0, none⟩ = some (.int .i64 n) := hbo.cell 0
  have e1 : W.cell? ⟨w.heap.size, 1, none⟩ = some (.slice A ps.length c) := hbo.cell 1
  have e2 : W.cell? ⟨w.heap.size + 1, 0, none⟩ = some (.int .i64 n) := hbn.cell 0
  have e3 : W.cell? ⟨w.heap.size + 1, 1, none⟩ = some (.slice A2 ps.length c2) := hbn.cell 1
  have HW := Lib.hid hW
  clear hW
  go_enter Try.func39, Try.ntmps39
  go_wp2_with fail
  rw [← HW.out]
  refine (same2_yes W _ _ _ _ ps hpW hqW).mono ?_
  rintro e w' ⟨rfl, nd, rfl⟩
  go_wp2_with fail
  go_ret
  exact ⟨rfl, below_drewN hx0 nd⟩

theorem topS_one (x : Bs) : topS [x] = x := by simp [topS]
theorem topS_cons (x : Bs) {l : List Bs} (h : l ≠ []) : topS (x :: l) = Tr.nodeH x (topS l) := by
  unfold topS
  rw [if_neg (by simp), if_neg h]
  match l, h with
  | y :: l, _ => simp [List.getLastD]
theorem topS_len {l : List Bs} (h : ∀ x ∈ l, x.length = 32) : (topS l).length = 32 := by
  match l with
  | [] => rfl
  | [x] => rw [topS_one]; exact h x (by simp)
  | x :: y :: l => rw [topS_cons x (by simp), Tr.length_nodeH]
/-- what the loop over an edge's parts holds -/
def TopAt (w : World) (ps : List Bs) (k : Nat) (v : Value) : Prop :=
  if k < ps.length then ∃ a c, v = .slice (some a) 32 c ∧ Bytes w (fun _ => True) v (topS (ps.drop k)) else v = .slice none 0 0

set_option maxRecDepth 100000 in
set_option maxHeartbeats 2000000 in
theorem rtop_bad (w : World) (F : Nat → Prop) (vp : Value) (n : Int) (ps : List Bs) (hp : BList w F vp ps) (hb : ¬ edgeOk n ps 100) :
    Calls Try.prog 38 #[.agg #[.int .i64 n, vp]] w fun e w' => e = .returned (.tuple #[.slice none 0 0, .int .i64 2]) ∧ Below w.heap.size w w' := by
  obtain ⟨A, c, hvp, _, hcm, _⟩ := hp.shape
  subst hvp
  have hx0 : Below w.heap.size w (w.alloc (.cells #[.int .i64 n, .slice A ps.length c] 45)) := (Below.refl _ _).alloc (Nat.le_refl _) _
  have hr := redge_no (w.alloc (.cells #[.int .i64 n, .slice A ps.length c] 45)) F _ n ps 100 (hp.alloc _) (by decide) hb
  have HR := Lib.hid hr
  clear hr hb
  go_enter Try.func38, Try.ntmps38
  go_wp2_with fail
  refine HR.out.mono ?_
  rintro e w1 ⟨rfl, hx1⟩
  go_wp2_with fail
  go_ret2
  exact ⟨rfl, hx0.trans (hx1.mono hx0.size)⟩

set_option maxRecDepth 100000 in
set_option maxHeartbeats 4000000 in
theorem rtop_ok (w : World) (F : Nat → Prop) (vp : Value) (n : Int) (ps : List Bs) (hp : BList w F vp ps) (he : edgeOk n ps 100) :
    Calls Try.prog 38 #[.agg #[.int .i64 n, vp]] w fun e w' => ∃ v, e = .returned (.tuple #[v, .int .i64 0]) ∧ Bytes w' (fun _ => True) v (topS ps) ∧ Below w.heap.size w w' := by
  obtain ⟨A, c, hvp, _, hcm, _⟩ := hp.shape
  subst hvp
  unfold maxLen at hcm
  obtain ⟨W, hW⟩ : ∃ W, W = w.alloc (.cells #[.int .i64 n, .slice A ps.length c] 45) := ⟨_, rfl⟩
  have hx0 : Below w.heap.size w W := by rw [hW]; exact (Below.refl _ _).alloc (Nat.le_refl _) _
  have hbo : Blk W w.heap.size 45 #[.int .i64 n, .slice A ps.length c] := by rw [hW]; exact heap_alloc_new w _
  have e0 : W.cell? ⟨w.heap.size, 0, none⟩ = some (.int .i64 n) := hbo.cell 0
  have e1 : W.cell? ⟨w.heap.size, 1, none⟩ = some (.slice A ps.length c) := hbo.cell 1
  have s0 : w.heap.size < W.heap.size := by rw [hW]; simp
  have hpW := hp.below hx0
  have hr := redge_yes W F _ n ps 100 hpW (by decide) he
  have HR := Lib.hid hr
  have HW := Lib.hid hW
  obtain ⟨h1, h2, h3, h4⟩ := he
  have h32 := (allD_iff ps).1 h4
  have hpl : ps.length ≤ 100 := by have := ones_le n.toNat; omega
  clear hr hW h1 h2 h3 h4 hp
  go_enter Try.func38, Try.ntmps38
  go_wp2_with fail
  rw [← HW.out]
  refine HR.out.mono ?_
  rintro e w1 ⟨rfl, hx1⟩
  have g1 : w1.cell? ⟨w.heap.size, 1, none⟩ = some (.slice A ps.length c) := (hx1.cell (p := ⟨w.heap.size, 1, none⟩) s0).trans e1
  go_wp2_with fail
  go_loopg [4, 5] ps.length (fun k v i wr => k ≤ ps.length ∧ i = .int .i64 ((k : Int) - 1) ∧ Hid (TopAt wr ps k v) ∧ Below W.heap.size W wr)
  case atStart => exact ⟨Nat.le_refl _, rfl, Lib.hid (by unfold TopAt; rw [if_neg (by omega)]), hx1⟩
  case round =>
    clear hx1 g1
    obtain ⟨hk, rfl, HT, hx⟩ := hrel
    have g1 : wr.cell? ⟨w.heap.size, 1, none⟩ = some (.slice A ps.length c) := (hx.cell (p := ⟨w.heap.size, 1, none⟩) s0).trans e1
    have hpr := hpW.below hx
    have hsz := hx.size
    by_cases h0 : 0 < gk
    · have hge : (0 : Int) ≤ (gk : Int) - 1 := by omega
      have hge1 : (1 : Int) ≤ (gk : Int) := by omega
      have HT1 : Hid (((gk : Int) - 1).toNat = gk - 1) := Lib.hid (by omega)
      have hl1 : (gk : Int) - 1 < (ps.length : Int) := by omega
      obtain ⟨b, off, u, hA2, hc, hF, hb, hub⟩ := hpr.at_ (j := gk - 1) (by omega)
      subst hA2
      have hx32 := h32 _ (List.getElem_mem (show gk - 1 < ps.length by omega))
      have hdr : ps.drop (gk - 1) = ps[gk - 1] :: ps.drop gk := by
        have := List.drop_eq_getElem_cons (show gk - 1 < ps.length by omega)
        rw [this, show gk - 1 + 1 = gk by omega]
      obtain ⟨x, hxe⟩ : ∃ x, ps[gk - 1] = x := ⟨_, rfl⟩
      rw [hxe] at hub hx32 hdr
      obtain ⟨Au, cu, hvu, hcu, hcum⟩ := hub.form'
      subst hvu
      obtain ⟨bx, ox, hAx⟩ : ∃ bx ox, Au = some ⟨bx, ox, none⟩ := by
        obtain ⟨A', c', hv, _, _, _, h⟩ := hub
        obtain ⟨b', o', hA', _⟩ := h (by omega)
        injection hv with e1
        exact ⟨b', o', by rw [e1, hA']⟩
      subst hAx
      have HX := Lib.hid hx32
      have HD := Lib.hid hdr
      clear hxe hdr
      rw [hx32] at hub hc
      clear hx32
      by_cases hlast : gk < ps.length
      · have hT := HT.out
        unfold TopAt at hT
        rw [if_pos hlast] at hT
        obtain ⟨a, c4, rfl, hTb⟩ := hT
        have hne : ps.drop gk ≠ [] := by
          intro h
          have := congrArg List.length h
          rw [List.length_drop] at this
          simp at this
          omega
        have hTl : (topS (ps.drop gk)).length = 32 := topS_len (fun y hy => h32 y (List.mem_of_mem_drop hy))
        have HTC : Hid (topS (ps.drop (gk - 1)) = Tr.nodeH x (topS (ps.drop gk))) := Lib.hid (by rw [HD.out, topS_cons x hne])
        generalize topS (ps.drop gk) = y at *
        have hPl : (1 :: (x ++ y)).length ≤ 140737488355200 := by have := HX.out; simp; omega
        have hPl2 : x.length + y.length ≤ 140737488355100 := by have := HX.out; omega
        clear hne HT hTl
        have ht1 := HT1.out
        have heq := eql_nil_no (P := Try.prog) Try.underlying22 a
        go_wp2_with fail
        refine (Pair_any wr _ _ _ _ x y (by exact hub) hTb hPl2).mono ?_
        rintro e w4 ⟨v4, rfl, hown4, hx4⟩
        go_wp2_with fail
        refine (refsum_any w4 _ _ (1 :: (x ++ y)) (OwnB.bytes hown4) hPl).mono ?_
        rintro e w5 ⟨v5, rfl, hown5, hx5⟩
        have hx45 := hx4.trans (hx5.mono hx4.size)
        obtain ⟨b5, o5, c5, hv5, _⟩ := Own.form hown5 (by show 0 < (Sha.sha256 (1 :: (x ++ y))).length; rw [Sha.length_sha256]; decide)
        rw [Sha.length_sha256] at hv5
        subst hv5
        have hT5 : Hid (TopAt w5 ps (gk - 1) (.slice (some ⟨b5, o5, none⟩) 32 c5)) := Lib.hid (by
          unfold TopAt
          rw [if_pos (by omega)]
          refine ⟨_, _, rfl, ?_⟩
          rw [HTC.out]
          exact (OwnB.bytes hown5).weak (fun _ _ _ => trivial))
        clear hown5 hown4
        go_wp2_with fail
        clear ht1
        go_roundg (gk - 1)
        case measure => omega
        case rel => exact ⟨by omega, congrArg (Value.int .i64) (by omega), hT5, hx.trans (hx45.mono hsz)⟩
      · have hT := HT.out
        unfold TopAt at hT
        rw [if_neg hlast] at hT
        subst hT
        have hT5 : Hid (TopAt wr ps (gk - 1) (.slice (some ⟨bx, ox, none⟩) 32 cu)) := Lib.hid (by
          unfold TopAt
          rw [if_pos (by omega)]
          refine ⟨_, _, rfl, ?_⟩
          rw [HD.out, List.drop_of_length_le (by omega), topS_one]
          exact SlAt.weak hub (fun _ _ _ => trivial))
        have ht1 := HT1.out
        have heq := eql_nil_yes (P := Try.prog) Try.underlying22
        clear HT
        go_wp2_with fail
        clear ht1
        go_roundg (gk - 1)
        case measure => omega
        case rel => exact ⟨by omega, congrArg (Value.int .i64) (by omega), hT5, hx⟩
    · have hg0 : gk = 0 := by omega
      subst hg0
      have hgeB : decide ((0 : Int) ≤ ((0 : Nat) : Int) - 1) = false := by decide
      by_cases hn0 : 0 < ps.length
      · have hT := HT.out
        unfold TopAt at hT
        rw [if_pos hn0] at hT
        obtain ⟨a, c4, rfl, hTb⟩ := hT
        rw [List.drop_zero] at hTb
        clear HT
        have heq := eql_nil_no (P := Try.prog) Try.underlying22 a
        go_wp2_with fail
        go_ret2
        exact ⟨_, rfl, hTb, hx0.trans (hx.mono hx0.size)⟩
      · have hT := HT.out
        unfold TopAt at hT
        rw [if_neg hn0] at hT
        subst hT
        have hps : ps = [] := List.eq_nil_of_length_eq_zero (by omega)
        have HS : Hid (topS ps = Sha.sha256 []) := Lib.hid (by rw [hps]; rfl)
        clear HT hps
        have heq := eql_nil_yes (P := Try.prog) Try.underlying22
        go_wp2_with fail
        refine (refsum_any wr (fun _ => True) _ [] (SlAt.nil_ _ _ _) (by simp)).mono ?_
        rintro e w2 ⟨v2, rfl, hown2, hx2⟩
        go_wp2_with fail
        go_ret2
        exact ⟨_, rfl, by rw [HS.out]; exact (OwnB.bytes hown2).weak (fun _ _ _ => trivial), hx0.trans ((hx.trans (hx2.mono hsz)).mono hx0.size)⟩
end Go.Proofs.Ytfdibjgmbdkbcaa
