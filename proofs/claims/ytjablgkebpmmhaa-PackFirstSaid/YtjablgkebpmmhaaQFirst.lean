/-
  THE WALKS of yearref4.Same (of the same tokens), PackFirst. Conditions: what comes in is read as tokens, and bytes.
-/
import Derived.Test.YtjablgkebpmmhaaQTurns
namespace Go.Proofs.Ytjablgkebpmmhaa
open Go.RowKit Go.Lib

set_option maxRecDepth 100000 in
set_option maxHeartbeats 2000000 in
theorem sameT_yes (w : World) (F F' : Nat → Prop) (va vb : Value) (l : List Pk.Tok) (ha : RdL w F va l) (hb : RdL w F' vb l) :
    Calls Try.prog 21 #[va, vb] w fun e w' => e = .returned (.bool true) ∧ ∃ n, w' = w.drewN n := by
  obtain ⟨A, c, hv, hlc, hcm⟩ := ha.form
  obtain ⟨A', c', hv', hlc', hcm'⟩ := hb.form
  subst hv hv'
  unfold maxLen at hcm hcm'
  go_enter Try.func21, Try.ntmps21
  go_wp2_with fail
  go_loopg [13] l.length (fun k i wr => ∃ j m : Nat, j + k = l.length ∧ i = .int .i64 (j : Int) ∧ wr = w.drewN m)
  case atStart => exact ⟨0, 0, by omega, rfl, rfl⟩
  case round =>
    obtain ⟨j, m, hj, rfl, rfl⟩ := hrel
    by_cases hlt : j < l.length
    · obtain ⟨b1, off1, d1, hA1, _, _, p0, p1, p2⟩ := tok_at ha hlt
      injection hA1 with hA1 _ hc1
      subst hA1 hc1
      obtain ⟨b2, off2, d2, hA2, _, _, q0, q1, q2⟩ := tok_at hb hlt
      injection hA2 with hA2 _ hc2
      subst hA2 hc2
      have hltB : (j : Int) < (l.length : Int) := by omega
      generalize l[j] = t at *
      obtain ⟨tl, tb, ty⟩ := t
      simp only at p0 p1 p2 q0 q1 q2
      go_upto_region 6 with (fail)
      go_region
      all_goals go_wp2_with fail
      all_goals go_roundg (gk - 1)
      all_goals first
        | omega
        | exact ⟨j + 1, m + 1, by omega, by go_num, rfl⟩
    · have hltB : decide ((j : Int) < (l.length : Int)) = false := by simp; omega
      go_wp2_with fail
      go_ret
      exact ⟨rfl, m, rfl⟩

set_option maxRecDepth 100000 in
set_option maxHeartbeats 2000000 in
theorem packFirst_walk (w : World) (v0 : Value) (b : Bs) (h0 : Bytes w (fun _ => True) v0 b) (n1 : Int) :
    Calls Try.prog 10 #[v0, .int .i64 n1] w fun e w' => e = .returned (.bool true) ∧ Below w.heap.size w w' := by
  obtain ⟨A, c, hv, hbc, hcm⟩ := h0.form'
  subst hv
  unfold maxLen at hcm
  go_enter Try.func10, Try.ntmps10
  go_wp2_with fail
  refine (alive4 w).mono ?_
  rintro e w1 ⟨rfl, hx1⟩
  have hb1 := h0.below hx1
  go_wp2_with fail
  by_cases hl : b.length ≤ 4000
  · refine (tokens_any w1 _ _ b hb1 hl).mono ?_
    rintro e w2 ⟨v2, rfl, ho2, hx2⟩
    obtain ⟨A2, c2, hv2, hlc2, hcm2⟩ := OwnR.shape ho2
    subst hv2
    unfold maxLen at hcm2
    have hrd := OwnR.rd (F := fun _ => True) ho2 (fun _ _ => trivial)
    have hxa := hx1.trans (hx2.mono hx1.size)
    have hb2 := hb1.below hx2
    have hTl := Pk.toks_len b
    by_cases hn1 : n1 < 1
    · go_wp2_with fail
      go_ret
      exact ⟨rfl, hxa⟩
    have hn1B : decide (n1 < 1) = false := decide_eq_false hn1
    obtain ⟨n, rfl⟩ : ∃ n : Nat, n1 = (n : Int) := ⟨n1.toNat, by omega⟩
    by_cases hn2 : (Pk.toks b).length < n
    · have hn2B : ((Pk.toks b).length : Int) < (n : Int) := by omega
      go_wp2_with fail
      go_ret
      exact ⟨rfl, hxa⟩
    have hn2B : decide (((Pk.toks b).length : Int) < (n : Int)) = false := by simp; omega
    have htk := Pk.toks_take b n (by omega)
    have hok : ∀ t ∈ Pk.toks b, Pk.Okt t := fun t ht => Pk.toksF_ok b _ _ t ht
    have hwl : ∀ j, j ≤ n → Pk.wts ((Pk.toks b).take j) ≤ Pk.wts ((Pk.toks b).take n) := fun j hj => by
      have : (Pk.toks b).take n = (Pk.toks b).take j ++ ((Pk.toks b).take n).drop j := by
        rw [← List.take_append_drop j ((Pk.toks b).take n), List.take_take, Nat.min_eq_left hj, List.drop_append_of_le_length (by simp; omega)]
        simp
      rw [this, Pk.wts_append]; omega
    generalize hT : Pk.toks b = T at *
    have HTK := Lib.hid htk
    have HT := Lib.hid hT
    clear htk hT ho2
    go_wp2_with fail
    go_loopg [7, 34] n (fun k s i wr => ∃ j : Nat, j + k = n ∧ i = .int .i64 (j : Int) ∧ s = .int .i64 ((Pk.wts (T.take j) : Nat) : Int) ∧ Below w2.heap.size w2 wr)
    case atStart => exact ⟨0, by omega, rfl, rfl, Below.refl _ _⟩
    case round =>
      obtain ⟨j, hj, rfl, rfl, hx⟩ := hrel
      by_cases hlt : j < n
      · have hltT : j < T.length := by omega
        obtain ⟨b1, off1, d1, hA1, _, hbb, q0, q1, q2⟩ := tok_at hrd hltT
        injection hA1 with hA1 _ hc1
        subst hA1 hc1
        have hltB : (j : Int) < (n : Int) := by omega
        have p0 := (hx.cell (p := ⟨b1, off1 + j * 3, none⟩) hbb).trans q0
        have p1 := (hx.cell (p := ⟨b1, off1 + j * 3 + 1, none⟩) hbb).trans q1
        have p2 := (hx.cell (p := ⟨b1, off1 + j * 3 + 2, none⟩) hbb).trans q2
        have hsum : Pk.wts (T.take (j + 1)) = Pk.wts (T.take j) + Pk.wt T[j] := by
          rw [List.take_succ_eq_append_getElem hltT, Pk.wts_append, Pk.wts_cons, Pk.wts_nil, Nat.add_zero]
        have hsl := hwl (j + 1) (by omega)
        have hol := hok _ (List.getElem_mem hltT)
        have hww : ((Pk.wts (T.take j) : Nat) : Int) + max (T[j].len) 1 = ((Pk.wts (T.take (j + 1)) : Nat) : Int) := by
          rw [hsum]
          rcases hol with ⟨cc, hcc⟩ | ⟨a, bk, hcc, h3, _⟩
          · rw [hcc]; show ((Pk.wts (T.take j) : Nat) : Int) + max 0 1 = ((Pk.wts (T.take j) + max (0 : Int).toNat 1 : Nat) : Int); omega
          · rw [hcc]; simp [Pk.wt, Pk.cp]; omega
        have hwb : Pk.wts (T.take (j + 1)) ≤ 4000 := by have := HTK.out.1; omega
        have hmx := hx.alloc hx.size (.cells #[.int .i64 (T[j].len), .int .i64 (T[j].back), .int .u8 (T[j].byte.toNat : Int)] 47)
        generalize hS1 : Pk.wts (T.take (j + 1)) = s1 at *
        have HS1 := Lib.hid hS1
        clear hS1
        generalize hS : Pk.wts (T.take j) = s0 at *
        generalize T[j] = t at *
        obtain ⟨tl, tb, ty⟩ := t
        simp only at p0 p1 p2 hww hmx
        have hw64 : wrap64 ((s0 : Int) + max tl 1) = (s1 : Int) := by rw [hww]; exact wrap64_nat_small s1 (by omega)
        clear hww hsum q0 q1 q2 hS hwl
        go_wp2_with fail
        go_roundg (gk - 1)
        case measure => omega
        case rel => exact ⟨j + 1, by omega, by go_num, by rw [HS1.out], hmx⟩
      · have hltB : decide ((j : Int) < (n : Int)) = false := by simp; omega
        have hjn : j = n := by omega
        subst hjn
        have hat : Pk.wts (T.take j) ≤ b.length := HTK.out.1
        have hc1 : ((Pk.wts (T.take j) : Nat) : Int) ≤ (c : Int) := by omega
        have hc2 : (0 : Int) ≤ ((Pk.wts (T.take j) : Nat) : Int) := by omega
        have hTK := HTK.out.2
        have hTj : (T.take j).length = j := by rw [List.length_take]; omega
        have hb3 : Bytes wr (fun _ => True) (.slice A (Pk.wts (T.take j)) c) (b.take (Pk.wts (T.take j))) := by
          have := SlAt.first (hb2.below hx) _ hat
          unfold Bytes
          rw [List.length_take, Nat.min_eq_left hat, List.map_take]
          exact this
        have hrdr := RdL.first (hrd.below hx) j (by omega)
        have hxb := hxa.trans (hx.mono hxa.size)
        generalize hG : T.take j = G at *
        generalize Pk.wts G = at1 at *
        have hl2 : (b.take at1).length ≤ 4000 := by rw [List.length_take]; omega
        generalize b.take at1 = bb at *
        have HTJ := Lib.hid hTj
        have HK := Lib.hid hTK
        clear hTj hTK hG
        go_wp2_with fail
        refine (tokens_any wr _ _ bb hb3 hl2).mono ?_
        rintro e w4 ⟨v4, rfl, ho4, hx4⟩
        rw [HK.out] at ho4
        obtain ⟨A4, c4, hv4, hlc4, hcm4⟩ := OwnR.shape ho4
        subst hv4
        have hr4 := OwnR.rd (F := fun _ => True) ho4 (fun _ _ => trivial)
        have hr5 := hrdr.below hx4
        have hxc := hxb.trans (hx4.mono hxb.size)
        have hjj := HTJ.out
        clear hrdr ho4
        rw [hjj] at hlc4 hr4 ⊢
        have hjc : (j : Int) ≤ (c2 : Int) := by omega
        have hj0 : (0 : Int) ≤ (j : Int) := by omega
        clear hjj
        go_wp2_with fail
        refine (sameT_yes w4 _ _ _ _ G hr4 hr5).mono ?_
        rintro e w5 ⟨rfl, n5, hw5⟩
        have hx5 : Below w.heap.size w w5 := by rw [hw5]; exact below_drewN hxc n5
        clear hw5
        go_wp2_with fail
        go_ret
        exact ⟨rfl, hx5⟩
  · refine (tokens_much w1 _ _ b hb1 hl).mono ?_
    rintro e w2 ⟨rfl, hw⟩
    subst hw
    have hB : (4000 : Int) < (b.length : Int) := by omega
    go_wp2_with fail
    go_ret
    exact ⟨rfl, hx1⟩
end Go.Proofs.Ytjablgkebpmmhaa
