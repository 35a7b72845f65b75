/-
  THE WALK of pack.Tokens. Conditions: what is read is bytes.
-/
import Derived.Test.YtfdibjgmbdkbcaaZRepr
import Derived.Test.YtfdibjgmbdkbcaaZPackA
namespace Go.Proofs.Ytfdibjgmbdkbcaa
open Go.RowKit Go.Lib

instance : Rp Pk.Tok := Rp.of fun t => (t.len, t.back, t.byte)
theorem rd_tok {w : World} {F : Nat → Prop} {cs : List Value} {t : Pk.Tok} : Rp.rd w F cs t ↔ cs = [.int .i64 t.len, .int .i64 t.back, .int .u8 (t.byte.toNat : Int)] := by
  constructor
  · rintro ⟨c1, c1', rfl, h1, c2, c2', rfl, h2, h3⟩
    have e1 : c1 = [.int .i64 t.len] := h1
    have e2 : c2 = [.int .i64 t.back] := h2
    have e3 : c2' = [bv t.byte] := h3
    subst e1 e2 e3
    rfl
  · rintro rfl
    exact ⟨[_], [_, _], rfl, rfl, [_], [_], rfl, rfl, rfl⟩
theorem info_tok : (Try.prog.info? 126).map (fun i => (i.zero, i.size, i.bytes)) = some (some (.agg #[.int .i64 0, .int .i64 0, .int .u8 0]), 3, 24) := by kernel_rfl
/-- one element of three cells, in a new block -/
theorem SlAt.new3 (w : World) (e : TypeId) (a b c : Value) : SlAt (w.alloc (.cells #[a, b, c] e)) (fun k => k = w.heap.size) 3 (.slice (some ⟨w.heap.size, 0, none⟩) 1 1) 1 [a, b, c] := by
  refine ⟨_, 1, rfl, Nat.le_refl _, by decide, rfl, fun _ => ⟨w.heap.size, 0, rfl, rfl, by simp, fun j u hu => ?_⟩⟩
  rw [Nat.zero_add, World.cell?_alloc_new, ← Array.getElem?_toList]
  exact hu
/-- tokens of the call's own -/
abbrev OwnT (w : World) (B : Nat) (v : Value) (l : List Pk.Tok) : Prop := OwnR w B 126 (fun _ => True) v l
theorem OwnT.snoc {w' : World} {B : Nat} {v' : Value} {l : List Pk.Tok} {xs : List Value} (t : Pk.Tok) (h2 : ∀ (i : Nat) (a : Pk.Tok), l[i]? = some a → ∃ ecs, ecs = [.int .i64 a.len, .int .i64 a.back, .int .u8 (a.byte.toNat : Int)] ∧ ∀ (j : Nat) (u : Value), ecs[j]? = some u → xs[i * 3 + j]? = some u)
    (hx : xs.length = l.length * 3) (hown : Own w' B 126 3 v' (l.length + 1) (xs ++ [.int .i64 t.len, .int .i64 t.back, .int .u8 (t.byte.toNat : Int)])) : OwnT w' B v' (l ++ [t]) :=
  OwnR.snoc (fun i a ha => by obtain ⟨ecs, he, hj⟩ := h2 i a ha; exact ⟨ecs, rd_tok.2 he, hj⟩) hx (rd_tok.2 rfl) hown
theorem OwnT.open_ {w : World} {B : Nat} {v : Value} {l : List Pk.Tok} (h : OwnT w B v l) : ∃ xs : List Value, Own w B 126 3 v l.length xs ∧
    ∀ (i : Nat) (a : Pk.Tok), l[i]? = some a → ∃ ecs, ecs = [.int .i64 a.len, .int .i64 a.back, .int .u8 (a.byte.toNat : Int)] ∧ ∀ (j : Nat) (u : Value), ecs[j]? = some u → xs[i * 3 + j]? = some u := by
  obtain ⟨xs, h1, h2⟩ := h
  exact ⟨xs, h1, fun i a ha => by obtain ⟨ecs, he, hj⟩ := h2 i a ha; exact ⟨ecs, rd_tok.1 he, hj⟩⟩

set_option maxRecDepth 100000 in
set_option maxHeartbeats 400000 in
theorem tokens_much (w : World) (F : Nat → Prop) (v : Value) (b : Bs) (hb : Bytes w F v b) (hlen : ¬ b.length ≤ 4000) :
    Calls Try.prog 16 #[v] w fun e w' => e = .returned (.tuple #[.slice none 0 0, .int .i64 4]) ∧ w' = w := by
  obtain ⟨A, c, rfl⟩ := hb.form
  have hB : (4000 : Int) < (b.length : Int) := by omega
  go_enter Try.func16, Try.ntmps16
  go_wp2_with fail
  go_ret2
  exact ⟨rfl, rfl⟩

set_option maxRecDepth 100000 in
set_option maxHeartbeats 2000000 in
theorem tokens_any (w : World) (F : Nat → Prop) (v : Value) (b : Bs) (hb : Bytes w F v b) (hlen : b.length ≤ 4000) :
    Calls Try.prog 16 #[v] w fun e w' => ∃ v, e = .returned (.tuple #[v, .int .i64 0]) ∧ OwnT w' w.heap.size v (Pk.toks b) ∧ Below w.heap.size w w' := by
  obtain ⟨i0, hi, hz0, hz1, hz2⟩ := info_parts info_tok
  obtain ⟨A, c, hv, hac, hcm⟩ := hb.form'
  subst hv
  unfold maxLen at hcm
  have hB : decide ((4000 : Int) < (b.length : Int)) = false := by simp; omega
  obtain ⟨K, HK⟩ : ∃ K, Hid (K = Pk.toks b) := ⟨_, Lib.hid rfl⟩
  rw [← HK.out]
  go_enter Try.func16, Try.ntmps16
  go_wp2_with fail
  go_loopg [4, 5] b.length (fun k v i wr => ∃ (pos : Nat) (T : List Pk.Tok), pos + k = b.length ∧ i = .int .i64 (pos : Int) ∧ Hid (T ++ Pk.toksF b b.length pos = K) ∧ T.length ≤ pos ∧ OwnT wr w.heap.size v T ∧ Below w.heap.size w wr)
  case atStart => exact ⟨0, [], by omega, rfl, Lib.hid (by rw [HK.out]; rfl), by simp, OwnR.nil_ _ _ _ _ _, Below.refl _ _⟩
  case round =>
    obtain ⟨pos, T, hp, rfl, HT, hTl, hown0, hx⟩ := hrel
    obtain ⟨xs, hown, hin⟩ := hown0.open_
    obtain ⟨A1, c1, hv1, hac1, hcm1⟩ := hown0.shape
    subst hv1
    by_cases hlt : pos < b.length
    · have hltB : (pos : Int) < (b.length : Int) := by omega
      have hbw := hb.below hx
      have hsp := Pk.step_in b pos hlt
      have hs1 := Pk.step_pos b pos
      have htk : Pk.toksF b b.length pos = Pk.tokAt b pos :: Pk.toksF b b.length (pos + Pk.stepAt b pos) := by
        rw [Pk.toksF_fuel b b.length (b.length + 1) pos (by omega) (by omega), Pk.toksF_succ, if_pos hlt]
      have hnx : (T ++ [Pk.tokAt b pos]) ++ Pk.toksF b b.length (pos + Pk.stepAt b pos) = K := by rw [List.append_assoc, List.singleton_append, ← htk, HT.out]
      have hLe := Pk.longest_le b pos
      have hta : Pk.tokAt b pos = if (Pk.longest b pos).1 < 3 then Pk.lit (b.getD pos 0) else Pk.cp (Pk.longest b pos).1 (Pk.longest b pos).2 := rfl
      have hsa : Pk.stepAt b pos = if (Pk.longest b pos).1 < 3 then 1 else (Pk.longest b pos).1 := rfl
      go_wp2_with fail
      refine (longest_any wr F _ b pos hbw hlt hlen).mono ?_
      generalize (Pk.longest b pos).1 = x at *
      generalize (Pk.longest b pos).2 = y at *
      generalize Pk.tokAt b pos = tk at *
      generalize Pk.stepAt b pos = st at *
      rintro e w1 ⟨rfl, n1, hw⟩
      have hx1 := below_drewN hx n1
      have hown1 := hown.drewN n1
      have hb1 : Bytes (wr.drewN n1) F (.slice A b.length c) b := hbw
      rw [← hw] at hx1 hown1 hb1
      clear hw
      by_cases h3 : x < 3
      · rw [if_pos h3] at hta hsa
        have h3B : (x : Int) < 3 := by omega
        obtain ⟨q, off, u, hA, hc, _, hq⟩ : ∃ q off u, A = some ⟨q, off, none⟩ ∧ w1.cell? ⟨q, off + pos, none⟩ = some (.int .u8 ((b.getD pos 0).toNat : Int)) ∧ u = (0 : Nat) ∧ q < w1.heap.size := by
          obtain ⟨A', c', hv, _, _, _, h⟩ := hb1
          injection hv with e1 e2 e3
          subst e1
          obtain ⟨q, off, h, _, hq, hcc⟩ := h (by omega)
          exact ⟨q, off, 0, h, hcc pos (bv (b.getD pos 0)) (by rw [List.getElem?_map, List.getElem?_eq_getElem hlt, getD_at hlt]; rfl), rfl, hq⟩
        subst hA
        generalize b.getD pos 0 = ch at *
        have hsrc3 : SlAt (w1.alloc (.cells #[.int .i64 0, .int .i64 0, .int .u8 (ch.toNat : Int)] 126)) (fun k => k = w1.heap.size) 3 (.slice (some ⟨w1.heap.size, 0, none⟩) 1 1) 1 [.int .i64 0, .int .i64 0, .int .u8 (ch.toNat : Int)] := SlAt.new3 w1 _ _ _ _
        have hownA := hown1.alloc (.cells #[.int .i64 0, .int .i64 0, .int .u8 (ch.toNat : Int)] 126)
        have hxA := hx1.alloc hx1.size (.cells #[.int .i64 0, .int .i64 0, .int .u8 (ch.toNat : Int)] 126)
        have HTA := Lib.hid hta
        have HSA := Lib.hid hsa
        have HNX := Lib.hid hnx
        clear hta hsa hnx htk
        go_wp2_with (at_builtin
                     refine wpList_append_Own _ (by rfl) (.tmp 23) (.tmp 29) 26 (by rfl) w.heap.size 126 i0 _ 3 24 Try.underlying26 hi hz0 hz1 hz2 (by rfl) (by omega) (.slice A1 T.length c1) T.length xs (by rfl) hownA _ _ _ _ (by rfl) hsrc3 (by simp [Value.oneCell']) (by simp only [maxLen]; omega) (by omega) (by simp; have := hx1.size; omega) ?_
                     intro v2 w2 hown2 hgr2 hat2
                     have hx2 : Below w.heap.size w w2 := hxA.grown hgr2 hxA.size (fun k hk => (hownA.lt k hk).1))
        go_roundg (gk - 1)
        case measure => omega
        case rel =>
          refine ⟨pos + 1, T ++ [tk], by omega, by go_num, ?_, by simp; omega, ?_, hx2⟩
          · rw [HSA.out] at HNX; exact HNX
          · rw [HTA.out]; exact OwnT.snoc (Pk.lit ch) hin hown.1 hown2
      · rw [if_neg h3] at hta hsa
        have h3B : decide ((x : Int) < 3) = false := by simp; omega
        have hsrc3 : SlAt (w1.alloc (.cells #[.int .i64 (x : Int), .int .i64 (y : Int), .int .u8 0] 126)) (fun k => k = w1.heap.size) 3 (.slice (some ⟨w1.heap.size, 0, none⟩) 1 1) 1 [.int .i64 (x : Int), .int .i64 (y : Int), .int .u8 0] := SlAt.new3 w1 _ _ _ _
        have hownA := hown1.alloc (.cells #[.int .i64 (x : Int), .int .i64 (y : Int), .int .u8 0] 126)
        have hxA := hx1.alloc hx1.size (.cells #[.int .i64 (x : Int), .int .i64 (y : Int), .int .u8 0] 126)
        have HTA := Lib.hid hta
        have hst : st ≤ x ∧ x ≤ st := by omega
        have HSA := Lib.hid hsa
        have HNX := Lib.hid hnx
        clear hta hsa hnx htk
        go_wp2_with (at_builtin
                     refine wpList_append_Own _ (by rfl) (.tmp 33) (.tmp 37) 26 (by rfl) w.heap.size 126 i0 _ 3 24 Try.underlying26 hi hz0 hz1 hz2 (by rfl) (by omega) (.slice A1 T.length c1) T.length xs (by rfl) hownA _ _ _ _ (by rfl) hsrc3 (by simp [Value.oneCell']) (by simp only [maxLen]; omega) (by omega) (by simp; have := hx1.size; omega) ?_
                     intro v2 w2 hown2 hgr2 hat2
                     have hx2 : Below w.heap.size w w2 := hxA.grown hgr2 hxA.size (fun k hk => (hownA.lt k hk).1))
        go_roundg (gk - x)
        case measure => omega
        case rel =>
          refine ⟨pos + x, T ++ [tk], by omega, by go_num, ?_, by simp; omega, ?_, hx2⟩
          · rw [HSA.out] at HNX; exact HNX
          · rw [HTA.out]; exact OwnT.snoc (Pk.cp x y) hin hown.1 hown2
    · have hltB : decide ((pos : Int) < (b.length : Int)) = false := by simp; omega
      have hT : T = K := by
        have := HT.out
        rw [Pk.toksF_fuel b b.length 0 pos (by omega) (by omega)] at this
        simpa [Pk.toksF] using this
      have HTK := Lib.hid hT
      clear hT
      go_wp2_with fail
      go_ret2
      exact ⟨_, rfl, by rw [← HTK.out]; exact hown0, hx⟩
end Go.Proofs.Ytfdibjgmbdkbcaa
