/-
  THE WALK of pack.Text. Conditions: what is read is tokens.
-/
import Derived.Test.YtfdibjgmbdkbcaaZGc
import Derived.Test.YtfdibjgmbdkbcaaZRepr
import Derived.Test.YtfdibjgmbdkbcaaZPackB
namespace Go.Proofs.Ytfdibjgmbdkbcaa
open Go.RowKit Go.Lib

/-- what is wrong with tokens' text, and where; or nothing -/
def textV (l : List Pk.Tok) : Nat × Nat := match Pk.text l with | .inl _ => (0, 0) | .inr e => e
def textB (l : List Pk.Tok) : Bs := match Pk.text l with | .inl o => o | .inr _ => []
def TextPost (w : World) (l : List Pk.Tok) (e : Ending) (w' : World) : Prop :=
  ∃ v, e = .returned (.tuple #[v, fv (textV l)]) ∧ OwnB w' w.heap.size v (textB l) ∧ Below w.heap.size w w'
theorem tok_at {w : World} {F : Nat → Prop} {v : Value} {l : List Pk.Tok} (h : RdL w F v l) {j : Nat} (hj : j < l.length) : ∃ b off c, v = .slice (some ⟨b, off, none⟩) l.length c ∧ F b ∧ b < w.heap.size ∧
    w.cell? ⟨b, off + j * 3, none⟩ = some (.int .i64 l[j].len) ∧ w.cell? ⟨b, off + j * 3 + 1, none⟩ = some (.int .i64 l[j].back) ∧ w.cell? ⟨b, off + j * 3 + 2, none⟩ = some (.int .u8 (l[j].byte.toNat : Int)) := by
  obtain ⟨b, off, c, hv, hF, hb, ecs, hr, hc⟩ := h.at_ hj
  have he := rd_tok.1 hr
  subst he
  exact ⟨b, off, c, hv, hF, hb, hc 0 _ rfl, hc 1 _ rfl, hc 2 _ rfl⟩
theorem length_copy (out : Bs) (back : Nat) : ∀ k, (Pk.copyN out back k).length = out.length + k
  | 0 => rfl
  | k + 1 => by unfold Pk.copyN; rw [List.length_append, length_copy out back k]; simp; omega

set_option maxRecDepth 100000 in
set_option maxHeartbeats 4000000 in
theorem text_any (w : World) (F : Nat → Prop) (v : Value) (l : List Pk.Tok) (hl : RdL w F v l) :
    Calls Try.prog 19 #[v] w (TextPost w l) := by
  obtain ⟨i0, hi, hz0, hz1, hz2⟩ := info_parts info_u8
  obtain ⟨A, c, hv, hlc, hcm⟩ := hl.form
  subst hv
  unfold maxLen at hcm
  have hx0 := (Below.refl w.heap.size w).alloc (Nat.le_refl _) (.cells #[.int .i64 0, .int .i64 0] 32)
  have hk0 : Blk (w.alloc (.cells #[.int .i64 0, .int .i64 0] 32)) w.heap.size 32 #[.int .i64 0, .int .i64 0] := heap_alloc_new w _
  go_enter Try.func19, Try.ntmps19
  go_wp2_with fail
  generalize w.alloc (.cells #[.int .i64 0, .int .i64 0] 32) = w0 at *
  go_loopg [4, 10] l.length (fun k v i wr => ∃ (j : Nat) (out : Bs), j + k = l.length ∧ i = .int .i64 (j : Int) ∧ Hid (Pk.textF (l.drop j) j out = Pk.text l) ∧ out.length ≤ 4000 ∧ OwnB wr w.heap.size v out ∧ Blk wr w.heap.size 32 #[.int .i64 0, .int .i64 0] ∧ Below w.heap.size w wr)
  case atStart => exact ⟨0, [], by omega, rfl, Lib.hid (by simp [Pk.text]), by simp, Own.nil_ _ _ _ _, hk0, hx0⟩
  case round =>
    obtain ⟨j, out, hj, rfl, HT, hol, hown, hk, hx⟩ := hrel
    obtain ⟨A1, c1, hv1, hac1, hcm1⟩ := Own.shape hown
    subst hv1
    by_cases hlt : j < l.length
    · obtain ⟨b, off, c', hA, _, hb, q0, q1, q2⟩ := tok_at hl hlt
      injection hA with hA _ hA'
      subst hA hA'
      have hltB : (j : Int) < (l.length : Int) := by omega
      have p0 := (hx.cell (p := ⟨b, off + j * 3, none⟩) hb).trans q0
      have p1 := (hx.cell (p := ⟨b, off + j * 3 + 1, none⟩) hb).trans q1
      have p2 := (hx.cell (p := ⟨b, off + j * 3 + 2, none⟩) hb).trans q2
      have hnx : l.drop j = l[j] :: l.drop (j + 1) := List.drop_eq_getElem_cons hlt
      generalize l[j] = t at *
      obtain ⟨len, back, byte⟩ := t
      simp only at q0 q1 q2 p0 p1 p2
      have HN := Lib.hid hnx
      clear hnx q0 q1 q2
      have hxA := hx.alloc hx.size (.cells #[.int .i64 len, .int .i64 back, .int .u8 (byte.toNat : Int)] 126)
      have hkA := hk.alloc (.cells #[.int .i64 len, .int .i64 back, .int .u8 (byte.toNat : Int)] 126)
      have hoA := hown.alloc (.cells #[.int .i64 len, .int .i64 back, .int .u8 (byte.toNat : Int)] 126)
      have hgA : Blk (wr.alloc (.cells #[.int .i64 len, .int .i64 back, .int .u8 (byte.toNat : Int)] 126)) wr.heap.size 126 #[.int .i64 len, .int .i64 back, .int .u8 (byte.toNat : Int)] := heap_alloc_new wr _
      have hk1 := hk.lt
      go_upto_region 6 with (fail)
      generalize (wr.alloc (.cells #[.int .i64 len, .int .i64 back, .int .u8 (byte.toNat : Int)] 126)) = w1 at *
      generalize wr.heap.size = g at *
      have e0 : w1.cell? ⟨g, 0, none⟩ = some (.int .i64 len) := hgA.cell 0
      have e1 : w1.cell? ⟨g, 1, none⟩ = some (.int .i64 back) := hgA.cell 1
      have e2 : w1.cell? ⟨g, 2, none⟩ = some (.int .u8 (byte.toNat : Int)) := hgA.cell 2
      have f0 : w1.cell? ⟨w.heap.size, 0, none⟩ = some (.int .i64 0) := hkA.cell 0
      have f1 : w1.cell? ⟨w.heap.size, 1, none⟩ = some (.int .i64 0) := hkA.cell 1
      have k0 := hkA.frozen 0
      have k1 := hkA.frozen 1
      clear p0 p1 p2
      by_cases hl0 : len = 0
      · subst hl0
        by_cases hmuch : 4000 < out.length + 1
        · have hbad : Pk.bad ⟨0, back, byte⟩ out.length = 4 := by unfold Pk.bad; simp only; rw [if_neg (by omega), if_neg (by omega), if_pos (by omega)]
          have hmB : (4000 : Int) < (out.length : Int) + 1 := by omega
          have HF : Hid (Pk.text l = .inr (4, j)) := Lib.hid (by rw [← HT.out, HN.out, Pk.textF_cons, if_neg (by rw [hbad]; decide), hbad])
          go_wp2_with fail
          have hk6 := hkA.set2 (.int .i64 4) (.int .i64 (j : Int))
          have hx6 := below_set2 (g := w.heap.size) hxA (Nat.le_refl _) (.int .i64 4) (.int .i64 (j : Int))
          generalize ((w1.setCell ⟨w.heap.size, 0, none⟩ (.int .i64 4)).setCell ⟨w.heap.size, 1, none⟩ (.int .i64 (j : Int))) = w6 at *
          have d0 : w6.cell? ⟨w.heap.size, 0, none⟩ = some (.int .i64 4) := hk6.cell 0
          have d1 : w6.cell? ⟨w.heap.size, 1, none⟩ = some (.int .i64 (j : Int)) := hk6.cell 1
          exact bodyPost_ret (v := .tuple #[.slice none 0 0, .agg #[.int .i64 4, .int .i64 (j : Int)]]) (by simp [results, Try.results19, go_sem, d0, d1]) rfl ⟨.slice none 0 0, by unfold textV; rw [HF.out]; rfl, by unfold textB; rw [HF.out]; exact Own.nil_ _ _ _ _, hx6⟩
        · have hbad : Pk.bad ⟨0, back, byte⟩ out.length = 0 := by unfold Pk.bad; simp only; rw [if_neg (by omega), if_neg (by omega), if_neg (by omega)]
          have hmB : decide ((4000 : Int) < (out.length : Int) + 1) = false := by simp; omega
          have HF : Hid (Pk.textF (l.drop (j + 1)) (j + 1) (out ++ [byte]) = Pk.text l) := Lib.hid (by rw [← HT.out, HN.out, Pk.textF_cons, if_pos hbad]; rfl)
          obtain ⟨hownB, hsrc⟩ := byte_prep byte hoA
          have hb0 : bv byte = .int .u8 (byte.toNat : Int) := rfl
          have hxB := hxA.alloc hxA.size (.cells #[bv byte] 5)
          have hkB := hkA.alloc (.cells #[bv byte] 5)
          have hgB := hgA.alloc (.cells #[bv byte] 5)
          rw [hb0] at hownB hsrc hxB hkB hgB
          have hlo : out.length ≤ 3999 := by omega
          clear hbad hb0 hmuch
          go_wp2_with (at_builtin
                       refine wpList_append_Own _ (by rfl) (.tmp 68) (.tmp 71) 22 (by rfl) w.heap.size 5 i0 _ 1 1 Try.underlying22 hi hz0 hz1 hz2 (by rfl) (by omega) (.slice A1 out.length c1) out.length (out.map bv) (by rfl) hownB _ _ _ _ (by rfl) hsrc (by simp [Value.oneCell']) (by simp only [maxLen]; omega) (by omega) (by simp; have := hxA.size; omega) ?_
                       intro v2 w2 hown2 hgr2 hat2
                       have hx2 : Below w.heap.size w w2 := hxB.grown hgr2 hxB.size (fun k hk => (hownB.lt k hk).1)
                       have hk2 : Blk w2 w.heap.size 32 #[.int .i64 0, .int .i64 0] := hkB.keep (hgr2.block _ hkB.lt (fun e => Own.ne_blk hownB hkB (by decide) e.symm))
                       have hg2 : Blk w2 g 126 #[.int .i64 0, .int .i64 back, .int .u8 (byte.toNat : Int)] := hgB.keep (hgr2.block _ hgB.lt (fun e => Own.ne_blk hownB hgB (by decide) e.symm))
                       have u0 : w2.cell? ⟨g, 0, none⟩ = some (.int .i64 0) := hg2.cell 0)
          generalize gk = gk0 at *
          go_loopg [4, 75] 0 (fun k v i wq => v = v2 ∧ i = .int .i64 0 ∧ wq = w2)
          case atStart => exact ⟨rfl, rfl, rfl⟩
          case round =>
            obtain ⟨rfl, rfl, rfl⟩ := hrel
            go_wp2_with fail
            go_roundg (gk0 - 1)
            case measure => omega
            case rel =>
              refine ⟨j + 1, out ++ [byte], by omega, by go_num, HF, by simp; omega, ?_, hk2, hx2⟩
              unfold OwnB
              rw [List.length_append, List.map_append]
              exact hown2
      · have hl0B : (len != 0) = true := by rw [bne_iff_ne]; exact hl0
        have hl0C : (len == 0) = false := by rw [beq_eq_false_iff_ne]; exact hl0
        by_cases c3 : len < 3
        · have hbad : Pk.bad ⟨len, back, byte⟩ out.length = 3 := by unfold Pk.bad; simp only; rw [if_pos ⟨hl0, .inl c3⟩]
          clear hl0
          have HF : Hid (Pk.text l = .inr (3, j)) := Lib.hid (by rw [← HT.out, HN.out, Pk.textF_cons, if_neg (by rw [hbad]; decide), hbad])
          go_wp2_with fail
          have hk6 := hkA.set2 (.int .i64 3) (.int .i64 (j : Int))
          have hx6 := below_set2 (g := w.heap.size) hxA (Nat.le_refl _) (.int .i64 3) (.int .i64 (j : Int))
          generalize ((w1.setCell ⟨w.heap.size, 0, none⟩ (.int .i64 3)).setCell ⟨w.heap.size, 1, none⟩ (.int .i64 (j : Int))) = w6 at *
          have d0 : w6.cell? ⟨w.heap.size, 0, none⟩ = some (.int .i64 3) := hk6.cell 0
          have d1 : w6.cell? ⟨w.heap.size, 1, none⟩ = some (.int .i64 (j : Int)) := hk6.cell 1
          exact bodyPost_ret (v := .tuple #[.slice none 0 0, .agg #[.int .i64 3, .int .i64 (j : Int)]]) (by simp [results, Try.results19, go_sem, d0, d1]) rfl ⟨.slice none 0 0, by unfold textV; rw [HF.out]; rfl, by unfold textB; rw [HF.out]; exact Own.nil_ _ _ _ _, hx6⟩
        have b3 : decide (len < 3) = false := decide_eq_false c3
        by_cases c66 : 66 < len
        · have hbad : Pk.bad ⟨len, back, byte⟩ out.length = 3 := by unfold Pk.bad; simp only; rw [if_pos ⟨hl0, .inr (.inl c66)⟩]
          clear hl0
          have HF : Hid (Pk.text l = .inr (3, j)) := Lib.hid (by rw [← HT.out, HN.out, Pk.textF_cons, if_neg (by rw [hbad]; decide), hbad])
          go_wp2_with fail
          have hk6 := hkA.set2 (.int .i64 3) (.int .i64 (j : Int))
          have hx6 := below_set2 (g := w.heap.size) hxA (Nat.le_refl _) (.int .i64 3) (.int .i64 (j : Int))
          generalize ((w1.setCell ⟨w.heap.size, 0, none⟩ (.int .i64 3)).setCell ⟨w.heap.size, 1, none⟩ (.int .i64 (j : Int))) = w6 at *
          have d0 : w6.cell? ⟨w.heap.size, 0, none⟩ = some (.int .i64 3) := hk6.cell 0
          have d1 : w6.cell? ⟨w.heap.size, 1, none⟩ = some (.int .i64 (j : Int)) := hk6.cell 1
          exact bodyPost_ret (v := .tuple #[.slice none 0 0, .agg #[.int .i64 3, .int .i64 (j : Int)]]) (by simp [results, Try.results19, go_sem, d0, d1]) rfl ⟨.slice none 0 0, by unfold textV; rw [HF.out]; rfl, by unfold textB; rw [HF.out]; exact Own.nil_ _ _ _ _, hx6⟩
        have b66 : decide (66 < len) = false := decide_eq_false c66
        by_cases cb1 : back < 1
        · have hbad : Pk.bad ⟨len, back, byte⟩ out.length = 3 := by unfold Pk.bad; simp only; rw [if_pos ⟨hl0, .inr (.inr (.inl cb1))⟩]
          clear hl0
          have HF : Hid (Pk.text l = .inr (3, j)) := Lib.hid (by rw [← HT.out, HN.out, Pk.textF_cons, if_neg (by rw [hbad]; decide), hbad])
          go_wp2_with fail
          have hk6 := hkA.set2 (.int .i64 3) (.int .i64 (j : Int))
          have hx6 := below_set2 (g := w.heap.size) hxA (Nat.le_refl _) (.int .i64 3) (.int .i64 (j : Int))
          generalize ((w1.setCell ⟨w.heap.size, 0, none⟩ (.int .i64 3)).setCell ⟨w.heap.size, 1, none⟩ (.int .i64 (j : Int))) = w6 at *
          have d0 : w6.cell? ⟨w.heap.size, 0, none⟩ = some (.int .i64 3) := hk6.cell 0
          have d1 : w6.cell? ⟨w.heap.size, 1, none⟩ = some (.int .i64 (j : Int)) := hk6.cell 1
          exact bodyPost_ret (v := .tuple #[.slice none 0 0, .agg #[.int .i64 3, .int .i64 (j : Int)]]) (by simp [results, Try.results19, go_sem, d0, d1]) rfl ⟨.slice none 0 0, by unfold textV; rw [HF.out]; rfl, by unfold textB; rw [HF.out]; exact Own.nil_ _ _ _ _, hx6⟩
        have bb1 : decide (back < 1) = false := decide_eq_false cb1
        by_cases cb2 : 1024 < back
        · have hbad : Pk.bad ⟨len, back, byte⟩ out.length = 3 := by unfold Pk.bad; simp only; rw [if_pos ⟨hl0, .inr (.inr (.inr cb2))⟩]
          clear hl0
          have HF : Hid (Pk.text l = .inr (3, j)) := Lib.hid (by rw [← HT.out, HN.out, Pk.textF_cons, if_neg (by rw [hbad]; decide), hbad])
          go_wp2_with fail
          have hk6 := hkA.set2 (.int .i64 3) (.int .i64 (j : Int))
          have hx6 := below_set2 (g := w.heap.size) hxA (Nat.le_refl _) (.int .i64 3) (.int .i64 (j : Int))
          generalize ((w1.setCell ⟨w.heap.size, 0, none⟩ (.int .i64 3)).setCell ⟨w.heap.size, 1, none⟩ (.int .i64 (j : Int))) = w6 at *
          have d0 : w6.cell? ⟨w.heap.size, 0, none⟩ = some (.int .i64 3) := hk6.cell 0
          have d1 : w6.cell? ⟨w.heap.size, 1, none⟩ = some (.int .i64 (j : Int)) := hk6.cell 1
          exact bodyPost_ret (v := .tuple #[.slice none 0 0, .agg #[.int .i64 3, .int .i64 (j : Int)]]) (by simp [results, Try.results19, go_sem, d0, d1]) rfl ⟨.slice none 0 0, by unfold textV; rw [HF.out]; rfl, by unfold textB; rw [HF.out]; exact Own.nil_ _ _ _ _, hx6⟩
        have bb2 : decide (1024 < back) = false := decide_eq_false cb2
        obtain ⟨n, rfl⟩ : ∃ k : Nat, len = (k : Int) := ⟨len.toNat, by omega⟩
        obtain ⟨m, rfl⟩ : ∃ k : Nat, back = (k : Int) := ⟨back.toNat, by omega⟩
        by_cases cf : out.length < m
        · have hbad : Pk.bad ⟨(n : Int), (m : Int), byte⟩ out.length = 7 := by unfold Pk.bad; simp only; rw [if_neg (by omega), if_pos (by omega)]
          have cfB : (out.length : Int) < (m : Int) := by omega
          clear hl0
          have HF : Hid (Pk.text l = .inr (7, j)) := Lib.hid (by rw [← HT.out, HN.out, Pk.textF_cons, if_neg (by rw [hbad]; decide), hbad])
          go_wp2_with fail
          have hk6 := hkA.set2 (.int .i64 7) (.int .i64 (j : Int))
          have hx6 := below_set2 (g := w.heap.size) hxA (Nat.le_refl _) (.int .i64 7) (.int .i64 (j : Int))
          generalize ((w1.setCell ⟨w.heap.size, 0, none⟩ (.int .i64 7)).setCell ⟨w.heap.size, 1, none⟩ (.int .i64 (j : Int))) = w6 at *
          have d0 : w6.cell? ⟨w.heap.size, 0, none⟩ = some (.int .i64 7) := hk6.cell 0
          have d1 : w6.cell? ⟨w.heap.size, 1, none⟩ = some (.int .i64 (j : Int)) := hk6.cell 1
          exact bodyPost_ret (v := .tuple #[.slice none 0 0, .agg #[.int .i64 7, .int .i64 (j : Int)]]) (by simp [results, Try.results19, go_sem, d0, d1]) rfl ⟨.slice none 0 0, by unfold textV; rw [HF.out]; rfl, by unfold textB; rw [HF.out]; exact Own.nil_ _ _ _ _, hx6⟩
        have bf : decide ((out.length : Int) < (m : Int)) = false := by simp; omega
        have hmx : max (n : Int) 1 = (n : Int) := by omega
        by_cases cm : 4000 < out.length + n
        · have hbad : Pk.bad ⟨(n : Int), (m : Int), byte⟩ out.length = 4 := by unfold Pk.bad; simp only; rw [if_neg (by omega), if_neg (by omega), if_pos (by omega)]
          have cmB : (4000 : Int) < (out.length : Int) + (n : Int) := by omega
          clear hl0
          have HF : Hid (Pk.text l = .inr (4, j)) := Lib.hid (by rw [← HT.out, HN.out, Pk.textF_cons, if_neg (by rw [hbad]; decide), hbad])
          go_wp2_with fail
          have hk6 := hkA.set2 (.int .i64 4) (.int .i64 (j : Int))
          have hx6 := below_set2 (g := w.heap.size) hxA (Nat.le_refl _) (.int .i64 4) (.int .i64 (j : Int))
          generalize ((w1.setCell ⟨w.heap.size, 0, none⟩ (.int .i64 4)).setCell ⟨w.heap.size, 1, none⟩ (.int .i64 (j : Int))) = w6 at *
          have d0 : w6.cell? ⟨w.heap.size, 0, none⟩ = some (.int .i64 4) := hk6.cell 0
          have d1 : w6.cell? ⟨w.heap.size, 1, none⟩ = some (.int .i64 (j : Int)) := hk6.cell 1
          exact bodyPost_ret (v := .tuple #[.slice none 0 0, .agg #[.int .i64 4, .int .i64 (j : Int)]]) (by simp [results, Try.results19, go_sem, d0, d1]) rfl ⟨.slice none 0 0, by unfold textV; rw [HF.out]; rfl, by unfold textB; rw [HF.out]; exact Own.nil_ _ _ _ _, hx6⟩
        have cmB : decide ((4000 : Int) < (out.length : Int) + (n : Int)) = false := by simp; omega
        have hbad : Pk.bad ⟨(n : Int), (m : Int), byte⟩ out.length = 0 := by unfold Pk.bad; simp only; rw [if_neg (by omega), if_neg (by omega), if_neg (by omega)]
        have HF : Hid (Pk.textF (l.drop (j + 1)) (j + 1) (Pk.copyN out m n) = Pk.text l) := Lib.hid (by rw [← HT.out, HN.out, Pk.textF_cons, if_pos hbad, Pk.more, if_neg hl0]; rfl)
        have hm1 : 1 ≤ m := by omega
        have hmo : m ≤ out.length := by omega
        have hn66 : n ≤ 66 := by omega
        have hno : out.length + n ≤ 4000 := by omega
        clear hbad hl0 cm cf f0 f1 e2
        go_wp2_with fail

        generalize gk = gk0 at *
        clear e0 e1
        go_loopg [4, 75] n (fun k v i wq => ∃ r : Nat, r + k = n ∧ i = .int .i64 (r : Int) ∧ OwnB wq w.heap.size v (Pk.copyN out m r) ∧ Blk wq g 126 #[.int .i64 (n : Int), .int .i64 (m : Int), .int .u8 (byte.toNat : Int)] ∧ Blk wq w.heap.size 32 #[.int .i64 0, .int .i64 0] ∧ Below w.heap.size w wq)
        case atStart => exact ⟨0, by omega, rfl, hoA, hgA, hkA, hxA⟩
        case round =>
          clear hoA hgA hkA hxA hown hk hx
          obtain ⟨r, hr, rfl, ho, hg, hk, hx⟩ := hrel
          have hcl := length_copy out m r
          by_cases hrn : r < n
          · have hnx : Pk.copyN out m (r + 1) = Pk.copyN out m r ++ [(Pk.copyN out m r).getD ((Pk.copyN out m r).length - m) 0] := rfl
            generalize Pk.copyN out m r = cur at *
            obtain ⟨A2, c2, hv2, hac2, _⟩ := Own.shape ho
            subst hv2
            have hrnB : (r : Int) < (n : Int) := by omega
            have hcm1 : cur.length ≤ 4000 := by omega
            have hmc : m ≤ cur.length := by omega
            obtain ⟨q, off2, rfl, hq, hcq⟩ : ∃ q off, A2 = some ⟨q, off, none⟩ ∧ q < wr.heap.size ∧ wr.cell? ⟨q, off + (cur.length - m), none⟩ = some (.int .u8 ((cur.getD (cur.length - m) 0).toNat : Int)) := by
              obtain ⟨A', c', hv, _, _, _, h⟩ := OwnB.bytes ho
              injection hv with z1 z2 z3
              subst z1
              obtain ⟨q, off, h, _, hq, hcc⟩ := h (by omega)
              exact ⟨q, off, h, hq, hcc (cur.length - m) (bv (cur.getD (cur.length - m) 0)) (by rw [List.getElem?_map, List.getElem?_eq_getElem (by omega), getD_at (by omega)]; rfl)⟩
            generalize cur.getD (cur.length - m) 0 = x at *
            obtain ⟨hownB, hsrc⟩ := byte_prep x ho
            have hb0 : bv x = .int .u8 (x.toNat : Int) := rfl
            have hxB := hx.alloc hx.size (.cells #[bv x] 5)
            have hkB := hk.alloc (.cells #[bv x] 5)
            have hgB := hg.alloc (.cells #[bv x] 5)
            rw [hb0] at hownB hsrc hxB hkB hgB
            have u1 : wr.cell? ⟨g, 1, none⟩ = some (.int .i64 (m : Int)) := hg.cell 1
            have z1 : (0 : Int) ≤ (cur.length : Int) - (m : Int) := by omega
            have z2 : (cur.length : Int) - (m : Int) < (cur.length : Int) := by omega
            have z3 : (m : Int) ≤ (cur.length : Int) := by omega
            have HN2 := Lib.hid hnx
            have HCL := Lib.hid hcl
            clear hnx hcl hb0
            go_wp2_with (at_builtin
                         refine wpList_append_Own _ (by rfl) (.tmp 77) (.tmp 86) 22 (by rfl) w.heap.size 5 i0 _ 1 1 Try.underlying22 hi hz0 hz1 hz2 (by rfl) (by omega) (.slice (some ⟨q, off2, none⟩) cur.length c2) cur.length (cur.map bv) (by rfl) hownB _ _ _ _ (by rfl) hsrc (by simp [Value.oneCell']) (by simp only [maxLen]; omega) (by omega) (by simp; have := hx.size; omega) ?_
                         intro v3 w3 hown3 hgr3 hat3
                         have hx3 : Below w.heap.size w w3 := hxB.grown hgr3 hxB.size (fun k hk => (hownB.lt k hk).1)
                         have hk3 : Blk w3 w.heap.size 32 #[.int .i64 0, .int .i64 0] := hkB.keep (hgr3.block _ hkB.lt (fun e => Own.ne_blk hownB hkB (by decide) e.symm))
                         have hg3 : Blk w3 g 126 #[.int .i64 (n : Int), .int .i64 (m : Int), .int .u8 (byte.toNat : Int)] := hgB.keep (hgr3.block _ hgB.lt (fun e => Own.ne_blk hownB hgB (by decide) e.symm)))
            go_roundg (gk - 1)
            case measure => omega
            case rel => exact ⟨r + 1, by omega, by go_num, by rw [HN2.out]; exact OwnB.snoc_ hown3, hg3, hk3, hx3⟩
          · have hrnB : decide ((r : Int) < (n : Int)) = false := by simp; omega
            have hrr : r = n := by omega
            have HF2 : Hid (Pk.textF (l.drop (j + 1)) (j + 1) (Pk.copyN out m r) = Pk.text l) := by rw [hrr]; exact HF
            clear hrr
            generalize Pk.copyN out m r = cur at *
            obtain ⟨A2, c2, hv2, hac2, _⟩ := Own.shape ho
            subst hv2
            have hcl4 : cur.length ≤ 4000 := by omega
            clear hcl
            go_wp2_with fail
            go_roundg (gk0 - 1)
            case measure => omega
            case rel => exact ⟨j + 1, cur, by omega, by go_num, HF2, hcl4, ho, hk, hx⟩
    · have hltB : decide ((j : Int) < (l.length : Int)) = false := by simp; omega
      have HF : Hid (Pk.text l = .inl out) := Lib.hid (by rw [← HT.out, List.drop_of_length_le (by omega)]; rfl)
      have f0 : wr.cell? ⟨w.heap.size, 0, none⟩ = some (.int .i64 0) := hk.cell 0
      have f1 : wr.cell? ⟨w.heap.size, 1, none⟩ = some (.int .i64 0) := hk.cell 1
      have k0 := hk.frozen 0
      have k1 := hk.frozen 1
      have hnb := Own.ne_blk hown hk (by decide)
      go_wp2_with fail
      have hk6 := hk.set2 (.int .i64 0) (.int .i64 0)
      have hx6 := below_set2 (g := w.heap.size) hx (Nat.le_refl _) (.int .i64 0) (.int .i64 0)
      have ho6 : OwnB _ _ (.slice A1 out.length c1) out := Own.set2 hown hnb (.int .i64 0) (.int .i64 0)
      generalize ((wr.setCell ⟨w.heap.size, 0, none⟩ (.int .i64 0)).setCell ⟨w.heap.size, 1, none⟩ (.int .i64 0)) = w6 at *
      have d0 : w6.cell? ⟨w.heap.size, 0, none⟩ = some (.int .i64 0) := hk6.cell 0
      have d1 : w6.cell? ⟨w.heap.size, 1, none⟩ = some (.int .i64 0) := hk6.cell 1
      exact bodyPost_ret (v := .tuple #[.slice A1 out.length c1, .agg #[.int .i64 0, .int .i64 0]]) (by simp [results, Try.results19, go_sem, d0, d1]) rfl ⟨.slice A1 out.length c1, by unfold textV; rw [HF.out]; rfl, by unfold textB; rw [HF.out]; exact ho6, hx6⟩
end Go.Proofs.Ytfdibjgmbdkbcaa
