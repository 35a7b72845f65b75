/-
  THE WALK of PackMore. Conditions: what comes in is read as tokens, a million together at the most.
-/
import Derived.Test.YtjablgkebpmmhaaQTurns
namespace Go.Proofs.Ytjablgkebpmmhaa
open Go.RowKit Go.Lib

/-- a slice of data's cells, one element behind the other -/
theorem flat_at {n : Nat} : ∀ (ls : List (List Value)) (i j : Nat) (ecs : List Value) (u : Value), (∀ c ∈ ls, c.length = n) → ls[i]? = some ecs → ecs[j]? = some u → ls.flatten[i * n + j]? = some u
  | [], _, _, _, _, _, h, _ => by simp at h
  | c :: ls, 0, j, ecs, u, _, h, hu => by
    simp only [List.getElem?_cons_zero, Option.some.injEq] at h
    subst h
    have hj : j < c.length := by
      rcases Nat.lt_or_ge j c.length with h | h
      · exact h
      · rw [List.getElem?_eq_none h] at hu; cases hu
    rw [List.flatten_cons, Nat.zero_mul, Nat.zero_add, List.getElem?_append_left hj]
    exact hu
  | c :: ls, i + 1, j, ecs, u, hl, h, hu => by
    have hc := hl c (List.mem_cons_self ..)
    simp only [List.getElem?_cons_succ] at h
    have ih := flat_at ls i j ecs u (fun d hd => hl d (List.mem_cons_of_mem _ hd)) h hu
    rw [List.flatten_cons, List.getElem?_append_right (by rw [hc, Nat.add_mul]; omega), hc, show (i + 1) * n + j - n = i * n + j by rw [Nat.add_mul]; omega]
    exact ih
def tcs (t : Pk.Tok) : List Value := [.int .i64 t.len, .int .i64 t.back, .int .u8 (t.byte.toNat : Int)]
def tcells (l : List Pk.Tok) : List Value := (l.map tcs).flatten
theorem tcells_append (l m : List Pk.Tok) : tcells (l ++ m) = tcells l ++ tcells m := by unfold tcells; rw [List.map_append, List.flatten_append]
theorem tcells_len : ∀ l : List Pk.Tok, (tcells l).length = l.length * 3
  | [] => rfl
  | t :: l => by
    have := tcells_len l
    show (tcs t ++ tcells l).length = _
    rw [List.length_append, this, List.length_cons, Nat.add_mul]
    show 3 + _ = _
    omega
theorem tcells_at {l : List Pk.Tok} {i j : Nat} {t : Pk.Tok} {u : Value} (h : l[i]? = some t) (hu : (tcs t)[j]? = some u) : (tcells l)[i * 3 + j]? = some u :=
  flat_at (l.map tcs) i j (tcs t) u (fun c hc => by obtain ⟨a, _, rfl⟩ := List.mem_map.1 hc; rfl) (by rw [List.getElem?_map, h]; rfl) hu
theorem tcells_one (l : List Pk.Tok) : ∀ u ∈ tcells l, u.oneCell' = true := by
  intro u hu
  obtain ⟨c, hc, huc⟩ := List.mem_flatten.1 hu
  obtain ⟨a, _, rfl⟩ := List.mem_map.1 hc
  simp only [tcs, List.mem_cons, List.not_mem_nil, or_false] at huc
  rcases huc with rfl | rfl | rfl <;> rfl
theorem RdL.toks {w : World} {F : Nat → Prop} {v : Value} {l : List Pk.Tok} (h : RdL w F v l) : SlAt w F 3 v l.length (tcells l) := by
  obtain ⟨A, c, hv, h1, h2, h3⟩ := h
  refine ⟨A, c, hv, h1, h2, tcells_len l, fun hn => ?_⟩
  obtain ⟨b, off, hA, hF, hb, hc⟩ := h3 hn
  refine ⟨b, off, hA, hF, hb, fun j u hu => ?_⟩
  have hj : j < (tcells l).length := by
    rcases Nat.lt_or_ge j (tcells l).length with h | h
    · exact h
    · rw [List.getElem?_eq_none h] at hu; cases hu
  rw [tcells_len] at hj
  have hi : j / 3 < l.length := by omega
  obtain ⟨ecs, he, hj'⟩ := hc (j / 3) l[j / 3] (List.getElem?_eq_getElem hi)
  have he' : ecs = tcs l[j / 3] := rd_tok.1 he
  subst he'
  have hm : j % 3 < (tcs l[j / 3]).length := Nat.mod_lt _ (by decide)
  have hu' := tcells_at (j := j % 3) (List.getElem?_eq_getElem hi) (List.getElem?_eq_getElem hm)
  rw [show j / 3 * 3 + j % 3 = j by omega, hu] at hu'
  injection hu' with hu'
  have := hj' (j % 3) _ (List.getElem?_eq_getElem hm)
  rw [← hu', show off + j / 3 * Rp.sz Pk.Tok + j % 3 = off + j by show off + j / 3 * 3 + j % 3 = off + j; omega] at this
  exact this
theorem Own.toks {w : World} {B : Nat} {v : Value} {l : List Pk.Tok} (h : Own w B 47 3 v l.length (tcells l)) : RdL w (fun _ => True) v l :=
  OwnR.rd ⟨tcells l, h, fun _i a ha => ⟨tcs a, rd_tok.2 rfl, fun _j _u hu => tcells_at ha hu⟩⟩ (fun _ _ => trivial)
theorem Own.none3 (w : World) (B : Nat) (hB : B ≤ w.heap.size) : Own (w.alloc (.cells #[] 47)) B 47 3 (.slice (some ⟨w.heap.size, 0, none⟩) 0 0) 0 [] := by
  refine ⟨rfl, .inr ⟨w.heap.size, 0, 0, #[], rfl, hB, heap_alloc_new w _, Nat.le_refl _, by decide, by decide, rfl⟩⟩

set_option maxRecDepth 100000 in
set_option maxHeartbeats 4000000 in
theorem packMore_walk (w : World) (v0 : Value) (l : List Pk.Tok) (h0 : RdL w (fun _ => True) v0 l) (v1 : Value) (m : List Pk.Tok) (h1 : RdL w (fun _ => True) v1 m) (hlm : l.length + m.length ≤ 1048576) :
    Calls Try.prog 11 #[v0, v1] w fun e w' => e = .returned (.bool true) ∧ Below w.heap.size w w' := by
  obtain ⟨i0, hi, hz0, hz1, hz2⟩ := info_parts info_tok
  obtain ⟨A, c, hv, hlc, hcm⟩ := h0.form
  obtain ⟨A', c', hv', hlc', hcm'⟩ := h1.form
  subst hv hv'
  unfold maxLen at hcm hcm'
  go_enter Try.func11, Try.ntmps11
  go_wp2_with fail
  refine (alive4 w).mono ?_
  rintro e w1 ⟨rfl, hx1⟩
  have hl1 := h0.below hx1
  have hm1 := h1.below hx1
  go_wp2_with fail
  refine (text_any w1 _ _ l hl1).mono ?_
  rintro e w2 ⟨v2, rfl, ho2, hx2⟩
  have hl2 := hl1.below hx2
  have hm2 := hm1.below hx2
  have hxa := hx1.trans (hx2.mono hx1.size)
  obtain ⟨A2, c2, hv2, hlc2, hcm2⟩ := Own.shape ho2
  subst hv2
  obtain ⟨e1, e2, hev⟩ : ∃ e1 e2, textV l = (e1, e2) := ⟨_, _, rfl⟩
  have hfv : fv (textV l) = .agg #[.int .i64 (e1 : Int), .int .i64 (e2 : Int)] := by rw [hev]; rfl
  rw [hfv]
  have hxb := hxa.alloc hxa.size (.cells #[.int .i64 (e1 : Int), .int .i64 (e2 : Int)] 39)
  have hg3 : Blk (w2.alloc (.cells #[.int .i64 (e1 : Int), .int .i64 (e2 : Int)] 39)) w2.heap.size 39 #[.int .i64 (e1 : Int), .int .i64 (e2 : Int)] := heap_alloc_new w2 _
  have hl3 := hl2.alloc (.cells #[.int .i64 (e1 : Int), .int .i64 (e2 : Int)] 39)
  have hm3 := hm2.alloc (.cells #[.int .i64 (e1 : Int), .int .i64 (e2 : Int)] 39)
  have ho3 := ho2.alloc (.cells #[.int .i64 (e1 : Int), .int .i64 (e2 : Int)] 39)
  have HEV := Lib.hid hev
  clear hfv hev ho2 hxa
  generalize hal : (textB l).length = al at *
  have HAL := Lib.hid hal
  clear hal
  go_upto_region 4 with (fail)
  generalize w2.alloc (.cells #[.int .i64 (e1 : Int), .int .i64 (e2 : Int)] 39) = w3 at *
  generalize w2.heap.size = g at *
  have hw0 := hxb.size
  have hown0 := Own.none3 w3 w3.heap.size (Nat.le_refl _)
  have hl4 := hl3.alloc (.cells #[] 47)
  have hm4 := hm3.alloc (.cells #[] 47)
  have ho4 := ho3.alloc (.cells #[] 47)
  have hg4 := hg3.alloc (.cells #[] 47)
  have hx4 := (Below.refl w3.heap.size w3).alloc (Nat.le_refl _) (.cells #[] 47)
  go_wp2_with (at_builtin
               first
               | (refine wpList_append_Own _ (by rfl) (.tmp 17) (.tmp 18) 33 (by rfl) w3.heap.size 47 i0 _ 3 24 Try.underlying33 hi hz0 hz1 hz2 (by rfl) (by omega) (.slice (some ⟨w3.heap.size, 0, none⟩) 0 0) 0 [] (by rfl) hown0 _ _ l.length (tcells l) (by rfl) (RdL.toks hl4) (tcells_one l) (by simp only [maxLen]; omega) (by omega) (by simp) ?_
                  intro v5 w5 hown5 hgr5 hat5
                  have hx5 : Below w3.heap.size w3 w5 := hx4.grown hgr5 (by simp) (fun k hk => (Own.lt hown0 k hk).1)
                  have hm5 := hm3.below hx5
                  clear hown0 hgr5 hat5 hl4 hm4 ho4 hg4 hx4)
               | (refine wpList_append_Own _ (by rfl) (.tmp 19) (.tmp 20) 33 (by rfl) w3.heap.size 47 i0 _ 3 24 Try.underlying33 hi hz0 hz1 hz2 (by rfl) (by omega) v5 (0 + l.length) ([] ++ tcells l) (by rfl) hown5 _ _ m.length (tcells m) (by rfl) (RdL.toks hm5) (tcells_one m) (by simp only [maxLen]; omega) (by omega) hx5.size ?_
                  intro v6 w6 hown6 hgr6 hat6
                  have hx6 : Below w3.heap.size w3 w6 := hx5.grown hgr6 hx5.size (fun k hk => (Own.lt hown5 k hk).1)))
  have hrd : RdL w6 (fun _ => True) v6 (l ++ m) := Own.toks (B := w3.heap.size) (by rw [List.length_append, tcells_append]; rw [Nat.zero_add] at hown6; exact hown6)
  have hxc := hxb.trans (hx6.mono hw0)
  have ho6 : OwnB w6 w1.heap.size (.slice A2 al c2) (textB l) := ho3.below hx6
  have hg6 := hg3.below hx6 hg3.lt
  clear hown6 hown5 hx5 hm5 hgr6 hat6 hx6 hl3 hm3 ho3 hg3 hl2 hm2
  refine (text_any w6 _ _ (l ++ m) hrd).mono ?_
  rintro e w7 ⟨v7, rfl, ho7, hx7⟩
  have hap := Pk.textF_append l m 0 []
  obtain ⟨f1, f2, hfv⟩ : ∃ f1 f2, textV (l ++ m) = (f1, f2) := ⟨_, _, rfl⟩
  have hfa : fv (textV (l ++ m)) = .agg #[.int .i64 (f1 : Int), .int .i64 (f2 : Int)] := by rw [hfv]; rfl
  rw [hfa]
  obtain ⟨A7, c7, hv7, hlc7, hcm7⟩ := Own.shape ho7
  subst hv7
  have hxd := hxc.trans (hx7.mono hxc.size)
  have ho8 := ho6.below hx7
  have hg8 := hg6.below hx7 hg6.lt
  have hxe := hxd.alloc hxd.size (.cells #[.int .i64 (f1 : Int), .int .i64 (f2 : Int)] 39)
  have hk9 : Blk (w7.alloc (.cells #[.int .i64 (f1 : Int), .int .i64 (f2 : Int)] 39)) w7.heap.size 39 #[.int .i64 (f1 : Int), .int .i64 (f2 : Int)] := heap_alloc_new w7 _
  have hg9 := hg8.alloc (.cells #[.int .i64 (f1 : Int), .int .i64 (f2 : Int)] 39)
  have ho9 := ho8.alloc (.cells #[.int .i64 (f1 : Int), .int .i64 (f2 : Int)] 39)
  have hp9 := ho7.alloc (.cells #[.int .i64 (f1 : Int), .int .i64 (f2 : Int)] 39)
  clear hrd ho6 hg6 hxc hfa hxd ho8 hg8 ho7
  generalize hbl : (textB (l ++ m)).length = bl at *
  have HBL := Lib.hid hbl
  have HFV := Lib.hid hfv
  have HAP := Lib.hid hap
  clear hbl hfv hap
  go_upto_region 5 with (fail)
  generalize w7.alloc (.cells #[.int .i64 (f1 : Int), .int .i64 (f2 : Int)] 39) = w9 at *
  generalize w7.heap.size = g7 at *
  have d0 : w9.cell? ⟨g, 0, none⟩ = some (.int .i64 (e1 : Int)) := hg9.cell 0
  have d1 : w9.cell? ⟨g, 1, none⟩ = some (.int .i64 (e2 : Int)) := hg9.cell 1
  have k0 : w9.cell? ⟨g7, 0, none⟩ = some (.int .i64 (f1 : Int)) := hk9.cell 0
  have k1 : w9.cell? ⟨g7, 1, none⟩ = some (.int .i64 (f2 : Int)) := hk9.cell 1
  cases htl : Pk.textF l 0 [] with
  | inr e =>
    have hne := (Pk.textF_at l 0 [] e htl).2
    have h2 := HAP.out
    rw [htl] at h2
    have he : textV l = e := by unfold textV Pk.text; rw [htl]
    have hf : textV (l ++ m) = e := by unfold textV Pk.text; rw [h2]
    have ha0 : al = 0 := by rw [← HAL.out]; unfold textB Pk.text; rw [htl]; rfl
    have hb0 : bl = 0 := by rw [← HBL.out]; unfold textB Pk.text; rw [h2]; rfl
    rw [HEV.out] at he
    rw [HFV.out, ← he] at hf
    injection hf with hf1 hf2
    rw [← he] at hne
    subst hf1 hf2 ha0 hb0
    have hneB : ((f1 : Int) != 0) = true := by rw [bne_iff_ne]; simp only at hne; omega
    clear hne htl h2 he
    go_wp2_with fail
    go_ret
    exact ⟨rfl, hxe⟩
  | inl o =>
    have h2 := HAP.out
    rw [htl] at h2
    have he : textV l = (0, 0) := by unfold textV Pk.text; rw [htl]
    have hao : textB l = o := by unfold textB Pk.text; rw [htl]
    rw [HEV.out] at he
    injection he with he1 he2
    subst he1 he2
    have hz : (((0 : Nat) : Int) != 0) = false := rfl
    simp only [Nat.zero_add] at h2
    cases htm : Pk.textF m l.length o with
    | inr e =>
      rw [htm] at h2
      obtain ⟨hge, hne⟩ := Pk.textF_at m l.length o e htm
      have hf : textV (l ++ m) = e := by unfold textV Pk.text; rw [h2]
      rw [HFV.out] at hf
      rw [← hf] at hge hne
      have hneB : ((f1 : Int) != 0) = true := by rw [bne_iff_ne]; simp only at hne; omega
      have hgeB : (l.length : Int) ≤ (f2 : Int) := by simp only at hge; omega
      clear hne htl h2 hf hge htm hao
      go_wp2_with fail
      go_ret
      exact ⟨rfl, hxe⟩
    | inl o2 =>
      rw [htm] at h2
      have hpre := Pk.textF_pre m l.length o o2 htm
      have hf : textV (l ++ m) = (0, 0) := by unfold textV Pk.text; rw [h2]
      have hbo : textB (l ++ m) = o2 := by unfold textB Pk.text; rw [h2]
      rw [HFV.out] at hf
      injection hf with hf1 hf2
      subst hf1 hf2
      have haol : o.length = al := by rw [← HAL.out, hao]
      have hbol : o2.length = bl := by rw [← HBL.out, hbo]
      rw [hao] at ho9
      rw [hbo] at hp9
      have hle : al ≤ bl := by rw [← haol, ← hbol]; exact hpre.length_le
      have htk : o2.take al = o := by rw [← haol]; exact (List.prefix_iff_eq_take.1 hpre).symm
      have hb1 := OwnB.bytes ho9
      have hb2 : Bytes w9 (fun _ => True) (.slice A7 al c7) o := by
        have := (OwnB.bytes hp9)
        unfold Bytes at this
        rw [hbol] at this
        have h3 := (SlAt.first this al hle).weak (F' := fun _ => True) (fun _ _ _ => trivial)
        unfold Bytes
        rw [← List.map_take, htk] at h3
        rw [haol]
        exact h3
      have hleB : (al : Int) ≤ (bl : Int) := by omega
      have hc7 : (al : Int) ≤ (c7 : Int) := by omega
      have hc0 : (0 : Int) ≤ (al : Int) := by omega
      clear htl h2 htm hao hpre hbo haol hbol htk hp9
      go_wp2_with fail
      refine (same_any w9 _ _ _ _ o o hb1 hb2).mono ?_
      rintro e w10 ⟨rfl, n10, hw10⟩
      have hoo : (o == o) = true := by simp
      rw [hoo]
      have hx10 : Below w.heap.size w w10 := by rw [hw10]; exact below_drewN hxe n10
      clear hw10 hoo
      go_wp2_with fail
      go_ret
      exact ⟨rfl, hx10⟩
end Go.Proofs.Ytjablgkebpmmhaa
