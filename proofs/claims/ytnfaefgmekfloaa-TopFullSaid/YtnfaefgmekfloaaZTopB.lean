/-
  THE WALKS of yeartop's words: windows, do, year. Conditions: what comes in is read; a list that is the call's own.
-/
import Derived.Test.YtnfaefgmekfloaaZTopA
namespace Go.Proofs.Ytnfaefgmekfloaa
open Go.RowKit Go.Lib

theorem info_win : (Try.prog.info? 56).map (fun i => (i.zero, i.size, i.bytes)) = some (some (.agg #[.int .i64 0, .int .i64 0]), 2, 16) := by kernel_rfl
theorem Fl.windowsL_len (n : Nat) : (Fl.windowsL n).length = n := by simp [Fl.windowsL]
theorem Fl.windowsL_succ (n : Nat) : Fl.windowsL (n + 1) = Fl.windowsL n ++ [(10 * (n : Int), 10 * (n : Int) + 10)] := by simp [Fl.windowsL, List.range_succ]
set_option maxRecDepth 100000 in
set_option maxHeartbeats 2000000 in
theorem windows_any (w : World) (n : Nat) (hn : n ≤ 3) :
    Calls Try.prog 16 #[.int .i64 (n : Int)] w fun e w' => ∃ v, e = .returned v ∧ OwnR w' w.heap.size 56 (fun _ => True) v (Fl.windowsL n) ∧ Below w.heap.size w w' := by
  obtain ⟨i0, hi, hz0, hz1, hz2⟩ := info_parts info_win
  go_enter Try.func16, Try.ntmps16
  go_wp2_with fail
  go_loopg [3, 6] n (fun m v i wr => ∃ j : Nat, j + m = n ∧ i = .int .i64 (j : Int) ∧ OwnR wr w.heap.size 56 (fun _ => True) v (Fl.windowsL j) ∧ Below w.heap.size w wr)
  case atStart => exact ⟨0, by omega, rfl, OwnR.nil_ _ _ _ _ _, Below.refl _ _⟩
  case round =>
    obtain ⟨j, hj, rfl, hO, hx⟩ := hrel
    obtain ⟨A, c, hv, hlc, hcm⟩ := hO.shape
    have hlj := Fl.windowsL_len j
    rw [hlj] at hv hlc
    subst hv
    unfold maxLen at hcm
    by_cases hlt : j < n
    · have hO' := hO
      obtain ⟨xs, hown, hin⟩ := hO
      rw [hlj] at hown
      have HL := Lib.hid hlj
      clear hlj
      have hltB : (j : Int) < (n : Int) := by omega
      have hj0 : (0 : Int) ≤ (j : Int) := by omega
      have hj3 : (j : Int) ≤ 3 := by omega
      have hsrc := SlAt.newK wr 56 [.int .i64 (10 * (j : Int)), .int .i64 (10 * (j : Int) + 10)] 2 rfl
      have hownA := hown.alloc (.cells #[.int .i64 (10 * (j : Int)), .int .i64 (10 * (j : Int) + 10)] 56)
      have hxA := hx.alloc hx.size (.cells #[.int .i64 (10 * (j : Int)), .int .i64 (10 * (j : Int) + 10)] 56)
      go_wp2_with (at_builtin
                   refine wpList_append_Own _ (by rfl) (.tmp 9) (.tmp 16) 41 (by rfl) w.heap.size 56 i0 _ 2 16 Try.underlying41 hi hz0 hz1 hz2 (by rfl) (by omega) (.slice A j c) j xs (by rfl) hownA _ _ 1 [.int .i64 (10 * (j : Int)), .int .i64 (10 * (j : Int) + 10)] (by rfl) hsrc (by simp [Value.oneCell']) (by simp only [maxLen]; omega) (by omega) hxA.size ?_
                   intro v2 w2 hown2 hgr2 hat2
                   have hx2 : Below w.heap.size w w2 := hxA.grown hgr2 hxA.size (fun k hk => (hownA.lt k hk).1))
      go_roundg (gk - 1)
      case measure => omega
      case rel =>
        refine ⟨j + 1, by omega, by go_num, ?_, hx2⟩
        rw [Fl.windowsL_succ]
        refine OwnR.snoc (ecs := [.int .i64 (10 * (j : Int)), .int .i64 (10 * (j : Int) + 10)]) (fun i a ha => ?_) (by rw [hown.1, HL.out]) ⟨[_], [_], rfl, rfl, rfl⟩ (by rw [HL.out]; exact hown2)
        obtain ⟨ecs, he, hjj⟩ := hin i a ha
        exact ⟨ecs, he, hjj⟩
    · have hltB : decide ((j : Int) < (n : Int)) = false := decide_eq_false (by omega)
      have hjn : j = n := by omega
      have hO2 : OwnR wr w.heap.size 56 (fun _ => True) (.slice A j c) (Fl.windowsL n) := by rw [← hjn]; exact hO
      clear hjn hO
      go_wp2_with fail
      go_ret
      exact ⟨_, rfl, hO2, hx⟩

set_option maxRecDepth 100000 in
theorem doT (w : World) (k n : Int) : Calls Try.prog 14 #[.int .i64 k, .int .i64 n] w fun e w' => e = .returned (.agg #[.int .i64 k, .int .i64 n, .int .i64 0, .slice none 0 0, .int .i64 0, .int .i64 0, .int .u8 0]) ∧ Below w.heap.size w w' := by
  go_enter Try.func14, Try.ntmps14
  go_wp2_with fail
  refine bodyPost_ret (v := .agg #[.int .i64 k, .int .i64 n, .int .i64 0, .slice none 0 0, .int .i64 0, .int .i64 0, .int .u8 0]) (by simp [results, Try.results14, go_sem]) rfl ⟨rfl, (Below.refl w.heap.size w).alloc (Nat.le_refl _) _⟩

/-- a list of things to do that grows from v0 at w: what holds of it -/
structure Gro (w wr : World) (B : Nat) (F : Nat → Prop) (v0 v : Value) (L : List Dob) : Prop where
  own : OwnR wr B 29 F v L
  inv : v.ownBlock = v0.ownBlock ∨ ∀ b, v.ownBlock = some b → w.heap.size ≤ b
  blk : ∀ b, b < w.heap.size → v0.ownBlock ≠ some b → wr.heap[b]? = w.heap[b]?
  size : w.heap.size ≤ wr.heap.size
  bel : Below B w wr
theorem Gro.far {w wr : World} {B : Nat} {F : Nat → Prop} {v0 v : Value} {L : List Dob} (h : Gro w wr B F v0 v L) {b : Nat} (hb : b < w.heap.size) (h0 : v0.ownBlock ≠ some b) : v.ownBlock ≠ some b := by
  rcases h.inv with h1 | h1
  · rw [h1]; exact h0
  · intro e; have := h1 b e; omega
theorem Gro.snoc {w wr wa w2 : World} {B n : Nat} {F : Nat → Prop} {v0 v v2 : Value} {L : List Dob} {xs : List Value} {d : Dob} {ev : Value} (h : Gro w wr B F v0 v L) (hF : ∀ b, F b → b < w.heap.size ∧ v0.ownBlock ≠ some b)
    (hin : ∀ (i : Nat) (a : Dob), L[i]? = some a → ∃ ecs, Rp.rd wr F ecs a ∧ ∀ j u, ecs[j]? = some u → xs[i * Rp.sz Dob + j]? = some u) (hxs : xs.length = L.length * 7) (hn : n = L.length)
    (hwa : Below wr.heap.size wr wa) (hB : B ≤ wr.heap.size) (hgr : wa.grownBy w2 v.ownBlock) (hat : v2.ownBlock = v.ownBlock ∨ v2.ownBlock = some wa.heap.size) (hlt : ∀ b, v.ownBlock = some b → B ≤ b)
    (hd : Bytes wr F ev d.entry) (hown : Own w2 B 29 7 v2 (n + 1) (xs ++ [.int .i64 d.kind, .int .i64 d.n, .int .i64 d.time, ev, .int .i64 d.seg, .int .i64 d.pos, bv d.turn])) : Gro w w2 B F v0 v2 (L ++ [d]) := by
  subst hn
  have hwF : ∀ b, b < wr.heap.size → F b → F b ∧ w2.heap[b]? = wr.heap[b]? := fun b hb hFb => ⟨hFb, by
    obtain ⟨h1, h2⟩ := hF b hFb
    exact (hgr.block b (Nat.lt_of_lt_of_le hb hwa.size) (fun e => h.far h1 h2 e.symm)).trans (hwa.block b hb)⟩
  have hsz : wr.heap.size ≤ w2.heap.size := Nat.le_trans hwa.size hgr.size
  refine ⟨OwnR.snoc (fun i a ha => ?_) hxs (dob_rd d (rdL_bytes.1 ((rdL_bytes.2 hd).keep hsz hwF))) hown, ?_, fun b hb h0 => ?_, Nat.le_trans h.size hsz, ?_⟩
  · obtain ⟨ecs, he, hj⟩ := hin i a ha
    exact ⟨ecs, Rp.keep he hsz hwF, hj⟩
  · rcases hat with e | e
    · rw [e]; exact h.inv
    · refine .inr fun b hb => ?_
      rw [e] at hb
      injection hb with hb
      have := h.size
      have := hwa.size
      omega
  · have hb2 : b < wr.heap.size := Nat.lt_of_lt_of_le hb h.size
    exact ((hgr.block b (Nat.lt_of_lt_of_le hb2 hwa.size) (fun e => h.far hb h0 e.symm)).trans (hwa.block b hb2)).trans (h.blk b hb h0)
  · exact (h.bel.trans (hwa.mono hB)).grown hgr (Nat.le_trans hB hwa.size) hlt
theorem Gro.keep {w wr w2 : World} {B : Nat} {F : Nat → Prop} {v0 v : Value} {L : List Dob} (h : Gro w wr B F v0 v L) (hB : B ≤ wr.heap.size) (hx : Below wr.heap.size wr w2) : Gro w w2 B F v0 v L :=
  ⟨h.own.below hx, h.inv, fun b hb h0 => (hx.block b (Nat.lt_of_lt_of_le hb h.size)).trans (h.blk b hb h0), Nat.le_trans h.size hx.size, h.bel.trans (hx.mono hB)⟩

theorem kinds_cell {w : World} {g : Nat} {t : TypeId} (h : Blk w g t #[.int .i64 2, .int .i64 3, .int .i64 4]) {j : Nat} (hj : j < 3) : w.cell? ⟨g, j, none⟩ = some (.int .i64 ((j : Int) + 2)) := by
  rw [h.cell j]
  match j, hj with
  | 0, _ => rfl
  | 1, _ => rfl
  | 2, _ => rfl
theorem Fl.kinds_range {far : Nat} (h : far ≤ 3) : ([2, 3, 4] : List Int).take far = (List.range far).map fun (j : Nat) => (j : Int) + 2 := by
  match far, h with
  | 0, _ => rfl
  | 1, _ => rfl
  | 2, _ => rfl
  | 3, _ => rfl
set_option maxRecDepth 100000 in
set_option maxHeartbeats 4000000 in
theorem year_any (w : World) (B : Nat) (F : Nat → Prop) (v ve : Value) (L : List Dob) (k : Int) (es : List Bs) (far : Nat) (hL : OwnR w B 29 F v L) (hB : B ≤ w.heap.size) (hF : ∀ b, F b → b < w.heap.size ∧ v.ownBlock ≠ some b) (he : RdL w F ve es)
    (hfar : far ≤ 3) (hk0 : 0 ≤ k) (hk10 : k ≤ 10) (hlen : L.length ≤ 100) (hes : es.length ≤ 30) :
    Calls Try.prog 13 #[v, .int .i64 k, ve, .int .i64 (far : Int)] w fun e w' => ∃ v', e = .returned v' ∧ Gro w w' B F v v' (Fl.yearL L k es far) := by
  obtain ⟨i0, hi, hz0, hz1, hz2⟩ := info_parts info_dob
  obtain ⟨A, c, hv, hlc, hcm⟩ := hL.shape
  obtain ⟨AE, cE, hve, hle, hcE⟩ := he.form
  subst hve
  unfold maxLen at hcm hcE
  subst hv
  go_enter Try.func13, Try.ntmps13
  go_wp2_with fail
  go_loopg [0, 15] es.length (fun m v i wr => ∃ j : Nat, j + m = es.length ∧ i = .int .i64 (j : Int) ∧ Gro w wr B F (.slice A L.length c) v (L ++ (es.take j).map (Fl.subD (10 * k + 5))))
  case atStart => exact ⟨0, by omega, rfl, by rw [List.take_zero, List.map_nil, List.append_nil]; exact ⟨hL, .inl rfl, fun _ _ _ => rfl, Nat.le_refl _, Below.refl _ _⟩⟩
  case round =>
    obtain ⟨j, hj, rfl, hG⟩ := hrel
    have hBr : B ≤ wr.heap.size := Nat.le_trans hB hG.size
    obtain ⟨A1, c1, hv1, hl1, hc1⟩ := hG.own.shape
    unfold maxLen at hc1
    have hlj : (L ++ (es.take j).map (Fl.subD (10 * k + 5))).length = L.length + j := by rw [List.length_append, List.length_map, List.length_take]; omega
    rw [hlj] at hv1 hl1
    subst hv1
    have heE : RdL wr F (.slice AE es.length cE) es := he.keep hG.size (fun b hb hFb => ⟨hFb, hG.blk b hb (hF b hFb).2⟩)
    by_cases hlt : j < es.length
    · obtain ⟨gE, oE, uE, hAE, hcell, _, hgE, huE⟩ := (rdL_blist.1 heE).at_ hlt
      have hltB : (j : Int) < (es.length : Int) := by omega
      have hj0 : (0 : Int) ≤ (j : Int) := by omega
      obtain ⟨Ae, ce, hue⟩ := huE.form
      subst hAE hue
      obtain ⟨xs, hown, hin⟩ := hG.own
      rw [hlj] at hown
      have HT : Hid (L ++ (es.take (j + 1)).map (Fl.subD (10 * k + 5)) = (L ++ (es.take j).map (Fl.subD (10 * k + 5))) ++ [Fl.subD (10 * k + 5) es[j]]) := Lib.hid (by rw [List.take_succ_eq_append_getElem hlt, List.map_append, ← List.append_assoc]; rfl)
      have HLJ := Lib.hid hlj
      clear hlj
      generalize (L ++ (es.take j).map (Fl.subD (10 * k + 5))) = L1 at *
      generalize es[j] = e at *
      have hsrc := SlAt.newK wr 29 [.int .i64 1, .int .i64 0, .int .i64 (10 * k + 5), .slice Ae e.length ce, .int .i64 0, .int .i64 0, .int .u8 0] 7 rfl
      have hownA := hown.alloc (.cells #[.int .i64 1, .int .i64 0, .int .i64 (10 * k + 5), .slice Ae e.length ce, .int .i64 0, .int .i64 0, .int .u8 0] 29)
      have hxA : Below wr.heap.size wr (wr.alloc (.cells #[.int .i64 1, .int .i64 0, .int .i64 (10 * k + 5), .slice Ae e.length ce, .int .i64 0, .int .i64 0, .int .u8 0] 29)) := (Below.refl _ _).alloc (Nat.le_refl _) _
      have hBA : B ≤ (wr.alloc (.cells #[.int .i64 1, .int .i64 0, .int .i64 (10 * k + 5), .slice Ae e.length ce, .int .i64 0, .int .i64 0, .int .u8 0] 29)).heap.size := Nat.le_trans hBr hxA.size
      go_wp2_with (at_builtin
                   refine wpList_append_Own _ (by rfl) (.tmp 19) (.tmp 25) 25 (by rfl) B 29 i0 _ 7 72 Try.underlying25 hi hz0 hz1 hz2 (by rfl) (by omega) (.slice A1 (L.length + j) c1) (L.length + j) xs (by rfl) hownA _ _ 1 [.int .i64 1, .int .i64 0, .int .i64 (10 * k + 5), .slice Ae e.length ce, .int .i64 0, .int .i64 0, .int .u8 0] (by rfl) hsrc (by simp [Value.oneCell']) (by simp only [maxLen]; omega) (by omega) hBA ?_
                   intro v2 w2 hown2 hgr2 hat2
                   have hG2 : Gro w w2 B F (.slice A L.length c) v2 (L1 ++ [Fl.subD (10 * k + 5) e]) := hG.snoc hF hin (by rw [hown.1, HLJ.out]; rfl) HLJ.out.symm hxA hBr hgr2 hat2 (fun b hb => (hown.lt b hb).1) huE hown2)
      go_roundg (gk - 1)
      case measure => omega
      case rel => exact ⟨j + 1, by omega, by go_num, by rw [HT.out]; exact hG2⟩
    · have hltB : decide ((j : Int) < (es.length : Int)) = false := decide_eq_false (by omega)
      have htk : es.take j = es := List.take_of_length_le (by omega)
      rw [htk] at hG
      have hje : j = es.length := by omega
      have HJE := Lib.hid hje
      clear htk hje heE hlj
      generalize hL2 : L ++ es.map (Fl.subD (10 * k + 5)) = L2 at *
      have HL2 := Lib.hid hL2
      clear hL2
      generalize gk = gk0 at *
      generalize wr = w3 at *
      have hx34 := (Below.refl w3.heap.size w3).alloc (Nat.le_refl _) (.cells #[.int .i64 2, .int .i64 3, .int .i64 4] 3)
      have hbK : Blk (w3.alloc (.cells #[.int .i64 2, .int .i64 3, .int .i64 4] 3)) w3.heap.size 3 #[.int .i64 2, .int .i64 3, .int .i64 4] := heap_alloc_new w3 _
      have hG4 := hG.keep hBr hx34
      have hB4 : B ≤ (w3.alloc (.cells #[.int .i64 2, .int .i64 3, .int .i64 4] 3)).heap.size := Nat.le_trans hBr hx34.size
      have hfI : (far : Int) ≤ 3 := by omega
      have hf0 : (0 : Int) ≤ (far : Int) := by omega
      go_wp2_with fail
      generalize w3.alloc (.cells #[.int .i64 2, .int .i64 3, .int .i64 4] 3) = w4 at *
      go_loopg [0, 32] far (fun m v i wr => ∃ j : Nat, j + m = far ∧ i = .int .i64 (j : Int) ∧ Gro w wr B F (.slice A L.length c) v (L2 ++ (List.range j).map fun (i : Nat) => Fl.doD ((i : Int) + 2) k) ∧ Blk wr w3.heap.size 3 #[.int .i64 2, .int .i64 3, .int .i64 4])
      case atStart => exact ⟨0, by omega, rfl, by rw [List.range_zero, List.map_nil, List.append_nil]; exact hG4, hbK⟩
      case round =>
        obtain ⟨j, hj, rfl, hG, hbK⟩ := hrel
        have hBr : B ≤ wr.heap.size := Nat.le_trans hB hG.size
        obtain ⟨A2, c2, hv2, hl2, hc2⟩ := hG.own.shape
        unfold maxLen at hc2
        have hll : (L2 ++ (List.range j).map fun (i : Nat) => Fl.doD ((i : Int) + 2) k).length = L2.length + j := by rw [List.length_append, List.length_map, List.length_range]
        have hL2l : Hid (L2.length = L.length + es.length) := Lib.hid (by rw [← HL2.out, List.length_append, List.length_map])
        rw [hll] at hv2 hl2
        subst hv2
        by_cases hlt : j < far
        · have hltB : (j : Int) < (far : Int) := by omega
          have hj0 : (0 : Int) ≤ (j : Int) := by omega
          have hcK := kinds_cell hbK (show j < 3 by omega)
          have hj3 : (j : Int) ≤ 3 := by omega
          obtain ⟨xs, hown, hin⟩ := hG.own
          rw [hll] at hown
          have HLL := Lib.hid hll
          have hL2b : L2.length ≤ 130 := by have := hL2l.out; omega
          have HT : Hid (L2 ++ (List.range (j + 1)).map (fun (i : Nat) => Fl.doD ((i : Int) + 2) k) = (L2 ++ (List.range j).map fun (i : Nat) => Fl.doD ((i : Int) + 2) k) ++ [Fl.doD ((j : Int) + 2) k]) := Lib.hid (by rw [List.range_succ, List.map_append, ← List.append_assoc]; rfl)
          clear hll
          generalize (L2 ++ (List.range j).map fun (i : Nat) => Fl.doD ((i : Int) + 2) k) = L3 at *
          generalize L2.length = n2 at *
          go_wp2_with fail
          with_reducible refine (doT wr ((j : Int) + 2) k).mono ?_
          rintro e w5 ⟨rfl, hx5⟩
          have hown5 := hown.below hx5
          have hsrc := SlAt.newK w5 29 [.int .i64 ((j : Int) + 2), .int .i64 k, .int .i64 0, .slice none 0 0, .int .i64 0, .int .i64 0, .int .u8 0] 7 rfl
          have hownA := hown5.alloc (.cells #[.int .i64 ((j : Int) + 2), .int .i64 k, .int .i64 0, .slice none 0 0, .int .i64 0, .int .i64 0, .int .u8 0] 29)
          have hxA : Below wr.heap.size wr (w5.alloc (.cells #[.int .i64 ((j : Int) + 2), .int .i64 k, .int .i64 0, .slice none 0 0, .int .i64 0, .int .i64 0, .int .u8 0] 29)) := hx5.alloc hx5.size _
          have hBA : B ≤ (w5.alloc (.cells #[.int .i64 ((j : Int) + 2), .int .i64 k, .int .i64 0, .slice none 0 0, .int .i64 0, .int .i64 0, .int .u8 0] 29)).heap.size := Nat.le_trans hBr hxA.size
          have hbKA := hbK.below hxA hbK.lt
          clear hcK
          go_wp2_with (at_builtin
                       refine wpList_append_Own _ (by rfl) (.tmp 36) (.tmp 40) 25 (by rfl) B 29 i0 _ 7 72 Try.underlying25 hi hz0 hz1 hz2 (by rfl) (by omega) (.slice A2 (n2 + j) c2) (n2 + j) xs (by rfl) hownA _ _ 1 [.int .i64 ((j : Int) + 2), .int .i64 k, .int .i64 0, .slice none 0 0, .int .i64 0, .int .i64 0, .int .u8 0] (by rfl) hsrc (by simp [Value.oneCell']) (by simp only [maxLen]; omega) (by omega) hBA ?_
                       intro v2 w2 hown2 hgr2 hat2
                       have hbK2 : Blk w2 w3.heap.size 3 #[.int .i64 2, .int .i64 3, .int .i64 4] := hbKA.keep (hgr2.block _ hbKA.lt (fun e => Own.ne_blk hownA hbKA (by decide) e.symm))
                       have hG2 : Gro w w2 B F (.slice A L.length c) v2 (L3 ++ [Fl.doD ((j : Int) + 2) k]) := hG.snoc hF hin (by rw [hown.1, HLL.out]; rfl) HLL.out.symm hxA hBr hgr2 hat2 (fun b hb => (hown.lt b hb).1) (d := Fl.doD ((j : Int) + 2) k) (bytes_nil _ _) hown2)
          go_roundg (gk - 1)
          case measure => omega
          case rel => exact ⟨j + 1, by omega, by go_num, by rw [HT.out]; exact hG2, hbK2⟩
        · have hltB : decide ((j : Int) < (far : Int)) = false := decide_eq_false (by omega)
          have hjf : j = far := by omega
          have hG3 : Gro w wr B F (.slice A L.length c) (.slice A2 (L2.length + j) c2) (L ++ es.map (Fl.subD (10 * k + 5)) ++ (List.range far).map fun (i : Nat) => Fl.doD ((i : Int) + 2) k) := by rw [HL2.out, ← hjf]; exact hG
          have hy : Fl.yearL L k es far = L ++ es.map (Fl.subD (10 * k + 5)) ++ (List.range far).map fun (i : Nat) => Fl.doD ((i : Int) + 2) k := by
            unfold Fl.yearL
            rw [Fl.kinds_range hfar, List.map_map]
            rfl
          have HY := Lib.hid hy
          clear hjf hy hll hG
          generalize L2.length = n2 at *
          go_wp2_with fail
          go_ret
          exact ⟨_, rfl, by rw [HY.out]; exact hG3⟩
theorem windows_at (w : World) (n : Nat) (z : Int) (hz : z = (n : Int)) (hn : n ≤ 3) :
    Calls Try.prog 16 #[.int .i64 z] w fun e w' => ∃ v, e = .returned v ∧ OwnR w' w.heap.size 56 (fun _ => True) v (Fl.windowsL n) ∧ Below w.heap.size w w' := by
  subst hz
  exact windows_any w n hn
theorem year_at (w : World) (B : Nat) (F : Nat → Prop) (v ve : Value) (L : List Dob) (k : Int) (es : List Bs) (far : Nat) (z : Int) (hz : z = (far : Int)) (hL : OwnR w B 29 F v L) (hB : B ≤ w.heap.size) (hF : ∀ b, F b → b < w.heap.size ∧ v.ownBlock ≠ some b) (he : RdL w F ve es)
    (hfar : far ≤ 3) (hk0 : 0 ≤ k) (hk10 : k ≤ 10) (hlen : L.length ≤ 100) (hes : es.length ≤ 30) :
    Calls Try.prog 13 #[v, .int .i64 k, ve, .int .i64 z] w fun e w' => ∃ v', e = .returned v' ∧ Gro w w' B F v v' (Fl.yearL L k es far) := by
  subst hz
  exact year_any w B F v ve L k es far hL hB hF he hfar hk0 hk10 hlen hes

end Go.Proofs.Ytnfaefgmekfloaa
