/-
  THE WALKS of tree.climb, Stands. Conditions: what is read is bytes, and lists of bytes.
-/
import Derived.Test.YtfdibjgmbdkbcaaTreeF
namespace Go.Proofs.Ytfdibjgmbdkbcaa
open Go.RowKit Go.Lib

/-- 'l[1:]', wherever it lies -/
theorem BList.tail {w : World} {F : Nat → Prop} {b off c : Nat} {x : Bs} {ll : List Bs} (h : BList w F (.slice (some ⟨b, off, none⟩) (x :: ll).length c) (x :: ll)) :
    BList w F (.slice (if c = 1 then some ⟨b, off, none⟩ else some ⟨b, off + 1, none⟩) ll.length (c - 1)) ll := by
  have hr := h.rest 1 (by simp)
  split
  · rename_i hc
    subst hc
    have hn : ll = [] := by
      obtain ⟨A, c', hv, h1, _⟩ := h.shape
      injection hv with _ _ e3
      exact List.eq_nil_of_length_eq_zero (by simp at h1; omega)
    subst hn
    exact ⟨[], ⟨_, 0, rfl, Nat.le_refl _, by simp [maxLen], by simp, fun h => absurd h (by simp)⟩, fun i b hb => by simp at hb⟩
  · simpa using hr

set_option maxRecDepth 100000 in
set_option maxHeartbeats 1000000 in
theorem climb_any (w : World) (F F' : Nat → Prop) (vd vp : Value) (d : Bs) (i n : Nat) (p : List Bs) (hd : Bytes w F vd d) (hp : BList w F' vp p) (h1 : 1 ≤ n) (hn : n ≤ 100000) (hi : i < n) (hd1 : d.length ≤ 1000) (hs : Short p) :
    Calls Try.prog 90 #[vd, .int .i64 (i : Int), .int .i64 (n : Int), vp] w fun e w' =>
      ∃ v, e = .returned (.tuple #[v, .bool (Tr.climb d i (n - 1) p).isSome]) ∧ (∀ r, Tr.climb d i (n - 1) p = some r → Bytes w' (fun _ => True) v r ∧ r.length ≤ 1000) ∧ Below w.heap.size w w' := by
  go_enter Try.func90, Try.ntmps90
  go_wp2_with fail
  go_loopg [0, 1, 3, 10] (n - 1) (fun k ud ui up ul wr => ∃ (d' : Bs) (i' : Nat) (p' : List Bs), ui = .int .i64 (i' : Int) ∧ ul = .int .i64 (k : Int) ∧ i' ≤ k ∧ k ≤ 100000 ∧ Bytes wr (fun k => k < wr.heap.size) ud d' ∧ BList wr (fun k => k < wr.heap.size) up p' ∧ d'.length ≤ 1000 ∧ Short p' ∧
      Hid (Tr.climb d' i' k p' = Tr.climb d i (n - 1) p) ∧ Below w.heap.size w wr)
  case atStart => exact ⟨d, i, p, rfl, congrArg (Value.int .i64) (by omega), by omega, by omega, hd.weak (fun k hk _ => hk), hp.weak (fun k hk _ => hk), hd1, hs, Lib.hid rfl, Below.refl _ _⟩
  case round =>
    obtain ⟨d', i', p', rfl, rfl, hik, hk, hd', hp', hd1', hs', HC, hx⟩ := hrel
    obtain ⟨A, c, hvp, hpc, hcm, hA⟩ := hp'.shape
    subst hvp
    obtain ⟨A2, c2, hvd, _⟩ := hd'.form'
    subst hvd
    unfold maxLen at hcm
    by_cases hk0 : 0 < gk
    · have hk0B : (0 : Int) < (gk : Int) := by omega
      by_cases hev : i' % 2 = 0
      · by_cases heq : i' = gk
        · have ht1 : ((i' : Int) % 2 == 0) = true := by rw [beq_iff_eq]; omega
          have ht2 : ((i' : Int) == (gk : Int)) = true := by rw [beq_iff_eq]; omega
          have hc0 := HC.out
          rw [Tr.climb.eq_def, dif_pos hk0, if_pos ⟨hev, by omega⟩] at hc0
          have HC0 := Lib.hid hc0
          clear hc0 HC hA
          go_wp2_with fail
          go_roundg (gk / 2)
          case measure => omega
          case rel => exact ⟨d', i' / 2, p', congrArg (Value.int .i64) (by omega), congrArg (Value.int .i64) (by omega), by omega, by omega, hd', hp', hd1', hs', HC0, hx⟩
        · have ht1 : ((i' : Int) % 2 == 0) = true := by rw [beq_iff_eq]; omega
          have ht3 : ((i' : Int) % 2 == 1) = false := by rw [beq_eq_false_iff_ne]; omega
          have ht2 : ((i' : Int) == (gk : Int)) = false := by rw [beq_eq_false_iff_ne]; omega
          have hc0 := HC.out
          rw [Tr.climb.eq_def, dif_pos hk0, if_neg (by omega)] at hc0
          match p', hc0 with
          | [], hc0 =>
            have HC0 := Lib.hid hc0
            clear hc0 HC hA
            have hlB : ((0 : Int) == 0) = true := rfl
            simp only [List.length_nil] at *
            go_wp2_with fail
            go_ret2
            refine ⟨.slice none 0 0, ?_, ?_, hx⟩
            · rw [← HC0.out]; rfl
            · intro r hr
              rw [← HC0.out] at hr
              cases hr
          | q :: p'', hc0 =>
            obtain ⟨b, off, rfl, hF, hb⟩ := hA (by simp)
            obtain ⟨b', off', u, hA', hcu, _, _, hqb⟩ := hp'.at_ (j := 0) (by simp)
            injection hA' with hA'
            injection hA' with e1 e2
            subst e1 e2
            have hcu' : wr.cell? ⟨b, off, none⟩ = some u := hcu
            have hq1 : q.length ≤ 1000 := hs' q (by simp)
            have hs'' : Short p'' := fun x hx => hs' x (by simp [hx])
            dsimp only at hc0
            rw [if_neg (by omega)] at hc0
            have HC0 := Lib.hid hc0
            have hdb := hd'
            clear hc0 HC hA hcu
            have hlB : (((q :: p'').length : Int) == 0) = false := by rw [beq_eq_false_iff_ne, List.length_cons]; omega
            have hl1 : (1 : Int) ≤ ((q :: p'').length : Int) := by rw [List.length_cons]; omega
            have hl0 : (0 : Int) < ((q :: p'').length : Int) := by rw [List.length_cons]; omega
            go_wp2_with fail
            refine (node_any wr _ _ _ _ d' q hdb hqb (by omega)).mono ?_
            rintro e w1 ⟨v1, rfl, hown1, hx1⟩
            have hx2 := hx.trans (hx1.mono hx.size)
            have hpt := (hp'.tail).map_ (w' := w1) (F' := fun k => k < w1.heap.size) (fun v n xs h => (h.below hx1).weak (fun k hk _ => hk))
            have hpt1 : c = 1 → BList w1 (fun k => k < w1.heap.size) (.slice (some ⟨b, off, none⟩) p''.length 0) p'' := fun e => by subst e; exact hpt
            have hpt2 : ¬ c = 1 → BList w1 (fun k => k < w1.heap.size) (.slice (some ⟨b, off + 1, none⟩) p''.length (c - 1)) p'' := fun e => by rw [if_neg e] at hpt; exact hpt
            clear hpt
            have hod : Bytes w1 (fun k => k < w1.heap.size) v1 _ := (OwnB.bytes hown1).weak (fun k hk _ => hk)
            go_wp2_with fail
            all_goals
              go_roundg (gk / 2)
              case measure => omega
              case rel =>
                first
                  | exact ⟨_, i' / 2, p'', congrArg (Value.int .i64) (by omega), congrArg (Value.int .i64) (by omega), by omega, by omega, hod, hpt1 (by omega), by rw [Tr.length_nodeH]; omega, hs'', HC0, hx2⟩
                  | exact ⟨_, i' / 2, p'', congrArg (Value.int .i64) (by omega), congrArg (Value.int .i64) (by omega), by omega, by omega, hod, hpt2 (by omega), by rw [Tr.length_nodeH]; omega, hs'', HC0, hx2⟩
      · have ht1 : ((i' : Int) % 2 == 0) = false := by rw [beq_eq_false_iff_ne]; omega
        have ht3 : ((i' : Int) % 2 == 1) = true := by rw [beq_iff_eq]; omega
        have hc0 := HC.out
        rw [Tr.climb.eq_def, dif_pos hk0, if_neg (by omega)] at hc0
        match p', hc0 with
        | [], hc0 =>
          have HC0 := Lib.hid hc0
          clear hc0 HC hA
          have hlB : ((0 : Int) == 0) = true := rfl
          simp only [List.length_nil] at *
          go_wp2_with fail
          go_ret2
          refine ⟨.slice none 0 0, ?_, ?_, hx⟩
          · rw [← HC0.out]; rfl
          · intro r hr
            rw [← HC0.out] at hr
            cases hr
        | q :: p'', hc0 =>
          obtain ⟨b, off, rfl, hF, hb⟩ := hA (by simp)
          obtain ⟨b', off', u, hA', hcu, _, _, hqb⟩ := hp'.at_ (j := 0) (by simp)
          injection hA' with hA'
          injection hA' with e1 e2
          subst e1 e2
          have hcu' : wr.cell? ⟨b, off, none⟩ = some u := hcu
          have hq1 : q.length ≤ 1000 := hs' q (by simp)
          have hs'' : Short p'' := fun x hx => hs' x (by simp [hx])
          dsimp only at hc0
          rw [if_pos (by omega)] at hc0
          have HC0 := Lib.hid hc0
          have hdb := hd'
          clear hc0 HC hA hcu
          have hlB : (((q :: p'').length : Int) == 0) = false := by rw [beq_eq_false_iff_ne, List.length_cons]; omega
          have hl1 : (1 : Int) ≤ ((q :: p'').length : Int) := by rw [List.length_cons]; omega
          have hl0 : (0 : Int) < ((q :: p'').length : Int) := by rw [List.length_cons]; omega
          go_wp2_with fail
          refine (node_any wr _ _ _ _ q d' hqb hdb (by omega)).mono ?_
          rintro e w1 ⟨v1, rfl, hown1, hx1⟩
          have hx2 := hx.trans (hx1.mono hx.size)
          have hpt := (hp'.tail).map_ (w' := w1) (F' := fun k => k < w1.heap.size) (fun v n xs h => (h.below hx1).weak (fun k hk _ => hk))
          have hpt1 : c = 1 → BList w1 (fun k => k < w1.heap.size) (.slice (some ⟨b, off, none⟩) p''.length 0) p'' := fun e => by subst e; exact hpt
          have hpt2 : ¬ c = 1 → BList w1 (fun k => k < w1.heap.size) (.slice (some ⟨b, off + 1, none⟩) p''.length (c - 1)) p'' := fun e => by rw [if_neg e] at hpt; exact hpt
          clear hpt
          have hod : Bytes w1 (fun k => k < w1.heap.size) v1 _ := (OwnB.bytes hown1).weak (fun k hk _ => hk)
          go_wp2_with fail
          all_goals
            go_roundg (gk / 2)
            case measure => omega
            case rel =>
              first
                | exact ⟨_, i' / 2, p'', congrArg (Value.int .i64) (by omega), congrArg (Value.int .i64) (by omega), by omega, by omega, hod, hpt1 (by omega), by rw [Tr.length_nodeH]; omega, hs'', HC0, hx2⟩
                | exact ⟨_, i' / 2, p'', congrArg (Value.int .i64) (by omega), congrArg (Value.int .i64) (by omega), by omega, by omega, hod, hpt2 (by omega), by rw [Tr.length_nodeH]; omega, hs'', HC0, hx2⟩
    · have hk0B : decide ((0 : Int) < (gk : Int)) = false := by simp; omega
      have h0 : gk = 0 := by omega
      subst h0
      have hc0 := HC.out
      rw [Tr.climb.eq_def, dif_neg (by omega)] at hc0
      have HC0 := Lib.hid hc0
      clear hc0 HC hA
      by_cases hp0 : p' = []
      · subst hp0
        have hlB : (((([] : List Bs).length : Nat) : Int) == 0) = true := by simp
        simp only [List.length_nil] at *
        go_wp2_with fail
        go_ret2
        refine ⟨.slice A2 d'.length c2, ?_, ?_, hx⟩
        · rw [← HC0.out]; rfl
        · intro r hr
          rw [← HC0.out] at hr
          simp at hr
          subst hr
          exact ⟨hd'.weak (fun _ _ _ => trivial), hd1'⟩
      · have hlB : (((p'.length : Nat) : Int) == 0) = false := by
          rw [beq_eq_false_iff_ne]
          have := List.length_pos_iff.2 hp0
          omega
        go_wp2_with fail
        go_ret2
        refine ⟨.slice A2 d'.length c2, ?_, ?_, hx⟩
        · rw [← HC0.out, if_neg hp0]; rfl
        · intro r hr
          rw [← HC0.out, if_neg hp0] at hr
          cases hr
end Go.Proofs.Ytfdibjgmbdkbcaa
