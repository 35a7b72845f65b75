/-
  THE WALK of clash.two, all of it. Conditions: what is read is bytes, and lists of bytes; leaves as a tree may have; digests that show two roots.
-/
import Derived.Test.YtaojgabiefkcaaaClashG
namespace Go.Proofs.Ytaojgabiefkcaaa
open Go.RowKit Go.Lib

set_option maxRecDepth 100000 in
set_option maxHeartbeats 4000000 in
theorem twoC_any (B n : Nat) : ∀ (w : World), B ≤ w.heap.size → ∀ (F : Nat → Prop) (v vo vp : Value) (ll : List Bs) (old : Bs) (mi : Nat) (z : Int) (whole : Bool) (p : List Bs) (ab : Tr.PB), BList w F v ll → Bytes w (fun k => k < B) vo old → BList w (fun k => k < B) vp p → ll.length = n → 1 ≤ mi → mi ≤ n → z = (mi : Int) →
      Fine ll → D32 p → p.length ≤ 1000 → (whole = true → old.length = 32) → Tr.two mi n whole old p = some ab →
    Calls Try.prog 66 #[v, .int .i64 z, .bool whole, vo, vp] w (TwoPost B w (Tr.down2 ll mi whole old p).1 ab) := by
  induction n using Nat.strongRecOn with
  | ind n ih =>
    intro w hB F v vo vp ll old mi z whole p ab hl ho hp hn h1 hi hz hf hd32 hp1000 hold htwo
    subst hz
    by_cases hlt : mi < n
    · have h2 : 2 ≤ n := by omega
      have hk1 := Tr.split_lt h2
      have hk0 := Tr.split_pos n
      have hn100 : n ≤ 100 := by have := hf.1; omega
      rcases List.eq_nil_or_concat p with rfl | ⟨q, t, rfl⟩
      · rw [Tr.two_nil hlt h2] at htwo; cases htwo
      · rw [List.concat_eq_append] at *
        have ht32 : t.length = 32 := hd32 t (by simp)
        have hq32 : D32 q := fun d hd => hd32 d (by simp [hd])
        have hq1000 : q.length ≤ 999 := by simp at hp1000; omega
        have hpl : (q ++ [t]).length = q.length + 1 := by simp
        have hfl := hf.take (Tr.split n)
        have hfr := hf.drop (k := Tr.split n) (by omega)
        have hll1 : (ll.take (Tr.split n)).length = Tr.split n := by rw [List.length_take]; omega
        have hll2 : (ll.drop (Tr.split n)).length = n - Tr.split n := by rw [List.length_drop]; omega
        have hD : ∃ (R T1 : Option Tr.PB) (ab' : Tr.PB) (X a1 : Bs), (Tr.down2 ll mi whole old (q ++ [t])).1 = Tr.orElse T1 (Tr.clashOf (Tr.pairT (Tr.rootL (ll.take (Tr.split n))) (Tr.rootL (ll.drop (Tr.split n)))) X) ∧ ab = (a1, Sha.sha256 X) ∧ (ab'.1.length = 32 ∧ ab'.2.length = 32 ∧ t.length = 32 ∧ X.length = 65) ∧
            (mi ≤ Tr.split n → X = Tr.pairT ab'.2 t ∧ T1 = R ∧ a1 = ab'.1 ∧ ∀ (w : World), B ≤ w.heap.size → ∀ (F : Nat → Prop) (v vo vp : Value), BList w F v (ll.take (Tr.split n)) → Bytes w (fun k => k < B) vo old → BList w (fun k => k < B) vp q → Calls Try.prog 66 #[v, .int .i64 (mi : Int), .bool whole, vo, vp] w (TwoPost B w R ab')) ∧
            (¬ mi ≤ Tr.split n → X = Tr.pairT t ab'.2 ∧ T1 = Tr.orElse R (Tr.clashOf (Tr.pairT (Tr.rootL (ll.take (Tr.split n))) (Tr.rootL ((ll.take mi).drop (Tr.split n)))) (Tr.pairT t ab'.1)) ∧ a1 = Sha.sha256 (Tr.pairT t ab'.1) ∧ ∀ (w : World), B ≤ w.heap.size → ∀ (F : Nat → Prop) (v vo vp : Value) (z : Int), z = (mi : Int) - (Tr.split n : Nat) → BList w F v (ll.drop (Tr.split n)) → Bytes w (fun k => k < B) vo old → BList w (fun k => k < B) vp q → Calls Try.prog 66 #[v, .int .i64 z, .bool false, vo, vp] w (TwoPost B w R ab')) := by
          by_cases hik : mi ≤ Tr.split n
          · rw [Tr.two_left hlt h2 t hik] at htwo
            obtain ⟨ab', hab', rfl⟩ := Option.map_eq_some_iff.1 htwo
            have hlen := Tr.two_lengths _ _ _ _ _ _ hq32 hold hab'
            have e := Tr.down2_two (Tr.split n) (ll.take (Tr.split n)) mi whole old q ab' hll1 hik hab'
            refine ⟨(Tr.down2 (ll.take (Tr.split n)) mi whole old q).1, _, ab', Tr.pairT ab'.2 t, _, ?_, rfl, ⟨hlen.1, hlen.2, ht32, by rw [length_pairT, hlen.2, ht32]⟩, fun _ => ⟨rfl, rfl, rfl, fun w hB F v vo vp g1 g2 g3 => ih (Tr.split n) hk1 w hB F v vo vp _ old mi _ whole q ab' g1 g2 g3 hll1 h1 hik rfl hfl hq32 (by omega) hold hab'⟩, fun h => absurd hik h⟩
            rw [Tr.down2_left (by omega) (by omega) (by rw [hn]; exact hik), hn]
            simp only [List.dropLast_concat, List.getLastD_concat]
            rw [e]
          · rw [Tr.two_right hlt h2 t hik] at htwo
            obtain ⟨ab', hab', rfl⟩ := Option.map_eq_some_iff.1 htwo
            have hlen := Tr.two_lengths _ _ _ _ _ _ hq32 (fun h => by cases h) hab'
            have e := Tr.down2_two (n - Tr.split n) (ll.drop (Tr.split n)) (mi - Tr.split n) false old q ab' hll2 (by omega) hab'
            refine ⟨(Tr.down2 (ll.drop (Tr.split n)) (mi - Tr.split n) false old q).1, _, ab', Tr.pairT t ab'.2, _, ?_, rfl, ⟨hlen.1, hlen.2, ht32, by rw [length_pairT, hlen.2, ht32]⟩, fun h => absurd h hik, fun _ => ⟨rfl, rfl, rfl, fun w hB F v vo vp z hz g1 g2 g3 => ih (n - Tr.split n) (by omega) w hB F v vo vp _ old (mi - Tr.split n) _ false q ab' g1 g2 g3 hll2 (by omega) (by omega) (by omega) hfr hq32 (by omega) (fun h => by cases h) hab'⟩⟩
            rw [Tr.down2_right (by omega) (by omega) (by rw [hn]; exact hik), hn]
            simp only [List.dropLast_concat, List.getLastD_concat]
            rw [e]
        obtain ⟨R, T1, ab', X, a1, hD1, rfl, hab, hC1, hC2⟩ := hD
        rw [hD1]
        obtain ⟨A, c, hv, hnc, hcm, hA⟩ := hl.shape
        subst hv
        obtain ⟨Ap, cp, hvp, hpc, hcpm, _⟩ := hp.shape
        subst hvp
        obtain ⟨A2, c2, hvo⟩ := ho.form
        subst hvo
        obtain ⟨g, off, rfl, hF, hg⟩ := hA (by omega)
        obtain ⟨gp, offp, u, rfl, hcu, _, hgp, hub⟩ := hp.at_ (j := q.length) (by omega)
        have hub' : Bytes w (fun k => k < B) u t := by
          have h : Bytes w _ u (q ++ [t])[q.length] := hub
          rw [List.getElem_concat_length rfl] at h
          exact h.weak (fun k hk h => by first | exact h | exact h.1)
        obtain ⟨At, ct, hvu⟩ := hub'.form
        subst hvu
        have hl1 := hl.first (Tr.split n) (by omega)
        have hl2 := hl.rest (Tr.split n) (by omega)
        have hlm : ¬ mi ≤ Tr.split n → BList w F (.slice (some ⟨g, off + Tr.split n, none⟩) (mi - Tr.split n) (c - Tr.split n)) ((ll.take mi).drop (Tr.split n)) := fun h => by
          have h1 := hl.first mi (by omega)
          have e : (ll.take mi).length = mi := by rw [List.length_take]; omega
          have h2 := (show BList w F (.slice (some ⟨g, off, none⟩) (ll.take mi).length c) (ll.take mi) by rw [e]; exact h1).rest (Tr.split n) (by omega)
          rw [e] at h2
          exact h2
        have hp1 : BList w (fun k => k < B) (.slice (some ⟨gp, offp, none⟩) q.length cp) q := by
          have := hp.first q.length (by omega)
          rwa [List.take_left' rfl] at this
        have hq := halfC_any n (w := w.alloc (.cells #[.slice none 0 0, .slice none 0 0, .bool false] 81)) h2 (by omega)
        unfold maxLen at hcm hcpm
        rw [hn] at hl2 hnc
        rw [hn]
        have hfm : Fine ((ll.take mi).drop (Tr.split n)) := ⟨by rw [List.length_drop, List.length_take]; omega, fun b hb => hf.2 b (List.mem_of_mem_take (List.mem_of_mem_drop hb))⟩
        exact twoC_step B w hB F g off c gp offp cp c2 ct n (Tr.split n) q.length (q ++ [t]).length mi (Lib.hid hpl) A2 At old t whole _ _ _ q R T1 ab' X a1 h2 hn100 hk0 hk1 hlt (by omega) (Lib.hid hab) (Lib.hid hC1) (Lib.hid hC2) hnc hcm hpc hcpm ho hg hgp hcu hub' hl1 hl2 (Lib.hid hlm) hp1 (Lib.hid hq) hfl hfr hfm
    · have : mi = n := by omega
      subst this
      subst hn
      have e : (Tr.down2 ll ll.length whole old p).1 = none := by rw [Tr.down2_all (by omega)]; split <;> rfl
      rw [e]
      exact two_base B w F v vo vp ll old whole p ab hl ho hp htwo
end Go.Proofs.Ytaojgabiefkcaaa
