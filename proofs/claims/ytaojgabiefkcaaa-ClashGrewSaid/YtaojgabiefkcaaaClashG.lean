/-
  THE WALK of clash.two. Conditions: what is read is bytes, and lists of bytes; leaves as a tree may have; digests that show two roots.
-/
import Derived.Test.YtaojgabiefkcaaaClashF
namespace Go.Proofs.Ytaojgabiefkcaaa
open Go.RowKit Go.Lib

theorem TwoPost.out {B : Nat} {w w' : World} {o : Option Tr.PB} {ab : Tr.PB} {e : Ending} (h : TwoPost B w o ab e w') : ∃ A6 c6 A7 c7 A8 c8 A9 c9, e = .returned (.tuple #[.agg #[.slice A6 (fstO o).length c6, .slice A7 (sndO o).length c7, .bool o.isSome], .slice A8 ab.1.length c8, .slice A9 ab.2.length c9]) ∧
    OwnB w' w.heap.size (.slice A6 (fstO o).length c6) (fstO o) ∧ OwnB w' w.heap.size (.slice A7 (sndO o).length c7) (sndO o) ∧ Bytes w' (fun k => k < B ∨ w.heap.size ≤ k) (.slice A8 ab.1.length c8) ab.1 ∧ Bytes w' (fun k => k < B ∨ w.heap.size ≤ k) (.slice A9 ab.2.length c9) ab.2 ∧ Below w.heap.size w w' := by
  obtain ⟨va, vc, v1, v2, rfl, h1, h2, h3, h4, h5⟩ := h
  obtain ⟨A6, c6, e6, _, _⟩ := Own.shape h1
  obtain ⟨A7, c7, e7, _, _⟩ := Own.shape h2
  obtain ⟨A8, c8, e8⟩ := h3.form
  obtain ⟨A9, c9, e9⟩ := h4.form
  subst e6 e7 e8 e9
  exact ⟨A6, c6, A7, c7, A8, c8, A9, c9, rfl, h1, h2, h3, h4, h5⟩

theorem bytes3 {w4 : World} {F : Nat → Prop} {g : Nat} {v : Value} {l : Bs} (h : Bytes w4 F v l) (hn : ¬ F g) (a b c : Value) : Bytes (((w4.setCell ⟨g, 0, none⟩ a).setCell ⟨g, 1, none⟩ b).setCell ⟨g, 2, none⟩ c) F v l :=
  SlAt.setCell (p := ⟨g, 2, none⟩) (SlAt.setCell (p := ⟨g, 1, none⟩) (SlAt.setCell (p := ⟨g, 0, none⟩) h hn a) hn b) hn c

set_option maxRecDepth 100000 in
set_option maxHeartbeats 8000000 in
theorem twoC_step (B : Nat) (w : World) (hB : B ≤ w.heap.size) (F : Nat → Prop) (g off c gp offp cp c2 ct n k m M mi : Nat) (HMM : Hid (M = m + 1)) (A2 At : Option Addr) (old t : Bs) (whole : Bool) (l1 l2 lm q : List Bs) (R T1 : Option Tr.PB) (ab : Tr.PB) (X a1 : Bs)
    (h2 : 2 ≤ n) (hn100 : n ≤ 100) (hk0 : 0 < k) (hk1 : k < n) (hi : mi < n) (hm7 : m ≤ 1000) (HAB : Hid (ab.1.length = 32 ∧ ab.2.length = 32 ∧ t.length = 32 ∧ X.length = 65))
    (HC1 : Hid (mi ≤ k → X = Tr.pairT ab.2 t ∧ T1 = R ∧ a1 = ab.1 ∧ ∀ (w : World), B ≤ w.heap.size → ∀ (F : Nat → Prop) (v vo vp : Value), BList w F v l1 → Bytes w (fun k => k < B) vo old → BList w (fun k => k < B) vp q → Calls Try.prog 66 #[v, .int .i64 (mi : Int), .bool whole, vo, vp] w (TwoPost B w R ab)))
    (HC2 : Hid (¬ mi ≤ k → X = Tr.pairT t ab.2 ∧ T1 = Tr.orElse R (Tr.clashOf (Tr.pairT (Tr.rootL l1) (Tr.rootL lm)) (Tr.pairT t ab.1)) ∧ a1 = Sha.sha256 (Tr.pairT t ab.1) ∧ ∀ (w : World), B ≤ w.heap.size → ∀ (F : Nat → Prop) (v vo vp : Value) (z : Int), z = (mi : Int) - (k : Nat) → BList w F v l2 → Bytes w (fun k => k < B) vo old → BList w (fun k => k < B) vp q → Calls Try.prog 66 #[v, .int .i64 z, .bool false, vo, vp] w (TwoPost B w R ab)))
    (hnc : n ≤ c) (_hcm : c ≤ 9223372036854775807) (hpc : M ≤ cp) (_hcpm : cp ≤ 9223372036854775807) (ho : Bytes w (fun k => k < B) (.slice A2 old.length c2) old) (_hg : g < w.heap.size) (hgp : gp < w.heap.size)
    (hcu : w.cell? ⟨gp, offp + m, none⟩ = some (.slice At t.length ct)) (hub : Bytes w (fun k => k < B) (.slice At t.length ct) t)
    (hl1 : BList w F (.slice (some ⟨g, off, none⟩) k c) l1) (hl2 : BList w F (.slice (some ⟨g, off + k, none⟩) (n - k) (c - k)) l2) (HLM : Hid (¬ mi ≤ k → BList w F (.slice (some ⟨g, off + k, none⟩) (mi - k) (c - k)) lm)) (hp1 : BList w (fun k => k < B) (.slice (some ⟨gp, offp, none⟩) m cp) q)
    (HQ : Hid (Calls Try.prog 77 #[.int .i64 (n : Int)] (w.alloc (.cells #[.slice none 0 0, .slice none 0 0, .bool false] 81)) fun e w' => e = .returned (.int .i64 (k : Nat)) ∧ w' = w.alloc (.cells #[.slice none 0 0, .slice none 0 0, .bool false] 81)))
    (hf1 : Fine l1) (hf2 : Fine l2) (hfm : Fine lm) :
    Calls Try.prog 66 #[.slice (some ⟨g, off, none⟩) n c, .int .i64 (mi : Int), .bool whole, .slice A2 old.length c2, .slice (some ⟨gp, offp, none⟩) M cp] w
      (TwoPost B w (Tr.orElse T1 (Tr.clashOf (Tr.pairT (Tr.rootL l1) (Tr.rootL l2)) X)) (a1, Sha.sha256 X)) := by
  have hx0 := (Below.refl w.heap.size w).alloc (Nat.le_refl _) (.cells #[.slice none 0 0, .slice none 0 0, .bool false] 81)
  have hk0' : Blk (w.alloc (.cells #[.slice none 0 0, .slice none 0 0, .bool false] 81)) w.heap.size 81 #[.slice none 0 0, .slice none 0 0, .bool false] := heap_alloc_new w _
  have hnB : ((mi : Int) == (n : Int)) = false := by rw [beq_eq_false_iff_ne]; omega
  have hnN : ¬ mi = n := by omega
  obtain ⟨O, HO⟩ : ∃ O, Hid (O = Tr.orElse T1 (Tr.clashOf (Tr.pairT (Tr.rootL l1) (Tr.rootL l2)) X)) := ⟨_, Lib.hid rfl⟩
  rw [← HO.out]
  obtain ⟨MT, HM⟩ : ∃ MT, Hid (MT = Tr.pairT (Tr.rootL l1) (Tr.rootL l2)) := ⟨_, Lib.hid rfl⟩
  have hml : MT.length = 65 := by rw [HM.out, length_pairT, Tr.length_rootL, Tr.length_rootL]
  have HML := Lib.hid hml
  have m0 : (0 : Int) ≤ (m : Int) := by omega
  have hMM := HMM.out
  have m1 : (m : Int) ≤ (M : Int) := by omega
  have m1' : (m : Int) < (M : Int) := by omega
  have m2 : (m : Int) ≤ (cp : Int) := by omega
  have m3 : (M : Int) ≤ (cp : Int) := by omega
  have m4 : (M : Int) - 1 = (m : Int) := by omega
  have mW : IntKind.i64.wrap ((M : Int) - 1) = (m : Int) := by rw [m4]; exact IntWalk.i64_in _ (by omega)
  have k0 : (0 : Int) ≤ (k : Int) := by omega
  have kk1 : (k : Int) ≤ (n : Int) := by omega
  have k2 : (k : Int) ≤ (c : Int) := by omega
  have k3 : (n : Int) ≤ (c : Int) := by omega
  have k4 : ((c : Int) == (k : Int)) = false := by rw [beq_eq_false_iff_ne]; omega
  have k5 : ¬ c = k := by omega
  have hz0 : w.heap.size < (w.alloc (.cells #[.slice none 0 0, .slice none 0 0, .bool false] 81)).heap.size := by simp
  have hcu0 : (w.alloc (.cells #[.slice none 0 0, .slice none 0 0, .bool false] 81)).cell? ⟨gp, offp + m, none⟩ = some (.slice At t.length ct) := (hx0.cell (p := ⟨gp, offp + m, none⟩) hgp).trans hcu
  clear hMM m4 hml
  go_enter Try.func66, Try.ntmps66
  go_wp2_with fail
  refine HQ.out.mono ?_
  rintro e w' ⟨rfl, hw⟩
  rw [← hw] at hx0 hk0' hz0 hcu0
  clear hw HQ
  have hT := hub
  clear hub
  go_wp2_with fail
  go_quiet (fail)
  have hxq := below_drewN hx0 nq
  have hkq := hk0'.drewN nq
  have hzq : w.heap.size < (w'.drewN nq).heap.size := hz0
  generalize w'.drewN nq = W at *
  have hl1c := hl1.below hxq
  have hl2c := hl2.below hxq
  clear hx0 hk0' hz0 hcu0 hcu
  go_wp2_with fail
  go_region_held3 (fun z : World => Below W.heap.size W z) (first | assumption | exact (Below.refl _ _).drew)
      (first
        | ((with_reducible refine (rootC_any _ F (.slice (some ⟨g, off, none⟩) k c) l1 (hl1c.below (by assumption)) hf1).mono ?_)
           rintro e w3 ⟨v3, rfl, hown3, hx3⟩
           have hxa : Below W.heap.size W w3 := Below.trans (b := _) (by assumption) (hx3.mono (Below.size (by assumption))))
        | ((with_reducible refine (rootC_any _ F (.slice (some ⟨g, off + k, none⟩) (n - k) (c - k)) l2 (hl2c.below (by assumption)) hf2).mono ?_)
           rintro e w4 ⟨v4, rfl, hown4, hx4⟩
           have hxb : Below W.heap.size W w4 := Below.trans (b := _) (by assumption) (hx4.mono (Below.size (by assumption)))
           have hown34 := OwnB.below hown3 hx4)
        | ((with_reducible refine (pairC_any _ _ _ _ _ _ _ hown34.bytes hown4.bytes (by rw [Tr.length_rootL, Tr.length_rootL]; omega)).mono ?_)
           rintro e w5 ⟨v5, rfl, hown5, hx5⟩
           have hxc : Below W.heap.size W w5 := hxb.trans (hx5.mono hxb.size)))
  have hx5' := hxq.trans (hxc.mono hxq.size)
  have hkA := hkq.below hxc hkq.lt
  have hM5 : OwnB w5 w.heap.size v5 MT := by rw [HM.out]; exact OwnB.mono hown5 (Nat.le_trans hxq.size hxb.size)
  obtain ⟨A9, c9, hv9, _, _⟩ := Own.shape hM5
  subst hv9
  clear hown3 hown4 hown34 hown5 hx3 hx4 hx5 hxa hxb hkq hl1c hl2c hxc hxq hzq
  go_upto_if 63 with (fail)
  have hg1 : w.heap.size < w5.heap.size := hkA.lt
  have hxW := hx5'.alloc hx5'.size (.cells #[.slice none 0 0, .slice none 0 0, .bool false] 81)
  have hkW := hkA.alloc (.cells #[.slice none 0 0, .slice none 0 0, .bool false] 81)
  have hkN : Blk (w5.alloc (.cells #[.slice none 0 0, .slice none 0 0, .bool false] 81)) w5.heap.size 81 #[.slice none 0 0, .slice none 0 0, .bool false] := heap_alloc_new w5 _
  have hMW := OwnB.alloc hM5 (.cells #[.slice none 0 0, .slice none 0 0, .bool false] 81)
  generalize w5.alloc (.cells #[.slice none 0 0, .slice none 0 0, .bool false] 81) = W1 at *
  generalize w5.heap.size = g1 at *
  have hgW : g1 < W1.heap.size := hkN.lt
  have hBW : B ≤ W1.heap.size := by omega
  have hlW1 : BList W1 F (.slice (some ⟨g, off, none⟩) k c) l1 := hl1.below hxW
  have hlW2 : BList W1 F (.slice (some ⟨g, off + k, none⟩) (n - k) (c - k)) l2 := hl2.below hxW
  have hoW : Bytes W1 (fun k => k < B) (.slice A2 old.length c2) old := ho.below hxW
  have hpW : BList W1 (fun k => k < B) (.slice (some ⟨gp, offp, none⟩) m cp) q := hp1.below hxW
  clear hkA hM5 hx5'
  go_cut [18, 19, 20] (fun ua ub ux wq => ∃ va vc : Value, Bytes wq (fun k => k < B ∨ g1 < k) ua a1 ∧ OwnB wq w.heap.size ux X ∧ Blk wq w.heap.size 81 #[.slice none 0 0, .slice none 0 0, .bool false] ∧ Blk wq g1 81 #[va, vc, .bool T1.isSome] ∧ OwnB wq w.heap.size va (fstO T1) ∧ OwnB wq w.heap.size vc (sndO T1) ∧ OwnB wq w.heap.size (.slice A9 MT.length c9) MT ∧ Below w.heap.size w wq)
  case first =>
    by_cases hik : mi ≤ k
    · have hikB : (mi : Int) ≤ (k : Int) := by omega
      obtain ⟨hX, hT1, ha1, hC⟩ := HC1.out hik
      have HX := Lib.hid hX
      have HT1 := Lib.hid hT1
      have HA1 := Lib.hid ha1
      have HC := Lib.hid hC
      clear hX hT1 ha1 hC HC1 HC2
      go_wp2_with fail
      refine (HC.out W1 hBW F _ _ _ hlW1 hoW hpW).mono ?_
      intro e w1 hpost
      obtain ⟨A6, c6, A7, c7, A8, c8, A10, c10, rfl, ho1, ho2, hb1, hb2, hx1⟩ := hpost.out
      have hkAA := hkW.below hx1 hkW.lt
      have hkBB := hkN.below hx1 hkN.lt
      have hxA := hxW.trans (hx1.mono hxW.size)
      have e0 : w1.cell? ⟨g1, 0, none⟩ = some (.slice none 0 0) := hkBB.cell 0
      have e1 : w1.cell? ⟨g1, 1, none⟩ = some (.slice none 0 0) := hkBB.cell 1
      have e2 : w1.cell? ⟨g1, 2, none⟩ = some (.bool false) := hkBB.cell 2
      have f0 := hkBB.frozen 0
      have f1 := hkBB.frozen 1
      have f2 := hkBB.frozen 2
      obtain ⟨s1, s2, s3⟩ := store3 hkBB hxA (Nat.le_of_lt hg1) (.slice A6 (fstO R).length c6) (.slice A7 (sndO R).length c7) (.bool R.isSome)
      have s4 := store3_far hkAA (show w.heap.size ≠ g1 by omega) (.slice A6 (fstO R).length c6) (.slice A7 (sndO R).length c7) (.bool R.isSome)
      have hy1 := bytes3 hb1 (show ¬ (g1 < B ∨ W1.heap.size ≤ g1) by omega) (.slice A6 (fstO R).length c6) (.slice A7 (sndO R).length c7) (.bool R.isSome)
      have hy2 := bytes3 hb2 (show ¬ (g1 < B ∨ W1.heap.size ≤ g1) by omega) (.slice A6 (fstO R).length c6) (.slice A7 (sndO R).length c7) (.bool R.isSome)
      have hp1' := s3 _ _ _ (OwnB.mono ho1 hxW.size)
      have hp2' := s3 _ _ _ (OwnB.mono ho2 hxW.size)
      have hpM := s3 _ _ _ (OwnB.below hMW hx1)
      clear hb1 hb2 ho1 ho2 s3 hpost
      go_wp2_with fail
      generalize ((w1.setCell ⟨g1, 0, none⟩ (.slice A6 (fstO R).length c6)).setCell ⟨g1, 1, none⟩ (.slice A7 (sndO R).length c7)).setCell ⟨g1, 2, none⟩ (.bool R.isSome) = w2 at *
      have ht2 : Bytes w2 (fun k => k < B) (.slice At t.length ct) t := hT.below s2
      refine (pairC_any w2 _ _ _ _ ab.2 t hy2 ht2 (by have := HAB.out; omega)).mono ?_
      rintro e w3 ⟨v3, rfl, hown3, hx3⟩
      go_wp2_with fail
      go_meet
      rw [HX.out, HT1.out, HA1.out]
      exact ⟨_, _, (hy1.below hx3).weak (fun k _ h => by omega), hown3.mono s2.size, s4.below hx3 s4.lt, s1.below hx3 s1.lt, OwnB.below hp1' hx3, OwnB.below hp2' hx3, OwnB.below hpM hx3, s2.trans (hx3.mono s2.size)⟩
    · have hikB : decide ((mi : Int) ≤ (k : Int)) = false := decide_eq_false (by omega)
      have iW : IntKind.i64.wrap ((mi : Int) - (k : Int)) = (mi : Int) - (k : Int) := IntWalk.i64_in _ (by omega)
      obtain ⟨hX, hT1, ha1, hC⟩ := HC2.out hik
      have HX := Lib.hid hX
      have HT1 := Lib.hid hT1
      have HA1 := Lib.hid ha1
      have HC := Lib.hid hC
      clear hX hT1 ha1 hC HC1 HC2
      go_wp2_with fail
      refine (HC.out W1 hBW F _ _ _ _ rfl hlW2 hoW hpW).mono ?_
      intro e w1 hpost
      obtain ⟨A6, c6, A7, c7, A8, c8, A10, c10, rfl, ho1, ho2, hb1, hb2, hx1⟩ := hpost.out
      have hkAA := hkW.below hx1 hkW.lt
      have hkBB := hkN.below hx1 hkN.lt
      have hxA := hxW.trans (hx1.mono hxW.size)
      have e0 : w1.cell? ⟨g1, 0, none⟩ = some (.slice none 0 0) := hkBB.cell 0
      have e1 : w1.cell? ⟨g1, 1, none⟩ = some (.slice none 0 0) := hkBB.cell 1
      have e2 : w1.cell? ⟨g1, 2, none⟩ = some (.bool false) := hkBB.cell 2
      have f0 := hkBB.frozen 0
      have f1 := hkBB.frozen 1
      have f2 := hkBB.frozen 2
      obtain ⟨s1, s2, s3⟩ := store3 hkBB hxA (Nat.le_of_lt hg1) (.slice A6 (fstO R).length c6) (.slice A7 (sndO R).length c7) (.bool R.isSome)
      have s4 := store3_far hkAA (show w.heap.size ≠ g1 by omega) (.slice A6 (fstO R).length c6) (.slice A7 (sndO R).length c7) (.bool R.isSome)
      have hy1 := bytes3 hb1 (show ¬ (g1 < B ∨ W1.heap.size ≤ g1) by omega) (.slice A6 (fstO R).length c6) (.slice A7 (sndO R).length c7) (.bool R.isSome)
      have hy2 := bytes3 hb2 (show ¬ (g1 < B ∨ W1.heap.size ≤ g1) by omega) (.slice A6 (fstO R).length c6) (.slice A7 (sndO R).length c7) (.bool R.isSome)
      have hp1' := s3 _ _ _ (OwnB.mono ho1 hxW.size)
      have hp2' := s3 _ _ _ (OwnB.mono ho2 hxW.size)
      have hpM := s3 _ _ _ (OwnB.below hMW hx1)
      clear hb1 hb2 ho1 ho2 s3 hpost
      go_wp2_with fail
      generalize ((w1.setCell ⟨g1, 0, none⟩ (.slice A6 (fstO R).length c6)).setCell ⟨g1, 1, none⟩ (.slice A7 (sndO R).length c7)).setCell ⟨g1, 2, none⟩ (.bool R.isSome) = w2 at *
      have ht2 : Bytes w2 (fun k => k < B) (.slice At t.length ct) t := hT.below s2
      refine (pairC_any w2 _ _ _ _ t ab.2 ht2 hy2 (by have := HAB.out; omega)).mono ?_
      rintro e w3 ⟨v3, rfl, hown3, hx3⟩
      have hx23 := s2.trans (hx3.mono s2.size)
      have ht3 := ht2.below hx3
      have hz1 := hy1.below hx3
      go_wp2_with fail
      refine (pairC_any w3 _ _ _ _ t ab.1 ht3 hz1 (by have := HAB.out; omega)).mono ?_
      rintro e w4 ⟨v4, rfl, hown4, hx4⟩
      have hx24 := hx23.trans (hx4.mono hx23.size)
      obtain ⟨YT, HY⟩ : ∃ YT, Hid (YT = Tr.pairT t ab.1) := ⟨_, Lib.hid rfl⟩
      obtain ⟨RL, HRL⟩ : ∃ RL, Hid (RL = Tr.pairT (Tr.rootL l1) (Tr.rootL lm)) := ⟨_, Lib.hid rfl⟩
      have hYo : OwnB w4 w.heap.size v4 YT := by rw [HY.out]; exact hown4.mono hx23.size
      have hXo : OwnB w4 w.heap.size v3 X := by rw [HX.out]; exact (OwnB.below hown3 hx4).mono s2.size
      obtain ⟨A11, c11, hv4, _, _⟩ := Own.shape hYo
      obtain ⟨A12, c12, hv3, _, _⟩ := Own.shape hXo
      have hyl : YT.length ≤ 100 := by rw [HY.out, length_pairT]; have := HAB.out; omega
      have hrl : RL.length ≤ 100 := by rw [HRL.out, length_pairT, Tr.length_rootL, Tr.length_rootL]; decide
      have hx34 := hx3.trans (hx4.mono hx3.size)
      have hkA4 := s4.below hx34 s4.lt
      have hkB4 := s1.below hx34 s1.lt
      have hq1 := OwnB.below hp1' hx34
      have hq2 := OwnB.below hp2' hx34
      have hqM := OwnB.below hpM hx34
      have hlm4 := (HLM.out hik).below hx24
      have hl14 := hl1.below hx24
      have q0 : (k : Int) ≤ (mi : Int) := by omega
      have q1 : (mi : Int) ≤ (n : Int) := by omega
      have q2 : (mi : Int) ≤ (c : Int) := by omega
      have hTT : T1 = Tr.orElse R (Tr.clashOf RL YT) := by rw [HRL.out, HY.out]; exact HT1.out
      have HOO := Lib.hid hTT
      have HAA : Hid (a1 = Sha.sha256 YT) := Lib.hid (by rw [HY.out]; exact HA1.out)
      subst hv3 hv4
      clear hTT HT1 HA1 HX hown3 hown4 hx34 s1 s2 s4 hx3 hx4 hx23 hp1' hp2' hpM hy1 hy2 ht2 ht3 hz1 hkW hkN hMW hlW1 hlW2 hoW hpW HLM e0 e1 e2 f0 f1 f2 HC hx1 hxW hkAA hkBB hxA
      go_wp2_with fail
      go_region_held3 (fun z : World => Below w4.heap.size w4 z) (first | assumption | exact (Below.refl _ _).drew)
        (first
          | ((with_reducible refine (rootC_any _ F (.slice (some ⟨g, off, none⟩) k c) l1 (hl14.below (by assumption)) hf1).mono ?_)
             rintro e w5 ⟨v5, rfl, hown5, hx5⟩
             have hxa : Below w4.heap.size w4 w5 := Below.trans (b := _) (by assumption) (hx5.mono (Below.size (by assumption))))
          | ((with_reducible refine (rootC_any _ F (.slice (some ⟨g, off + k, none⟩) (mi - k) (c - k)) lm (hlm4.below (by assumption)) hfm).mono ?_)
             rintro e w6 ⟨v6, rfl, hown6, hx6⟩
             have hxb : Below w4.heap.size w4 w6 := Below.trans (b := _) (by assumption) (hx6.mono (Below.size (by assumption)))
             have hown56 := OwnB.below hown5 hx6)
          | ((with_reducible refine (pairC_any _ _ _ _ _ _ _ hown56.bytes hown6.bytes (by rw [Tr.length_rootL, Tr.length_rootL]; omega)).mono ?_)
             rintro e w7 ⟨v7, rfl, hown7, hx7⟩
             have hxc : Below w4.heap.size w4 w7 := hxb.trans (hx7.mono hxb.size)))
      have hRo : OwnB w7 w.heap.size v7 RL := by rw [HRL.out]; exact OwnB.mono hown7 (Nat.le_trans hx24.size hxb.size)
      obtain ⟨A13, c13, hv7, _, _⟩ := Own.shape hRo
      subst hv7
      have hx27 := hx24.trans (hxc.mono hx24.size)
      have hkA7 := hkA4.below hxc hkA4.lt
      have hkB7 := hkB4.below hxc hkB4.lt
      have hr1 := OwnB.below hq1 hxc
      have hr2 := OwnB.below hq2 hxc
      have hrM := OwnB.below hqM hxc
      have hY7 := OwnB.below hYo hxc
      have hX7 := OwnB.below hXo hxc
      have e2 : w7.cell? ⟨g1, 2, none⟩ = some (.bool R.isSome) := hkB7.cell 2
      clear hown5 hown6 hown56 hown7 hx5 hx6 hx7 hxa hxb hxc hkA4 hkB4 hq1 hq2 hqM hYo hXo hx24 hl14 hlm4
      go_upto_region 17 with (fail)
      go_cut [123] (fun u wq => ∃ bb : Bool, u = .bool bb ∧ Hid (bb = (R.isNone && (Tr.clashOf RL YT).isSome)) ∧ Below w7.heap.size w7 wq)
      case first =>
        cases R with
        | some r =>
          have e3 : w7.cell? ⟨g1, 2, none⟩ = some (.bool true) := e2
          clear e2
          go_wp2_with fail
          go_meet
          exact ⟨_, rfl, Lib.hid rfl, Below.refl _ _⟩
        | none =>
          have e3 : w7.cell? ⟨g1, 2, none⟩ = some (.bool false) := e2
          clear e2
          go_wp2_with fail
          refine (equal_any w7 _ _ _ _ _ _ hY7.bytes hRo.bytes).mono ?_
          rintro e z6 ⟨rfl, hw⟩
          subst hw
          by_cases he : YT = RL
          · have hbB : (YT == RL) = true := beq_iff_eq.2 he
            have hco : (Tr.clashOf RL YT).isSome = false := by unfold Tr.clashOf; rw [if_neg (fun h => h.1 (by rw [he]))]; rfl
            have HCO := Lib.hid hco
            clear hco he
            rw [hbB]
            go_wp2_with fail
            go_meet
            exact ⟨_, rfl, Lib.hid (by rw [HCO.out]; rfl), Below.refl _ _⟩
          · have hbB : (YT == RL) = false := beq_eq_false_iff_ne.2 he
            have HNE := Lib.hid he
            clear he
            rw [hbB]
            go_wp2_with fail
            refine (sum_any z6 _ _ _ hY7.bytes (by omega)).mono ?_
            rintro e z7 ⟨v7, rfl, hown7, hx7⟩
            go_wp2_with fail
            refine (sum_any z7 _ _ _ (hRo.bytes.below hx7) (by omega)).mono ?_
            rintro e z8 ⟨v8, rfl, hown8, hx8⟩
            have hx68 := hx7.trans (hx8.mono hx7.size)
            have hs1 : Bytes z8 _ v7 _ := hown7.bytes.below hx8
            go_wp2_with fail
            refine (equal_any z8 _ _ _ _ _ _ hs1 hown8.bytes).mono ?_
            rintro e z9 ⟨rfl, hw⟩
            subst hw
            have hco : (Sha.sha256 YT == Sha.sha256 RL) = (Tr.clashOf RL YT).isSome := by
              unfold Tr.clashOf
              have hne := HNE.out
              by_cases hs : Sha.sha256 YT = Sha.sha256 RL
              · rw [if_pos ⟨by first | exact hne | exact fun h => hne h.symm, by first | exact hs | exact hs.symm⟩, beq_iff_eq.2 hs]; rfl
              · rw [if_neg (fun h => by first | exact hs h.2 | exact hs h.2.symm), beq_eq_false_iff_ne.2 hs]; rfl
            rw [hco]
            generalize hcc : (Tr.clashOf RL YT).isSome = cc
            have HCC := Lib.hid hcc
            clear hcc hco
            go_wp2_with fail
            go_meet
            exact ⟨_, rfl, Lib.hid (by rw [HCC.out]; rfl), hx68⟩
      case rest =>
        obtain ⟨bb, rfl, HB, hxq⟩ := hcut
        have hxw := hx27.trans (hxq.mono hx27.size)
        have hkA2 := hkA7.below hxq hkA7.lt
        have hkB2 := hkB7.below hxq hkB7.lt
        have hY2 := OwnB.below hY7 hxq
        have hR2 := OwnB.below hRo hxq
        have ht12 := OwnB.below hr1 hxq
        have ht22 := OwnB.below hr2 hxq
        have htM := OwnB.below hrM hxq
        have htX := OwnB.below hX7 hxq
        clear hkA7 hkB7 hY7 hRo hr1 hr2 hrM hX7 hxq hx27 e2
        go_upto_if 123 with (fail)
        go_cut [22] (fun u22 wq => ∃ va vc : Value, Blk wq w.heap.size 81 #[.slice none 0 0, .slice none 0 0, .bool false] ∧ Blk wq g1 81 #[va, vc, .bool T1.isSome] ∧ OwnB wq w.heap.size va (fstO T1) ∧ OwnB wq w.heap.size vc (sndO T1) ∧ OwnB wq w.heap.size (.slice A11 YT.length c11) YT ∧ OwnB wq w.heap.size (.slice A12 X.length c12) X ∧ OwnB wq w.heap.size (.slice A9 MT.length c9) MT ∧ Below w.heap.size w wq)
        case first =>
          cases bb with
          | true =>
            have hO : T1 = some (RL, YT) := by
              have h1 := HB.out
              have h2 := HOO.out
              cases R with
              | some r => cases h1
              | none =>
                rw [h2]
                show Tr.clashOf RL YT = _
                unfold Tr.clashOf at h1 ⊢
                split
                · rfl
                · rename_i hn; rw [if_neg hn] at h1; cases h1
            have e0 : wc.cell? ⟨g1, 0, none⟩ = some (.slice A6 (fstO R).length c6) := hkB2.cell 0
            have e1 : wc.cell? ⟨g1, 1, none⟩ = some (.slice A7 (sndO R).length c7) := hkB2.cell 1
            have e2 : wc.cell? ⟨g1, 2, none⟩ = some (.bool R.isSome) := hkB2.cell 2
            have f0 := hkB2.frozen 0
            have f1 := hkB2.frozen 1
            have f2 := hkB2.frozen 2
            obtain ⟨s1, s2, s3⟩ := store3 hkB2 hxw (Nat.le_of_lt hg1) (.slice A13 RL.length c13) (.slice A11 YT.length c11) (.bool true)
            have s4 := store3_far hkA2 (show w.heap.size ≠ g1 by omega) (.slice A13 RL.length c13) (.slice A11 YT.length c11) (.bool true)
            have hm2 := s3 _ _ _ hR2
            have hot := s3 _ _ _ hY2
            have hmX := s3 _ _ _ htX
            have hmM := s3 _ _ _ htM
            clear s3
            have HOs := Lib.hid hO
            clear hO HOO
            go_wp2_with fail
            generalize ((wc.setCell ⟨g1, 0, none⟩ (.slice A13 RL.length c13)).setCell ⟨g1, 1, none⟩ (.slice A11 YT.length c11)).setCell ⟨g1, 2, none⟩ (.bool true) = w2z at *
            go_meet
            rw [HOs.out]
            exact ⟨_, _, s4, s1, hm2, hot, hot, hmX, hmM, s2⟩
          | false =>
            have hO : T1 = R := by
              have h1 := HB.out
              have h2 := HOO.out
              cases R with
              | some r => exact h2
              | none =>
                rw [h2]
                show Tr.clashOf RL YT = _
                cases hc : Tr.clashOf RL YT with
                | none => rfl
                | some x => rw [hc] at h1; cases h1
            have HOs := Lib.hid hO
            clear hO HOO
            go_wp2_with fail
            go_meet
            rw [HOs.out]
            exact ⟨_, _, hkA2, hkB2, ht12, ht22, hY2, htX, htM, hxw⟩
        case rest =>
          obtain ⟨va, vc, hkA3, hkB3, hoa, hoc, hY3, hX3, hM3, hxf⟩ := hcut
          clear hkA2 hkB2 hY2 hR2 ht12 ht22 htM htX hxw HB HOO
          go_wp2_with fail
          refine (sum_any wc _ _ YT hY3.bytes (by omega)).mono ?_
          rintro e w8 ⟨v8, rfl, hown8, hx8⟩
          have hgl := hkB3.lt
          go_wp2_with fail
          go_meet
          rw [HAA.out]
          exact ⟨va, vc, hown8.bytes.weak (fun k _ h => by omega), OwnB.below hX3 hx8, hkA3.below hx8 hkA3.lt, hkB3.below hx8 hkB3.lt, OwnB.below hoa hx8, OwnB.below hoc hx8, OwnB.below hM3 hx8, hxf.trans (hx8.mono hxf.size)⟩
  case rest =>
    obtain ⟨va, vc, hab1, hoX, hk2, hkN2, ho1, ho2, hM2, hx2⟩ := hcut
    clear HC1 HC2 hlW1 hlW2 hoW hpW hl1 hl2 hp1 ho hT hkW hkN hxW hMW HLM
    obtain ⟨A6, c6, hva, _, _⟩ := Own.shape ho1
    obtain ⟨A7, c7, hvc, _, _⟩ := Own.shape ho2
    obtain ⟨A8, c8, hvX, _, _⟩ := Own.shape hoX
    obtain ⟨A10, c10, hvA⟩ := hab1.form
    subst hva hvc hvX hvA
    have e2 : wc.cell? ⟨g1, 2, none⟩ = some (.bool T1.isSome) := hkN2.cell 2
    have hMl : MT.length ≤ 100 := by have := HML.out; omega
    have hTl : X.length ≤ 100 := by have := HAB.out; omega
    have hOO : O = Tr.orElse T1 (Tr.clashOf MT X) := by rw [HM.out]; exact HO.out
    have HOO := Lib.hid hOO
    clear hOO HO
    go_upto_region 20 with (fail)
    go_cut [144] (fun u wq => ∃ bb : Bool, u = .bool bb ∧ Hid (bb = (T1.isNone && (Tr.clashOf MT X).isSome)) ∧ Below wc.heap.size wc wq)
    case first =>
      cases T1 with
      | some r =>
        have e3 : wc.cell? ⟨g1, 2, none⟩ = some (.bool true) := e2
        clear e2
        go_wp2_with fail
        go_meet
        exact ⟨_, rfl, Lib.hid rfl, Below.refl _ _⟩
      | none =>
        have e3 : wc.cell? ⟨g1, 2, none⟩ = some (.bool false) := e2
        clear e2
        go_wp2_with fail
        refine (equal_any wc _ _ _ _ _ _ hM2.bytes hoX.bytes).mono ?_
        rintro e y6 ⟨rfl, hw⟩
        subst hw
        by_cases he : MT = X
        · have hbB : (MT == X) = true := beq_iff_eq.2 he
          have hco : (Tr.clashOf MT X).isSome = false := by unfold Tr.clashOf; rw [if_neg (fun h => h.1 (by rw [he]))]; rfl
          have HCO := Lib.hid hco
          clear hco he
          rw [hbB]
          go_wp2_with fail
          go_meet
          exact ⟨_, rfl, Lib.hid (by rw [HCO.out]; rfl), Below.refl _ _⟩
        · have hbB : (MT == X) = false := beq_eq_false_iff_ne.2 he
          have HNE := Lib.hid he
          clear he
          rw [hbB]
          go_wp2_with fail
          refine (sum_any y6 _ _ _ hM2.bytes (by omega)).mono ?_
          rintro e y7 ⟨v7, rfl, hown7, hx7⟩
          go_wp2_with fail
          refine (sum_any y7 _ _ _ (hoX.bytes.below hx7) (by omega)).mono ?_
          rintro e y8 ⟨v8, rfl, hown8, hx8⟩
          have hx68 := hx7.trans (hx8.mono hx7.size)
          have hs1 : Bytes y8 _ v7 _ := hown7.bytes.below hx8
          go_wp2_with fail
          refine (equal_any y8 _ _ _ _ _ _ hs1 hown8.bytes).mono ?_
          rintro e y9 ⟨rfl, hw⟩
          subst hw
          have hco : (Sha.sha256 MT == Sha.sha256 X) = (Tr.clashOf MT X).isSome := by
            unfold Tr.clashOf
            have hne := HNE.out
            by_cases hs : Sha.sha256 MT = Sha.sha256 X
            · rw [if_pos ⟨by first | exact hne | exact fun h => hne h.symm, by first | exact hs | exact hs.symm⟩, beq_iff_eq.2 hs]; rfl
            · rw [if_neg (fun h => by first | exact hs h.2 | exact hs h.2.symm), beq_eq_false_iff_ne.2 hs]; rfl
          rw [hco]
          generalize hcc : (Tr.clashOf MT X).isSome = cc
          have HCC := Lib.hid hcc
          clear hcc hco
          go_wp2_with fail
          go_meet
          exact ⟨_, rfl, Lib.hid (by rw [HCC.out]; rfl), hx68⟩
    case rest =>
      obtain ⟨bb, rfl, HB, hxq⟩ := hcut
      have hxw := hx2.trans (hxq.mono hx2.size)
      have hkA2 := hk2.below hxq hk2.lt
      have hkB2 := hkN2.below hxq hkN2.lt
      have hoT2 := OwnB.below hoX hxq
      have ho12 := OwnB.below ho1 hxq
      have ho22 := OwnB.below ho2 hxq
      have hMM2 := OwnB.below hM2 hxq
      have hab2 := hab1.below hxq
      clear hk2 hkN2 hoX ho1 ho2 hM2 hxq hx2 e2 hab1
      go_upto_if 144 with (fail)
      go_cut [16] (fun u16 wq => ∃ va vc : Value, Blk wq w.heap.size 81 #[.slice none 0 0, .slice none 0 0, .bool false] ∧ Blk wq g1 81 #[va, vc, .bool O.isSome] ∧ OwnB wq w.heap.size va (fstO O) ∧ OwnB wq w.heap.size vc (sndO O) ∧ OwnB wq w.heap.size (.slice A8 X.length c8) X ∧ Bytes wq (fun k => k < B ∨ g1 < k) (.slice A10 a1.length c10) a1 ∧ Below w.heap.size w wq)
      case first =>
        cases bb with
        | true =>
          have hO : O = some (MT, X) := by
            have h1 := HB.out
            have h2 := HOO.out
            cases T1 with
            | some r => cases h1
            | none =>
              rw [h2]
              show Tr.clashOf MT X = _
              unfold Tr.clashOf at h1 ⊢
              split
              · rfl
              · rename_i hn; rw [if_neg hn] at h1; cases h1
          have e0 : wc.cell? ⟨g1, 0, none⟩ = some (.slice A6 (fstO T1).length c6) := hkB2.cell 0
          have e1 : wc.cell? ⟨g1, 1, none⟩ = some (.slice A7 (sndO T1).length c7) := hkB2.cell 1
          have e2 : wc.cell? ⟨g1, 2, none⟩ = some (.bool T1.isSome) := hkB2.cell 2
          have f0 := hkB2.frozen 0
          have f1 := hkB2.frozen 1
          have f2 := hkB2.frozen 2
          obtain ⟨s1, s2, s3⟩ := store3 hkB2 hxw (Nat.le_of_lt hg1) (.slice A9 MT.length c9) (.slice A8 X.length c8) (.bool true)
          have s4 := store3_far hkA2 (show w.heap.size ≠ g1 by omega) (.slice A9 MT.length c9) (.slice A8 X.length c8) (.bool true)
          have hm2 := s3 _ _ _ hMM2
          have hot := s3 _ _ _ hoT2
          have haz := bytes3 hab2 (show ¬ (g1 < B ∨ g1 < g1) by omega) (.slice A9 MT.length c9) (.slice A8 X.length c8) (.bool true)
          clear s3
          have HOs := Lib.hid hO
          clear hO HOO
          go_wp2_with fail
          generalize ((wc.setCell ⟨g1, 0, none⟩ (.slice A9 MT.length c9)).setCell ⟨g1, 1, none⟩ (.slice A8 X.length c8)).setCell ⟨g1, 2, none⟩ (.bool true) = w2z at *
          go_meet
          rw [HOs.out]
          exact ⟨_, _, s4, s1, hm2, hot, hot, haz, s2⟩
        | false =>
          have hO : O = T1 := by
            have h1 := HB.out
            have h2 := HOO.out
            cases T1 with
            | some r => exact h2
            | none =>
              rw [h2]
              show Tr.clashOf MT X = _
              cases hc : Tr.clashOf MT X with
              | none => rfl
              | some x => rw [hc] at h1; cases h1
          have HOs := Lib.hid hO
          clear hO HOO
          go_wp2_with fail
          go_meet
          rw [HOs.out]
          exact ⟨_, _, hkA2, hkB2, ho12, ho22, hoT2, hab2, hxw⟩
      case rest =>
        obtain ⟨va, vc, hkA3, hkB3, hoa, hoc, hoT3, hab3, hxf⟩ := hcut
        clear hkA2 hkB2 hoT2 ho12 ho22 hMM2 hxw HB HOO hab2
        obtain ⟨A16, c16, hva, _, _⟩ := Own.shape hoa
        obtain ⟨A17, c17, hvc, _, _⟩ := Own.shape hoc
        subst hva hvc
        have e0 : wc.cell? ⟨g1, 0, none⟩ = some (.slice A16 (fstO O).length c16) := hkB3.cell 0
        have e1 : wc.cell? ⟨g1, 1, none⟩ = some (.slice A17 (sndO O).length c17) := hkB3.cell 1
        have e2 : wc.cell? ⟨g1, 2, none⟩ = some (.bool O.isSome) := hkB3.cell 2
        have hTd : Bytes wc.drew _ (.slice A8 X.length c8) X := hoT3.bytes.drewN 1
        go_wp2_with fail
        go_region_held3 (fun z : World => z.cell? ⟨g1, 0, none⟩ = some (.slice A16 (fstO O).length c16) ∧ z.cell? ⟨g1, 1, none⟩ = some (.slice A17 (sndO O).length c17) ∧ z.cell? ⟨g1, 2, none⟩ = some (.bool O.isSome) ∧ Below w.heap.size w z) (first | assumption | exact ⟨e0, e1, e2, hxf.drew⟩ | exact hSe)
          (((with_reducible refine (sum_any wc.drew _ _ X hTd (by omega)).mono ?_)
            rintro e w7 ⟨v7, rfl, hown7, hx7⟩
            have hkC : Blk w7 w.heap.size 81 #[.slice none 0 0, .slice none 0 0, .bool false] := (hkA3.drewN 1).below hx7 hkA3.lt
            have hkD : Blk w7 g1 81 #[(.slice A16 (fstO O).length c16), (.slice A17 (sndO O).length c17), .bool O.isSome] := (hkB3.drewN 1).below hx7 hkB3.lt
            have hxC : Below w.heap.size w w7 := hxf.drew.trans (hx7.mono hxf.size)
            have hS7 : w7.cell? ⟨g1, 0, none⟩ = some (.slice A16 (fstO O).length c16) ∧ w7.cell? ⟨g1, 1, none⟩ = some (.slice A17 (sndO O).length c17) ∧ w7.cell? ⟨g1, 2, none⟩ = some (.bool O.isSome) ∧ Below w.heap.size w w7 := ⟨hkD.cell 0, hkD.cell 1, hkD.cell 2, hxC⟩
            have a0 : w7.cell? ⟨w.heap.size, 0, none⟩ = some (.slice none 0 0) := hkC.cell 0
            have a11 : w7.cell? ⟨w.heap.size, 1, none⟩ = some (.slice none 0 0) := hkC.cell 1
            have a2 : w7.cell? ⟨w.heap.size, 2, none⟩ = some (.bool false) := hkC.cell 2
            have b0 := hkC.frozen 0
            have b1 := hkC.frozen 1
            have b2 := hkC.frozen 2
            obtain ⟨s1, s2, s3⟩ := store3 hkC hxC (Nat.le_refl _) (.slice A16 (fstO O).length c16) (.slice A17 (sndO O).length c17) (.bool O.isSome)
            have s4 := store3_far hkD (show g1 ≠ w.heap.size by omega) (.slice A16 (fstO O).length c16) (.slice A17 (sndO O).length c17) (.bool O.isSome)
            have hSe : (((w7.setCell ⟨w.heap.size, 0, none⟩ (.slice A16 (fstO O).length c16)).setCell ⟨w.heap.size, 1, none⟩ (.slice A17 (sndO O).length c17)).setCell ⟨w.heap.size, 2, none⟩ (.bool O.isSome)).cell? ⟨g1, 0, none⟩ = some (.slice A16 (fstO O).length c16) ∧ (((w7.setCell ⟨w.heap.size, 0, none⟩ (.slice A16 (fstO O).length c16)).setCell ⟨w.heap.size, 1, none⟩ (.slice A17 (sndO O).length c17)).setCell ⟨w.heap.size, 2, none⟩ (.bool O.isSome)).cell? ⟨g1, 1, none⟩ = some (.slice A17 (sndO O).length c17) ∧ (((w7.setCell ⟨w.heap.size, 0, none⟩ (.slice A16 (fstO O).length c16)).setCell ⟨w.heap.size, 1, none⟩ (.slice A17 (sndO O).length c17)).setCell ⟨w.heap.size, 2, none⟩ (.bool O.isSome)).cell? ⟨g1, 2, none⟩ = some (.bool O.isSome) ∧ Below w.heap.size w (((w7.setCell ⟨w.heap.size, 0, none⟩ (.slice A16 (fstO O).length c16)).setCell ⟨w.heap.size, 1, none⟩ (.slice A17 (sndO O).length c17)).setCell ⟨w.heap.size, 2, none⟩ (.bool O.isSome)) := ⟨s4.cell 0, s4.cell 1, s4.cell 2, s2⟩))
        go_wp2_with fail
        have hr1 := s3 _ _ _ (OwnB.below (OwnB.drewN hoa 1) hx7)
        have hr2 := s3 _ _ _ (OwnB.below (OwnB.drewN hoc 1) hx7)
        have hr3 := s3 _ _ _ (OwnB.mono hown7 hxf.size)
        have hr4 := bytes3 ((hab3.drewN 1).below hx7) (show ¬ (w.heap.size < B ∨ g1 < w.heap.size) by omega) (.slice A16 (fstO O).length c16) (.slice A17 (sndO O).length c17) (.bool O.isSome)
        clear s3 hSe s4
        generalize ((w7.setCell ⟨w.heap.size, 0, none⟩ (.slice A16 (fstO O).length c16)).setCell ⟨w.heap.size, 1, none⟩ (.slice A17 (sndO O).length c17)).setCell ⟨w.heap.size, 2, none⟩ (.bool O.isSome) = wz at *
        have g0 : wz.cell? ⟨w.heap.size, 0, none⟩ = some (.slice A16 (fstO O).length c16) := s1.cell 0
        have g1' : wz.cell? ⟨w.heap.size, 1, none⟩ = some (.slice A17 (sndO O).length c17) := s1.cell 1
        have g2 : wz.cell? ⟨w.heap.size, 2, none⟩ = some (.bool O.isSome) := s1.cell 2
        exact bodyPost_ret (v := .tuple #[.agg #[(.slice A16 (fstO O).length c16), (.slice A17 (sndO O).length c17), .bool O.isSome], (.slice A10 a1.length c10), v7]) (by simp [results, Try.results66, go_sem, g0, g1', g2]) rfl ⟨_, _, _, _, rfl, hr1, hr2, hr4.weak (fun k _ h => by omega), hr3.bytes.weak (fun k _ h => by omega), s2⟩
end Go.Proofs.Ytaojgabiefkcaaa
