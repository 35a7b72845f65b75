/-
  THE WALK of clash.down. Conditions: what is read is bytes, and lists of bytes; leaves as a tree may have; a path of the leaf's length.
-/
import Derived.Test.YtgbjfilkecmmgaaZClashC
namespace Go.Proofs.Ytgbjfilkecmmgaa
open Go.RowKit Go.Lib

theorem OwnB.drewN {w : World} {B : Nat} {v : Value} {l : Bs} (h : OwnB w B v l) (n : Nat) : OwnB (w.drewN n) B v l := h
theorem getLastD_at {p : List Bs} {m : Nat} (h : p.length = m + 1) : p.getLastD [] = p[m]'(by omega) := by
  rcases List.eq_nil_or_concat p with rfl | ⟨q, x, rfl⟩
  · simp at h
  · simp at h
    subst h
    simp
theorem dropLast_at {p : List Bs} {m : Nat} (h : p.length = m + 1) : p.dropLast = p.take m := by rw [List.dropLast_eq_take, h]; rfl
theorem Fine.drop {ll : List Bs} (h : Fine ll) {k : Nat} (hk : k < ll.length) : Fine (ll.drop k) := ⟨by rw [List.length_drop]; have := h.1; omega, fun b hb => h.2 b (List.mem_of_mem_drop hb)⟩
abbrev T0 : Array Value := #[.slice none 0 0, .slice none 0 0, .bool false]
/-- what clash.down tells -/
def DownPost (w : World) (o : Option Tr.PB) (d : Bs) (e : Ending) (w' : World) : Prop :=
  ∃ va vc vd, e = .returned (.tuple #[.agg #[va, vc, .bool o.isSome], vd]) ∧ OwnB w' w.heap.size va (fstO o) ∧ OwnB w' w.heap.size vc (sndO o) ∧ OwnB w' w.heap.size vd d ∧ Below w.heap.size w w'

set_option maxRecDepth 100000 in
set_option maxHeartbeats 4000000 in
theorem down_step (w : World) (F F' F'' : Nat → Prop) (g off c gp offp cp c2 ct n k m M i : Nat) (HMM : Hid (M = m + 1)) (A2 At : Option Addr) (b t : Bs) (l1 l2 q : List Bs) (R : Option Tr.PB × Bs) (th : Bs)
    (h2 : 2 ≤ n) (hn100 : n ≤ 100) (hk0 : 0 < k) (hk1 : k < n) (hi : i < n) (hm7 : m ≤ 100) (_hb200 : b.length ≤ 200) (hR32 : R.2.length = 32) (hth : th.length = 65) (ht32 : t.length = 32)
    (HC1 : Hid (i < k → th = Tr.pairT R.2 t ∧ ∀ (w : World) (F F' F'' : Nat → Prop) (v vb vp : Value), BList w F v l1 → Bytes w F' vb b → BList w F'' vp q → Calls Try.prog 74 #[v, vb, .int .i64 (i : Int), vp] w (DownPost w R.1 R.2)))
    (HC2 : Hid (¬ i < k → th = Tr.pairT t R.2 ∧ ∀ (w : World) (F F' F'' : Nat → Prop) (v vb vp : Value) (z : Int), z = (i : Int) - (k : Nat) → BList w F v l2 → Bytes w F' vb b → BList w F'' vp q → Calls Try.prog 74 #[v, vb, .int .i64 z, vp] w (DownPost w R.1 R.2)))
    (hnc : n ≤ c) (_hcm : c ≤ 9223372036854775807) (hpc : M ≤ cp) (_hcpm : cp ≤ 9223372036854775807) (hb : Bytes w F' (.slice A2 b.length c2) b) (_hg : g < w.heap.size) (hgp : gp < w.heap.size)
    (hcu : w.cell? ⟨gp, offp + m, none⟩ = some (.slice At t.length ct)) (hub : Bytes w F'' (.slice At t.length ct) t)
    (hl1 : BList w F (.slice (some ⟨g, off, none⟩) k c) l1) (hl2 : BList w F (.slice (some ⟨g, off + k, none⟩) (n - k) (c - k)) l2) (hp1 : BList w F'' (.slice (some ⟨gp, offp, none⟩) m cp) q)
    (HQ : Hid (Calls Try.prog 92 #[.int .i64 (n : Int)] (w.alloc (.cells #[.slice none 0 0, .slice none 0 0, .bool false] 96)) fun e w' => e = .returned (.int .i64 (k : Nat)) ∧ w' = w.alloc (.cells #[.slice none 0 0, .slice none 0 0, .bool false] 96)))
    (hf1 : Fine l1) (hf2 : Fine l2) :
    Calls Try.prog 74 #[.slice (some ⟨g, off, none⟩) n c, .slice A2 b.length c2, .int .i64 (i : Int), .slice (some ⟨gp, offp, none⟩) M cp] w
      (DownPost w (Tr.orElse R.1 (Tr.clashOf (Tr.pairT (Tr.rootL l1) (Tr.rootL l2)) th)) (Sha.sha256 th)) := by
  have hx0 := (Below.refl w.heap.size w).alloc (Nat.le_refl _) (.cells #[.slice none 0 0, .slice none 0 0, .bool false] 96)
  have hk0' : Blk (w.alloc (.cells #[.slice none 0 0, .slice none 0 0, .bool false] 96)) w.heap.size 96 #[.slice none 0 0, .slice none 0 0, .bool false] := heap_alloc_new w _
  have hnB : ((n : Int) == 1) = false := by rw [beq_eq_false_iff_ne]; omega
  obtain ⟨O, HO⟩ : ∃ O, Hid (O = Tr.orElse R.1 (Tr.clashOf (Tr.pairT (Tr.rootL l1) (Tr.rootL l2)) th)) := ⟨_, Lib.hid rfl⟩
  rw [← HO.out]
  obtain ⟨MT, HM⟩ : ∃ MT, Hid (MT = Tr.pairT (Tr.rootL l1) (Tr.rootL l2)) := ⟨_, Lib.hid rfl⟩
  have hml : MT.length = 65 := by rw [HM.out, length_pairT, Tr.length_rootL, Tr.length_rootL]
  have m0 : (0 : Int) ≤ (m : Int) := by omega
  have hMM := HMM.out
  have m1 : (m : Int) ≤ (M : Int) := by omega
  have m1' : (m : Int) < (M : Int) := by omega
  have m2 : (m : Int) ≤ (cp : Int) := by omega
  have m3 : (M : Int) ≤ (cp : Int) := by omega
  have m4 : (M : Int) - 1 = (m : Int) := by omega
  have mW : IntKind.i64.wrap ((M : Int) - 1) = (m : Int) := by rw [m4]; exact IntWalk.i64_in _ (by omega)
  clear hMM m4
  have k0 : (0 : Int) ≤ (k : Int) := by omega
  have kk1 : (k : Int) ≤ (n : Int) := by omega
  have k2 : (k : Int) ≤ (c : Int) := by omega
  have k3 : (n : Int) ≤ (c : Int) := by omega
  have k4 : ((c : Int) == (k : Int)) = false := by rw [beq_eq_false_iff_ne]; omega
  have k5 : ¬ c = k := by omega
  have hz0 : w.heap.size < (w.alloc (.cells #[.slice none 0 0, .slice none 0 0, .bool false] 96)).heap.size := by simp
  have hcu0 : (w.alloc (.cells #[.slice none 0 0, .slice none 0 0, .bool false] 96)).cell? ⟨gp, offp + m, none⟩ = some (.slice At t.length ct) := (hx0.cell (p := ⟨gp, offp + m, none⟩) hgp).trans hcu
  go_enter Try.func74, Try.ntmps74
  go_wp2_with fail
  refine HQ.out.mono ?_
  rintro e w' ⟨rfl, hw⟩
  rw [← hw] at hx0 hk0' hz0 hcu0
  clear hw HQ
  have HT32 := Lib.hid ht32
  have HTH := Lib.hid hth
  have HR32 := Lib.hid hR32
  have hT := hub
  clear ht32 hth hR32 hub
  go_upto_if 57 with (fail)
  have hxW := hx0.alloc hx0.size (.cells #[.slice none 0 0, .slice none 0 0, .bool false] 96)
  have hkW := hk0'.alloc (.cells #[.slice none 0 0, .slice none 0 0, .bool false] 96)
  have hkN : Blk (w'.alloc (.cells #[.slice none 0 0, .slice none 0 0, .bool false] 96)) w'.heap.size 96 #[.slice none 0 0, .slice none 0 0, .bool false] := heap_alloc_new w' _
  generalize w'.alloc (.cells #[.slice none 0 0, .slice none 0 0, .bool false] 96) = W at *
  generalize w'.heap.size = g1 at *
  clear hx0 hk0' hcu0 hcu
  have hlW1 : BList W.drew F (.slice (some ⟨g, off, none⟩) k c) l1 := (hl1.below hxW).drewN 1
  have hlW2 : BList W.drew F (.slice (some ⟨g, off + k, none⟩) (n - k) (c - k)) l2 := (hl2.below hxW).drewN 1
  have hbW : Bytes W.drew F' (.slice A2 b.length c2) b := (hb.below hxW).drewN 1
  have hpW : BList W.drew F'' (.slice (some ⟨gp, offp, none⟩) m cp) q := (hp1.below hxW).drewN 1
  go_cut [15, 17] (fun ud uth wq => ∃ va vc : Value, OwnB wq w.heap.size uth th ∧ Blk wq w.heap.size 96 #[.slice none 0 0, .slice none 0 0, .bool false] ∧ Blk wq g1 96 #[va, vc, .bool R.1.isSome] ∧ OwnB wq w.heap.size va (fstO R.1) ∧ OwnB wq w.heap.size vc (sndO R.1) ∧ Below w.heap.size w wq)
  case first =>
    by_cases hik : i < k
    · have hikB : (i : Int) < (k : Int) := by omega
      obtain ⟨hTe, hC⟩ := HC1.out hik
      have HTE := Lib.hid hTe
      have HC := Lib.hid hC
      clear hTe hC HC1 HC2
      go_wp2_with fail
      go_region_held3 (fun z : World => Blk z w.heap.size 96 #[.slice none 0 0, .slice none 0 0, .bool false] ∧ Below w.heap.size w z) (first | assumption | exact ⟨hkW.drewN 1, hxW.drew⟩ | exact hSe)
        (((with_reducible refine (HC.out W.drew F F' F'' _ _ _ hlW1 hbW hpW).mono ?_)
          rintro e w1 ⟨va, vc, vd, rfl, ho1, ho2, ho3, hx1⟩
          obtain ⟨A6, c6, hva, _, _⟩ := Own.shape ho1
          obtain ⟨A7, c7, hvc, _, _⟩ := Own.shape ho2
          subst hva hvc
          have hkA : Blk w1 w.heap.size 96 #[.slice none 0 0, .slice none 0 0, .bool false] := (hkW.drewN 1).below hx1 hkW.lt
          have hkB : Blk w1 g1 96 #[.slice none 0 0, .slice none 0 0, .bool false] := (hkN.drewN 1).below hx1 hkN.lt
          have hxA : Below w.heap.size w w1 := hxW.drew.trans (hx1.mono hxW.size)
          have hS1 : Blk w1 w.heap.size 96 #[.slice none 0 0, .slice none 0 0, .bool false] ∧ Below w.heap.size w w1 := ⟨hkA, hxA⟩
          have e0 : w1.cell? ⟨g1, 0, none⟩ = some (.slice none 0 0) := hkB.cell 0
          have e1 : w1.cell? ⟨g1, 1, none⟩ = some (.slice none 0 0) := hkB.cell 1
          have e2 : w1.cell? ⟨g1, 2, none⟩ = some (.bool false) := hkB.cell 2
          have f0 := hkB.frozen 0
          have f1 := hkB.frozen 1
          have f2 := hkB.frozen 2
          obtain ⟨s1, s2, s3⟩ := store3 hkB hxA (Nat.le_of_lt hz0) (.slice A6 (fstO R.1).length c6) (.slice A7 (sndO R.1).length c7) (.bool R.1.isSome)
          have hSe : Blk (((w1.setCell ⟨g1, 0, none⟩ (.slice A6 (fstO R.1).length c6)).setCell ⟨g1, 1, none⟩ (.slice A7 (sndO R.1).length c7)).setCell ⟨g1, 2, none⟩ (.bool R.1.isSome)) w.heap.size 96 #[.slice none 0 0, .slice none 0 0, .bool false] ∧ Below w.heap.size w (((w1.setCell ⟨g1, 0, none⟩ (.slice A6 (fstO R.1).length c6)).setCell ⟨g1, 1, none⟩ (.slice A7 (sndO R.1).length c7)).setCell ⟨g1, 2, none⟩ (.bool R.1.isSome)) := ⟨store3_far hkA (by omega) _ _ _, s2⟩))
      have hp1' := s3 _ _ _ (OwnB.mono ho1 hxW.size)
      have hp2' := s3 _ _ _ (OwnB.mono ho2 hxW.size)
      have hp3' := s3 _ _ _ (OwnB.mono ho3 hxW.size)
      clear s3 s2 ho1 ho2 ho3
      generalize ((w1.setCell ⟨g1, 0, none⟩ (.slice A6 (fstO R.1).length c6)).setCell ⟨g1, 1, none⟩ (.slice A7 (sndO R.1).length c7)).setCell ⟨g1, 2, none⟩ (.bool R.1.isSome) = w2 at *
      obtain ⟨hk2, hx2⟩ := hSe
      have ht2 : Bytes w2 F'' (.slice At t.length ct) t := hT.below hx2
      go_wp2_with fail
      refine (pairC_any w2 _ _ _ _ R.2 t hp3'.bytes ht2 (by have := HR32.out; have := HT32.out; omega)).mono ?_
      rintro e w3 ⟨v3, rfl, hown3, hx3⟩
      have hx23 := hx2.trans (hx3.mono hx2.size)
      go_wp2_with fail
      go_meet
      exact ⟨_, _, by rw [HTE.out]; exact hown3.mono hx2.size, hk2.below hx3 hk2.lt, s1.below hx3 s1.lt, OwnB.below hp1' hx3, OwnB.below hp2' hx3, hx23⟩
    · have hikB : decide ((i : Int) < (k : Int)) = false := decide_eq_false (by omega)
      have hikN : decide (i < k) = false := decide_eq_false (by omega)
      have iW : IntKind.i64.wrap ((i : Int) - (k : Int)) = (i : Int) - (k : Int) := IntWalk.i64_in _ (by omega)
      obtain ⟨hTe, hC⟩ := HC2.out hik
      have HTE := Lib.hid hTe
      have HC := Lib.hid hC
      clear hTe hC HC1 HC2
      go_wp2_with fail
      go_region_held3 (fun z : World => Blk z w.heap.size 96 #[.slice none 0 0, .slice none 0 0, .bool false] ∧ Below w.heap.size w z) (first | assumption | exact ⟨hkW.drewN 1, hxW.drew⟩ | exact hSe)
        (((with_reducible refine (HC.out W.drew F F' F'' _ _ _ _ rfl hlW2 hbW hpW).mono ?_)
          rintro e w1 ⟨va, vc, vd, rfl, ho1, ho2, ho3, hx1⟩
          obtain ⟨A6, c6, hva, _, _⟩ := Own.shape ho1
          obtain ⟨A7, c7, hvc, _, _⟩ := Own.shape ho2
          subst hva hvc
          have hkA : Blk w1 w.heap.size 96 #[.slice none 0 0, .slice none 0 0, .bool false] := (hkW.drewN 1).below hx1 hkW.lt
          have hkB : Blk w1 g1 96 #[.slice none 0 0, .slice none 0 0, .bool false] := (hkN.drewN 1).below hx1 hkN.lt
          have hxA : Below w.heap.size w w1 := hxW.drew.trans (hx1.mono hxW.size)
          have hS1 : Blk w1 w.heap.size 96 #[.slice none 0 0, .slice none 0 0, .bool false] ∧ Below w.heap.size w w1 := ⟨hkA, hxA⟩
          have e0 : w1.cell? ⟨g1, 0, none⟩ = some (.slice none 0 0) := hkB.cell 0
          have e1 : w1.cell? ⟨g1, 1, none⟩ = some (.slice none 0 0) := hkB.cell 1
          have e2 : w1.cell? ⟨g1, 2, none⟩ = some (.bool false) := hkB.cell 2
          have f0 := hkB.frozen 0
          have f1 := hkB.frozen 1
          have f2 := hkB.frozen 2
          obtain ⟨s1, s2, s3⟩ := store3 hkB hxA (Nat.le_of_lt hz0) (.slice A6 (fstO R.1).length c6) (.slice A7 (sndO R.1).length c7) (.bool R.1.isSome)
          have hSe : Blk (((w1.setCell ⟨g1, 0, none⟩ (.slice A6 (fstO R.1).length c6)).setCell ⟨g1, 1, none⟩ (.slice A7 (sndO R.1).length c7)).setCell ⟨g1, 2, none⟩ (.bool R.1.isSome)) w.heap.size 96 #[.slice none 0 0, .slice none 0 0, .bool false] ∧ Below w.heap.size w (((w1.setCell ⟨g1, 0, none⟩ (.slice A6 (fstO R.1).length c6)).setCell ⟨g1, 1, none⟩ (.slice A7 (sndO R.1).length c7)).setCell ⟨g1, 2, none⟩ (.bool R.1.isSome)) := ⟨store3_far hkA (by omega) _ _ _, s2⟩))
      have hp1' := s3 _ _ _ (OwnB.mono ho1 hxW.size)
      have hp2' := s3 _ _ _ (OwnB.mono ho2 hxW.size)
      have hp3' := s3 _ _ _ (OwnB.mono ho3 hxW.size)
      clear s3 s2 ho1 ho2 ho3
      generalize ((w1.setCell ⟨g1, 0, none⟩ (.slice A6 (fstO R.1).length c6)).setCell ⟨g1, 1, none⟩ (.slice A7 (sndO R.1).length c7)).setCell ⟨g1, 2, none⟩ (.bool R.1.isSome) = w2 at *
      obtain ⟨hk2, hx2⟩ := hSe
      have ht2 : Bytes w2 F'' (.slice At t.length ct) t := hT.below hx2
      go_wp2_with fail
      refine (pairC_any w2 _ _ _ _ t R.2 ht2 hp3'.bytes (by have := HR32.out; have := HT32.out; omega)).mono ?_
      rintro e w3 ⟨v3, rfl, hown3, hx3⟩
      have hx23 := hx2.trans (hx3.mono hx2.size)
      go_wp2_with fail
      go_meet
      exact ⟨_, _, by rw [HTE.out]; exact hown3.mono hx2.size, hk2.below hx3 hk2.lt, s1.below hx3 s1.lt, OwnB.below hp1' hx3, OwnB.below hp2' hx3, hx23⟩
  case rest =>
    obtain ⟨va, vc, hoT, hk2, hkN2, ho1, ho2, hx2⟩ := hcut
    obtain ⟨A6, c6, hva, _, _⟩ := Own.shape ho1
    obtain ⟨A7, c7, hvc, _, _⟩ := Own.shape ho2
    obtain ⟨A8, c8, hvT, _, _⟩ := Own.shape hoT
    subst hva hvc hvT
    have hl1c : BList wc F (.slice (some ⟨g, off, none⟩) k c) l1 := hl1.below hx2
    have hl2c : BList wc F (.slice (some ⟨g, off + k, none⟩) (n - k) (c - k)) l2 := hl2.below hx2
    clear HC1 HC2 hlW1 hlW2 hbW hpW hl1 hl2 hp1 hb hT HR32 hkW hkN hxW
    generalize R.1 = r1 at *
    go_wp2_with fail
    go_region_held3 (fun z : World => Below wc.heap.size wc z) (first | assumption | exact (Below.refl _ _).drew)
      (first
        | ((with_reducible refine (rootC_any _ F (.slice (some ⟨g, off, none⟩) k c) l1 (hl1c.below (by assumption)) hf1).mono ?_)
           rintro e w3 ⟨v3, rfl, hown3, hx3⟩
           have hxa : Below wc.heap.size wc w3 := Below.trans (b := _) (by assumption) (hx3.mono (Below.size (by assumption))))
        | ((with_reducible refine (rootC_any _ F (.slice (some ⟨g, off + k, none⟩) (n - k) (c - k)) l2 (hl2c.below (by assumption)) hf2).mono ?_)
           rintro e w4 ⟨v4, rfl, hown4, hx4⟩
           have hxb : Below wc.heap.size wc w4 := Below.trans (b := _) (by assumption) (hx4.mono (Below.size (by assumption)))
           have hown34 := OwnB.below hown3 hx4)
        | ((with_reducible refine (pairC_any _ _ _ _ _ _ _ hown34.bytes hown4.bytes (by rw [Tr.length_rootL, Tr.length_rootL]; omega)).mono ?_)
           rintro e w5 ⟨v5, rfl, hown5, hx5⟩
           have hxc : Below wc.heap.size wc w5 := hxb.trans (hx5.mono hxb.size)))
    have hx5' := hx2.trans (hxc.mono hx2.size)
    have hkA := hk2.below hxc hk2.lt
    have hkB := hkN2.below hxc hkN2.lt
    have hoT5 := OwnB.below hoT hxc
    have ho15 := OwnB.below ho1 hxc
    have ho25 := OwnB.below ho2 hxc
    have hM5 : OwnB w5 w.heap.size v5 MT := by rw [HM.out]; exact OwnB.mono hown5 (Nat.le_trans hx2.size hxb.size)
    obtain ⟨A9, c9, hv9, _, _⟩ := Own.shape hM5
    subst hv9
    clear hown3 hown4 hown34 hown5 hx3 hx4 hx5 hxa hxb hk2 hkN2 hoT ho1 ho2 hl1c hl2c hxc hx2
    have e2 : w5.cell? ⟨g1, 2, none⟩ = some (.bool r1.isSome) := hkB.cell 2
    have hMl : MT.length ≤ 100 := by omega
    have hTl : th.length ≤ 100 := by have := HTH.out; omega
    clear hml
    go_upto_region 17 with (fail)
    go_cut [118] (fun u wq => ∃ bb : Bool, u = .bool bb ∧ Hid (bb = (r1.isNone && (Tr.clashOf MT th).isSome)) ∧ Below w5.heap.size w5 wq)
    case first =>
      cases r1 with
      | some r =>
        have e3 : w5.cell? ⟨g1, 2, none⟩ = some (.bool true) := e2
        clear e2
        go_wp2_with fail
        go_meet
        exact ⟨_, rfl, Lib.hid rfl, Below.refl _ _⟩
      | none =>
        have e3 : w5.cell? ⟨g1, 2, none⟩ = some (.bool false) := e2
        clear e2
        go_wp2_with fail
        refine (equal_any w5 _ _ _ _ _ _ hM5.bytes hoT5.bytes).mono ?_
        rintro e w6 ⟨rfl, hw⟩
        subst hw
        by_cases he : MT = th
        · have hbB : (MT == th) = true := beq_iff_eq.2 he
          have hco : (Tr.clashOf MT th).isSome = false := by unfold Tr.clashOf; rw [if_neg (fun h => h.1 he)]; rfl
          have HCO := Lib.hid hco
          clear hco he
          rw [hbB]
          go_wp2_with fail
          go_meet
          exact ⟨_, rfl, Lib.hid (by rw [HCO.out]; rfl), Below.refl _ _⟩
        · have hbB : (MT == th) = false := beq_eq_false_iff_ne.2 he
          have HNE := Lib.hid he
          clear he
          rw [hbB]
          go_wp2_with fail
          refine (sum_any w6 _ _ _ hM5.bytes (by omega)).mono ?_
          rintro e w7 ⟨v7, rfl, hown7, hx7⟩
          go_wp2_with fail
          refine (sum_any w7 _ _ _ (hoT5.bytes.below hx7) (by omega)).mono ?_
          rintro e w8 ⟨v8, rfl, hown8, hx8⟩
          have hx68 := hx7.trans (hx8.mono hx7.size)
          have hs1 : Bytes w8 _ v7 _ := hown7.bytes.below hx8
          go_wp2_with fail
          refine (equal_any w8 _ _ _ _ _ _ hs1 hown8.bytes).mono ?_
          rintro e w9 ⟨rfl, hw⟩
          subst hw
          have hco : (Sha.sha256 MT == Sha.sha256 th) = (Tr.clashOf MT th).isSome := by
            unfold Tr.clashOf
            by_cases hs : Sha.sha256 MT = Sha.sha256 th
            · rw [if_pos ⟨HNE.out, hs⟩, beq_iff_eq.2 hs]; rfl
            · rw [if_neg (fun h => hs h.2), beq_eq_false_iff_ne.2 hs]; rfl
          rw [hco]
          generalize hcc : (Tr.clashOf MT th).isSome = cc
          have HCC := Lib.hid hcc
          clear hcc hco
          go_wp2_with fail
          go_meet
          exact ⟨_, rfl, Lib.hid (by rw [HCC.out]; rfl), hx68⟩
    case rest =>
      obtain ⟨bb, rfl, HB, hxq⟩ := hcut
      have hxw := hx5'.trans (hxq.mono hx5'.size)
      have hkA2 := hkA.below hxq hkA.lt
      have hkB2 := hkB.below hxq hkB.lt
      have hoT2 := OwnB.below hoT5 hxq
      have ho12 := OwnB.below ho15 hxq
      have ho22 := OwnB.below ho25 hxq
      have hM2 := OwnB.below hM5 hxq
      clear hkA hkB hoT5 ho15 ho25 hM5 hxq hx5' e2
      have hOO : O = Tr.orElse r1 (Tr.clashOf MT th) := by rw [HM.out]; exact HO.out
      have HOO := Lib.hid hOO
      clear hOO HO
      go_upto_if 118 with (fail)
      go_cut [16] (fun u16 wq => ∃ va vc : Value, Blk wq w.heap.size 96 #[.slice none 0 0, .slice none 0 0, .bool false] ∧ Blk wq g1 96 #[va, vc, .bool O.isSome] ∧ OwnB wq w.heap.size va (fstO O) ∧ OwnB wq w.heap.size vc (sndO O) ∧ OwnB wq w.heap.size (.slice A8 th.length c8) th ∧ Below w.heap.size w wq)
      case first =>
        cases bb with
        | true =>
          have hO : O = some (MT, th) := by
            have h1 := HB.out
            have h2 := HOO.out
            cases r1 with
            | some r => cases h1
            | none =>
              rw [h2]
              show Tr.clashOf MT th = _
              unfold Tr.clashOf at h1 ⊢
              split
              · rfl
              · rename_i hn; rw [if_neg hn] at h1; cases h1
          have e0 : wc.cell? ⟨g1, 0, none⟩ = some (.slice A6 (fstO r1).length c6) := hkB2.cell 0
          have e1 : wc.cell? ⟨g1, 1, none⟩ = some (.slice A7 (sndO r1).length c7) := hkB2.cell 1
          have e2 : wc.cell? ⟨g1, 2, none⟩ = some (.bool r1.isSome) := hkB2.cell 2
          have f0 := hkB2.frozen 0
          have f1 := hkB2.frozen 1
          have f2 := hkB2.frozen 2
          obtain ⟨s1, s2, s3⟩ := store3 hkB2 hxw (Nat.le_of_lt hz0) (.slice A9 MT.length c9) (.slice A8 th.length c8) (.bool true)
          have s4 := store3_far hkA2 (show w.heap.size ≠ g1 by omega) (.slice A9 MT.length c9) (.slice A8 th.length c8) (.bool true)
          have hm2 := s3 _ _ _ hM2
          have hot := s3 _ _ _ hoT2
          clear s3
          have HOs := Lib.hid hO
          clear hO HOO
          go_wp2_with fail
          generalize ((wc.setCell ⟨g1, 0, none⟩ (.slice A9 MT.length c9)).setCell ⟨g1, 1, none⟩ (.slice A8 th.length c8)).setCell ⟨g1, 2, none⟩ (.bool true) = w2 at *
          go_meet
          rw [HOs.out]
          exact ⟨_, _, s4, s1, hm2, hot, hot, s2⟩
        | false =>
          have hO : O = r1 := by
            have h1 := HB.out
            have h2 := HOO.out
            cases r1 with
            | some r => exact h2
            | none =>
              rw [h2]
              show Tr.clashOf MT th = _
              cases hc : Tr.clashOf MT th with
              | none => rfl
              | some x => rw [hc] at h1; cases h1
          have HOs := Lib.hid hO
          clear hO HOO
          go_wp2_with fail
          go_meet
          rw [HOs.out]
          exact ⟨_, _, hkA2, hkB2, ho12, ho22, hoT2, hxw⟩
      case rest =>
        obtain ⟨va, vc, hkA3, hkB3, hoa, hoc, hoT3, hxf⟩ := hcut
        clear hkA2 hkB2 hoT2 ho12 ho22 hM2 hxw HB HOO
        obtain ⟨A10, c10, hva, _, _⟩ := Own.shape hoa
        obtain ⟨A11, c11, hvc, _, _⟩ := Own.shape hoc
        subst hva hvc
        have e0 : wc.cell? ⟨g1, 0, none⟩ = some (.slice A10 (fstO O).length c10) := hkB3.cell 0
        have e1 : wc.cell? ⟨g1, 1, none⟩ = some (.slice A11 (sndO O).length c11) := hkB3.cell 1
        have e2 : wc.cell? ⟨g1, 2, none⟩ = some (.bool O.isSome) := hkB3.cell 2
        have hTd : Bytes wc.drew _ (.slice A8 th.length c8) th := hoT3.bytes.drewN 1
        go_wp2_with fail
        go_region_held3 (fun z : World => z.cell? ⟨g1, 0, none⟩ = some (.slice A10 (fstO O).length c10) ∧ z.cell? ⟨g1, 1, none⟩ = some (.slice A11 (sndO O).length c11) ∧ z.cell? ⟨g1, 2, none⟩ = some (.bool O.isSome) ∧ Below w.heap.size w z) (first | assumption | exact ⟨e0, e1, e2, hxf.drew⟩ | exact hSe)
          (((with_reducible refine (sum_any wc.drew _ _ th hTd (by omega)).mono ?_)
            rintro e w7 ⟨v7, rfl, hown7, hx7⟩
            have hkC : Blk w7 w.heap.size 96 #[.slice none 0 0, .slice none 0 0, .bool false] := (hkA3.drewN 1).below hx7 hkA3.lt
            have hkD : Blk w7 g1 96 #[(.slice A10 (fstO O).length c10), (.slice A11 (sndO O).length c11), .bool O.isSome] := (hkB3.drewN 1).below hx7 hkB3.lt
            have hxC : Below w.heap.size w w7 := hxf.drew.trans (hx7.mono hxf.size)
            have hS7 : w7.cell? ⟨g1, 0, none⟩ = some (.slice A10 (fstO O).length c10) ∧ w7.cell? ⟨g1, 1, none⟩ = some (.slice A11 (sndO O).length c11) ∧ w7.cell? ⟨g1, 2, none⟩ = some (.bool O.isSome) ∧ Below w.heap.size w w7 := ⟨hkD.cell 0, hkD.cell 1, hkD.cell 2, hxC⟩
            have a0 : w7.cell? ⟨w.heap.size, 0, none⟩ = some (.slice none 0 0) := hkC.cell 0
            have a1 : w7.cell? ⟨w.heap.size, 1, none⟩ = some (.slice none 0 0) := hkC.cell 1
            have a2 : w7.cell? ⟨w.heap.size, 2, none⟩ = some (.bool false) := hkC.cell 2
            have b0 := hkC.frozen 0
            have b1 := hkC.frozen 1
            have b2 := hkC.frozen 2
            obtain ⟨s1, s2, s3⟩ := store3 hkC hxC (Nat.le_refl _) (.slice A10 (fstO O).length c10) (.slice A11 (sndO O).length c11) (.bool O.isSome)
            have s4 := store3_far hkD (show g1 ≠ w.heap.size by omega) (.slice A10 (fstO O).length c10) (.slice A11 (sndO O).length c11) (.bool O.isSome)
            have hSe : (((w7.setCell ⟨w.heap.size, 0, none⟩ (.slice A10 (fstO O).length c10)).setCell ⟨w.heap.size, 1, none⟩ (.slice A11 (sndO O).length c11)).setCell ⟨w.heap.size, 2, none⟩ (.bool O.isSome)).cell? ⟨g1, 0, none⟩ = some (.slice A10 (fstO O).length c10) ∧ (((w7.setCell ⟨w.heap.size, 0, none⟩ (.slice A10 (fstO O).length c10)).setCell ⟨w.heap.size, 1, none⟩ (.slice A11 (sndO O).length c11)).setCell ⟨w.heap.size, 2, none⟩ (.bool O.isSome)).cell? ⟨g1, 1, none⟩ = some (.slice A11 (sndO O).length c11) ∧ (((w7.setCell ⟨w.heap.size, 0, none⟩ (.slice A10 (fstO O).length c10)).setCell ⟨w.heap.size, 1, none⟩ (.slice A11 (sndO O).length c11)).setCell ⟨w.heap.size, 2, none⟩ (.bool O.isSome)).cell? ⟨g1, 2, none⟩ = some (.bool O.isSome) ∧ Below w.heap.size w (((w7.setCell ⟨w.heap.size, 0, none⟩ (.slice A10 (fstO O).length c10)).setCell ⟨w.heap.size, 1, none⟩ (.slice A11 (sndO O).length c11)).setCell ⟨w.heap.size, 2, none⟩ (.bool O.isSome)) := ⟨s4.cell 0, s4.cell 1, s4.cell 2, s2⟩))
        go_wp2_with fail
        have hr1 := s3 _ _ _ (OwnB.below (OwnB.drewN hoa 1) hx7)
        have hr2 := s3 _ _ _ (OwnB.below (OwnB.drewN hoc 1) hx7)
        have hr3 := s3 _ _ _ (OwnB.mono hown7 hxf.size)
        clear s3 hSe s4
        generalize ((w7.setCell ⟨w.heap.size, 0, none⟩ (.slice A10 (fstO O).length c10)).setCell ⟨w.heap.size, 1, none⟩ (.slice A11 (sndO O).length c11)).setCell ⟨w.heap.size, 2, none⟩ (.bool O.isSome) = wz at *
        have g0 : wz.cell? ⟨w.heap.size, 0, none⟩ = some (.slice A10 (fstO O).length c10) := s1.cell 0
        have g1' : wz.cell? ⟨w.heap.size, 1, none⟩ = some (.slice A11 (sndO O).length c11) := s1.cell 1
        have g2 : wz.cell? ⟨w.heap.size, 2, none⟩ = some (.bool O.isSome) := s1.cell 2
        exact bodyPost_ret (v := .tuple #[.agg #[(.slice A10 (fstO O).length c10), (.slice A11 (sndO O).length c11), .bool O.isSome], v7]) (by simp [results, Try.results74, go_sem, g0, g1', g2]) rfl ⟨_, _, _, rfl, hr1, hr2, hr3, s2⟩

set_option maxRecDepth 100000 in
set_option maxHeartbeats 4000000 in
theorem down_any (n : Nat) : ∀ (w : World) (F F' F'' : Nat → Prop) (v vb vp : Value) (ll : List Bs) (b : Bs) (i : Nat) (z : Int) (p : List Bs), BList w F v ll → Bytes w F' vb b → BList w F'' vp p → ll.length = n → 1 ≤ n → i < n → z = (i : Int) →
      p.length = Tr.depth i n → D32 p → Fine ll → b.length ≤ 200 →
    Calls Try.prog 74 #[v, vb, .int .i64 z, vp] w (DownPost w (Tr.down ll b i p).1 (Tr.down ll b i p).2) := by
  induction n using Nat.strongRecOn with
  | ind n ih =>
    intro w F F' F'' v vb vp ll b i z p hl hb hp hn h1 hi hz hpl hd32 hf hb200
    subst hz
    by_cases h2 : 2 ≤ n
    · have hk1 := Tr.split_lt h2
      have hk0 := Tr.split_pos n
      have hn100 : n ≤ 100 := by have := hf.1; omega
      have hm7 : p.length ≤ 101 := by
        have := Tr.depth_le 7 i n (by omega)
        omega
      rw [Tr.depth, dif_pos h2] at hpl
      obtain ⟨m, hm⟩ : ∃ m, p.length = m + 1 := ⟨p.length - 1, by split at hpl <;> omega⟩
      have hmlt : m < p.length := by omega
      have hq1 : i < Tr.split n → (p.take m).length = Tr.depth i (Tr.split n) := fun h => by rw [if_pos h] at hpl; rw [List.length_take]; omega
      have hq2 : ¬ i < Tr.split n → (p.take m).length = Tr.depth (i - Tr.split n) (n - Tr.split n) := fun h => by rw [if_neg h] at hpl; rw [List.length_take]; omega
      have hdl := dropLast_at hm
      have hlast := getLastD_at hm
      have ht32 : (p[m]'hmlt).length = 32 := hd32 _ (List.getElem_mem _)
      obtain ⟨t, ht⟩ : ∃ t, p[m]'hmlt = t := ⟨_, rfl⟩
      rw [ht] at ht32 hlast
      have hD : ∃ (R : Option Tr.PB × Bs) (th : Bs), Hid (Tr.down ll b i p = (Tr.orElse R.1 (Tr.clashOf (Tr.pairT (Tr.rootL (ll.take (Tr.split n))) (Tr.rootL (ll.drop (Tr.split n)))) th), Sha.sha256 th)) ∧ R.2.length = 32 ∧ th.length = 65 ∧
          (i < Tr.split n → th = Tr.pairT R.2 t ∧ ∀ (w : World) (F F' F'' : Nat → Prop) (v vb vp : Value), BList w F v (ll.take (Tr.split n)) → Bytes w F' vb b → BList w F'' vp (p.take m) → Calls Try.prog 74 #[v, vb, .int .i64 (i : Int), vp] w (DownPost w R.1 R.2)) ∧
          (¬ i < Tr.split n → th = Tr.pairT t R.2 ∧ ∀ (w : World) (F F' F'' : Nat → Prop) (v vb vp : Value) (z : Int), z = (i : Int) - (Tr.split n : Nat) → BList w F v (ll.drop (Tr.split n)) → Bytes w F' vb b → BList w F'' vp (p.take m) → Calls Try.prog 74 #[v, vb, .int .i64 z, vp] w (DownPost w R.1 R.2)) := by
        by_cases hik : i < Tr.split n
        · refine ⟨Tr.down (ll.take (Tr.split n)) b i (p.take m), _, Lib.hid ?_, Tr.length_down _ _ _ _ _ rfl, ?_, fun _ => ⟨rfl, fun w F F' F'' v vb vp h1 h2 h3 => ih (Tr.split n) hk1 w F F' F'' v vb vp _ b i _ _ h1 h2 h3 (by rw [List.length_take]; omega) hk0 hik rfl (hq1 hik) (hd32.take m) (hf.take _) hb200⟩, fun h => absurd hik h⟩
          · rw [Tr.down_left (by omega) b p (by rw [hn]; exact hik), hn, hdl, hlast]; rfl
          · rw [length_pairT, Tr.length_down _ _ _ _ _ rfl, ht32]
        · refine ⟨Tr.down (ll.drop (Tr.split n)) b (i - Tr.split n) (p.take m), _, Lib.hid ?_, Tr.length_down _ _ _ _ _ rfl, ?_, fun h => absurd h hik, fun _ => ⟨rfl, fun w F F' F'' v vb vp z hz h1 h2 h3 => ih (n - Tr.split n) (by omega) w F F' F'' v vb vp _ b (i - Tr.split n) _ _ h1 h2 h3 (by rw [List.length_drop]; omega) (by omega) (by omega) (by omega) (hq2 hik) (hd32.take m) (hf.drop (by omega)) hb200⟩⟩
          · rw [Tr.down_right (by omega) b p (by rw [hn]; exact hik), hn, hdl, hlast]; rfl
          · rw [length_pairT, Tr.length_down _ _ _ _ _ rfl, ht32]
      obtain ⟨R, th, HD, hR32, hth, hC1, hC2⟩ := hD
      rw [HD.out]
      obtain ⟨A, c, hv, hnc, hcm, hA⟩ := hl.shape
      subst hv
      obtain ⟨Ap, cp, hvp, hpc, hcpm, _⟩ := hp.shape
      subst hvp
      obtain ⟨A2, c2, hvb⟩ := hb.form
      subst hvb
      obtain ⟨g, off, rfl, hF, hg⟩ := hA (by omega)
      obtain ⟨gp, offp, u, rfl, hcu, _, hgp, hub⟩ := hp.at_ (j := m) (by omega)
      rw [ht] at hub
      have hub' : Bytes w F'' u t := hub.weak (fun k hk h => by first | exact h | exact h.1)
      obtain ⟨At, ct, hvu⟩ := hub'.form
      subst hvu
      have hl1 := hl.first (Tr.split n) (by omega)
      have hl2 := hl.rest (Tr.split n) (by omega)
      have hp1 := hp.first m (by omega)
      have hq := halfC_any n (w := w.alloc (.cells #[.slice none 0 0, .slice none 0 0, .bool false] 96)) h2 (by omega)
      unfold maxLen at hcm hcpm
      rw [hn] at hl2 hnc
      rw [hn]
      exact down_step w F F' F'' g off c gp offp cp c2 ct n (Tr.split n) m p.length i (Lib.hid hm) A2 At b t _ _ _ R th h2 hn100 hk0 hk1 hi (by omega) hb200 hR32 hth ht32 (Lib.hid hC1) (Lib.hid hC2) hnc hcm hpc hcpm hb hg hgp hcu hub' hl1 hl2 hp1 (Lib.hid hq) (hf.take _) (hf.drop (by omega))
    · have : n = 1 := by omega
      subst this
      match ll, hn with
      | [x], _ =>
        rw [Tr.down_one (by simp)]
        refine (down_base w F F' v vb vp x b _ hl hb (hf.2 x (by simp)) hb200).mono ?_
        rintro e w' ⟨va, vc, vd, rfl, h1, h2, h3, h4⟩
        exact ⟨va, vc, vd, rfl, h1, h2, h3, h4⟩
end Go.Proofs.Ytgbjfilkecmmgaa
