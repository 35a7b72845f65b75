/-
  THE WALK of yearlaw5.ShelfTells. Conditions: what comes in is read as a list of texts and a manifest.
-/
import Derived.Deep.Cut
import Derived.Test.YtfdibjgmbdkbcaaZGr
import Derived.Test.YtfdibjgmbdkbcaaZR5H
import Derived.Test.YtfdibjgmbdkbcaaZGi
import Derived.Test.YtfdibjgmbdkbcaaZR5J
import Derived.Test.YtfdibjgmbdkbcaaZGv
import Derived.Test.YtfdibjgmbdkbcaaZGj
namespace Go.Proofs.Ytfdibjgmbdkbcaa
open Go.RowKit Go.Lib

theorem OwnQ.blistB {w : World} {B : Nat} {v : Value} {ll : List Bs} (h : OwnQ w B B v ll) : BList w (fun k => B ≤ k) v ll := by
  obtain ⟨vs, h1, h2⟩ := h
  refine ⟨vs, h1.slAt (fun k hk => (Own.type h1 k hk).1), fun i b hi => ?_⟩
  obtain ⟨u, hu, ho⟩ := h2 i b hi
  exact ⟨u, hu, SlAt.weak ho (fun _ _ hk => hk.1)⟩
theorem OwnL.blistB {w : World} {B : Nat} {v : Value} {ll : List Bs} (h : OwnL w B v ll) : BList w (fun k => B ≤ k) v ll :=
  h.blist.weak fun _ _ hk => hk.1
theorem verify_all (w : World) (F F' : Nat → Prop) (vr vs : Value) (m : Man) (r : (Nat × Nat) × List Bs) (he : Shf.verC m = r) (hr : Bytes w F' vr m.root) (hs : RdL w F vs m.segs) :
    Calls Try.prog 66 #[.agg #[.int .i64 m.size, vr, vs]] w fun e w' => ∃ (A : Option Addr) (c : Nat), e = .returned (.tuple #[.slice A r.2.length c, .agg #[.int .i64 (r.1.1 : Int), .int .i64 (r.1.2 : Int)]]) ∧ BList w' (fun k => w.heap.size ≤ k) (.slice A r.2.length c) r.2 ∧ Below w.heap.size w w' := by
  subst he
  refine (verify_any w F F' vr vs m hr hs).mono ?_
  rintro e w' ⟨v, rfl, ho, hx⟩
  have hb := ho.blistB
  obtain ⟨A, c, hv, _, _, _⟩ := hb.shape
  subst hv
  exact ⟨A, c, rfl, hb, hx⟩
theorem rverify_all (w : World) (F F' : Nat → Prop) (vr vs : Value) (m : Man) (r : (Nat × Nat) × List Bs) (he : Shf.verC m = r) (hr : Bytes w F' vr m.root) (hs : RdL w F vs m.segs) :
    Calls Try.prog 67 #[.agg #[.int .i64 m.size, vr, vs]] w fun e w' => ∃ (A : Option Addr) (c : Nat), e = .returned (.tuple #[.slice A r.2.length c, .agg #[.int .i64 (r.1.1 : Int), .int .i64 (r.1.2 : Int)]]) ∧ BList w' (fun k => w.heap.size ≤ k) (.slice A r.2.length c) r.2 ∧ Below w.heap.size w w' := by
  subst he
  refine (rverify_any w F F' vr vs m hr hs).mono ?_
  rintro e w' ⟨v, rfl, ho, hx⟩
  have hb := ho.blistB
  obtain ⟨A, c, hv, _, _, _⟩ := hb.shape
  subst hv
  exact ⟨A, c, rfl, hb, hx⟩
theorem segment_all (w : World) (F : Nat → Prop) (vr vs : Value) (m : Man) (k : Int) (r : Nat × List Bs) (he : Shf.segC m k = r) (hs : RdL w F vs m.segs) :
    Calls Try.prog 62 #[.agg #[.int .i64 m.size, vr, vs], .int .i64 k] w fun e w' => ∃ (A : Option Addr) (c : Nat), e = .returned (.tuple #[.slice A r.2.length c, .int .i64 (r.1 : Int)]) ∧ BList w' (fun k => w.heap.size ≤ k) (.slice A r.2.length c) r.2 ∧ Below w.heap.size w w' := by
  subst he
  refine (segment_any w F vr vs m k hs).mono ?_
  rintro e w' ⟨v, rfl, ho, hx⟩
  have hb := ho.blistB
  obtain ⟨A, c, hv, _, _, _⟩ := hb.shape
  subst hv
  exact ⟨A, c, rfl, hb, hx⟩
theorem rsegment_all (w : World) (F : Nat → Prop) (vr vs : Value) (m : Man) (k : Int) (r : Nat × List Bs) (he : Shf.segC m k = r) (hs : RdL w F vs m.segs) :
    Calls Try.prog 63 #[.agg #[.int .i64 m.size, vr, vs], .int .i64 k] w fun e w' => ∃ (A : Option Addr) (c : Nat), e = .returned (.tuple #[.slice A r.2.length c, .int .i64 (r.1 : Int)]) ∧ BList w' (fun k => w.heap.size ≤ k) (.slice A r.2.length c) r.2 ∧ Below w.heap.size w w' := by
  subst he
  refine (rsegment_any w F vr vs m k hs).mono ?_
  rintro e w' ⟨v, rfl, ho, hx⟩
  have hb := ho.blistB
  obtain ⟨A, c, hv, _, _, _⟩ := hb.shape
  subst hv
  exact ⟨A, c, rfl, hb, hx⟩
theorem entry_all (w : World) (F : Nat → Prop) (vr vs : Value) (m : Man) (i : Int) (r : Nat × Bs) (he : Shf.entC m i = r) (hs : RdL w F vs m.segs) (h63 : i ≤ 9223372036854775807) :
    Calls Try.prog 64 #[.agg #[.int .i64 m.size, vr, vs], .int .i64 i] w fun e w' => ∃ (A : Option Addr) (c : Nat), e = .returned (.tuple #[.slice A r.2.length c, .int .i64 (r.1 : Int)]) ∧ Bytes w' (fun k => w.heap.size ≤ k) (.slice A r.2.length c) r.2 ∧ Below w.heap.size w w' := by
  subst he
  refine (entry_any w F vr vs m i hs fun _ => h63).mono ?_
  rintro e w' ⟨v, rfl, ho, hx⟩
  have hb : Bytes w' (fun k => w.heap.size ≤ k) v _ := Own.slAt ho (fun k hk => (Own.type ho k hk).1)
  obtain ⟨A, c, hv⟩ := Bytes.form hb
  subst hv
  exact ⟨A, c, rfl, hb, hx⟩
theorem rentry_all (w : World) (F : Nat → Prop) (vr vs : Value) (m : Man) (i : Int) (r : Nat × Bs) (he : Shf.entC m i = r) (hs : RdL w F vs m.segs) (h63 : i ≤ 9223372036854775807) :
    Calls Try.prog 65 #[.agg #[.int .i64 m.size, vr, vs], .int .i64 i] w fun e w' => ∃ (A : Option Addr) (c : Nat), e = .returned (.tuple #[.slice A r.2.length c, .int .i64 (r.1 : Int)]) ∧ Bytes w' (fun k => w.heap.size ≤ k) (.slice A r.2.length c) r.2 ∧ Below w.heap.size w w' := by
  subst he
  refine (rentry_any w F vr vs m i hs fun _ => h63).mono ?_
  rintro e w' ⟨v, rfl, ho, hx⟩
  have hb : Bytes w' (fun k => w.heap.size ≤ k) v _ := SlAt.weak ho (fun _ _ hk => hk.1)
  obtain ⟨A, c, hv⟩ := Bytes.form hb
  subst hv
  exact ⟨A, c, rfl, hb, hx⟩

set_option maxRecDepth 100000 in
set_option maxHeartbeats 20000000 in
theorem shelfTells_walk (w : World) (v0 : Value) (l : List Bs) (h0 : BList w (fun _ => True) v0 l) (cs : List Value) (m : Man) (h1 : Rp.rd w (fun _ => True) cs m) (k i : Int) (hi63 : i ≤ 9223372036854775807) :
    Calls Try.prog 8 #[v0, .agg cs.toArray, .int .i64 k, .int .i64 i] w fun e w' => e = .returned (.bool true) ∧ Below w.heap.size w w' := by
  obtain ⟨A, c, hv0, hlc, hcm, _⟩ := h0.shape
  subst hv0
  unfold maxLen at hcm
  obtain ⟨vr, vs, hcs, hr, hs⟩ := rd_man h1
  subst hcs
  obtain ⟨Ar, cr, hvr⟩ := hr.form
  obtain ⟨As, cs', hvs, _⟩ := hs.form
  subst hvr hvs
  obtain ⟨size, root, segs⟩ := m
  simp only at hs hr ⊢
  obtain ⟨W, hW⟩ : ∃ W, W = w.alloc (.cells #[.int .i64 size, .slice Ar root.length cr, .slice As segs.length cs'] 77) := ⟨_, rfl⟩
  have hx0 : Below w.heap.size w W := by rw [hW]; exact (Below.refl _ _).alloc (Nat.le_refl _) _
  have hk0 : Blk W w.heap.size 77 #[.int .i64 size, .slice Ar root.length cr, .slice As segs.length cs'] := by rw [hW]; exact heap_alloc_new w _
  have hlW := h0.below hx0
  have hrW := SlAt.below hr hx0
  have hsW := hs.below hx0
  have lt0 : w.heap.size < W.heap.size := hk0.lt
  obtain ⟨gW, hgW⟩ : ∃ g, g = w.heap.size := ⟨_, rfl⟩
  rw [← hgW] at hk0 lt0
  have HG := Lib.hid hgW
  have HW := Lib.hid hW
  obtain ⟨⟨se, sl⟩, hS⟩ : ∃ x, Shf.segC ⟨size, root, segs⟩ k = x := ⟨_, rfl⟩
  have HSA := fun (z : World) (hz : Below W.heap.size W z) => segment_all z _ (.slice Ar root.length cr) _ ⟨size, root, segs⟩ k _ hS (hsW.below hz)
  have HSB := fun (z : World) (hz : Below W.heap.size W z) => rsegment_all z _ (.slice Ar root.length cr) _ ⟨size, root, segs⟩ k _ hS (hsW.below hz)
  obtain ⟨⟨ee, el⟩, hE⟩ : ∃ x, Shf.entC ⟨size, root, segs⟩ i = x := ⟨_, rfl⟩
  have HEA := fun (z : World) (hz : Below W.heap.size W z) => entry_all z _ (.slice Ar root.length cr) _ ⟨size, root, segs⟩ i _ hE (hsW.below hz) hi63
  have HEB := fun (z : World) (hz : Below W.heap.size W z) => rentry_all z _ (.slice Ar root.length cr) _ ⟨size, root, segs⟩ i _ hE (hsW.below hz) hi63
  obtain ⟨⟨⟨va, vb⟩, vl⟩, hV⟩ : ∃ x, Shf.verC ⟨size, root, segs⟩ = x := ⟨_, rfl⟩
  have HVA := fun (z : World) (hz : Below W.heap.size W z) => verify_all z _ _ _ _ ⟨size, root, segs⟩ _ hV (SlAt.below hrW hz) (hsW.below hz)
  have HVB := fun (z : World) (hz : Below W.heap.size W z) => rverify_all z _ _ _ _ ⟨size, root, segs⟩ _ hV (SlAt.below hrW hz) (hsW.below hz)
  simp only at HSA HSB HEA HEB HVA HVB
  replace HSA := Lib.hid HSA
  replace HSB := Lib.hid HSB
  replace HEA := Lib.hid HEA
  replace HEB := Lib.hid HEB
  replace HVA := Lib.hid HVA
  replace HVB := Lib.hid HVB
  have hz0 := Below.refl W.heap.size W
  clear hW h0 h1 hs hr hS hE hV hsW hrW hgW
  go_enter Try.func8, Try.ntmps8
  go_upto_region 1 with (fail)
  rw [← HW.out, ← HG.out]
  by_cases hf : Fine l
  · as_aux_lemma =>
    obtain ⟨RL, hRL⟩ : ∃ R, Tr.rootL l = R := ⟨_, rfl⟩
    obtain ⟨SG, hSG⟩ : ∃ R, Shf.segsOf l = R := ⟨_, rfl⟩
    have HRL := Lib.hid hRL
    have HSG := Lib.hid hSG
    clear hRL hSG
    have c0_0 : W.cell? ⟨gW, 0, none⟩ = some (.int .i64 size) := hk0.cell 0
    have c0_1 : W.cell? ⟨gW, 1, none⟩ = some (.slice Ar root.length cr) := hk0.cell 1
    have c0_2 : W.cell? ⟨gW, 2, none⟩ = some (.slice As segs.length cs') := hk0.cell 2
    go_wp2_with fail
    refine (export_fine W _ _ l hlW hf).mono ?_
    rintro e w3 ⟨va1, vs1, rfl, ho, hg, hx3⟩
    have hz3 := hz0.trans (hx3.mono hz0.size)
    have hb3_0 := hk0.below hx3 lt0
    have lt3_0 : gW < w3.heap.size := by have := hx3.size; omega
    clear hz0 hk0 lt0 hx3
    clear c0_0 c0_1 c0_2
    rw [HRL.out] at ho
    rw [HSG.out] at hg
    have hra := (OwnB.bytes ho).weak (F' := fun _ => True) (fun _ _ _ => trivial)
    obtain ⟨Ra, qa, hqa⟩ := Bytes.form hra
    subst hqa
    have hsa := hg.rd.top
    obtain ⟨Sa, ta, hqa, _⟩ := hsa.form
    subst hqa
    clear ho hg
    have hge4 : W.heap.size ≤ w3.heap.size := hz3.size
    have hord4_0 : gW < w3.heap.size := lt3_0
    have hz4 := (hz3.alloc hz3.size (.cells #[.int .i64 (l.length : Int), .slice Ra RL.length qa, .slice Sa SG.length ta] 77)).alloc (by simp; have := hz3.size; omega) (.cells #[.int .i64 0, .int .i64 0] 32)
    have hB4 : Blk ((w3.alloc (.cells #[.int .i64 (l.length : Int), .slice Ra RL.length qa, .slice Sa SG.length ta] 77)).alloc (.cells #[.int .i64 0, .int .i64 0] 32)) w3.heap.size 77 #[.int .i64 (l.length : Int), .slice Ra RL.length qa, .slice Sa SG.length ta] := Blk.alloc (heap_alloc_new w3 _) _
    have lB4 : w3.heap.size < ((w3.alloc (.cells #[.int .i64 (l.length : Int), .slice Ra RL.length qa, .slice Sa SG.length ta] 77)).alloc (.cells #[.int .i64 0, .int .i64 0] 32)).heap.size := by simp; omega
    have hC4 : Blk ((w3.alloc (.cells #[.int .i64 (l.length : Int), .slice Ra RL.length qa, .slice Sa SG.length ta] 77)).alloc (.cells #[.int .i64 0, .int .i64 0] 32)) (w3.heap.size + 1) 32 #[.int .i64 0, .int .i64 0] := by
      have h := heap_alloc_new (w3.alloc (.cells #[.int .i64 (l.length : Int), .slice Ra RL.length qa, .slice Sa SG.length ta] 77)) (.cells #[.int .i64 0, .int .i64 0] 32)
      rwa [World.size_alloc] at h
    have lC4 : w3.heap.size + 1 < ((w3.alloc (.cells #[.int .i64 (l.length : Int), .slice Ra RL.length qa, .slice Sa SG.length ta] 77)).alloc (.cells #[.int .i64 0, .int .i64 0] 32)).heap.size := by simp
    have hb4_0 := (hb3_0.alloc (.cells #[.int .i64 (l.length : Int), .slice Ra RL.length qa, .slice Sa SG.length ta] 77)).alloc (.cells #[.int .i64 0, .int .i64 0] 32)
    have lt4_0 : gW < ((w3.alloc (.cells #[.int .i64 (l.length : Int), .slice Ra RL.length qa, .slice Sa SG.length ta] 77)).alloc (.cells #[.int .i64 0, .int .i64 0] 32)).heap.size := by simp; omega
    have hd4_0 := SlAt.alloc (SlAt.alloc hra (.cells #[.int .i64 (l.length : Int), .slice Ra RL.length qa, .slice Sa SG.length ta] 77)) (.cells #[.int .i64 0, .int .i64 0] 32)
    have hd4_1 := (hsa.alloc (.cells #[.int .i64 (l.length : Int), .slice Ra RL.length qa, .slice Sa SG.length ta] 77)).alloc (.cells #[.int .i64 0, .int .i64 0] 32)
    clear hz3 hb3_0 lt3_0 hra hsa
    go_wp2_with fail
    generalize (w3.alloc _).alloc _ = w4 at *
    generalize w3.heap.size = g4 at *
    refine (rexport_fine w4 _ _ l (hlW.below hz4) hf).mono ?_
    rintro e w5 ⟨va2, vs2, rfl, ho, hg, hx5⟩
    have hz5 := hz4.trans (hx5.mono hz4.size)
    have hb5_0 := hb4_0.below hx5 lt4_0
    have lt5_0 : gW < w5.heap.size := by have := hx5.size; omega
    have hb5_1 := hB4.below hx5 lB4
    have lt5_1 : g4 < w5.heap.size := by have := hx5.size; omega
    have hb5_2 := hC4.below hx5 lC4
    have lt5_2 : (g4 + 1) < w5.heap.size := by have := hx5.size; omega
    have hd5_0 := SlAt.below hd4_0 hx5
    have hd5_1 := hd4_1.below hx5
    clear hz4 hb4_0 lt4_0 hB4 lB4 hC4 lC4 hd4_0 hd4_1 hx5
    rw [HRL.out] at ho
    rw [HSG.out] at hg
    have hrb := (OwnB.bytes ho).weak (F' := fun _ => True) (fun _ _ _ => trivial)
    obtain ⟨Rb, qb, hqb⟩ := Bytes.form hrb
    subst hqb
    have hsb := hg.rd.top
    obtain ⟨Sb, tb, hqb, _⟩ := hsb.form
    subst hqb
    clear ho hg
    have hge6 : W.heap.size ≤ w5.heap.size := hz5.size
    have hord6_0 : gW < w5.heap.size := lt5_0
    have hord6_1 : g4 < w5.heap.size := lt5_1
    have hord6_2 : (g4 + 1) < w5.heap.size := lt5_2
    have hz6 := (hz5.alloc hz5.size (.cells #[.int .i64 (l.length : Int), .slice Rb RL.length qb, .slice Sb SG.length tb] 77)).alloc (by simp; have := hz5.size; omega) (.cells #[.int .i64 0, .int .i64 0] 32)
    have hB6 : Blk ((w5.alloc (.cells #[.int .i64 (l.length : Int), .slice Rb RL.length qb, .slice Sb SG.length tb] 77)).alloc (.cells #[.int .i64 0, .int .i64 0] 32)) w5.heap.size 77 #[.int .i64 (l.length : Int), .slice Rb RL.length qb, .slice Sb SG.length tb] := Blk.alloc (heap_alloc_new w5 _) _
    have lB6 : w5.heap.size < ((w5.alloc (.cells #[.int .i64 (l.length : Int), .slice Rb RL.length qb, .slice Sb SG.length tb] 77)).alloc (.cells #[.int .i64 0, .int .i64 0] 32)).heap.size := by simp; omega
    have hC6 : Blk ((w5.alloc (.cells #[.int .i64 (l.length : Int), .slice Rb RL.length qb, .slice Sb SG.length tb] 77)).alloc (.cells #[.int .i64 0, .int .i64 0] 32)) (w5.heap.size + 1) 32 #[.int .i64 0, .int .i64 0] := by
      have h := heap_alloc_new (w5.alloc (.cells #[.int .i64 (l.length : Int), .slice Rb RL.length qb, .slice Sb SG.length tb] 77)) (.cells #[.int .i64 0, .int .i64 0] 32)
      rwa [World.size_alloc] at h
    have lC6 : w5.heap.size + 1 < ((w5.alloc (.cells #[.int .i64 (l.length : Int), .slice Rb RL.length qb, .slice Sb SG.length tb] 77)).alloc (.cells #[.int .i64 0, .int .i64 0] 32)).heap.size := by simp
    have hb6_0 := (hb5_0.alloc (.cells #[.int .i64 (l.length : Int), .slice Rb RL.length qb, .slice Sb SG.length tb] 77)).alloc (.cells #[.int .i64 0, .int .i64 0] 32)
    have lt6_0 : gW < ((w5.alloc (.cells #[.int .i64 (l.length : Int), .slice Rb RL.length qb, .slice Sb SG.length tb] 77)).alloc (.cells #[.int .i64 0, .int .i64 0] 32)).heap.size := by simp; omega
    have hb6_1 := (hb5_1.alloc (.cells #[.int .i64 (l.length : Int), .slice Rb RL.length qb, .slice Sb SG.length tb] 77)).alloc (.cells #[.int .i64 0, .int .i64 0] 32)
    have lt6_1 : g4 < ((w5.alloc (.cells #[.int .i64 (l.length : Int), .slice Rb RL.length qb, .slice Sb SG.length tb] 77)).alloc (.cells #[.int .i64 0, .int .i64 0] 32)).heap.size := by simp; omega
    have hb6_2 := (hb5_2.alloc (.cells #[.int .i64 (l.length : Int), .slice Rb RL.length qb, .slice Sb SG.length tb] 77)).alloc (.cells #[.int .i64 0, .int .i64 0] 32)
    have lt6_2 : (g4 + 1) < ((w5.alloc (.cells #[.int .i64 (l.length : Int), .slice Rb RL.length qb, .slice Sb SG.length tb] 77)).alloc (.cells #[.int .i64 0, .int .i64 0] 32)).heap.size := by simp; omega
    have hd6_0 := SlAt.alloc (SlAt.alloc hd5_0 (.cells #[.int .i64 (l.length : Int), .slice Rb RL.length qb, .slice Sb SG.length tb] 77)) (.cells #[.int .i64 0, .int .i64 0] 32)
    have hd6_1 := (hd5_1.alloc (.cells #[.int .i64 (l.length : Int), .slice Rb RL.length qb, .slice Sb SG.length tb] 77)).alloc (.cells #[.int .i64 0, .int .i64 0] 32)
    have hd6_2 := SlAt.alloc (SlAt.alloc hrb (.cells #[.int .i64 (l.length : Int), .slice Rb RL.length qb, .slice Sb SG.length tb] 77)) (.cells #[.int .i64 0, .int .i64 0] 32)
    have hd6_3 := (hsb.alloc (.cells #[.int .i64 (l.length : Int), .slice Rb RL.length qb, .slice Sb SG.length tb] 77)).alloc (.cells #[.int .i64 0, .int .i64 0] 32)
    clear hz5 hb5_0 lt5_0 hb5_1 lt5_1 hb5_2 lt5_2 hd5_0 hd5_1 hrb hsb
    go_upto_region 3 with (fail)
    generalize (w5.alloc _).alloc _ = w6 at *
    generalize w5.heap.size = g6 at *
    have c0_0 : w6.cell? ⟨gW, 0, none⟩ = some (.int .i64 size) := hb6_0.cell 0
    have c0_1 : w6.cell? ⟨gW, 1, none⟩ = some (.slice Ar root.length cr) := hb6_0.cell 1
    have c0_2 : w6.cell? ⟨gW, 2, none⟩ = some (.slice As segs.length cs') := hb6_0.cell 2
    have c1_0 : w6.cell? ⟨g4, 0, none⟩ = some (.int .i64 (l.length : Int)) := hb6_1.cell 0
    have c1_1 : w6.cell? ⟨g4, 1, none⟩ = some (.slice Ra RL.length qa) := hb6_1.cell 1
    have c1_2 : w6.cell? ⟨g4, 2, none⟩ = some (.slice Sa SG.length ta) := hb6_1.cell 2
    have c2_0 : w6.cell? ⟨(g4 + 1), 0, none⟩ = some (.int .i64 0) := hb6_2.cell 0
    have c2_1 : w6.cell? ⟨(g4 + 1), 1, none⟩ = some (.int .i64 0) := hb6_2.cell 1
    have c3_0 : w6.cell? ⟨g6, 0, none⟩ = some (.int .i64 (l.length : Int)) := hB6.cell 0
    have c3_1 : w6.cell? ⟨g6, 1, none⟩ = some (.slice Rb RL.length qb) := hB6.cell 1
    have c3_2 : w6.cell? ⟨g6, 2, none⟩ = some (.slice Sb SG.length tb) := hB6.cell 2
    have c4_0 : w6.cell? ⟨(g6 + 1), 0, none⟩ = some (.int .i64 0) := hC6.cell 0
    have c4_1 : w6.cell? ⟨(g6 + 1), 1, none⟩ = some (.int .i64 0) := hC6.cell 1
    go_wp2_with fail
    clear c0_0 c0_1 c0_2 c1_0 c1_1 c1_2 c2_0 c2_1 c3_0 c3_1 c3_2 c4_0 c4_1
    refine (sameMan_yes w6 _ _ (l.length : Int) _ _ _ _ RL SG hd6_0 hd6_2 hd6_1 hd6_3).mono ?_
    rintro e w7 ⟨rfl, hx7⟩
    have hz7 := hz6.trans (hx7.mono hz6.size)
    have hb7_0 := hb6_0.below hx7 lt6_0
    have lt7_0 : gW < w7.heap.size := by have := hx7.size; omega
    have hb7_1 := hb6_1.below hx7 lt6_1
    have lt7_1 : g4 < w7.heap.size := by have := hx7.size; omega
    have hb7_2 := hb6_2.below hx7 lt6_2
    have lt7_2 : (g4 + 1) < w7.heap.size := by have := hx7.size; omega
    have hb7_3 := hB6.below hx7 lB6
    have lt7_3 : g6 < w7.heap.size := by have := hx7.size; omega
    have hb7_4 := hC6.below hx7 lC6
    have lt7_4 : (g6 + 1) < w7.heap.size := by have := hx7.size; omega
    have hd7_0 := SlAt.below hd6_0 hx7
    have hd7_1 := hd6_1.below hx7
    have hd7_2 := SlAt.below hd6_2 hx7
    have hd7_3 := hd6_3.below hx7
    clear hz6 hb6_0 lt6_0 hb6_1 lt6_1 hb6_2 lt6_2 hB6 lB6 hC6 lC6 hd6_0 hd6_1 hd6_2 hd6_3 hx7
    clear hd7_0 hd7_1 hd7_2 hd7_3
    clear HG hb7_1 lt7_1 hb7_3 lt7_3
    have c0_0 : w7.cell? ⟨gW, 0, none⟩ = some (.int .i64 size) := hb7_0.cell 0
    have c0_1 : w7.cell? ⟨gW, 1, none⟩ = some (.slice Ar root.length cr) := hb7_0.cell 1
    have c0_2 : w7.cell? ⟨gW, 2, none⟩ = some (.slice As segs.length cs') := hb7_0.cell 2
    have c1_0 : w7.cell? ⟨(g4 + 1), 0, none⟩ = some (.int .i64 0) := hb7_2.cell 0
    have c1_1 : w7.cell? ⟨(g4 + 1), 1, none⟩ = some (.int .i64 0) := hb7_2.cell 1
    have c2_0 : w7.cell? ⟨(g6 + 1), 0, none⟩ = some (.int .i64 0) := hb7_4.cell 0
    have c2_1 : w7.cell? ⟨(g6 + 1), 1, none⟩ = some (.int .i64 0) := hb7_4.cell 1
    go_wp2_with fail
    refine (HSA.out w7 hz7).mono ?_
    rintro e w8 ⟨A1, c1, rfl, hp1, hx8⟩
    have hz8 := hz7.trans (hx8.mono hz7.size)
    have hb8_0 := hb7_0.below hx8 lt7_0
    have lt8_0 : gW < w8.heap.size := by have := hx8.size; omega
    have hb8_1 := hb7_2.below hx8 lt7_2
    have lt8_1 : (g4 + 1) < w8.heap.size := by have := hx8.size; omega
    have hb8_2 := hb7_4.below hx8 lt7_4
    have lt8_2 : (g6 + 1) < w8.heap.size := by have := hx8.size; omega
    clear hz7 hb7_0 lt7_0 hb7_2 lt7_2 hb7_4 lt7_4 hx8
    clear c0_0 c0_1 c0_2 c1_0 c1_1 c2_0 c2_1
    have c0_0 : w8.cell? ⟨gW, 0, none⟩ = some (.int .i64 size) := hb8_0.cell 0
    have c0_1 : w8.cell? ⟨gW, 1, none⟩ = some (.slice Ar root.length cr) := hb8_0.cell 1
    have c0_2 : w8.cell? ⟨gW, 2, none⟩ = some (.slice As segs.length cs') := hb8_0.cell 2
    have c1_0 : w8.cell? ⟨(g4 + 1), 0, none⟩ = some (.int .i64 0) := hb8_1.cell 0
    have c1_1 : w8.cell? ⟨(g4 + 1), 1, none⟩ = some (.int .i64 0) := hb8_1.cell 1
    have c2_0 : w8.cell? ⟨(g6 + 1), 0, none⟩ = some (.int .i64 0) := hb8_2.cell 0
    have c2_1 : w8.cell? ⟨(g6 + 1), 1, none⟩ = some (.int .i64 0) := hb8_2.cell 1
    go_wp2_with fail
    refine (HSB.out w8 hz8).mono ?_
    rintro e w9 ⟨A2, c2, rfl, hp2, hx9⟩
    have hz9 := hz8.trans (hx9.mono hz8.size)
    have hb9_0 := hb8_0.below hx9 lt8_0
    have lt9_0 : gW < w9.heap.size := by have := hx9.size; omega
    have hb9_1 := hb8_1.below hx9 lt8_1
    have lt9_1 : (g4 + 1) < w9.heap.size := by have := hx9.size; omega
    have hb9_2 := hb8_2.below hx9 lt8_2
    have lt9_2 : (g6 + 1) < w9.heap.size := by have := hx9.size; omega
    have hd9_0 := hp1.below hx9
    clear hz8 hb8_0 lt8_0 hb8_1 lt8_1 hb8_2 lt8_2 hp1 hx9
    clear c0_0 c0_1 c0_2 c1_0 c1_1 c2_0 c2_1
    have c0_0 : w9.cell? ⟨gW, 0, none⟩ = some (.int .i64 size) := hb9_0.cell 0
    have c0_1 : w9.cell? ⟨gW, 1, none⟩ = some (.slice Ar root.length cr) := hb9_0.cell 1
    have c0_2 : w9.cell? ⟨gW, 2, none⟩ = some (.slice As segs.length cs') := hb9_0.cell 2
    have c1_0 : w9.cell? ⟨(g4 + 1), 0, none⟩ = some (.int .i64 0) := hb9_1.cell 0
    have c1_1 : w9.cell? ⟨(g4 + 1), 1, none⟩ = some (.int .i64 0) := hb9_1.cell 1
    have c2_0 : w9.cell? ⟨(g6 + 1), 0, none⟩ = some (.int .i64 0) := hb9_2.cell 0
    have c2_1 : w9.cell? ⟨(g6 + 1), 1, none⟩ = some (.int .i64 0) := hb9_2.cell 1
    go_wp2_with fail
    clear c0_0 c0_1 c0_2 c1_0 c1_1 c2_0 c2_1
    refine (same2_yes w9 _ _ _ _ sl hd9_0 hp2).mono ?_
    rintro e w_ ⟨rfl, n10, rfl⟩
    have hx10 := below_drewN (Below.refl w9.heap.size w9) n10
    have hz10 := below_drewN hz9 n10
    have hb10_0 := hb9_0.drewN n10
    have lt10_0 : gW < (w9.drewN n10).heap.size := lt9_0
    have hb10_1 := hb9_1.drewN n10
    have lt10_1 : (g4 + 1) < (w9.drewN n10).heap.size := lt9_1
    have hb10_2 := hb9_2.drewN n10
    have lt10_2 : (g6 + 1) < (w9.drewN n10).heap.size := lt9_2
    have hd10_0 := hd9_0.below hx10
    have hd10_1 := hp2.below hx10
    clear hz9 hb9_0 lt9_0 hb9_1 lt9_1 hb9_2 lt9_2 hd9_0 hp2 hx10
    generalize w9.drewN n10 = w10 at *
    clear hd10_0 hd10_1
    have c0_0 : w10.cell? ⟨gW, 0, none⟩ = some (.int .i64 size) := hb10_0.cell 0
    have c0_1 : w10.cell? ⟨gW, 1, none⟩ = some (.slice Ar root.length cr) := hb10_0.cell 1
    have c0_2 : w10.cell? ⟨gW, 2, none⟩ = some (.slice As segs.length cs') := hb10_0.cell 2
    have c1_0 : w10.cell? ⟨(g4 + 1), 0, none⟩ = some (.int .i64 0) := hb10_1.cell 0
    have c1_1 : w10.cell? ⟨(g4 + 1), 1, none⟩ = some (.int .i64 0) := hb10_1.cell 1
    have c2_0 : w10.cell? ⟨(g6 + 1), 0, none⟩ = some (.int .i64 0) := hb10_2.cell 0
    have c2_1 : w10.cell? ⟨(g6 + 1), 1, none⟩ = some (.int .i64 0) := hb10_2.cell 1
    go_wp2_with fail
    refine (HEA.out w10 hz10).mono ?_
    rintro e w11 ⟨A3, c3, rfl, hp3, hx11⟩
    have hz11 := hz10.trans (hx11.mono hz10.size)
    have hb11_0 := hb10_0.below hx11 lt10_0
    have lt11_0 : gW < w11.heap.size := by have := hx11.size; omega
    have hb11_1 := hb10_1.below hx11 lt10_1
    have lt11_1 : (g4 + 1) < w11.heap.size := by have := hx11.size; omega
    have hb11_2 := hb10_2.below hx11 lt10_2
    have lt11_2 : (g6 + 1) < w11.heap.size := by have := hx11.size; omega
    clear hz10 hb10_0 lt10_0 hb10_1 lt10_1 hb10_2 lt10_2 hx11
    clear c0_0 c0_1 c0_2 c1_0 c1_1 c2_0 c2_1
    have c0_0 : w11.cell? ⟨gW, 0, none⟩ = some (.int .i64 size) := hb11_0.cell 0
    have c0_1 : w11.cell? ⟨gW, 1, none⟩ = some (.slice Ar root.length cr) := hb11_0.cell 1
    have c0_2 : w11.cell? ⟨gW, 2, none⟩ = some (.slice As segs.length cs') := hb11_0.cell 2
    have c1_0 : w11.cell? ⟨(g4 + 1), 0, none⟩ = some (.int .i64 0) := hb11_1.cell 0
    have c1_1 : w11.cell? ⟨(g4 + 1), 1, none⟩ = some (.int .i64 0) := hb11_1.cell 1
    have c2_0 : w11.cell? ⟨(g6 + 1), 0, none⟩ = some (.int .i64 0) := hb11_2.cell 0
    have c2_1 : w11.cell? ⟨(g6 + 1), 1, none⟩ = some (.int .i64 0) := hb11_2.cell 1
    go_wp2_with fail
    refine (HEB.out w11 hz11).mono ?_
    rintro e w12 ⟨A4, c4, rfl, hp4, hx12⟩
    have hz12 := hz11.trans (hx12.mono hz11.size)
    have hb12_0 := hb11_0.below hx12 lt11_0
    have lt12_0 : gW < w12.heap.size := by have := hx12.size; omega
    have hb12_1 := hb11_1.below hx12 lt11_1
    have lt12_1 : (g4 + 1) < w12.heap.size := by have := hx12.size; omega
    have hb12_2 := hb11_2.below hx12 lt11_2
    have lt12_2 : (g6 + 1) < w12.heap.size := by have := hx12.size; omega
    have hd12_0 := SlAt.below hp3 hx12
    clear hz11 hb11_0 lt11_0 hb11_1 lt11_1 hb11_2 lt11_2 hp3 hx12
    clear c0_0 c0_1 c0_2 c1_0 c1_1 c2_0 c2_1
    have c0_0 : w12.cell? ⟨gW, 0, none⟩ = some (.int .i64 size) := hb12_0.cell 0
    have c0_1 : w12.cell? ⟨gW, 1, none⟩ = some (.slice Ar root.length cr) := hb12_0.cell 1
    have c0_2 : w12.cell? ⟨gW, 2, none⟩ = some (.slice As segs.length cs') := hb12_0.cell 2
    have c1_0 : w12.cell? ⟨(g4 + 1), 0, none⟩ = some (.int .i64 0) := hb12_1.cell 0
    have c1_1 : w12.cell? ⟨(g4 + 1), 1, none⟩ = some (.int .i64 0) := hb12_1.cell 1
    have c2_0 : w12.cell? ⟨(g6 + 1), 0, none⟩ = some (.int .i64 0) := hb12_2.cell 0
    have c2_1 : w12.cell? ⟨(g6 + 1), 1, none⟩ = some (.int .i64 0) := hb12_2.cell 1
    go_wp2_with fail
    clear c0_0 c0_1 c0_2 c1_0 c1_1 c2_0 c2_1
    refine (same_any w12 _ _ _ _ el el hd12_0 hp4).mono ?_
    rintro e w_ ⟨rfl, n13, rfl⟩
    rw [show (el == el) = true by simp]
    have hx13 := below_drewN (Below.refl w12.heap.size w12) n13
    have hz13 := below_drewN hz12 n13
    have hb13_0 := hb12_0.drewN n13
    have lt13_0 : gW < (w12.drewN n13).heap.size := lt12_0
    have hb13_1 := hb12_1.drewN n13
    have lt13_1 : (g4 + 1) < (w12.drewN n13).heap.size := lt12_1
    have hb13_2 := hb12_2.drewN n13
    have lt13_2 : (g6 + 1) < (w12.drewN n13).heap.size := lt12_2
    have hd13_0 := SlAt.below hd12_0 hx13
    have hd13_1 := SlAt.below hp4 hx13
    clear hz12 hb12_0 lt12_0 hb12_1 lt12_1 hb12_2 lt12_2 hd12_0 hp4 hx13
    generalize w12.drewN n13 = w13 at *
    clear hd13_0 hd13_1
    have c0_0 : w13.cell? ⟨gW, 0, none⟩ = some (.int .i64 size) := hb13_0.cell 0
    have c0_1 : w13.cell? ⟨gW, 1, none⟩ = some (.slice Ar root.length cr) := hb13_0.cell 1
    have c0_2 : w13.cell? ⟨gW, 2, none⟩ = some (.slice As segs.length cs') := hb13_0.cell 2
    have c1_0 : w13.cell? ⟨(g4 + 1), 0, none⟩ = some (.int .i64 0) := hb13_1.cell 0
    have c1_1 : w13.cell? ⟨(g4 + 1), 1, none⟩ = some (.int .i64 0) := hb13_1.cell 1
    have c2_0 : w13.cell? ⟨(g6 + 1), 0, none⟩ = some (.int .i64 0) := hb13_2.cell 0
    have c2_1 : w13.cell? ⟨(g6 + 1), 1, none⟩ = some (.int .i64 0) := hb13_2.cell 1
    go_wp2_with fail
    obtain ⟨B1, hB1⟩ : ∃ n, n = w13.heap.size := ⟨_, rfl⟩
    have hgl1 : (g4 + 1) < B1 := by rw [hB1]; exact lt13_1
    have hgl2 : (g6 + 1) < B1 := by rw [hB1]; exact lt13_2
    have hbb := HVA.out w13 hz13
    rw [← hB1] at hbb
    have hle1 : B1 ≤ w13.heap.size := by rw [hB1]; exact Nat.le_refl _
    clear hB1
    refine ((HVA.out w13 hz13)).mono ?_
    rintro e w14 ⟨A5, c5, rfl, hp5, hx14⟩
    have hz14 := hz13.trans (hx14.mono hz13.size)
    have hb14_0 := hb13_0.below hx14 lt13_0
    have lt14_0 : gW < w14.heap.size := by have := hx14.size; omega
    have hb14_1 := hb13_1.below hx14 lt13_1
    have lt14_1 : (g4 + 1) < w14.heap.size := by have := hx14.size; omega
    have hb14_2 := hb13_2.below hx14 lt13_2
    have lt14_2 : (g6 + 1) < w14.heap.size := by have := hx14.size; omega
    clear hz13 hb13_0 lt13_0 hb13_1 lt13_1 hb13_2 lt13_2 hx14
    clear c0_0 c0_1 c0_2 c1_0 c1_1 c2_0 c2_1 hbb
    replace hp5 := hp5.weak (F' := fun k => B1 ≤ k) (fun _ _ hk => Nat.le_trans hle1 hk)
    clear hle1
    have c0_0 : w14.cell? ⟨gW, 0, none⟩ = some (.int .i64 size) := hb14_0.cell 0
    have c0_1 : w14.cell? ⟨gW, 1, none⟩ = some (.slice Ar root.length cr) := hb14_0.cell 1
    have c0_2 : w14.cell? ⟨gW, 2, none⟩ = some (.slice As segs.length cs') := hb14_0.cell 2
    have c1_0 : w14.cell? ⟨(g4 + 1), 0, none⟩ = some (.int .i64 0) := hb14_1.cell 0
    have c1_1 : w14.cell? ⟨(g4 + 1), 1, none⟩ = some (.int .i64 0) := hb14_1.cell 1
    have c2_0 : w14.cell? ⟨(g6 + 1), 0, none⟩ = some (.int .i64 0) := hb14_2.cell 0
    have c2_1 : w14.cell? ⟨(g6 + 1), 1, none⟩ = some (.int .i64 0) := hb14_2.cell 1
    have hfz := hb14_1.frozen 0
    have hfz1 := hb14_1.frozen 1
    go_upto_region 14 with (fail)
    clear c0_0 c0_1 c0_2 c1_0 c1_1 c2_0 c2_1 hfz hfz1
    have hz15 := below_set2 (g := (g4 + 1)) hz14 (by omega) (.int .i64 (va : Int)) (.int .i64 (vb : Int))
    have hb15_0 := hb14_0.far2 (g := (g4 + 1)) (by omega) (.int .i64 (va : Int)) (.int .i64 (vb : Int))
    have lt15_0 : gW < ((w14.setCell ⟨(g4 + 1), 0, none⟩ (.int .i64 (va : Int))).setCell ⟨(g4 + 1), 1, none⟩ (.int .i64 (vb : Int))).heap.size := by simpa using lt14_0
    have hb15_1 := hb14_1.set2 (.int .i64 (va : Int)) (.int .i64 (vb : Int))
    have lt15_1 : (g4 + 1) < ((w14.setCell ⟨(g4 + 1), 0, none⟩ (.int .i64 (va : Int))).setCell ⟨(g4 + 1), 1, none⟩ (.int .i64 (vb : Int))).heap.size := by simpa using lt14_1
    have hb15_2 := hb14_2.far2 (g := (g4 + 1)) (by omega) (.int .i64 (va : Int)) (.int .i64 (vb : Int))
    have lt15_2 : (g6 + 1) < ((w14.setCell ⟨(g4 + 1), 0, none⟩ (.int .i64 (va : Int))).setCell ⟨(g4 + 1), 1, none⟩ (.int .i64 (vb : Int))).heap.size := by simpa using lt14_2
    have hd15_0 := BList.setCell (p := ⟨(g4 + 1), 1, none⟩) (BList.setCell (p := ⟨(g4 + 1), 0, none⟩) hp5 (by show ¬ (_ ≤ (g4 + 1)); omega) (.int .i64 (va : Int))) (by show ¬ (_ ≤ (g4 + 1)); omega) (.int .i64 (vb : Int))
    clear hz14 hb14_0 lt14_0 hb14_1 lt14_1 hb14_2 lt14_2 hp5
    generalize ((w14.setCell ⟨(g4 + 1), 0, none⟩ (.int .i64 (va : Int))).setCell ⟨(g4 + 1), 1, none⟩ (.int .i64 (vb : Int))) = w15 at *
    have c0_0 : w15.cell? ⟨gW, 0, none⟩ = some (.int .i64 size) := hb15_0.cell 0
    have c0_1 : w15.cell? ⟨gW, 1, none⟩ = some (.slice Ar root.length cr) := hb15_0.cell 1
    have c0_2 : w15.cell? ⟨gW, 2, none⟩ = some (.slice As segs.length cs') := hb15_0.cell 2
    have c1_0 : w15.cell? ⟨(g4 + 1), 0, none⟩ = some (.int .i64 (va : Int)) := hb15_1.cell 0
    have c1_1 : w15.cell? ⟨(g4 + 1), 1, none⟩ = some (.int .i64 (vb : Int)) := hb15_1.cell 1
    have c2_0 : w15.cell? ⟨(g6 + 1), 0, none⟩ = some (.int .i64 0) := hb15_2.cell 0
    have c2_1 : w15.cell? ⟨(g6 + 1), 1, none⟩ = some (.int .i64 0) := hb15_2.cell 1
    go_wp2_with fail
    obtain ⟨B2, hB2⟩ : ∃ n, n = w15.heap.size := ⟨_, rfl⟩
    have hgl2_ : (g6 + 1) < B2 := by rw [hB2]; exact lt15_2
    have hle2 : B2 ≤ w15.heap.size := by rw [hB2]; exact Nat.le_refl _
    clear hB2
    refine ((HVB.out w15 hz15)).mono ?_
    rintro e w16 ⟨A6, c6, rfl, hp6, hx16⟩
    have hz16 := hz15.trans (hx16.mono hz15.size)
    have hb16_0 := hb15_0.below hx16 lt15_0
    have lt16_0 : gW < w16.heap.size := by have := hx16.size; omega
    have hb16_1 := hb15_1.below hx16 lt15_1
    have lt16_1 : (g4 + 1) < w16.heap.size := by have := hx16.size; omega
    have hb16_2 := hb15_2.below hx16 lt15_2
    have lt16_2 : (g6 + 1) < w16.heap.size := by have := hx16.size; omega
    have hd16_0 := hd15_0.below hx16
    clear hz15 hb15_0 lt15_0 hb15_1 lt15_1 hb15_2 lt15_2 hd15_0 hx16
    clear c0_0 c0_1 c0_2 c1_0 c1_1 c2_0 c2_1
    replace hp6 := hp6.weak (F' := fun k => B2 ≤ k) (fun _ _ hk => Nat.le_trans hle2 hk)
    clear hle2
    have c0_0 : w16.cell? ⟨gW, 0, none⟩ = some (.int .i64 size) := hb16_0.cell 0
    have c0_1 : w16.cell? ⟨gW, 1, none⟩ = some (.slice Ar root.length cr) := hb16_0.cell 1
    have c0_2 : w16.cell? ⟨gW, 2, none⟩ = some (.slice As segs.length cs') := hb16_0.cell 2
    have c1_0 : w16.cell? ⟨(g4 + 1), 0, none⟩ = some (.int .i64 (va : Int)) := hb16_1.cell 0
    have c1_1 : w16.cell? ⟨(g4 + 1), 1, none⟩ = some (.int .i64 (vb : Int)) := hb16_1.cell 1
    have c2_0 : w16.cell? ⟨(g6 + 1), 0, none⟩ = some (.int .i64 0) := hb16_2.cell 0
    have c2_1 : w16.cell? ⟨(g6 + 1), 1, none⟩ = some (.int .i64 0) := hb16_2.cell 1
    have hfz := hb16_2.frozen 0
    have hfz1 := hb16_2.frozen 1
    go_upto_region 15 with (fail)
    clear c0_0 c0_1 c0_2 c1_0 c1_1 c2_0 c2_1 hfz hfz1
    have hz17 := below_set2 (g := (g6 + 1)) hz16 (by omega) (.int .i64 (va : Int)) (.int .i64 (vb : Int))
    have hb17_0 := hb16_0.far2 (g := (g6 + 1)) (by omega) (.int .i64 (va : Int)) (.int .i64 (vb : Int))
    have lt17_0 : gW < ((w16.setCell ⟨(g6 + 1), 0, none⟩ (.int .i64 (va : Int))).setCell ⟨(g6 + 1), 1, none⟩ (.int .i64 (vb : Int))).heap.size := by simpa using lt16_0
    have hb17_1 := hb16_1.far2 (g := (g6 + 1)) (by omega) (.int .i64 (va : Int)) (.int .i64 (vb : Int))
    have lt17_1 : (g4 + 1) < ((w16.setCell ⟨(g6 + 1), 0, none⟩ (.int .i64 (va : Int))).setCell ⟨(g6 + 1), 1, none⟩ (.int .i64 (vb : Int))).heap.size := by simpa using lt16_1
    have hb17_2 := hb16_2.set2 (.int .i64 (va : Int)) (.int .i64 (vb : Int))
    have lt17_2 : (g6 + 1) < ((w16.setCell ⟨(g6 + 1), 0, none⟩ (.int .i64 (va : Int))).setCell ⟨(g6 + 1), 1, none⟩ (.int .i64 (vb : Int))).heap.size := by simpa using lt16_2
    have hd17_0 := BList.setCell (p := ⟨(g6 + 1), 1, none⟩) (BList.setCell (p := ⟨(g6 + 1), 0, none⟩) hd16_0 (by show ¬ (_ ≤ (g6 + 1)); omega) (.int .i64 (va : Int))) (by show ¬ (_ ≤ (g6 + 1)); omega) (.int .i64 (vb : Int))
    have hd17_1 := BList.setCell (p := ⟨(g6 + 1), 1, none⟩) (BList.setCell (p := ⟨(g6 + 1), 0, none⟩) hp6 (by show ¬ (_ ≤ (g6 + 1)); omega) (.int .i64 (va : Int))) (by show ¬ (_ ≤ (g6 + 1)); omega) (.int .i64 (vb : Int))
    clear hz16 hb16_0 lt16_0 hb16_1 lt16_1 hb16_2 lt16_2 hd16_0 hp6
    generalize ((w16.setCell ⟨(g6 + 1), 0, none⟩ (.int .i64 (va : Int))).setCell ⟨(g6 + 1), 1, none⟩ (.int .i64 (vb : Int))) = w17 at *
    have c0_0 : w17.cell? ⟨gW, 0, none⟩ = some (.int .i64 size) := hb17_0.cell 0
    have c0_1 : w17.cell? ⟨gW, 1, none⟩ = some (.slice Ar root.length cr) := hb17_0.cell 1
    have c0_2 : w17.cell? ⟨gW, 2, none⟩ = some (.slice As segs.length cs') := hb17_0.cell 2
    have c1_0 : w17.cell? ⟨(g4 + 1), 0, none⟩ = some (.int .i64 (va : Int)) := hb17_1.cell 0
    have c1_1 : w17.cell? ⟨(g4 + 1), 1, none⟩ = some (.int .i64 (vb : Int)) := hb17_1.cell 1
    have c2_0 : w17.cell? ⟨(g6 + 1), 0, none⟩ = some (.int .i64 (va : Int)) := hb17_2.cell 0
    have c2_1 : w17.cell? ⟨(g6 + 1), 1, none⟩ = some (.int .i64 (vb : Int)) := hb17_2.cell 1
    go_wp2_with fail
    clear c0_0 c0_1 c0_2 c1_0 c1_1 c2_0 c2_1
    refine (same2_yes w17 _ _ _ _ vl hd17_0 hd17_1).mono ?_
    rintro e w_ ⟨rfl, n18, rfl⟩
    have hx18 := below_drewN (Below.refl w17.heap.size w17) n18
    have hz18 := below_drewN hz17 n18
    have hb18_0 := hb17_0.drewN n18
    have lt18_0 : gW < (w17.drewN n18).heap.size := lt17_0
    have hb18_1 := hb17_1.drewN n18
    have lt18_1 : (g4 + 1) < (w17.drewN n18).heap.size := lt17_1
    have hb18_2 := hb17_2.drewN n18
    have lt18_2 : (g6 + 1) < (w17.drewN n18).heap.size := lt17_2
    have hd18_0 := hd17_0.below hx18
    have hd18_1 := hd17_1.below hx18
    clear hz17 hb17_0 lt17_0 hb17_1 lt17_1 hb17_2 lt17_2 hd17_0 hd17_1 hx18
    generalize w17.drewN n18 = w18 at *
    clear hd18_0 hd18_1
    go_wp2_with fail
    go_ret
    exact ⟨rfl, hx0.trans (hz18.mono hx0.size)⟩
  · as_aux_lemma =>
    obtain ⟨fa, fb, hfv⟩ : ∃ fa fb : Nat, wrongS l = (fa, fb) := ⟨_, _, rfl⟩
    have HFV := Lib.hid hfv
    clear hfv
    have c0_0 : W.cell? ⟨gW, 0, none⟩ = some (.int .i64 size) := hk0.cell 0
    have c0_1 : W.cell? ⟨gW, 1, none⟩ = some (.slice Ar root.length cr) := hk0.cell 1
    have c0_2 : W.cell? ⟨gW, 2, none⟩ = some (.slice As segs.length cs') := hk0.cell 2
    go_wp2_with fail
    refine (export_bad W _ _ l hlW hf).mono ?_
    rintro e w3 ⟨a0, b0, rfl, hab0, hne0, hx3⟩
    have hz3 := hz0.trans (hx3.mono hz0.size)
    have hb3_0 := hk0.below hx3 lt0
    have lt3_0 : gW < w3.heap.size := by have := hx3.size; omega
    clear hz0 hk0 lt0 hx3
    clear c0_0 c0_1 c0_2
    obtain ⟨e1_, e2_⟩ : a0 = fa ∧ b0 = fb := by have h2 := hab0.symm.trans HFV.out; injection h2 with h3 h4; exact ⟨h3, h4⟩
    rw [e1_] at hne0
    rw [e1_, e2_]
    clear e1_ e2_ hab0 hne0
    have hge4 : W.heap.size ≤ w3.heap.size := hz3.size
    have hord4_0 : gW < w3.heap.size := lt3_0
    have hz4 := (hz3.alloc hz3.size (.cells #[.int .i64 0, .slice none 0 0, .slice none 0 0] 77)).alloc (by simp; have := hz3.size; omega) (.cells #[.int .i64 (fa : Int), .int .i64 (fb : Int)] 32)
    have hB4 : Blk ((w3.alloc (.cells #[.int .i64 0, .slice none 0 0, .slice none 0 0] 77)).alloc (.cells #[.int .i64 (fa : Int), .int .i64 (fb : Int)] 32)) w3.heap.size 77 #[.int .i64 0, .slice none 0 0, .slice none 0 0] := Blk.alloc (heap_alloc_new w3 _) _
    have lB4 : w3.heap.size < ((w3.alloc (.cells #[.int .i64 0, .slice none 0 0, .slice none 0 0] 77)).alloc (.cells #[.int .i64 (fa : Int), .int .i64 (fb : Int)] 32)).heap.size := by simp; omega
    have hC4 : Blk ((w3.alloc (.cells #[.int .i64 0, .slice none 0 0, .slice none 0 0] 77)).alloc (.cells #[.int .i64 (fa : Int), .int .i64 (fb : Int)] 32)) (w3.heap.size + 1) 32 #[.int .i64 (fa : Int), .int .i64 (fb : Int)] := by
      have h := heap_alloc_new (w3.alloc (.cells #[.int .i64 0, .slice none 0 0, .slice none 0 0] 77)) (.cells #[.int .i64 (fa : Int), .int .i64 (fb : Int)] 32)
      rwa [World.size_alloc] at h
    have lC4 : w3.heap.size + 1 < ((w3.alloc (.cells #[.int .i64 0, .slice none 0 0, .slice none 0 0] 77)).alloc (.cells #[.int .i64 (fa : Int), .int .i64 (fb : Int)] 32)).heap.size := by simp
    have hb4_0 := (hb3_0.alloc (.cells #[.int .i64 0, .slice none 0 0, .slice none 0 0] 77)).alloc (.cells #[.int .i64 (fa : Int), .int .i64 (fb : Int)] 32)
    have lt4_0 : gW < ((w3.alloc (.cells #[.int .i64 0, .slice none 0 0, .slice none 0 0] 77)).alloc (.cells #[.int .i64 (fa : Int), .int .i64 (fb : Int)] 32)).heap.size := by simp; omega
    clear hz3 hb3_0 lt3_0
    go_wp2_with fail
    generalize (w3.alloc _).alloc _ = w4 at *
    generalize w3.heap.size = g4 at *
    refine (rexport_bad w4 _ _ l (hlW.below hz4) hf).mono ?_
    rintro e w5 ⟨a1, b1, rfl, hab1, hne1, hx5⟩
    have hz5 := hz4.trans (hx5.mono hz4.size)
    have hb5_0 := hb4_0.below hx5 lt4_0
    have lt5_0 : gW < w5.heap.size := by have := hx5.size; omega
    have hb5_1 := hB4.below hx5 lB4
    have lt5_1 : g4 < w5.heap.size := by have := hx5.size; omega
    have hb5_2 := hC4.below hx5 lC4
    have lt5_2 : (g4 + 1) < w5.heap.size := by have := hx5.size; omega
    clear hz4 hb4_0 lt4_0 hB4 lB4 hC4 lC4 hx5
    obtain ⟨e1_, e2_⟩ : a1 = fa ∧ b1 = fb := by have h2 := hab1.symm.trans HFV.out; injection h2 with h3 h4; exact ⟨h3, h4⟩
    rw [e1_] at hne1
    rw [e1_, e2_]
    clear e1_ e2_ hab1 hne1
    have hge6 : W.heap.size ≤ w5.heap.size := hz5.size
    have hord6_0 : gW < w5.heap.size := lt5_0
    have hord6_1 : g4 < w5.heap.size := lt5_1
    have hord6_2 : (g4 + 1) < w5.heap.size := lt5_2
    have hz6 := (hz5.alloc hz5.size (.cells #[.int .i64 0, .slice none 0 0, .slice none 0 0] 77)).alloc (by simp; have := hz5.size; omega) (.cells #[.int .i64 (fa : Int), .int .i64 (fb : Int)] 32)
    have hB6 : Blk ((w5.alloc (.cells #[.int .i64 0, .slice none 0 0, .slice none 0 0] 77)).alloc (.cells #[.int .i64 (fa : Int), .int .i64 (fb : Int)] 32)) w5.heap.size 77 #[.int .i64 0, .slice none 0 0, .slice none 0 0] := Blk.alloc (heap_alloc_new w5 _) _
    have lB6 : w5.heap.size < ((w5.alloc (.cells #[.int .i64 0, .slice none 0 0, .slice none 0 0] 77)).alloc (.cells #[.int .i64 (fa : Int), .int .i64 (fb : Int)] 32)).heap.size := by simp; omega
    have hC6 : Blk ((w5.alloc (.cells #[.int .i64 0, .slice none 0 0, .slice none 0 0] 77)).alloc (.cells #[.int .i64 (fa : Int), .int .i64 (fb : Int)] 32)) (w5.heap.size + 1) 32 #[.int .i64 (fa : Int), .int .i64 (fb : Int)] := by
      have h := heap_alloc_new (w5.alloc (.cells #[.int .i64 0, .slice none 0 0, .slice none 0 0] 77)) (.cells #[.int .i64 (fa : Int), .int .i64 (fb : Int)] 32)
      rwa [World.size_alloc] at h
    have lC6 : w5.heap.size + 1 < ((w5.alloc (.cells #[.int .i64 0, .slice none 0 0, .slice none 0 0] 77)).alloc (.cells #[.int .i64 (fa : Int), .int .i64 (fb : Int)] 32)).heap.size := by simp
    have hb6_0 := (hb5_0.alloc (.cells #[.int .i64 0, .slice none 0 0, .slice none 0 0] 77)).alloc (.cells #[.int .i64 (fa : Int), .int .i64 (fb : Int)] 32)
    have lt6_0 : gW < ((w5.alloc (.cells #[.int .i64 0, .slice none 0 0, .slice none 0 0] 77)).alloc (.cells #[.int .i64 (fa : Int), .int .i64 (fb : Int)] 32)).heap.size := by simp; omega
    have hb6_1 := (hb5_1.alloc (.cells #[.int .i64 0, .slice none 0 0, .slice none 0 0] 77)).alloc (.cells #[.int .i64 (fa : Int), .int .i64 (fb : Int)] 32)
    have lt6_1 : g4 < ((w5.alloc (.cells #[.int .i64 0, .slice none 0 0, .slice none 0 0] 77)).alloc (.cells #[.int .i64 (fa : Int), .int .i64 (fb : Int)] 32)).heap.size := by simp; omega
    have hb6_2 := (hb5_2.alloc (.cells #[.int .i64 0, .slice none 0 0, .slice none 0 0] 77)).alloc (.cells #[.int .i64 (fa : Int), .int .i64 (fb : Int)] 32)
    have lt6_2 : (g4 + 1) < ((w5.alloc (.cells #[.int .i64 0, .slice none 0 0, .slice none 0 0] 77)).alloc (.cells #[.int .i64 (fa : Int), .int .i64 (fb : Int)] 32)).heap.size := by simp; omega
    clear hz5 hb5_0 lt5_0 hb5_1 lt5_1 hb5_2 lt5_2
    go_upto_region 3 with (fail)
    generalize (w5.alloc _).alloc _ = w6 at *
    generalize w5.heap.size = g6 at *
    have c0_0 : w6.cell? ⟨gW, 0, none⟩ = some (.int .i64 size) := hb6_0.cell 0
    have c0_1 : w6.cell? ⟨gW, 1, none⟩ = some (.slice Ar root.length cr) := hb6_0.cell 1
    have c0_2 : w6.cell? ⟨gW, 2, none⟩ = some (.slice As segs.length cs') := hb6_0.cell 2
    have c1_0 : w6.cell? ⟨g4, 0, none⟩ = some (.int .i64 0) := hb6_1.cell 0
    have c1_1 : w6.cell? ⟨g4, 1, none⟩ = some (.slice none 0 0) := hb6_1.cell 1
    have c1_2 : w6.cell? ⟨g4, 2, none⟩ = some (.slice none 0 0) := hb6_1.cell 2
    have c2_0 : w6.cell? ⟨(g4 + 1), 0, none⟩ = some (.int .i64 (fa : Int)) := hb6_2.cell 0
    have c2_1 : w6.cell? ⟨(g4 + 1), 1, none⟩ = some (.int .i64 (fb : Int)) := hb6_2.cell 1
    have c3_0 : w6.cell? ⟨g6, 0, none⟩ = some (.int .i64 0) := hB6.cell 0
    have c3_1 : w6.cell? ⟨g6, 1, none⟩ = some (.slice none 0 0) := hB6.cell 1
    have c3_2 : w6.cell? ⟨g6, 2, none⟩ = some (.slice none 0 0) := hB6.cell 2
    have c4_0 : w6.cell? ⟨(g6 + 1), 0, none⟩ = some (.int .i64 (fa : Int)) := hC6.cell 0
    have c4_1 : w6.cell? ⟨(g6 + 1), 1, none⟩ = some (.int .i64 (fb : Int)) := hC6.cell 1
    go_wp2_with fail
    clear c0_0 c0_1 c0_2 c1_0 c1_1 c1_2 c2_0 c2_1 c3_0 c3_1 c3_2 c4_0 c4_1
    refine (sameMan_yes w6 (fun _ => True) (fun _ => True) 0 (.slice none 0 0) (.slice none 0 0) (.slice none 0 0) (.slice none 0 0) [] [] (SlAt.nil_ _ _ _) (SlAt.nil_ _ _ _) (RdL.nil_ _ _ _) (RdL.nil_ _ _ _)).mono ?_
    rintro e w7 ⟨rfl, hx7⟩
    have hz7 := hz6.trans (hx7.mono hz6.size)
    have hb7_0 := hb6_0.below hx7 lt6_0
    have lt7_0 : gW < w7.heap.size := by have := hx7.size; omega
    have hb7_1 := hb6_1.below hx7 lt6_1
    have lt7_1 : g4 < w7.heap.size := by have := hx7.size; omega
    have hb7_2 := hb6_2.below hx7 lt6_2
    have lt7_2 : (g4 + 1) < w7.heap.size := by have := hx7.size; omega
    have hb7_3 := hB6.below hx7 lB6
    have lt7_3 : g6 < w7.heap.size := by have := hx7.size; omega
    have hb7_4 := hC6.below hx7 lC6
    have lt7_4 : (g6 + 1) < w7.heap.size := by have := hx7.size; omega
    clear hz6 hb6_0 lt6_0 hb6_1 lt6_1 hb6_2 lt6_2 hB6 lB6 hC6 lC6 hx7
    clear HG hb7_1 lt7_1 hb7_3 lt7_3
    have c0_0 : w7.cell? ⟨gW, 0, none⟩ = some (.int .i64 size) := hb7_0.cell 0
    have c0_1 : w7.cell? ⟨gW, 1, none⟩ = some (.slice Ar root.length cr) := hb7_0.cell 1
    have c0_2 : w7.cell? ⟨gW, 2, none⟩ = some (.slice As segs.length cs') := hb7_0.cell 2
    have c1_0 : w7.cell? ⟨(g4 + 1), 0, none⟩ = some (.int .i64 (fa : Int)) := hb7_2.cell 0
    have c1_1 : w7.cell? ⟨(g4 + 1), 1, none⟩ = some (.int .i64 (fb : Int)) := hb7_2.cell 1
    have c2_0 : w7.cell? ⟨(g6 + 1), 0, none⟩ = some (.int .i64 (fa : Int)) := hb7_4.cell 0
    have c2_1 : w7.cell? ⟨(g6 + 1), 1, none⟩ = some (.int .i64 (fb : Int)) := hb7_4.cell 1
    go_wp2_with fail
    refine (HSA.out w7 hz7).mono ?_
    rintro e w8 ⟨A1, c1, rfl, hp1, hx8⟩
    have hz8 := hz7.trans (hx8.mono hz7.size)
    have hb8_0 := hb7_0.below hx8 lt7_0
    have lt8_0 : gW < w8.heap.size := by have := hx8.size; omega
    have hb8_1 := hb7_2.below hx8 lt7_2
    have lt8_1 : (g4 + 1) < w8.heap.size := by have := hx8.size; omega
    have hb8_2 := hb7_4.below hx8 lt7_4
    have lt8_2 : (g6 + 1) < w8.heap.size := by have := hx8.size; omega
    clear hz7 hb7_0 lt7_0 hb7_2 lt7_2 hb7_4 lt7_4 hx8
    clear c0_0 c0_1 c0_2 c1_0 c1_1 c2_0 c2_1
    have c0_0 : w8.cell? ⟨gW, 0, none⟩ = some (.int .i64 size) := hb8_0.cell 0
    have c0_1 : w8.cell? ⟨gW, 1, none⟩ = some (.slice Ar root.length cr) := hb8_0.cell 1
    have c0_2 : w8.cell? ⟨gW, 2, none⟩ = some (.slice As segs.length cs') := hb8_0.cell 2
    have c1_0 : w8.cell? ⟨(g4 + 1), 0, none⟩ = some (.int .i64 (fa : Int)) := hb8_1.cell 0
    have c1_1 : w8.cell? ⟨(g4 + 1), 1, none⟩ = some (.int .i64 (fb : Int)) := hb8_1.cell 1
    have c2_0 : w8.cell? ⟨(g6 + 1), 0, none⟩ = some (.int .i64 (fa : Int)) := hb8_2.cell 0
    have c2_1 : w8.cell? ⟨(g6 + 1), 1, none⟩ = some (.int .i64 (fb : Int)) := hb8_2.cell 1
    go_wp2_with fail
    refine (HSB.out w8 hz8).mono ?_
    rintro e w9 ⟨A2, c2, rfl, hp2, hx9⟩
    have hz9 := hz8.trans (hx9.mono hz8.size)
    have hb9_0 := hb8_0.below hx9 lt8_0
    have lt9_0 : gW < w9.heap.size := by have := hx9.size; omega
    have hb9_1 := hb8_1.below hx9 lt8_1
    have lt9_1 : (g4 + 1) < w9.heap.size := by have := hx9.size; omega
    have hb9_2 := hb8_2.below hx9 lt8_2
    have lt9_2 : (g6 + 1) < w9.heap.size := by have := hx9.size; omega
    have hd9_0 := hp1.below hx9
    clear hz8 hb8_0 lt8_0 hb8_1 lt8_1 hb8_2 lt8_2 hp1 hx9
    clear c0_0 c0_1 c0_2 c1_0 c1_1 c2_0 c2_1
    have c0_0 : w9.cell? ⟨gW, 0, none⟩ = some (.int .i64 size) := hb9_0.cell 0
    have c0_1 : w9.cell? ⟨gW, 1, none⟩ = some (.slice Ar root.length cr) := hb9_0.cell 1
    have c0_2 : w9.cell? ⟨gW, 2, none⟩ = some (.slice As segs.length cs') := hb9_0.cell 2
    have c1_0 : w9.cell? ⟨(g4 + 1), 0, none⟩ = some (.int .i64 (fa : Int)) := hb9_1.cell 0
    have c1_1 : w9.cell? ⟨(g4 + 1), 1, none⟩ = some (.int .i64 (fb : Int)) := hb9_1.cell 1
    have c2_0 : w9.cell? ⟨(g6 + 1), 0, none⟩ = some (.int .i64 (fa : Int)) := hb9_2.cell 0
    have c2_1 : w9.cell? ⟨(g6 + 1), 1, none⟩ = some (.int .i64 (fb : Int)) := hb9_2.cell 1
    go_wp2_with fail
    clear c0_0 c0_1 c0_2 c1_0 c1_1 c2_0 c2_1
    refine (same2_yes w9 _ _ _ _ sl hd9_0 hp2).mono ?_
    rintro e w_ ⟨rfl, n10, rfl⟩
    have hx10 := below_drewN (Below.refl w9.heap.size w9) n10
    have hz10 := below_drewN hz9 n10
    have hb10_0 := hb9_0.drewN n10
    have lt10_0 : gW < (w9.drewN n10).heap.size := lt9_0
    have hb10_1 := hb9_1.drewN n10
    have lt10_1 : (g4 + 1) < (w9.drewN n10).heap.size := lt9_1
    have hb10_2 := hb9_2.drewN n10
    have lt10_2 : (g6 + 1) < (w9.drewN n10).heap.size := lt9_2
    have hd10_0 := hd9_0.below hx10
    have hd10_1 := hp2.below hx10
    clear hz9 hb9_0 lt9_0 hb9_1 lt9_1 hb9_2 lt9_2 hd9_0 hp2 hx10
    generalize w9.drewN n10 = w10 at *
    clear hd10_0 hd10_1
    have c0_0 : w10.cell? ⟨gW, 0, none⟩ = some (.int .i64 size) := hb10_0.cell 0
    have c0_1 : w10.cell? ⟨gW, 1, none⟩ = some (.slice Ar root.length cr) := hb10_0.cell 1
    have c0_2 : w10.cell? ⟨gW, 2, none⟩ = some (.slice As segs.length cs') := hb10_0.cell 2
    have c1_0 : w10.cell? ⟨(g4 + 1), 0, none⟩ = some (.int .i64 (fa : Int)) := hb10_1.cell 0
    have c1_1 : w10.cell? ⟨(g4 + 1), 1, none⟩ = some (.int .i64 (fb : Int)) := hb10_1.cell 1
    have c2_0 : w10.cell? ⟨(g6 + 1), 0, none⟩ = some (.int .i64 (fa : Int)) := hb10_2.cell 0
    have c2_1 : w10.cell? ⟨(g6 + 1), 1, none⟩ = some (.int .i64 (fb : Int)) := hb10_2.cell 1
    go_wp2_with fail
    refine (HEA.out w10 hz10).mono ?_
    rintro e w11 ⟨A3, c3, rfl, hp3, hx11⟩
    have hz11 := hz10.trans (hx11.mono hz10.size)
    have hb11_0 := hb10_0.below hx11 lt10_0
    have lt11_0 : gW < w11.heap.size := by have := hx11.size; omega
    have hb11_1 := hb10_1.below hx11 lt10_1
    have lt11_1 : (g4 + 1) < w11.heap.size := by have := hx11.size; omega
    have hb11_2 := hb10_2.below hx11 lt10_2
    have lt11_2 : (g6 + 1) < w11.heap.size := by have := hx11.size; omega
    clear hz10 hb10_0 lt10_0 hb10_1 lt10_1 hb10_2 lt10_2 hx11
    clear c0_0 c0_1 c0_2 c1_0 c1_1 c2_0 c2_1
    have c0_0 : w11.cell? ⟨gW, 0, none⟩ = some (.int .i64 size) := hb11_0.cell 0
    have c0_1 : w11.cell? ⟨gW, 1, none⟩ = some (.slice Ar root.length cr) := hb11_0.cell 1
    have c0_2 : w11.cell? ⟨gW, 2, none⟩ = some (.slice As segs.length cs') := hb11_0.cell 2
    have c1_0 : w11.cell? ⟨(g4 + 1), 0, none⟩ = some (.int .i64 (fa : Int)) := hb11_1.cell 0
    have c1_1 : w11.cell? ⟨(g4 + 1), 1, none⟩ = some (.int .i64 (fb : Int)) := hb11_1.cell 1
    have c2_0 : w11.cell? ⟨(g6 + 1), 0, none⟩ = some (.int .i64 (fa : Int)) := hb11_2.cell 0
    have c2_1 : w11.cell? ⟨(g6 + 1), 1, none⟩ = some (.int .i64 (fb : Int)) := hb11_2.cell 1
    go_wp2_with fail
    refine (HEB.out w11 hz11).mono ?_
    rintro e w12 ⟨A4, c4, rfl, hp4, hx12⟩
    have hz12 := hz11.trans (hx12.mono hz11.size)
    have hb12_0 := hb11_0.below hx12 lt11_0
    have lt12_0 : gW < w12.heap.size := by have := hx12.size; omega
    have hb12_1 := hb11_1.below hx12 lt11_1
    have lt12_1 : (g4 + 1) < w12.heap.size := by have := hx12.size; omega
    have hb12_2 := hb11_2.below hx12 lt11_2
    have lt12_2 : (g6 + 1) < w12.heap.size := by have := hx12.size; omega
    have hd12_0 := SlAt.below hp3 hx12
    clear hz11 hb11_0 lt11_0 hb11_1 lt11_1 hb11_2 lt11_2 hp3 hx12
    clear c0_0 c0_1 c0_2 c1_0 c1_1 c2_0 c2_1
    have c0_0 : w12.cell? ⟨gW, 0, none⟩ = some (.int .i64 size) := hb12_0.cell 0
    have c0_1 : w12.cell? ⟨gW, 1, none⟩ = some (.slice Ar root.length cr) := hb12_0.cell 1
    have c0_2 : w12.cell? ⟨gW, 2, none⟩ = some (.slice As segs.length cs') := hb12_0.cell 2
    have c1_0 : w12.cell? ⟨(g4 + 1), 0, none⟩ = some (.int .i64 (fa : Int)) := hb12_1.cell 0
    have c1_1 : w12.cell? ⟨(g4 + 1), 1, none⟩ = some (.int .i64 (fb : Int)) := hb12_1.cell 1
    have c2_0 : w12.cell? ⟨(g6 + 1), 0, none⟩ = some (.int .i64 (fa : Int)) := hb12_2.cell 0
    have c2_1 : w12.cell? ⟨(g6 + 1), 1, none⟩ = some (.int .i64 (fb : Int)) := hb12_2.cell 1
    go_wp2_with fail
    clear c0_0 c0_1 c0_2 c1_0 c1_1 c2_0 c2_1
    refine (same_any w12 _ _ _ _ el el hd12_0 hp4).mono ?_
    rintro e w_ ⟨rfl, n13, rfl⟩
    rw [show (el == el) = true by simp]
    have hx13 := below_drewN (Below.refl w12.heap.size w12) n13
    have hz13 := below_drewN hz12 n13
    have hb13_0 := hb12_0.drewN n13
    have lt13_0 : gW < (w12.drewN n13).heap.size := lt12_0
    have hb13_1 := hb12_1.drewN n13
    have lt13_1 : (g4 + 1) < (w12.drewN n13).heap.size := lt12_1
    have hb13_2 := hb12_2.drewN n13
    have lt13_2 : (g6 + 1) < (w12.drewN n13).heap.size := lt12_2
    have hd13_0 := SlAt.below hd12_0 hx13
    have hd13_1 := SlAt.below hp4 hx13
    clear hz12 hb12_0 lt12_0 hb12_1 lt12_1 hb12_2 lt12_2 hd12_0 hp4 hx13
    generalize w12.drewN n13 = w13 at *
    clear hd13_0 hd13_1
    have c0_0 : w13.cell? ⟨gW, 0, none⟩ = some (.int .i64 size) := hb13_0.cell 0
    have c0_1 : w13.cell? ⟨gW, 1, none⟩ = some (.slice Ar root.length cr) := hb13_0.cell 1
    have c0_2 : w13.cell? ⟨gW, 2, none⟩ = some (.slice As segs.length cs') := hb13_0.cell 2
    have c1_0 : w13.cell? ⟨(g4 + 1), 0, none⟩ = some (.int .i64 (fa : Int)) := hb13_1.cell 0
    have c1_1 : w13.cell? ⟨(g4 + 1), 1, none⟩ = some (.int .i64 (fb : Int)) := hb13_1.cell 1
    have c2_0 : w13.cell? ⟨(g6 + 1), 0, none⟩ = some (.int .i64 (fa : Int)) := hb13_2.cell 0
    have c2_1 : w13.cell? ⟨(g6 + 1), 1, none⟩ = some (.int .i64 (fb : Int)) := hb13_2.cell 1
    go_wp2_with fail
    obtain ⟨B1, hB1⟩ : ∃ n, n = w13.heap.size := ⟨_, rfl⟩
    have hgl1 : (g4 + 1) < B1 := by rw [hB1]; exact lt13_1
    have hgl2 : (g6 + 1) < B1 := by rw [hB1]; exact lt13_2
    have hbb := HVA.out w13 hz13
    rw [← hB1] at hbb
    have hle1 : B1 ≤ w13.heap.size := by rw [hB1]; exact Nat.le_refl _
    clear hB1
    refine ((HVA.out w13 hz13)).mono ?_
    rintro e w14 ⟨A5, c5, rfl, hp5, hx14⟩
    have hz14 := hz13.trans (hx14.mono hz13.size)
    have hb14_0 := hb13_0.below hx14 lt13_0
    have lt14_0 : gW < w14.heap.size := by have := hx14.size; omega
    have hb14_1 := hb13_1.below hx14 lt13_1
    have lt14_1 : (g4 + 1) < w14.heap.size := by have := hx14.size; omega
    have hb14_2 := hb13_2.below hx14 lt13_2
    have lt14_2 : (g6 + 1) < w14.heap.size := by have := hx14.size; omega
    clear hz13 hb13_0 lt13_0 hb13_1 lt13_1 hb13_2 lt13_2 hx14
    clear c0_0 c0_1 c0_2 c1_0 c1_1 c2_0 c2_1 hbb
    replace hp5 := hp5.weak (F' := fun k => B1 ≤ k) (fun _ _ hk => Nat.le_trans hle1 hk)
    clear hle1
    have c0_0 : w14.cell? ⟨gW, 0, none⟩ = some (.int .i64 size) := hb14_0.cell 0
    have c0_1 : w14.cell? ⟨gW, 1, none⟩ = some (.slice Ar root.length cr) := hb14_0.cell 1
    have c0_2 : w14.cell? ⟨gW, 2, none⟩ = some (.slice As segs.length cs') := hb14_0.cell 2
    have c1_0 : w14.cell? ⟨(g4 + 1), 0, none⟩ = some (.int .i64 (fa : Int)) := hb14_1.cell 0
    have c1_1 : w14.cell? ⟨(g4 + 1), 1, none⟩ = some (.int .i64 (fb : Int)) := hb14_1.cell 1
    have c2_0 : w14.cell? ⟨(g6 + 1), 0, none⟩ = some (.int .i64 (fa : Int)) := hb14_2.cell 0
    have c2_1 : w14.cell? ⟨(g6 + 1), 1, none⟩ = some (.int .i64 (fb : Int)) := hb14_2.cell 1
    have hfz := hb14_1.frozen 0
    have hfz1 := hb14_1.frozen 1
    go_upto_region 14 with (fail)
    clear c0_0 c0_1 c0_2 c1_0 c1_1 c2_0 c2_1 hfz hfz1
    have hz15 := below_set2 (g := (g4 + 1)) hz14 (by omega) (.int .i64 (va : Int)) (.int .i64 (vb : Int))
    have hb15_0 := hb14_0.far2 (g := (g4 + 1)) (by omega) (.int .i64 (va : Int)) (.int .i64 (vb : Int))
    have lt15_0 : gW < ((w14.setCell ⟨(g4 + 1), 0, none⟩ (.int .i64 (va : Int))).setCell ⟨(g4 + 1), 1, none⟩ (.int .i64 (vb : Int))).heap.size := by simpa using lt14_0
    have hb15_1 := hb14_1.set2 (.int .i64 (va : Int)) (.int .i64 (vb : Int))
    have lt15_1 : (g4 + 1) < ((w14.setCell ⟨(g4 + 1), 0, none⟩ (.int .i64 (va : Int))).setCell ⟨(g4 + 1), 1, none⟩ (.int .i64 (vb : Int))).heap.size := by simpa using lt14_1
    have hb15_2 := hb14_2.far2 (g := (g4 + 1)) (by omega) (.int .i64 (va : Int)) (.int .i64 (vb : Int))
    have lt15_2 : (g6 + 1) < ((w14.setCell ⟨(g4 + 1), 0, none⟩ (.int .i64 (va : Int))).setCell ⟨(g4 + 1), 1, none⟩ (.int .i64 (vb : Int))).heap.size := by simpa using lt14_2
    have hd15_0 := BList.setCell (p := ⟨(g4 + 1), 1, none⟩) (BList.setCell (p := ⟨(g4 + 1), 0, none⟩) hp5 (by show ¬ (_ ≤ (g4 + 1)); omega) (.int .i64 (va : Int))) (by show ¬ (_ ≤ (g4 + 1)); omega) (.int .i64 (vb : Int))
    clear hz14 hb14_0 lt14_0 hb14_1 lt14_1 hb14_2 lt14_2 hp5
    generalize ((w14.setCell ⟨(g4 + 1), 0, none⟩ (.int .i64 (va : Int))).setCell ⟨(g4 + 1), 1, none⟩ (.int .i64 (vb : Int))) = w15 at *
    have c0_0 : w15.cell? ⟨gW, 0, none⟩ = some (.int .i64 size) := hb15_0.cell 0
    have c0_1 : w15.cell? ⟨gW, 1, none⟩ = some (.slice Ar root.length cr) := hb15_0.cell 1
    have c0_2 : w15.cell? ⟨gW, 2, none⟩ = some (.slice As segs.length cs') := hb15_0.cell 2
    have c1_0 : w15.cell? ⟨(g4 + 1), 0, none⟩ = some (.int .i64 (va : Int)) := hb15_1.cell 0
    have c1_1 : w15.cell? ⟨(g4 + 1), 1, none⟩ = some (.int .i64 (vb : Int)) := hb15_1.cell 1
    have c2_0 : w15.cell? ⟨(g6 + 1), 0, none⟩ = some (.int .i64 (fa : Int)) := hb15_2.cell 0
    have c2_1 : w15.cell? ⟨(g6 + 1), 1, none⟩ = some (.int .i64 (fb : Int)) := hb15_2.cell 1
    go_wp2_with fail
    obtain ⟨B2, hB2⟩ : ∃ n, n = w15.heap.size := ⟨_, rfl⟩
    have hgl2_ : (g6 + 1) < B2 := by rw [hB2]; exact lt15_2
    have hle2 : B2 ≤ w15.heap.size := by rw [hB2]; exact Nat.le_refl _
    clear hB2
    refine ((HVB.out w15 hz15)).mono ?_
    rintro e w16 ⟨A6, c6, rfl, hp6, hx16⟩
    have hz16 := hz15.trans (hx16.mono hz15.size)
    have hb16_0 := hb15_0.below hx16 lt15_0
    have lt16_0 : gW < w16.heap.size := by have := hx16.size; omega
    have hb16_1 := hb15_1.below hx16 lt15_1
    have lt16_1 : (g4 + 1) < w16.heap.size := by have := hx16.size; omega
    have hb16_2 := hb15_2.below hx16 lt15_2
    have lt16_2 : (g6 + 1) < w16.heap.size := by have := hx16.size; omega
    have hd16_0 := hd15_0.below hx16
    clear hz15 hb15_0 lt15_0 hb15_1 lt15_1 hb15_2 lt15_2 hd15_0 hx16
    clear c0_0 c0_1 c0_2 c1_0 c1_1 c2_0 c2_1
    replace hp6 := hp6.weak (F' := fun k => B2 ≤ k) (fun _ _ hk => Nat.le_trans hle2 hk)
    clear hle2
    have c0_0 : w16.cell? ⟨gW, 0, none⟩ = some (.int .i64 size) := hb16_0.cell 0
    have c0_1 : w16.cell? ⟨gW, 1, none⟩ = some (.slice Ar root.length cr) := hb16_0.cell 1
    have c0_2 : w16.cell? ⟨gW, 2, none⟩ = some (.slice As segs.length cs') := hb16_0.cell 2
    have c1_0 : w16.cell? ⟨(g4 + 1), 0, none⟩ = some (.int .i64 (va : Int)) := hb16_1.cell 0
    have c1_1 : w16.cell? ⟨(g4 + 1), 1, none⟩ = some (.int .i64 (vb : Int)) := hb16_1.cell 1
    have c2_0 : w16.cell? ⟨(g6 + 1), 0, none⟩ = some (.int .i64 (fa : Int)) := hb16_2.cell 0
    have c2_1 : w16.cell? ⟨(g6 + 1), 1, none⟩ = some (.int .i64 (fb : Int)) := hb16_2.cell 1
    have hfz := hb16_2.frozen 0
    have hfz1 := hb16_2.frozen 1
    go_upto_region 15 with (fail)
    clear c0_0 c0_1 c0_2 c1_0 c1_1 c2_0 c2_1 hfz hfz1
    have hz17 := below_set2 (g := (g6 + 1)) hz16 (by omega) (.int .i64 (va : Int)) (.int .i64 (vb : Int))
    have hb17_0 := hb16_0.far2 (g := (g6 + 1)) (by omega) (.int .i64 (va : Int)) (.int .i64 (vb : Int))
    have lt17_0 : gW < ((w16.setCell ⟨(g6 + 1), 0, none⟩ (.int .i64 (va : Int))).setCell ⟨(g6 + 1), 1, none⟩ (.int .i64 (vb : Int))).heap.size := by simpa using lt16_0
    have hb17_1 := hb16_1.far2 (g := (g6 + 1)) (by omega) (.int .i64 (va : Int)) (.int .i64 (vb : Int))
    have lt17_1 : (g4 + 1) < ((w16.setCell ⟨(g6 + 1), 0, none⟩ (.int .i64 (va : Int))).setCell ⟨(g6 + 1), 1, none⟩ (.int .i64 (vb : Int))).heap.size := by simpa using lt16_1
    have hb17_2 := hb16_2.set2 (.int .i64 (va : Int)) (.int .i64 (vb : Int))
    have lt17_2 : (g6 + 1) < ((w16.setCell ⟨(g6 + 1), 0, none⟩ (.int .i64 (va : Int))).setCell ⟨(g6 + 1), 1, none⟩ (.int .i64 (vb : Int))).heap.size := by simpa using lt16_2
    have hd17_0 := BList.setCell (p := ⟨(g6 + 1), 1, none⟩) (BList.setCell (p := ⟨(g6 + 1), 0, none⟩) hd16_0 (by show ¬ (_ ≤ (g6 + 1)); omega) (.int .i64 (va : Int))) (by show ¬ (_ ≤ (g6 + 1)); omega) (.int .i64 (vb : Int))
    have hd17_1 := BList.setCell (p := ⟨(g6 + 1), 1, none⟩) (BList.setCell (p := ⟨(g6 + 1), 0, none⟩) hp6 (by show ¬ (_ ≤ (g6 + 1)); omega) (.int .i64 (va : Int))) (by show ¬ (_ ≤ (g6 + 1)); omega) (.int .i64 (vb : Int))
    clear hz16 hb16_0 lt16_0 hb16_1 lt16_1 hb16_2 lt16_2 hd16_0 hp6
    generalize ((w16.setCell ⟨(g6 + 1), 0, none⟩ (.int .i64 (va : Int))).setCell ⟨(g6 + 1), 1, none⟩ (.int .i64 (vb : Int))) = w17 at *
    have c0_0 : w17.cell? ⟨gW, 0, none⟩ = some (.int .i64 size) := hb17_0.cell 0
    have c0_1 : w17.cell? ⟨gW, 1, none⟩ = some (.slice Ar root.length cr) := hb17_0.cell 1
    have c0_2 : w17.cell? ⟨gW, 2, none⟩ = some (.slice As segs.length cs') := hb17_0.cell 2
    have c1_0 : w17.cell? ⟨(g4 + 1), 0, none⟩ = some (.int .i64 (va : Int)) := hb17_1.cell 0
    have c1_1 : w17.cell? ⟨(g4 + 1), 1, none⟩ = some (.int .i64 (vb : Int)) := hb17_1.cell 1
    have c2_0 : w17.cell? ⟨(g6 + 1), 0, none⟩ = some (.int .i64 (va : Int)) := hb17_2.cell 0
    have c2_1 : w17.cell? ⟨(g6 + 1), 1, none⟩ = some (.int .i64 (vb : Int)) := hb17_2.cell 1
    go_wp2_with fail
    clear c0_0 c0_1 c0_2 c1_0 c1_1 c2_0 c2_1
    refine (same2_yes w17 _ _ _ _ vl hd17_0 hd17_1).mono ?_
    rintro e w_ ⟨rfl, n18, rfl⟩
    have hx18 := below_drewN (Below.refl w17.heap.size w17) n18
    have hz18 := below_drewN hz17 n18
    have hb18_0 := hb17_0.drewN n18
    have lt18_0 : gW < (w17.drewN n18).heap.size := lt17_0
    have hb18_1 := hb17_1.drewN n18
    have lt18_1 : (g4 + 1) < (w17.drewN n18).heap.size := lt17_1
    have hb18_2 := hb17_2.drewN n18
    have lt18_2 : (g6 + 1) < (w17.drewN n18).heap.size := lt17_2
    have hd18_0 := hd17_0.below hx18
    have hd18_1 := hd17_1.below hx18
    clear hz17 hb17_0 lt17_0 hb17_1 lt17_1 hb17_2 lt17_2 hd17_0 hd17_1 hx18
    generalize w17.drewN n18 = w18 at *
    clear hd18_0 hd18_1
    go_wp2_with fail
    go_ret
    exact ⟨rfl, hx0.trans (hz18.mono hx0.size)⟩
end Go.Proofs.Ytfdibjgmbdkbcaa
