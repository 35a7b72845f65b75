/-
  THE WALK of clash.Grew. Conditions: what is read is bytes, and lists of bytes.
-/
import Derived.Test.YtaojgabiefkcaaaClashH
import Derived.Test.YtaojgabiefkcaaaClashI
import Derived.Test.YtaojgabiefkcaaaStep
namespace Go.Proofs.Ytaojgabiefkcaaa
open Go.RowKit Go.Lib
attribute [local go_sem ↓] Go.wp_at_zero Go.wp_at_succ

theorem two_short {m n : Nat} {whole : Bool} {ro : Bs} {p : List Bs} {ab : Tr.PB} (h : Tr.two m n whole ro p = some ab) (hn : n ≤ 100) : p.length ≤ 1000 := by
  have key : ∀ (n m : Nat) (whole : Bool) (p : List Bs) (ab : Tr.PB), Tr.two m n whole ro p = some ab → p.length ≤ n + 1 := by
    intro n
    induction n using Nat.strongRecOn with
    | ind n ih =>
      intro m whole p ab h
      by_cases hlt : m < n ∧ 2 ≤ n
      · have g1 := Tr.split_lt hlt.2
        have g0 := Tr.split_pos n
        rcases List.eq_nil_or_concat p with rfl | ⟨q, top, rfl⟩
        · rw [Tr.two_nil hlt.1 hlt.2] at h; cases h
        · rw [List.concat_eq_append] at *
          by_cases hm : m ≤ Tr.split n
          · rw [Tr.two_left hlt.1 hlt.2 top hm] at h
            obtain ⟨x, hx, _⟩ := Option.map_eq_some_iff.1 h
            have := ih _ g1 m whole q x hx
            simp; omega
          · rw [Tr.two_right hlt.1 hlt.2 top hm] at h
            obtain ⟨x, hx, _⟩ := Option.map_eq_some_iff.1 h
            have := ih _ (by omega) (m - Tr.split n) false q x hx
            simp; omega
      · rw [Tr.two, dif_neg hlt] at h
        cases whole with
        | true =>
          simp only [if_true] at h
          split at h
          · rename_i hp; subst hp; simp
          · cases h
        | false =>
          simp only [Bool.false_eq_true, if_false] at h
          match p, h with
          | [], _ => simp
          | [x], _ => simp
          | x :: y :: q, h => simp [Tr.only] at h
  have := key n m whole p ab h
  omega

set_option maxRecDepth 100000 in
set_option maxHeartbeats 4000000 in
theorem grewC_any (w : World) (F F' F'' : Nat → Prop) (v vo vp : Value) (ll : List Bs) (m : Int) (ro : Bs) (p : List Bs) (hl : BList w F v ll) (ho : Bytes w F' vo ro) (hp : BList w F'' vp p) (hreach : p.length ≤ 5864062014634) :
    Calls Try.prog 43 #[v, .agg #[.int .i64 m, vo], vp] w (ToldPost w (clashG ll m ro p)) := by
  obtain ⟨A, c, hv, hnc, hcm, hA⟩ := hl.shape
  subst hv
  unfold maxLen at hcm
  obtain ⟨Ap, cp, hvp, _⟩ := hp.shape
  subst hvp
  obtain ⟨A2, c2, hvb⟩ := ho.form
  subst hvb
  obtain ⟨o, HO⟩ : ∃ o, Hid (o = clashG ll m ro p) := ⟨_, Lib.hid rfl⟩
  rw [← HO.out]
  have hx0 := (Below.refl w.heap.size w).alloc (Nat.le_refl _) (.cells #[.int .i64 m, .slice A2 ro.length c2] 24)
  have hk0 : Blk (w.alloc (.cells #[.int .i64 m, .slice A2 ro.length c2] 24)) w.heap.size 24 #[.int .i64 m, .slice A2 ro.length c2] := heap_alloc_new w _
  have hl0 := hl.below hx0
  go_enter Try.func43, Try.ntmps43
  go_wp2_with fail
  generalize w.alloc (.cells #[.int .i64 m, .slice A2 ro.length c2] 24) = w0 at *
  by_cases hf : Fine ll
  · refine (Root_fine w0 F _ ll hl0 hf).mono ?_
    rintro e w1 ⟨rv, rfl, hown1, hx1⟩
    obtain ⟨A1, c1, hv1, _, _⟩ := Own.shape hown1
    subst hv1
    have hxa := hx0.trans (hx1.mono hx0.size)
    have hk1 := hk0.below hx1 hk0.lt
    have hxb := hxa.alloc hxa.size (.cells #[.int .i64 0, .int .i64 0] 32)
    have hk2 := hk1.alloc (.cells #[.int .i64 0, .int .i64 0] 32)
    have hr2 := hown1.bytes.alloc (.cells #[.int .i64 0, .int .i64 0] 32)
    have hf2 : (w1.alloc (.cells #[.int .i64 0, .int .i64 0] 32)).cell? ⟨w1.heap.size, 0, none⟩ = some (.int .i64 0) := by rw [World.cell?_alloc_mark]; rfl
    go_wp2_with fail
    have hg1 : w1.heap.size < (w1.alloc (.cells #[.int .i64 0, .int .i64 0] 32)).heap.size := by simp
    generalize w1.alloc (.cells #[.int .i64 0, .int .i64 0] 32) = w2 at *
    generalize w1.heap.size = g1 at *
    have ho2 := ho.below hxb
    have hp2 := hp.below hxb
    have e0 : w2.cell? ⟨w.heap.size, 0, none⟩ = some (.int .i64 m) := hk2.cell 0
    have e1 : w2.cell? ⟨w.heap.size, 1, none⟩ = some (.slice A2 ro.length c2) := hk2.cell 1
    have hod : Bytes w2.drew F' (.slice A2 ro.length c2) ro := ho2.drewN 1
    have hrd : Bytes w2.drew _ (.slice A1 (Tr.root (ll.map Tr.leafH)).length c1) (Tr.root (ll.map Tr.leafH)) := hr2.drewN 1
    have hpd : BList w2.drew F'' (.slice Ap p.length cp) p := hp2.drewN 1
    have hkeep : ∀ w3 : World, Below w2.heap.size w2.drew w3 → w3.cell? ⟨g1, 0, none⟩ = some (.int .i64 0) ∧ w3.cell? ⟨w.heap.size, 0, none⟩ = some (.int .i64 m) ∧ w3.cell? ⟨w.heap.size, 1, none⟩ = some (.slice A2 ro.length c2) ∧ Below w.heap.size w w3 := fun w3 h => by
      refine ⟨(h.cell (p := ⟨g1, 0, none⟩) hg1).trans hf2, (h.cell (p := ⟨w.heap.size, 0, none⟩) hk2.lt).trans e0, (h.cell (p := ⟨w.heap.size, 1, none⟩) hk2.lt).trans e1, hxb.drew.trans (h.mono hxb.size)⟩
    cases hS : grewS m ro (ll.length : Int) (Tr.root (ll.map Tr.leafH)) p with
    | false =>
      have hoo := HO.out.trans (clashG_bad (fun h => by rw [hS] at h; cases h.2.1))
      clear HO
      subst hoo
      have hG : Calls Try.prog 16 #[.agg #[.int .i64 m, .slice A2 ro.length c2], .agg #[.int .i64 (ll.length : Int), .slice A1 (Tr.root (ll.map Tr.leafH)).length c1], .slice Ap p.length cp] w2.drew fun e w' => e = .returned (.bool false) ∧ Below w2.drew.heap.size w2.drew w' :=
        (grew_any w2.drew _ _ _ _ _ _ m (ll.length : Int) ro _ p hod hrd hpd hreach).mono (by rintro e w3 ⟨rfl, hx3⟩; exact ⟨by rw [hS], hx3⟩)
      clear hS
      refine wp_region_held_drew (S := (fun z : World => z.cell? ⟨g1, 0, none⟩ = some (.int .i64 0) ∧ z.cell? ⟨w.heap.size, 0, none⟩ = some (.int .i64 m) ∧ z.cell? ⟨w.heap.size, 1, none⟩ = some (.slice A2 ro.length c2) ∧ Below w.heap.size w z)) (by kernel_rfl) ?_ (fun hHeld => ?_)
      · exact ⟨hf2, e0, e1, hxb.drew⟩
      refine step_take (i := 0) (v := ?_) rfl (by kernel_rfl) (by kernel_rfl) (by kernel_rfl) (fun _ _ _ h => h) (by rfl) ?ya0 (by assumption) ?_
      case ya0 => (intro w hSw; (try dsimp only at hSw); go_simp; (try with_reducible rfl))
      try simp only [Act.put, List.setIfInBounds_toArray, List.set_cons_zero, List.set_cons_succ]
      refine step_take (i := 1) (v := ?_) rfl (by kernel_rfl) (by kernel_rfl) (by kernel_rfl) (fun _ _ _ h => h) (by rfl) ?ya1 (by assumption) ?_
      case ya1 => (intro w hSw; (try dsimp only at hSw); go_simp; (try with_reducible rfl))
      try simp only [Act.put, List.setIfInBounds_toArray, List.set_cons_zero, List.set_cons_succ]
      refine step_take (i := 2) (v := ?_) rfl (by kernel_rfl) (by kernel_rfl) (by kernel_rfl) (fun _ _ _ h => h) (by rfl) ?ya2 (by assumption) ?_
      case ya2 => (intro w hSw; (try dsimp only at hSw); go_simp; (try with_reducible rfl))
      try simp only [Act.put, List.setIfInBounds_toArray, List.set_cons_zero, List.set_cons_succ]
      refine step_take (i := 3) (v := ?_) rfl (by kernel_rfl) (by kernel_rfl) (by kernel_rfl) (fun _ _ _ h => h) (by rfl) ?ya3 (by assumption) ?_
      case ya3 => (intro w hSw; (try dsimp only at hSw); go_simp; (try with_reducible rfl))
      try simp only [Act.put, List.setIfInBounds_toArray, List.set_cons_zero, List.set_cons_succ]
      refine step_take (i := 4) (v := ?_) rfl (by kernel_rfl) (by kernel_rfl) (by kernel_rfl) (fun _ _ _ h => h) (by rfl) ?ya4 (by assumption) ?_
      case ya4 => (intro w hSw; (try dsimp only at hSw); go_simp; (try with_reducible rfl))
      try simp only [Act.put, List.setIfInBounds_toArray, List.set_cons_zero, List.set_cons_succ]
      refine step_take (i := 5) (v := ?_) rfl (by kernel_rfl) (by kernel_rfl) (by kernel_rfl) (fun _ _ _ h => h) (by rfl) ?ya5 (by assumption) ?_
      case ya5 => (intro w hSw; (try dsimp only at hSw); go_simp; (try with_reducible rfl))
      try simp only [Act.put, List.setIfInBounds_toArray, List.set_cons_zero, List.set_cons_succ]
      refine step_take (i := 6) (v := ?_) rfl (by kernel_rfl) (by kernel_rfl) (by kernel_rfl) (fun _ _ _ h => h) (by rfl) ?ya6 (by assumption) ?_
      case ya6 => (intro w hSw; (try dsimp only at hSw); go_simp; (try with_reducible rfl))
      try simp only [Act.put, List.setIfInBounds_toArray, List.set_cons_zero, List.set_cons_succ]
      refine step_take (i := 7) (v := ?_) rfl (by kernel_rfl) (by kernel_rfl) (by kernel_rfl) (fun _ _ _ h => h) (by rfl) ?ya7 (by assumption) ?_
      case ya7 => (intro w hSw; (try dsimp only at hSw); go_simp; (try with_reducible rfl))
      try simp only [Act.put, List.setIfInBounds_toArray, List.set_cons_zero, List.set_cons_succ]
      refine step_take (i := 8) (v := ?_) rfl (by kernel_rfl) (by kernel_rfl) (by kernel_rfl) (fun _ _ _ h => h) (by rfl) ?ya8 (by assumption) ?_
      case ya8 => (intro w hSw; (try dsimp only at hSw); go_simp; (try with_reducible rfl))
      try simp only [Act.put, List.setIfInBounds_toArray, List.set_cons_zero, List.set_cons_succ]
      refine step_take (i := 9) (v := ?_) rfl (by kernel_rfl) (by kernel_rfl) (by kernel_rfl) (fun _ _ _ h => h) (by rfl) ?ya9 (by assumption) ?_
      case ya9 => (intro w hSw; (try dsimp only at hSw); go_simp; (try with_reducible rfl))
      try simp only [Act.put, List.setIfInBounds_toArray, List.set_cons_zero, List.set_cons_succ]
      refine step_alone 10 rfl (by kernel_rfl) (by rfl) (fun K hK => ?_)
      go_simp
      refine (hG).mono ?_
      rintro e w3 ⟨rfl, hx3⟩
      have hS3 := hkeep w3 hx3
      go_simp
      refine hK.out _ _ ?_ (fun hHeld => ?_)
      · exact hS3
      clear hK K
      try simp only [Act.put, List.setIfInBounds_toArray, List.set_cons_zero, List.set_cons_succ]
      refine step_take (i := 11) (v := ?_) rfl (by kernel_rfl) (by kernel_rfl) (by kernel_rfl) (fun _ _ _ h => h) (by rfl) ?ya11 (by assumption) ?_
      case ya11 => (intro w hSw; (try dsimp only at hSw); go_simp; (try with_reducible rfl))
      try simp only [Act.put, List.setIfInBounds_toArray, List.set_cons_zero, List.set_cons_succ]
      refine step_take (i := 12) (v := ?_) rfl (by kernel_rfl) (by kernel_rfl) (by kernel_rfl) (fun _ _ _ h => h) (by rfl) ?ya12 (by assumption) ?_
      case ya12 => (intro w hSw; (try dsimp only at hSw); go_simp; (try with_reducible rfl))
      try simp only [Act.put, List.setIfInBounds_toArray, List.set_cons_zero, List.set_cons_succ]
      refine step_take (i := 13) (v := ?_) rfl (by kernel_rfl) (by kernel_rfl) (by kernel_rfl) (fun _ _ _ h => h) (by rfl) ?ya13 (by assumption) ?_
      case ya13 => (intro w hSw; (try dsimp only at hSw); go_simp; (try with_reducible rfl))
      try simp only [Act.put, List.setIfInBounds_toArray, List.set_cons_zero, List.set_cons_succ]
      refine step_skip (i := 14) rfl (by kernel_rfl) (by kernel_rfl) (by kernel_rfl) (fun _ _ _ h => h) (by rfl) (by assumption) ?_
      try simp only [Act.put, List.setIfInBounds_toArray, List.set_cons_zero, List.set_cons_succ]
      refine step_skip (i := 15) rfl (by kernel_rfl) (by kernel_rfl) (by kernel_rfl) (fun _ _ _ h => h) (by rfl) (by assumption) ?_
      try simp only [Act.put, List.setIfInBounds_toArray, List.set_cons_zero, List.set_cons_succ]
      refine step_skip (i := 16) rfl (by kernel_rfl) (by kernel_rfl) (by kernel_rfl) (fun _ _ _ h => h) (by rfl) (by assumption) ?_
      try simp only [Act.put, List.setIfInBounds_toArray, List.set_cons_zero, List.set_cons_succ]
      refine step_skip (i := 17) rfl (by kernel_rfl) (by kernel_rfl) (by kernel_rfl) (fun _ _ _ h => h) (by rfl) (by assumption) ?_
      try simp only [Act.put, List.setIfInBounds_toArray, List.set_cons_zero, List.set_cons_succ]
      refine step_skip (i := 18) rfl (by kernel_rfl) (by kernel_rfl) (by kernel_rfl) (fun _ _ _ h => h) (by rfl) (by assumption) ?_
      try simp only [Act.put, List.setIfInBounds_toArray, List.set_cons_zero, List.set_cons_succ]
      refine step_skip (i := 19) rfl (by kernel_rfl) (by kernel_rfl) (by kernel_rfl) (fun _ _ _ h => h) (by rfl) (by assumption) ?_
      try simp only [Act.put, List.setIfInBounds_toArray, List.set_cons_zero, List.set_cons_succ]
      refine step_skip (i := 20) rfl (by kernel_rfl) (by kernel_rfl) (by kernel_rfl) (fun _ _ _ h => h) (by rfl) (by assumption) ?_
      try simp only [Act.put, List.setIfInBounds_toArray, List.set_cons_zero, List.set_cons_succ]
      refine step_skip (i := 21) rfl (by kernel_rfl) (by kernel_rfl) (by kernel_rfl) (fun _ _ _ h => h) (by rfl) (by assumption) ?_
      try simp only [Act.put, List.setIfInBounds_toArray, List.set_cons_zero, List.set_cons_succ]
      refine step_take (i := 22) (v := ?_) rfl (by kernel_rfl) (by kernel_rfl) (by kernel_rfl) (fun _ _ _ h => h) (by rfl) ?ya22 (by assumption) ?_
      case ya22 => (intro w hSw; (try dsimp only at hSw); go_simp; (try with_reducible rfl))
      try simp only [Act.put, List.setIfInBounds_toArray, List.set_cons_zero, List.set_cons_succ]
      refine wpAnyH_done (by kernel_rfl) ?_ _
      have hS3 := hHeld.2.2.2
      go_wp2_with fail
      go_ret3
      exact ⟨_, _, rfl, Own.nil_ _ _ _ _, Own.nil_ _ _ _ _, hS3⟩
    | true =>
      obtain ⟨⟨h1, h2, h3⟩, hd, hr, ht⟩ := grewS_yes hS
      obtain ⟨mi, hmi⟩ : ∃ k : Nat, m = (k : Int) := ⟨m.toNat, by omega⟩
      subst hmi
      rw [show ((ll.length : Int)).toNat = ll.length by omega, Int.toNat_natCast] at ht
      have hG : Calls Try.prog 16 #[.agg #[.int .i64 (mi : Int), .slice A2 ro.length c2], .agg #[.int .i64 (ll.length : Int), .slice A1 (Tr.root (ll.map Tr.leafH)).length c1], .slice Ap p.length cp] w2.drew fun e w' => e = .returned (.bool true) ∧ Below w2.drew.heap.size w2.drew w' :=
        (grew_any w2.drew _ _ _ _ _ _ (mi : Int) (ll.length : Int) ro _ p hod hrd hpd hreach).mono (by rintro e w3 ⟨rfl, hx3⟩; exact ⟨by rw [hS], hx3⟩)
      have hok : ro ≠ Tr.rootL (ll.take mi) → clashG ll (mi : Int) ro p = (Tr.down2 ll mi true ro p).1 := fun hne => by
        rw [clashG_ok ⟨hf, hS, by rw [Int.toNat_natCast]; exact hne⟩, Int.toNat_natCast]
      have hno : ro = Tr.rootL (ll.take mi) → clashG ll (mi : Int) ro p = none := fun he => clashG_bad (fun h => h.2.2 (by rw [Int.toNat_natCast]; exact he))
      have HOK := Lib.hid hok
      have HNO := Lib.hid hno
      have HT := Lib.hid ht
      have hp1000 : p.length ≤ 1000 := two_short ht (by omega)
      clear hok hno ht hS
      have HR := Lib.hid hr
      clear hr
      have i1 : (0 : Int) ≤ (mi : Int) := by omega
      have i2 : (mi : Int) ≤ (ll.length : Int) := by omega
      have i3 : (mi : Int) ≤ (c : Int) := by omega
      have i4 : mi ≤ c := by omega
      refine wp_region_held_drew (S := (fun z : World => z.cell? ⟨g1, 0, none⟩ = some (.int .i64 0) ∧ z.cell? ⟨w.heap.size, 0, none⟩ = some (.int .i64 (mi : Int)) ∧ z.cell? ⟨w.heap.size, 1, none⟩ = some (.slice A2 ro.length c2) ∧ Below w.heap.size w z)) (by kernel_rfl) ?_ (fun hHeld => ?_)
      · exact ⟨hf2, e0, e1, hxb.drew⟩
      refine step_take (i := 0) (v := ?_) rfl (by kernel_rfl) (by kernel_rfl) (by kernel_rfl) (fun _ _ _ h => h) (by rfl) ?yb0 (by assumption) ?_
      case yb0 => (intro w hSw; (try dsimp only at hSw); go_simp; (try with_reducible rfl))
      try simp only [Act.put, List.setIfInBounds_toArray, List.set_cons_zero, List.set_cons_succ]
      refine step_take (i := 1) (v := ?_) rfl (by kernel_rfl) (by kernel_rfl) (by kernel_rfl) (fun _ _ _ h => h) (by rfl) ?yb1 (by assumption) ?_
      case yb1 => (intro w hSw; (try dsimp only at hSw); go_simp; (try with_reducible rfl))
      try simp only [Act.put, List.setIfInBounds_toArray, List.set_cons_zero, List.set_cons_succ]
      refine step_take (i := 2) (v := ?_) rfl (by kernel_rfl) (by kernel_rfl) (by kernel_rfl) (fun _ _ _ h => h) (by rfl) ?yb2 (by assumption) ?_
      case yb2 => (intro w hSw; (try dsimp only at hSw); go_simp; (try with_reducible rfl))
      try simp only [Act.put, List.setIfInBounds_toArray, List.set_cons_zero, List.set_cons_succ]
      refine step_take (i := 3) (v := ?_) rfl (by kernel_rfl) (by kernel_rfl) (by kernel_rfl) (fun _ _ _ h => h) (by rfl) ?yb3 (by assumption) ?_
      case yb3 => (intro w hSw; (try dsimp only at hSw); go_simp; (try with_reducible rfl))
      try simp only [Act.put, List.setIfInBounds_toArray, List.set_cons_zero, List.set_cons_succ]
      refine step_take (i := 4) (v := ?_) rfl (by kernel_rfl) (by kernel_rfl) (by kernel_rfl) (fun _ _ _ h => h) (by rfl) ?yb4 (by assumption) ?_
      case yb4 => (intro w hSw; (try dsimp only at hSw); go_simp; (try with_reducible rfl))
      try simp only [Act.put, List.setIfInBounds_toArray, List.set_cons_zero, List.set_cons_succ]
      refine step_take (i := 5) (v := ?_) rfl (by kernel_rfl) (by kernel_rfl) (by kernel_rfl) (fun _ _ _ h => h) (by rfl) ?yb5 (by assumption) ?_
      case yb5 => (intro w hSw; (try dsimp only at hSw); go_simp; (try with_reducible rfl))
      try simp only [Act.put, List.setIfInBounds_toArray, List.set_cons_zero, List.set_cons_succ]
      refine step_take (i := 6) (v := ?_) rfl (by kernel_rfl) (by kernel_rfl) (by kernel_rfl) (fun _ _ _ h => h) (by rfl) ?yb6 (by assumption) ?_
      case yb6 => (intro w hSw; (try dsimp only at hSw); go_simp; (try with_reducible rfl))
      try simp only [Act.put, List.setIfInBounds_toArray, List.set_cons_zero, List.set_cons_succ]
      refine step_take (i := 7) (v := ?_) rfl (by kernel_rfl) (by kernel_rfl) (by kernel_rfl) (fun _ _ _ h => h) (by rfl) ?yb7 (by assumption) ?_
      case yb7 => (intro w hSw; (try dsimp only at hSw); go_simp; (try with_reducible rfl))
      try simp only [Act.put, List.setIfInBounds_toArray, List.set_cons_zero, List.set_cons_succ]
      refine step_take (i := 8) (v := ?_) rfl (by kernel_rfl) (by kernel_rfl) (by kernel_rfl) (fun _ _ _ h => h) (by rfl) ?yb8 (by assumption) ?_
      case yb8 => (intro w hSw; (try dsimp only at hSw); go_simp; (try with_reducible rfl))
      try simp only [Act.put, List.setIfInBounds_toArray, List.set_cons_zero, List.set_cons_succ]
      refine step_take (i := 9) (v := ?_) rfl (by kernel_rfl) (by kernel_rfl) (by kernel_rfl) (fun _ _ _ h => h) (by rfl) ?yb9 (by assumption) ?_
      case yb9 => (intro w hSw; (try dsimp only at hSw); go_simp; (try with_reducible rfl))
      try simp only [Act.put, List.setIfInBounds_toArray, List.set_cons_zero, List.set_cons_succ]
      refine step_alone 10 rfl (by kernel_rfl) (by rfl) (fun K hK => ?_)
      go_simp
      refine (hG).mono ?_
      rintro e w3 ⟨rfl, hx3⟩
      have hS3 := hkeep w3 hx3
      have hxc := hS3.2.2.2
      have hl3 := hl.below hxc
      have ho3 := ho.below hxc
      have hf3 := hl3.first mi (by omega)
      go_simp
      refine hK.out _ _ ?_ (fun hHeld => ?_)
      · exact hS3
      clear hK K
      try simp only [Act.put, List.setIfInBounds_toArray, List.set_cons_zero, List.set_cons_succ]
      refine step_take (i := 11) (v := ?_) rfl (by kernel_rfl) (by kernel_rfl) (by kernel_rfl) (fun _ _ _ h => h) (by rfl) ?yb11 (by assumption) ?_
      case yb11 => (intro w hSw; (try dsimp only at hSw); go_simp; (try with_reducible rfl))
      try simp only [Act.put, List.setIfInBounds_toArray, List.set_cons_zero, List.set_cons_succ]
      refine step_take (i := 12) (v := ?_) rfl (by kernel_rfl) (by kernel_rfl) (by kernel_rfl) (fun _ _ _ h => h) (by rfl) ?yb12 (by assumption) ?_
      case yb12 => (intro w hSw; (try dsimp only at hSw); go_simp; (try with_reducible rfl))
      try simp only [Act.put, List.setIfInBounds_toArray, List.set_cons_zero, List.set_cons_succ]
      refine step_take (i := 13) (v := ?_) rfl (by kernel_rfl) (by kernel_rfl) (by kernel_rfl) (fun _ _ _ h => h) (by rfl) ?yb13 (by assumption) ?_
      case yb13 => (intro w hSw; (try dsimp only at hSw); go_simp; (try with_reducible rfl))
      try simp only [Act.put, List.setIfInBounds_toArray, List.set_cons_zero, List.set_cons_succ]
      refine step_take (i := 14) (v := ?_) rfl (by kernel_rfl) (by kernel_rfl) (by kernel_rfl) (fun _ _ _ h => h) (by rfl) ?yb14 (by assumption) ?_
      case yb14 => (intro w hSw; (try dsimp only at hSw); go_simp; (try with_reducible rfl))
      try simp only [Act.put, List.setIfInBounds_toArray, List.set_cons_zero, List.set_cons_succ]
      refine step_take (i := 15) (v := ?_) rfl (by kernel_rfl) (by kernel_rfl) (by kernel_rfl) (fun _ _ _ h => h) (by rfl) ?yb15 (by assumption) ?_
      case yb15 => (intro w hSw; (try dsimp only at hSw); go_simp; (try with_reducible rfl))
      try simp only [Act.put, List.setIfInBounds_toArray, List.set_cons_zero, List.set_cons_succ]
      refine step_take (i := 16) (v := ?_) rfl (by kernel_rfl) (by kernel_rfl) (by kernel_rfl) (fun _ _ _ h => h) (by rfl) ?yb16 (by assumption) ?_
      case yb16 => (intro w hSw; (try dsimp only at hSw); go_simp; (try with_reducible rfl))
      try simp only [Act.put, List.setIfInBounds_toArray, List.set_cons_zero, List.set_cons_succ]
      refine step_take (i := 17) (v := ?_) rfl (by kernel_rfl) (by kernel_rfl) (by kernel_rfl) (fun _ _ _ h => h) (by rfl) ?yb17 (by assumption) ?_
      case yb17 => (intro w hSw; (try dsimp only at hSw); go_simp; (try with_reducible rfl))
      try simp only [Act.put, List.setIfInBounds_toArray, List.set_cons_zero, List.set_cons_succ]
      refine step_take (i := 18) (v := ?_) rfl (by kernel_rfl) (by kernel_rfl) (by kernel_rfl) (fun _ _ _ h => h) (by rfl) ?yb18 (by assumption) ?_
      case yb18 => (intro w hSw; (try dsimp only at hSw); go_simp; (try with_reducible rfl))
      try simp only [Act.put, List.setIfInBounds_toArray, List.set_cons_zero, List.set_cons_succ]
      refine step_take (i := 19) (v := ?_) rfl (by kernel_rfl) (by kernel_rfl) (by kernel_rfl) (fun _ _ _ h => h) (by rfl) ?yb19 (by assumption) ?_
      case yb19 => (intro w hSw; (try dsimp only at hSw); go_simp; (try with_reducible rfl))
      try simp only [Act.put, List.setIfInBounds_toArray, List.set_cons_zero, List.set_cons_succ]
      refine step_alone 20 rfl (by kernel_rfl) (by rfl) (fun K hK => ?_)
      go_simp
      refine (rootC_any w3 F _ (ll.take mi) hf3 (hf.take mi)).mono ?_
      rintro e w4 ⟨rv4, rfl, hown4, hx4⟩
      obtain ⟨A4, c4, hv4, _, _⟩ := Own.shape hown4
      subst hv4
      have hS4 := hkeep w4 (hx3.trans (hx4.mono hx3.size))
      have ho4 := ho3.below hx4
      go_simp
      refine hK.out _ _ ?_ (fun hHeld => ?_)
      · exact hS4
      clear hK K
      try simp only [Act.put, List.setIfInBounds_toArray, List.set_cons_zero, List.set_cons_succ]
      refine step_alone 21 rfl (by kernel_rfl) (by rfl) (fun K hK => ?_)
      go_simp
      refine (equal_any w4 _ _ _ _ ro _ ho4 hown4.bytes).mono ?_
      rintro e w5 ⟨rfl, hw⟩
      subst hw
      go_simp
      refine hK.out _ _ ?_ (fun hHeld => ?_)
      · exact hS4
      clear hK K
      try simp only [Act.put, List.setIfInBounds_toArray, List.set_cons_zero, List.set_cons_succ]
      refine step_take (i := 22) (v := ?_) rfl (by kernel_rfl) (by kernel_rfl) (by kernel_rfl) (fun _ _ _ h => h) (by rfl) ?yb22 (by assumption) ?_
      case yb22 => (intro w hSw; (try dsimp only at hSw); go_simp; (try with_reducible rfl))
      try simp only [Act.put, List.setIfInBounds_toArray, List.set_cons_zero, List.set_cons_succ]
      refine wpAnyH_done (by kernel_rfl) ?_ _
      have hx5 := hHeld.2.2.2
      have hl5 := hl3.below hx4
      have hp5 := hp.below hx5
      have ho5 := ho.below hx5
      have f0 := hHeld.2.1
      have f1 := hHeld.2.2.1
      clear hHeld hS3 hkeep hf3 hf2 hod hrd hpd e0 e1 hG hp2 ho2 hr2 hk2 hxb hx3 hx4 hl3 ho3 hxc ho4
      by_cases he : ro = Tr.rootL (ll.take mi)
      · have hbB : (ro == Tr.rootL (ll.take mi)) = true := beq_iff_eq.2 he
        have ho := HO.out.trans (HNO.out he)
        clear HO he HNO HOK
        subst ho
        rw [hbB]
        go_wp2_with fail
        go_ret3
        exact ⟨_, _, rfl, Own.nil_ _ _ _ _, Own.nil_ _ _ _ _, hx5⟩
      · have hbB : (ro == Tr.rootL (ll.take mi)) = false := beq_eq_false_iff_ne.2 he
        have ho := HO.out.trans (HOK.out he)
        have HOO := Lib.hid ho
        clear HO he HNO HOK ho
        rw [hbB]
        have ho6 : Bytes w5 (fun k => k < w5.heap.size) (.slice A2 ro.length c2) ro := ho5.weak (fun k hk _ => hk)
        have hp6 : BList w5 (fun k => k < w5.heap.size) (.slice Ap p.length cp) p := hp5.weak (fun k hk _ => hk)
        go_wp2_with fail
        refine (twoC_any w5.heap.size ll.length w5 (Nat.le_refl _) F _ _ _ ll ro mi _ true p _ hl5 ho6 hp6 rfl (by omega) (by omega) rfl hf hd hp1000 (fun _ => HR.out) HT.out).mono ?_
        rw [← HOO.out]
        rintro e w6 ⟨va, vc, v1, v2, rfl, ho1, ho2, _, _, hx6⟩
        obtain ⟨A6, c6, hva, _, _⟩ := Own.shape ho1
        obtain ⟨A7, c7, hvc, _, _⟩ := Own.shape ho2
        subst hva hvc
        have hxd := hx5.trans (hx6.mono hx5.size)
        have hp1 := OwnB.mono ho1 hx5.size
        have hp2 := OwnB.mono ho2 hx5.size
        have hxe := hxd.alloc hxd.size (.cells #[.slice A6 (fstO o).length c6, .slice A7 (sndO o).length c7, .bool o.isSome] 81)
        clear ho1 ho2
        cases o with
        | none =>
          go_wp2_with fail
          go_ret3
          exact ⟨_, _, rfl, Own.nil_ _ _ _ _, Own.nil_ _ _ _ _, hxe⟩
        | some q =>
          go_wp2_with fail
          go_quiet (fail)
          go_wp2_with fail
          go_ret3
          exact ⟨_, _, rfl, OwnB.drewN (OwnB.alloc hp1 _) _, OwnB.drewN (OwnB.alloc hp2 _) _, below_drewN hxe _⟩
  · refine (Root_bad w0 F _ ll hl0 hf).mono ?_
    rintro e w1 ⟨a, a', rfl, _, ha, hx1⟩
    have ho := HO.out.trans (clashG_bad (fun h => hf h.1))
    clear HO
    subst ho
    have hxa := hx0.trans (hx1.mono hx0.size)
    have hxb := hxa.alloc hxa.size (.cells #[.int .i64 (a : Int), .int .i64 (a' : Int)] 32)
    go_wp2_with fail
    go_quiet (fail)
    go_wp2_with fail
    go_ret3
    exact ⟨_, _, rfl, Own.nil_ _ _ _ _, Own.nil_ _ _ _ _, below_drewN hxb _⟩
end Go.Proofs.Ytaojgabiefkcaaa
