/-
  THE WALKS of yearlaw5.ShelfEntries and ShelfParts. Conditions: what comes in is read as a manifest.
-/
import Derived.Test.YtgbjfilkecmmgaaZGi
import Derived.Test.YtgbjfilkecmmgaaZGj
import Derived.Test.YtgbjfilkecmmgaaZGs
namespace Go.Proofs.Ytgbjfilkecmmgaa
open Go.RowKit Go.Lib

set_option maxRecDepth 100000 in
set_option maxHeartbeats 2000000 in
theorem shelfEntries_walk (w : World) (cs : List Value) (m : Man) (h0 : Rp.rd w (fun _ => True) cs m) (i : Int) :
    Calls Try.prog 8 #[.agg cs.toArray, .int .i64 i] w fun e w' => e = .returned (.bool true) ∧ Below w.heap.size w w' := by
  obtain ⟨vr, vs, hcs, hr, hs⟩ := rd_man h0
  subst hcs
  have hx0 := (Below.refl w.heap.size w).alloc (Nat.le_refl _) (.cells #[.int .i64 m.size, vr, vs] 58)
  have hk0 : Blk (w.alloc (.cells #[.int .i64 m.size, vr, vs] 58)) w.heap.size 58 #[.int .i64 m.size, vr, vs] := heap_alloc_new w _
  obtain ⟨Ar, cr, hvr⟩ := hr.form
  obtain ⟨As, cs', hvs, _⟩ := hs.form
  subst hvr hvs
  go_enter Try.func8, Try.ntmps8
  go_wp2_with fail
  generalize w.alloc (.cells #[.int .i64 m.size, .slice Ar m.root.length cr, .slice As m.segs.length cs'] 58) = w0 at *
  with_reducible refine (alive5 w0).mono ?_
  rintro e w1 ⟨rfl, hx1⟩
  have hx2 := hx0.trans (hx1.mono hx0.size)
  have hk1 := hk0.below hx1 hk0.lt
  have hr1 := hr.below hx2
  have hs1 := hs.below hx2
  have e0 : w1.cell? ⟨w.heap.size, 0, none⟩ = some (.int .i64 m.size) := hk1.cell 0
  have e1 : w1.cell? ⟨w.heap.size, 1, none⟩ = some (.slice Ar m.root.length cr) := hk1.cell 1
  have e2 : w1.cell? ⟨w.heap.size, 2, none⟩ = some (.slice As m.segs.length cs') := hk1.cell 2
  go_wp2_with fail
  with_reducible refine (verify_any w1 _ _ _ _ m hr1 hs1).mono ?_
  unfold VerPost
  obtain ⟨V, HV⟩ : ∃ V, Hid (V = Shf.verC m) := ⟨_, Lib.hid rfl⟩
  rw [← HV.out]
  rintro e w2 ⟨v2, rfl, ho2, hx3⟩
  obtain ⟨⟨ea, eb⟩, el⟩ := V
  unfold fv
  simp only at ho2 ⊢
  have hx4 := hx2.trans (hx3.mono hx2.size)
  have hk2 := (hk1.below hx3 hk1.lt).alloc (.cells #[.int .i64 (ea : Int), .int .i64 (eb : Int)] 41)
  have hx5 := hx4.alloc hx4.size (.cells #[.int .i64 (ea : Int), .int .i64 (eb : Int)] 41)
  have hs2 := (hs1.below hx3).alloc (.cells #[.int .i64 (ea : Int), .int .i64 (eb : Int)] 41)
  have hL2 := ho2.alloc (.cells #[.int .i64 (ea : Int), .int .i64 (eb : Int)] 41)
  have hkf : Blk (w2.alloc (.cells #[.int .i64 (ea : Int), .int .i64 (eb : Int)] 41)) w2.heap.size 41 #[.int .i64 (ea : Int), .int .i64 (eb : Int)] := heap_alloc_new w2 _
  obtain ⟨A2, c2, hv2, hlc2, hcm2, _⟩ := ho2.blist.shape
  subst hv2
  unfold maxLen at hcm2
  clear ho2 hx3 e0 e1 e2 hs1 hr1 hk1 hx4
  by_cases hz : ea = 0
  · have hver : (Shf.verC m).1.1 = 0 := by rw [← HV.out]; exact hz
    have hE := Shf.entC_ver hver i
    rw [← HV.out] at hE
    simp only at hE
    have hsize : m.size ≤ 100 := (Shf.verC_ok hver).1.2.1
    have HE := Lib.hid hE
    subst hz
    clear hE hver
    go_upto_region 6 with (fail)
    generalize w2.alloc (.cells #[.int .i64 0, .int .i64 (eb : Int)] 41) = w3 at *
    have e0 : w3.cell? ⟨w.heap.size, 0, none⟩ = some (.int .i64 m.size) := hk2.cell 0
    have e1 : w3.cell? ⟨w.heap.size, 1, none⟩ = some (.slice Ar m.root.length cr) := hk2.cell 1
    have e2 : w3.cell? ⟨w.heap.size, 2, none⟩ = some (.slice As m.segs.length cs') := hk2.cell 2
    have H63 : Hid (i < m.size → i ≤ 9223372036854775807) := Lib.hid (fun h => by omega)
    clear hkf
    go_wp2_with fail
    with_reducible refine (entry_any w3 _ _ _ m i hs2 H63.out).mono ?_
    unfold EntPost
    rw [HE.out]
    by_cases hi : 0 ≤ i ∧ i < (el.length : Nat)
    · obtain ⟨j, rfl⟩ : ∃ j : Nat, i = (j : Int) := ⟨i.toNat, by omega⟩
      have hj : j < el.length := by omega
      have hgd : el.getD (j : Int).toNat [] = el[j] := by rw [Int.toNat_natCast, List.getD_eq_getElem?_getD, List.getElem?_eq_getElem hj]; rfl
      rw [if_pos hi, hgd]
      rintro e w4 ⟨v4, rfl, ho4, hx6⟩
      have hx7 := hx5.trans (hx6.mono hx5.size)
      obtain ⟨b1, o1, c1, u1, hA1, _, hb1, p1, hu1⟩ := (hL2.below hx6).get_ hj
      injection hA1 with hA1 _ _
      subst hA1
      have hnB : decide ((j : Int) < 0) = false := decide_eq_false (by omega)
      have hgB : decide ((el.length : Int) ≤ (j : Int)) = false := decide_eq_false (by omega)
      have hltB : (j : Int) < (el.length : Int) := by omega
      have hlcI : (el.length : Int) ≤ (c2 : Int) := by omega
      simp only at ho4 ⊢
      generalize hej : el[j] = ej at *
      have hsame := same_any w4 _ _ _ _ ej ej (OwnB.bytes ho4) (OwnB.bytes hu1)
      simp only [beq_self_eq_true] at hsame
      have HSM := Lib.hid hsame
      obtain ⟨A4, c4, hv4, _, _⟩ := Own.shape ho4
      subst hv4
      clear hsame hej hgd hi e0 e1 e2
      go_wp2_with fail
      with_reducible refine HSM.out.mono ?_
      rintro e w5 ⟨rfl, n, rfl⟩
      go_wp2_with fail
      go_ret
      exact ⟨rfl, below_drewN hx7 n⟩
    · rw [if_neg hi]
      rintro e w4 ⟨v4, rfl, ho4, hx6⟩
      have hx7 := hx5.trans (hx6.mono hx5.size)
      obtain ⟨A4, c4, hv4, _, _⟩ := Own.shape ho4
      subst hv4
      simp only at ho4 ⊢
      clear e0 e1 e2
      by_cases hn : i < 0
      · clear hi
        go_wp2_with fail
        go_ret
        exact ⟨rfl, hx7⟩
      · have hnB : decide (i < 0) = false := decide_eq_false hn
        have hgB : (el.length : Int) ≤ i := by omega
        clear hi
        go_wp2_with fail
        go_ret
        exact ⟨rfl, hx7⟩
  · have heB : ((ea : Int) != 0) = true := by simp; omega
    go_wp2_with fail
    go_ret
    exact ⟨rfl, hx5⟩
end Go.Proofs.Ytgbjfilkecmmgaa
