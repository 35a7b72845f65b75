/-
  THE WALK of yearlaw5.ShelfSpoilt. Conditions: what comes in is read as a list of texts, and a manifest.
-/
import Derived.Test.YtgbjfilkecmmgaaZGi
import Derived.Test.YtgbjfilkecmmgaaZGj
import Derived.Test.YtgbjfilkecmmgaaZClashE
namespace Go.Proofs.Ytgbjfilkecmmgaa
open Go.RowKit Go.Lib

/-- of what is verified under the head of others: the path shows it there, so a clash is told -/
theorem spoilt_there {l x : List Bs} (hf : Fine l) (hx : Fine x) (hl : x.length = l.length) (hr : Tr.rootL x = Tr.rootL l) {j : Nat} (hj : j < x.length) (hne : x[j] ≠ l[j]'(by omega)) :
    (clashS l x[j] (j : Int) (Tr.path (x.map Tr.leafH) j)).isSome = true := by
  have h := standsS_path x hx j x[j] (List.getElem?_eq_getElem hj)
  have hr' : Tr.root (x.map Tr.leafH) = Tr.root (l.map Tr.leafH) := hr
  rw [hl, hr'] at h
  refine clashS_there ⟨hf, h, ?_⟩
  rw [Int.toNat_natCast, List.getElem?_eq_getElem (by omega)]
  intro e
  injection e with e
  exact hne e.symm

set_option maxRecDepth 100000 in
set_option maxHeartbeats 4000000 in
theorem shelfSpoilt_walk (w : World) (v0 : Value) (l : List Bs) (h0 : BList w (fun _ => True) v0 l) (cs : List Value) (m : Man) (h1 : Rp.rd w (fun _ => True) cs m) :
    Calls Try.prog 10 #[v0, .agg cs.toArray] w fun e w' => e = .returned (.bool true) ∧ Below w.heap.size w w' := by
  obtain ⟨A, c, hv0, hlc, hcm, _⟩ := h0.shape
  subst hv0
  unfold maxLen at hcm
  obtain ⟨vr, vs, hcs, hr, hs⟩ := rd_man h1
  subst hcs
  have hx0 := (Below.refl w.heap.size w).alloc (Nat.le_refl _) (.cells #[.int .i64 m.size, vr, vs] 58)
  have hk0 : Blk (w.alloc (.cells #[.int .i64 m.size, vr, vs] 58)) w.heap.size 58 #[.int .i64 m.size, vr, vs] := heap_alloc_new w _
  obtain ⟨Ar, cr, hvr⟩ := hr.form
  obtain ⟨As, cs', hvs, _⟩ := hs.form
  subst hvr hvs
  have hlW := h0.weak (F' := fun k => k < w.heap.size) (fun k hk _ => hk)
  have hsW := hs.weak (F' := fun k => k < w.heap.size) (fun k hk _ => hk)
  obtain ⟨size, root, segs⟩ := m
  simp only at hx0 hk0 hsW hs hr h1 ⊢
  clear h0 h1 hs hr
  go_enter Try.func10, Try.ntmps10
  go_wp2_with fail
  generalize w.alloc (.cells #[.int .i64 size, .slice Ar root.length cr, .slice As segs.length cs'] 58) = w0 at *
  with_reducible refine (alive5 w0).mono ?_
  rintro e w1 ⟨rfl, hx1⟩
  have hx2 := hx0.trans (hx1.mono hx0.size)
  have hk1 := hk0.below hx1 hk0.lt
  have hl1 : BList w1 (fun k => k < w.heap.size) (.slice A l.length c) l := hlW.map_ fun _ _ _ h => h.below_of hx2 (fun _ h => h)
  have hs1 : RdL w1 (fun k => k < w.heap.size) (.slice As segs.length cs') segs := hsW.below_of hx2 (fun _ h => h)
  go_wp2_with fail
  by_cases hf : Fine l
  · with_reducible refine (Root_fine w1 _ _ l hl1 hf).mono ?_
    rintro e w2 ⟨rv, rfl, ho2, hx3⟩
    have hrl : Tr.root (l.map Tr.leafH) = Tr.rootL l := rfl
    rw [hrl] at ho2
    clear hrl
    obtain ⟨A2, c2, hv2, _, _⟩ := Own.shape ho2
    generalize hnr : (Tr.rootL l).length = nr at hv2
    subst hv2
    have HNR := Lib.hid hnr
    clear hnr
    have hx4 := hx2.trans (hx3.mono hx2.size)
    have hx5 := hx4.alloc hx4.size (.cells #[.int .i64 0, .int .i64 0] 41)
    have hk2 := (hk1.below hx3 hk1.lt).alloc (.cells #[.int .i64 0, .int .i64 0] 41)
    have hkf : Blk (w2.alloc (.cells #[.int .i64 0, .int .i64 0] 41)) w2.heap.size 41 #[.int .i64 0, .int .i64 0] := heap_alloc_new w2 _
    have hb2 : OwnB (w2.alloc (.cells #[.int .i64 0, .int .i64 0] 41)) w1.heap.size (.slice A2 nr c2) (Tr.rootL l) := Own.alloc ho2 _
    have hgf : w.heap.size < w2.heap.size := (hk1.below hx3 hk1.lt).lt
    clear hk1 ho2 hx3 hl1 hs1
    go_upto_region 6 with (fail)
    generalize w2.alloc (.cells #[.int .i64 0, .int .i64 0] 41) = w3 at *
    generalize w2.heap.size = gf at *
    have m0 : w3.cell? ⟨w.heap.size, 0, none⟩ = some (.int .i64 size) := hk2.cell 0
    have m1 : w3.cell? ⟨w.heap.size, 1, none⟩ = some (.slice Ar root.length cr) := hk2.cell 1
    have m2 : w3.cell? ⟨w.heap.size, 2, none⟩ = some (.slice As segs.length cs') := hk2.cell 2
    have f0 := hk2.frozen 0
    have f1 := hk2.frozen 1
    go_upto_region 7 with (fail)
    have hk3' : Blk ((w3.setCell ⟨w.heap.size, 0, none⟩ (.int .i64 (l.length : Int))).setCell ⟨w.heap.size, 1, none⟩ (.slice A2 nr c2)) w.heap.size 58 #[.int .i64 (l.length : Int), .slice A2 nr c2, .slice As segs.length cs'] := (hk2.set_ 0 _).set_ 1 _
    have hkf3 := (hkf.far (p := ⟨w.heap.size, 0, none⟩) (by show gf ≠ w.heap.size; omega) (.int .i64 (l.length : Int))).far (p := ⟨w.heap.size, 1, none⟩) (by show gf ≠ w.heap.size; omega) (.slice A2 nr c2)
    have hx6 := (hx5.setCell (p := ⟨w.heap.size, 0, none⟩) (Nat.le_refl _) (.int .i64 (l.length : Int))).setCell (p := ⟨w.heap.size, 1, none⟩) (Nat.le_refl _) (.slice A2 nr c2)
    have hb3 := Own.setCell (p := ⟨w.heap.size, 1, none⟩) (Own.setCell (p := ⟨w.heap.size, 0, none⟩) hb2 (Own.ne_blk hb2 hk2 (by decide)) (.int .i64 (l.length : Int))) (Own.ne_blk hb2 hk2 (by decide)) (.slice A2 nr c2)
    generalize ((w3.setCell ⟨w.heap.size, 0, none⟩ (.int .i64 (l.length : Int))).setCell ⟨w.heap.size, 1, none⟩ (.slice A2 nr c2)) = w4 at *
    have hl4 : BList w4 (fun k => k < w.heap.size) (.slice A l.length c) l := hlW.map_ fun _ _ _ h => h.below_of hx6 (fun _ h => h)
    have hs4 : RdL w4 (fun k => k < w.heap.size) (.slice As segs.length cs') segs := hsW.below_of hx6 (fun _ h => h)
    have n0 : w4.cell? ⟨w.heap.size, 0, none⟩ = some (.int .i64 (l.length : Int)) := hk3'.cell 0
    have n1 : w4.cell? ⟨w.heap.size, 1, none⟩ = some (.slice A2 nr c2) := hk3'.cell 1
    have n2 : w4.cell? ⟨w.heap.size, 2, none⟩ = some (.slice As segs.length cs') := hk3'.cell 2
    have HF := Lib.hid hf
    clear m0 m1 m2 f0 f1 hk2 hb2 hkf hx5 hx4 hf
    go_wp2_with fail
    have hb3' : OwnB w4 w1.heap.size (.slice A2 nr c2) (Tr.rootL l) := hb3
    have hvc := verify_any w4 _ _ _ _ ⟨(l.length : Int), Tr.rootL l, segs⟩ (OwnB.bytes hb3') hs4
    simp only at hvc
    have HVC := Lib.hid hvc
    clear hvc hb3'
    with_reducible refine HVC.out.mono ?_
    unfold VerPost
    obtain ⟨V, HV⟩ : ∃ V, Hid (V = Shf.verC ⟨(l.length : Int), Tr.rootL l, segs⟩) := ⟨_, Lib.hid rfl⟩
    rw [← HV.out]
    rintro e w5 ⟨v5, rfl, ho5, hx7⟩
    obtain ⟨⟨ea, eb⟩, el⟩ := V
    unfold fv
    simp only at ho5 ⊢
    have hx8 := hx6.trans (hx7.mono hx6.size)
    have hkf5 := hkf3.below hx7 hkf3.lt
    obtain ⟨A5, c5, hv5, hlc5, hcm5, _⟩ := ho5.blist.shape
    subst hv5
    unfold maxLen at hcm5
    have p0 : w5.cell? ⟨gf, 0, none⟩ = some (.int .i64 0) := hkf5.cell 0
    have p1 : w5.cell? ⟨gf, 1, none⟩ = some (.int .i64 0) := hkf5.cell 1
    have p2 := hkf5.frozen 0
    have p3 := hkf5.frozen 1
    have hb5 := (hb3.below hx7)
    clear n0 n1 n2 hk3' hkf3 hs4 hl4 hb3 hx7
    go_upto_region 8 with (fail)
    have hx9 := below_set2 (g := gf) hx8 (by omega) (.int .i64 (ea : Int)) (.int .i64 (eb : Int))
    have hkf6 := hkf5.set2 (.int .i64 (ea : Int)) (.int .i64 (eb : Int))
    have hL6 : OwnL ((w5.setCell ⟨gf, 0, none⟩ (.int .i64 (ea : Int))).setCell ⟨gf, 1, none⟩ (.int .i64 (eb : Int))) w4.heap.size (.slice A5 el.length c5) el := by
      obtain ⟨vs, ho, hin⟩ := ho5
      exact ⟨vs, Own.set2 ho (Own.ne_blk ho hkf5 (by decide)) _ _, fun i b hb => by
        obtain ⟨u, hu, hu2⟩ := hin i b hb
        exact ⟨u, hu, Own.set2 hu2 (Own.ne_blk hu2 hkf5 (by decide)) _ _⟩⟩
    generalize ((w5.setCell ⟨gf, 0, none⟩ (.int .i64 (ea : Int))).setCell ⟨gf, 1, none⟩ (.int .i64 (eb : Int))) = w6 at *
    have q0 : w6.cell? ⟨gf, 0, none⟩ = some (.int .i64 (ea : Int)) := hkf6.cell 0
    clear p0 p1 p2 p3 hkf5 ho5 hb5 hx8
    by_cases hz : ea = 0
    · have hver : (Shf.verC ⟨(l.length : Int), Tr.rootL l, segs⟩).1.1 = 0 := by rw [← HV.out]; exact hz
      obtain ⟨-, -, hroot, -, hlen, hfin⟩ := Shf.verC_ok hver
      rw [← HV.out] at hroot hlen hfin
      simp only [Int.toNat_natCast] at hroot hlen hfin
      have HT : Hid (∀ (j : Nat) (hj : j < el.length) (hj' : j < l.length), el[j] ≠ l[j] → (clashS l el[j] (j : Int) (Tr.path (el.map Tr.leafH) j)).isSome = true) := Lib.hid fun j hj hj' hne => spoilt_there HF.out hfin hlen hroot hj hne
      have hneB : ((el.length : Int) != (l.length : Int)) = false := by rw [bne_eq_false_iff_eq, hlen]
      have HLEN := Lib.hid hlen
      have HFI := Lib.hid hfin
      have hel100 := hfin.1
      subst hz
      clear hver hroot hlen hfin
      go_wp2_with fail
      go_loopg [47] l.length (fun k i wr => ∃ j : Nat, j + k = l.length ∧ i = .int .i64 (j : Int) ∧ Below w6.heap.size w6 wr)
      case atStart => exact ⟨0, by omega, rfl, Below.refl _ _⟩
      case round =>
        obtain ⟨j, hj, rfl, hxr⟩ := hrel
        have hxw := hx9.trans (hxr.mono hx9.size)
        by_cases hlt : j < l.length
        · have hltB : (j : Int) < (l.length : Int) := by omega
          have hj0 : (0 : Int) ≤ (j : Int) := by omega
          have hje : j < el.length := by rw [HLEN.out]; exact hlt
          have hjeB : (j : Int) < (el.length : Int) := by omega
          have hlr : BList wr (fun k => k < w.heap.size) (.slice A l.length c) l := hlW.map_ fun _ _ _ h => h.below_of hxw (fun _ h => h)
          have hLr := hL6.below hxr
          obtain ⟨b1, o1, u1, hA1, p1, _, hb1, hu1⟩ := BList.at_ hlr hlt
          obtain ⟨b2, o2, c2', u2, hA2, _, hb2, p2, hu2⟩ := hLr.get_ hje
          injection hA2 with hA2 _ hc2
          subst hA1 hA2 hc2
          have hTj := HT.out j hje hlt
          have hgj : el[j]? = some el[j] := List.getElem?_eq_getElem hje
          have he200 : el[j].length ≤ 200 := HFI.out.2 _ (List.getElem_mem hje)
          generalize l[j] = ej at *
          generalize el[j] = xj at *
          have hsame := fun n => same_any (wr.drewN n) _ _ _ _ xj ej ((OwnB.bytes hu2).drewN n) (hu1.drewN n)
          obtain ⟨A3, c3, hu3, _, _⟩ := Own.shape hu2
          subst hu3
          obtain ⟨A6, c6, hu6⟩ := hu1.form
          subst hu6
          by_cases he : xj = ej
          · have hbB : (xj == ej) = true := beq_iff_eq.2 he
            rw [hbB] at hsame
            have HSM := Lib.hid hsame
            clear hsame he hTj hgj hbB
            go_wp2_with fail
            go_quiet ((go_at_call 15; exact Calls.quiet_of (HSM.out _)))
            go_wp2_with fail
            go_roundg (gk - 1)
            case measure => omega
            case rel => exact ⟨j + 1, by omega, by go_num, below_drewN hxr _⟩
          · have hbB : (xj == ej) = false := beq_eq_false_iff_ne.2 he
            rw [hbB] at hsame
            have HSM := Lib.hid hsame
            have HTJ := Lib.hid (hTj he)
            have HGJ := Lib.hid hgj
            clear hsame he hTj hgj hbB
            go_wp2_with fail
            go_quiet ((go_at_call 15; exact Calls.quiet_of (HSM.out _)))
            have hxq := below_drewN hxr nq
            have hlq := hlr.drewN nq
            have hLq := hLr.drewN nq
            have huq := OwnB.bytes hu2
            have huq' := huq.drewN nq
            have pq2 : (wr.drewN nq).cell? ⟨b2, o2 + j, none⟩ = some (.slice A3 xj.length c3) := p2
            generalize wr.drewN nq = wq at *
            go_wp2_with fail
            with_reducible refine (Path_fine wq _ _ el (j : Int) hLq.blist HFI.out hj0 hjeB).mono ?_
            rintro e wa ⟨va, rfl, hoa, hxa⟩
            rw [Int.toNat_natCast] at hoa
            have hxa1 := hxq.trans (hxa.mono hxq.size)
            have hxa2 := hxa1.alloc hxa1.size (.cells #[.int .i64 0, .int .i64 0] 41)
            have hka : Blk (wa.alloc (.cells #[.int .i64 0, .int .i64 0] 41)) wa.heap.size 41 #[.int .i64 0, .int .i64 0] := heap_alloc_new wa _
            have hpa := hoa.blist.alloc (.cells #[.int .i64 0, .int .i64 0] 41)
            have hla := (hlq.below hxa).alloc (.cells #[.int .i64 0, .int .i64 0] 41)
            have hua := (huq'.below hxa).alloc (.cells #[.int .i64 0, .int .i64 0] 41)
            have hpa2 := ((Below.refl wa.heap.size wa).alloc (Nat.le_refl _) (.cells #[.int .i64 0, .int .i64 0] 41))
            have pa2 : (wa.alloc (.cells #[.int .i64 0, .int .i64 0] 41)).cell? ⟨b2, o2 + j, none⟩ = some (.slice A3 xj.length c3) := by
              obtain ⟨b2', o2', c2', u2', hA2', _, hb2', p2', _⟩ := hLq.get_ hje
              injection hA2' with hA2' _ _
              injection hA2' with hA2'
              injection hA2' with e1 e2
              subst e1 e2
              exact ((hxa.trans (hpa2.mono hxa.size)).cell (p := ⟨b2, o2 + j, none⟩) hb2').trans pq2
            obtain ⟨Ap, cp, hvp, _⟩ := hpa.shape
            subst hvp
            generalize hP : Tr.path (el.map Tr.leafH) j = P at *
            clear hoa hxa p1 p2 hlr hLr pq2
            go_upto_region 17 with (fail)
            generalize wa.alloc (.cells #[.int .i64 0, .int .i64 0] 41) = wb at *
            have f0 : wb.cell? ⟨wa.heap.size, 0, none⟩ = some (.int .i64 0) := hka.cell 0
            obtain ⟨q, hq⟩ : ∃ q, clashS l xj (j : Int) P = some q := by
              have := HTJ.out
              cases h : clashS l xj (j : Int) P with
              | none => rw [h] at this; cases this
              | some q => exact ⟨q, rfl⟩
            have hcs := clashS_some hq
            have hcc := Tr.clashOf_some hcs.1
            have hstc := standsC_any wb _ _ _ _ _ _ l xj (j : Int) P hla hua hpa
            rw [hq] at hstc
            have HST := Lib.hid hstc
            have HQ1 := Lib.hid hcc.1
            have HQ2 := Lib.hid hcc.2
            obtain ⟨_, hq201, hq202⟩ := hcs
            have HPP := Lib.hid hP
            clear hstc hq hcc hP
            go_wp2_with fail
            with_reducible refine HST.out.mono ?_
            rintro e wd ⟨vp, vq, rfl, hop, hoq, hxd⟩
            have hxd1 := hxa2.trans (hxd.mono hxa2.size)
            have hkd := hka.below hxd hka.lt
            have f1 : wd.cell? ⟨wa.heap.size, 0, none⟩ = some (.int .i64 0) := hkd.cell 0
            have hop' : OwnB wd wb.heap.size vp q.1 := hop
            have hoq' : OwnB wd wb.heap.size vq q.2 := hoq
            clear hop hoq f0 pa2 hka hxd
            obtain ⟨A7, c7, hv7, _, _⟩ := Own.shape hop'
            obtain ⟨A8, c8, hv8, _, _⟩ := Own.shape hoq'
            subst hv7 hv8
            obtain ⟨qa, qb⟩ := q
            simp only at hop' hoq' hq201 hq202 HQ1 HQ2 ⊢
            have hsm := same_any wd _ _ _ _ qa qb hop'.bytes hoq'.bytes
            rw [beq_eq_false_iff_ne.2 HQ1.out] at hsm
            have HSM2 := Lib.hid hsm
            clear hsm
            go_wp2_with fail
            with_reducible refine HSM2.out.mono ?_
            rintro e we ⟨rfl, n2, hwe⟩
            have hbe := hop'.bytes.drewN n2
            have hbe' := hoq'.bytes.drewN n2
            have hxe := below_drewN hxd1 n2
            rw [← hwe] at hbe hbe' hxe
            clear hwe hop' hoq'
            go_wp2_with fail
            with_reducible refine (sum_any we _ _ qa hbe (by omega)).mono ?_
            rintro e wf ⟨v9, rfl, ho9, hxf⟩
            have hxf1 := hxe.trans (hxf.mono hxe.size)
            have hbf := hbe'.below hxf
            obtain ⟨A9, c9, hv9, _, _⟩ := Own.shape ho9
            subst hv9
            go_wp2_with fail
            with_reducible refine (sum_any wf _ _ qb hbf (by omega)).mono ?_
            rintro e wg ⟨v10, rfl, ho10, hxg⟩
            have hxg1 := hxf1.trans (hxg.mono hxf1.size)
            obtain ⟨A10, c10, hv10, _, _⟩ := Own.shape ho10
            subst hv10
            have hsm := same_any wg _ _ _ _ _ _ (OwnB.bytes (OwnB.below ho9 hxg)) (OwnB.bytes ho10)
            rw [HQ2.out] at hsm
            simp only [beq_self_eq_true] at hsm
            have HSM3 := Lib.hid hsm
            clear hsm
            rw [HQ2.out]
            go_wp2_with fail
            with_reducible refine HSM3.out.mono ?_
            rintro e wh ⟨rfl, n3, hwh⟩
            have hxh := below_drewN hxg1 n3
            rw [← hwh] at hxh
            clear hwh
            go_wp2_with fail
            go_roundg (gk - 1)
            case measure => omega
            case rel => exact ⟨j + 1, by omega, by go_num, hxh⟩
        · have hltB : decide ((j : Int) < (l.length : Int)) = false := decide_eq_false (by omega)
          go_wp2_with fail
          go_ret
          exact ⟨rfl, hxw⟩
    · have heB : ((ea : Int) != 0) = true := by simp; omega
      have hbad : el = [] := by
        have := Shf.verC_bad (m := ⟨(l.length : Int), Tr.rootL l, segs⟩) (by rw [← HV.out]; exact hz)
        rw [← HV.out] at this
        exact this
      subst hbad
      clear hz
      go_wp2_with fail
      go_ret
      exact ⟨rfl, hx9⟩
  · with_reducible refine (Root_bad w1 _ _ l hl1 hf).mono ?_
    rintro e w2 ⟨a, a', rfl, _, ha, hx3⟩
    go_wp2_with fail
    go_ret
    exact ⟨rfl, (hx2.trans (hx3.mono hx2.size)).alloc (hx2.trans (hx3.mono hx2.size)).size _⟩
end Go.Proofs.Ytgbjfilkecmmgaa
