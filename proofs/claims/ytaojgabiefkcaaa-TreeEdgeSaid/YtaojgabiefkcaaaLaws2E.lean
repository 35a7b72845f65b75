/-
  THE WALKS of yearref2.Ones, yearlaw2.TreeEdge. Conditions: what comes in is read as lists of bytes.
-/
import Derived.Test.YtaojgabiefkcaaaLaws2A
import Derived.Test.YtaojgabiefkcaaaTreeL
import Derived.Test.YtaojgabiefkcaaaSame
namespace Go.Proofs.Ytaojgabiefkcaaa
open Go.RowKit Go.Lib

set_option maxHeartbeats 400000 in
theorem refOnes_any (n : Nat) (hn : n ≤ 1000) (z : Int) (hz : z = (n : Int)) (w : World) :
    Calls Try.prog 26 #[.int .i64 z] w fun e w' => e = .returned (.int .i64 (Tr.ones n : Int)) ∧ w' = w := by
  subst hz
  go_enter Try.func26, Try.ntmps26
  go_wp2_with fail
  go_loopg [0, 3] n (fun k un uk wr => un = .int .i64 (k : Int) ∧ ∃ c : Nat, uk = .int .i64 (c : Int) ∧ Hid (c + Tr.ones k = Tr.ones n) ∧ k ≤ 1000 ∧ c + k ≤ 1000 ∧ wr = w)
  case atStart => exact ⟨rfl, 0, rfl, Lib.hid (by omega), hn, by omega, rfl⟩
  case round =>
    obtain ⟨rfl, c, rfl, HC, hk, hck, rfl⟩ := hrel
    by_cases h0 : 0 < gk
    · have hB : (0 : Int) < (gk : Int) := by omega
      have HN : Hid (c + gk % 2 + Tr.ones (gk / 2) = Tr.ones n) := Lib.hid (by rw [← HC.out, Tr.ones_step gk h0]; omega)
      clear HC
      go_wp2_with fail
      go_roundg (gk / 2)
      case measure => omega
      case rel => exact ⟨congrArg (Value.int .i64) (by omega), c + gk % 2, congrArg (Value.int .i64) (by omega), HN, by omega, by omega, rfl⟩
    · have hB : decide ((0 : Int) < (gk : Int)) = false := decide_eq_false (by omega)
      have hgk : gk = 0 := by omega
      subst hgk
      have HN : Hid (c = Tr.ones n) := Lib.hid (by have := HC.out; rw [Tr.ones_zero] at this; omega)
      clear HC
      go_wp2_with fail
      go_ret
      exact ⟨congrArg (fun x : Nat => Ending.returned (.int .i64 (x : Int))) HN.out, rfl⟩

theorem d32_pairs : ∀ l : List Bs, D32 l → D32 (Tr.pairs l)
  | [], _ => by intro d hd; simp [Tr.pairs] at hd
  | [a], h => by intro d hd; simp [Tr.pairs] at hd; subst hd; exact h d (by simp)
  | a :: b :: l, h => by
    intro d hd
    simp only [Tr.pairs, List.mem_cons] at hd
    rcases hd with rfl | hd
    · exact Tr.length_nodeH _ _
    · exact d32_pairs l (fun x hx => h x (by simp [hx])) d hd
theorem d32_edge (n : Nat) : ∀ l : List Bs, l.length = n → D32 l → D32 (Tr.edge l) := by
  induction n using Nat.strongRecOn with
  | ind n ih =>
    intro l hl hd
    rcases List.eq_nil_or_concat l with rfl | ⟨q, x, rfl⟩
    · rw [Tr.edge_nil]; exact hd
    · rw [List.concat_eq_append] at *
      have hlen : q.length + 1 = n := by simpa using hl
      by_cases ho : q.length % 2 = 0
      · rw [Tr.edge_odd q x ho]
        exact (ih (Tr.pairs q).length (by rw [Tr.length_pairs]; omega) _ rfl (d32_pairs q (fun y hy => hd y (by simp [hy])))).snoc (hd x (by simp))
      · rw [Tr.edge_even _ (by simp; omega)]
        exact ih (Tr.pairs (q ++ [x])).length (by rw [Tr.length_pairs]; simp; omega) _ rfl (d32_pairs _ hd)

set_option maxRecDepth 100000 in
set_option maxHeartbeats 4000000 in
theorem treeEdge_walk (w : World) (v : Value) (ll : List Bs) (hl : BList w (fun _ => True) v ll) :
    Calls Try.prog 8 #[v] w fun e w' => e = .returned (.bool true) ∧ Below w.heap.size w w' := by
  obtain ⟨A, c, hv, hlc, hcm, _⟩ := hl.shape
  subst hv
  unfold maxLen at hcm
  have hok := wrongS_ok ll
  have HOK := Lib.hid hok
  clear hok
  go_enter Try.func8, Try.ntmps8
  go_wp2_with fail
  refine (alive2 w).mono ?_
  rintro e w1 ⟨rfl, hx1⟩
  have hl1 := hl.below hx1
  go_wp2_with fail
  refine (wrong_any w1 _ _ ll hl1).mono ?_
  rintro e w2 ⟨rfl, hx2⟩
  have hxb := hx1.trans (hx2.mono hx1.size)
  unfold fv
  generalize wrongS ll = pp at *
  obtain ⟨pa, pb⟩ := pp
  dsimp only at HOK ⊢
  have hfe : ∀ w : World, (Instr.field 32 (.agg #[.int .i64 (pa : Int), .int .i64 (pb : Int)]) 0).run Try.prog w = .ok (.int .i64 (pa : Int)) w := fun w => by kernel_rfl
  by_cases hpa : pa = 0
  · have hf : Fine ll := HOK.out.1 hpa
    have hn := hf.1
    have HF := Lib.hid hf
    have hB0 : ((pa : Int) != 0) = false := by rw [bne_eq_false_iff_eq]; omega
    clear hf hpa HOK hl1
    have hw2 : w.heap.size ≤ w2.heap.size := hxb.size
    go_wp2_with fail
    go_loopg [18] ll.length (fun k ui wr => ∃ (j : Nat) (pv : Value), j + k = ll.length ∧ ui = .int .i64 (j : Int) ∧ Blk wr w2.heap.size 44 #[.int .i64 (j : Int), pv] ∧ OwnL wr w.heap.size pv (Tr.edge ((ll.take j).map Tr.leafH)) ∧ Below w.heap.size w wr)
    case atStart => exact ⟨0, .slice none 0 0, by omega, rfl, heap_alloc_new w2 _, by rw [List.take_zero, List.map_nil, Tr.edge_nil]; exact OwnL.nil_ _ _, hxb.alloc hw2 _⟩
    case round =>
      obtain ⟨j, pv, hj, rfl, hb, hL, hx⟩ := hrel
      by_cases hlt : j < ll.length
      · obtain ⟨b, off, u, hA, hc, _, hbl, hub⟩ := hl.at_ hlt
        subst hA
        have hltB : (j : Int) < (ll.length : Int) := by omega
        have hc' := (hx.cell (p := ⟨b, off + j, none⟩) hbl).trans hc
        have hubr := hub.below hx
        have hx200 : ll[j].length ≤ 200 := HF.out.2 _ (List.getElem_mem hlt)
        have hlm : ((ll.take j).map Tr.leafH).length = j := by rw [List.length_map, List.length_take]; omega
        have hed : edgeOk (j : Int) (Tr.edge ((ll.take j).map Tr.leafH)) 99 := ⟨by omega, by omega, by rw [Int.toNat_natCast]; exact Tr.length_edge j _ hlm, (d32_edge _ _ rfl (d32_leaves _)).allD⟩
        have hpush : Tr.pushF (Tr.edge ((ll.take j).map Tr.leafH)) j (Tr.leafH ll[j]) = Tr.edge ((ll.take (j + 1)).map Tr.leafH) := by
          rw [Tr.push_edge j _ _ hlm, List.take_succ_eq_append_getElem hlt, List.map_append]; rfl
        have htop : topS (Tr.edge ((ll.take (j + 1)).map Tr.leafH)) = Tr.root ((ll.take (j + 1)).map Tr.leafH) := topS_edge _
        have hlm1 : ((ll.take (j + 1)).map Tr.leafH).length = j + 1 := by rw [List.length_map, List.length_take]; omega
        have hlen1 : (Tr.edge ((ll.take (j + 1)).map Tr.leafH)).length = Tr.ones (j + 1) := Tr.length_edge (j + 1) _ hlm1
        have hed1 : edgeOk ((j : Int) + 1) (Tr.edge ((ll.take (j + 1)).map Tr.leafH)) 100 := ⟨by omega, by omega, by rw [show ((j : Int) + 1).toNat = j + 1 by omega]; exact hlen1, (d32_edge _ _ rfl (d32_leaves _)).allD⟩
        have e0 : wr.cell? ⟨w2.heap.size, 0, none⟩ = some (.int .i64 (j : Int)) := hb.cell 0
        have e1 : wr.cell? ⟨w2.heap.size, 1, none⟩ = some pv := hb.cell 1
        have hlr := hl.below hx
        obtain ⟨A3, c3, hv3, _, _, _⟩ := hL.blist.shape
        subst hv3
        generalize ll[j] = x at *
        generalize Tr.edge ((ll.take j).map Tr.leafH) = E0 at *
        generalize hE1 : Tr.edge ((ll.take (j + 1)).map Tr.leafH) = E1 at *
        have HP := Lib.hid hpush
        have HT := Lib.hid htop
        have HL1 := Lib.hid hlen1
        have HED := Lib.hid hed
        have HED1 := Lib.hid hed1
        have HE1 := Lib.hid hE1
        have hbt := hb.lt
        clear hc hlm hpush htop hlm1 hlen1 hed hed1 hE1
        have hltI : (0 : Int) ≤ (j : Int) := by omega
        have hbl' : b < wr.heap.size := by have := hx.size; omega
        have hK : ∀ z, Below wr.heap.size wr z → z.cell? ⟨w2.heap.size, 0, none⟩ = some (.int .i64 (j : Int)) ∧ z.cell? ⟨w2.heap.size, 1, none⟩ = some (.slice A3 E0.length c3) ∧ z.cell? ⟨b, off + j, none⟩ = some u ∧ Below wr.heap.size wr z := fun z hz =>
          ⟨(hz.cell (p := ⟨w2.heap.size, 0, none⟩) hbt).trans e0, (hz.cell (p := ⟨w2.heap.size, 1, none⟩) hbt).trans e1, (hz.cell (p := ⟨b, off + j, none⟩) hbl').trans hc', hz⟩
        have HK := Lib.hid hK
        have hLd : BList wr.drew (fun k => w.heap.size ≤ k ∧ k < wr.heap.size) (.slice A3 E0.length c3) E0 := hL.blist
        have hubd : Bytes wr.drew (fun _ => True) u x := hubr
        have hLa : BList (wr.alloc (.cells #[.int .i64 0, .slice none 0 0] 44)).drew (fun k => w.heap.size ≤ k ∧ k < wr.heap.size) (.slice A3 E0.length c3) E0 := hL.blist.alloc _
        have huba : Bytes (wr.alloc (.cells #[.int .i64 0, .slice none 0 0] 44)).drew (fun _ => True) u x := hubr.alloc _
        have hxAl : Below wr.heap.size wr (wr.alloc (.cells #[.int .i64 0, .slice none 0 0] 44)).drew := ((Below.refl _ _).alloc (Nat.le_refl _) _).drew
        have hbAl : Blk (wr.alloc (.cells #[.int .i64 0, .slice none 0 0] 44)).drew wr.heap.size 44 #[.int .i64 0, .slice none 0 0] := heap_alloc_new wr _
        go_upto_region 9 with (fail)
        go_cut [5, 6] (fun pp ee z => ∃ (gx : Nat) (xv : Value), pp = .pointer (some ⟨gx, 0, none⟩) ∧ ee = .int .i64 0 ∧ Blk z gx 44 #[.int .i64 ((j : Int) + 1), xv] ∧ OwnL z w.heap.size xv E1 ∧ Below wr.heap.size wr z ∧ wr.heap.size ≤ gx)
        case first =>
          go_region_held3 (fun z : World => z.cell? ⟨w2.heap.size, 0, none⟩ = some (.int .i64 (j : Int)) ∧ z.cell? ⟨w2.heap.size, 1, none⟩ = some (.slice A3 E0.length c3) ∧ z.cell? ⟨b, off + j, none⟩ = some u ∧ Below wr.heap.size wr z)
            (first | assumption | exact HK.out _ (Below.refl _ _).drew | exact HK.out _ hxAl | exact HK.out _ hz1 | exact HK.out _ (hz1.alloc hz1.size _) | exact HK.out _ ((hz1.setCell (p := ⟨wr.heap.size, 0, none⟩) (Nat.le_refl _) _).setCell (p := ⟨wr.heap.size, 1, none⟩) (Nat.le_refl _) _))
            ((first
              | ((with_reducible refine (push_ok wr.drew _ _ _ _ (j : Int) E0 x hLd hubd HED.out hx200).mono ?_)
                 rintro e w3 ⟨xv, rfl, hown3, hx3⟩
                 rw [Int.toNat_natCast, HP.out] at hown3
                 obtain ⟨A4, c4, hv4, _, _, _⟩ := hown3.blist.shape
                 subst hv4
                 have hz1 : Below wr.heap.size wr w3 := ((Below.refl wr.heap.size wr).drew).trans hx3)
              | ((with_reducible refine (push_ok (wr.alloc (.cells #[.int .i64 0, .slice none 0 0] 44)).drew _ _ _ _ (j : Int) E0 x hLa huba HED.out hx200).mono ?_)
                 rintro e w3 ⟨xv, rfl, hown3, hx3⟩
                 rw [Int.toNat_natCast, HP.out] at hown3
                 obtain ⟨A4, c4, hv4, _, _, _⟩ := hown3.blist.shape
                 subst hv4
                 have hz1 : Below wr.heap.size wr w3 := hxAl.trans (hx3.mono (by simp))
                 have hb3 := hbAl.below hx3 (by simp)
                 have r0 : w3.cell? ⟨wr.heap.size, 0, none⟩ = some (.int .i64 0) := hb3.cell 0
                 have r1 : w3.cell? ⟨wr.heap.size, 1, none⟩ = some (.slice none 0 0) := hb3.cell 1
                 have f0 := hb3.frozen 0
                 have f1 := hb3.frozen 1)))
          · go_wp2_with fail
            go_meet
            exact ⟨_, _, rfl, rfl, heap_alloc_new w3 _, OwnL.alloc (hown3.mono hx.size) _, hz1.alloc hz1.size _, hz1.size⟩
          · go_wp2_with fail
            go_meet
            exact ⟨_, _, rfl, rfl, (hb3.set_ 0 (.int .i64 ((j : Int) + 1))).set_ 1 (.slice A4 E1.length c4),
              OwnL.setBlk (OwnL.setBlk (hown3.mono (by simp; have := hx.size; omega)) hb3 (by decide) (by decide) 0 (.int .i64 ((j : Int) + 1))) (hb3.set_ 0 (.int .i64 ((j : Int) + 1))) (by decide) (by decide) 1 (.slice A4 E1.length c4),
              (hz1.setCell (p := ⟨wr.heap.size, 0, none⟩) (Nat.le_refl _) _).setCell (p := ⟨wr.heap.size, 1, none⟩) (Nat.le_refl _) _, Nat.le_refl _⟩
        case rest =>
          obtain ⟨gx, xv, rfl, rfl, hbx, hLx, hxc, hgx⟩ := hcut
          obtain ⟨A4, c4, hv4, _, _, _⟩ := hLx.blist.shape
          subst hv4
          have hb3 := hb.below hxc hb.lt
          have hxd := hx.trans (hxc.mono hx.size)
          have g0 : wc.cell? ⟨w2.heap.size, 0, none⟩ = some (.int .i64 (j : Int)) := hb3.cell 0
          have g1 : wc.cell? ⟨w2.heap.size, 1, none⟩ = some (.slice A3 E0.length c3) := hb3.cell 1
          have f0 := hb3.frozen 0
          have f1 := hb3.frozen 1
          have x0 : wc.cell? ⟨gx, 0, none⟩ = some (.int .i64 ((j : Int) + 1)) := hbx.cell 0
          have x1 : wc.cell? ⟨gx, 1, none⟩ = some (.slice A4 E1.length c4) := hbx.cell 1
          have hw2l : w.heap.size ≤ w2.heap.size := hw2
          have hne : gx ≠ w2.heap.size := by omega
          have hbt3 := hb3.lt
          have hb4 := (hb3.set_ 0 (.int .i64 ((j : Int) + 1))).set_ 1 (.slice A4 E1.length c4)
          have hL4 := OwnL.setBlk (OwnL.setBlk hLx hb3 (by decide) (by decide) 0 (.int .i64 ((j : Int) + 1))) (hb3.set_ 0 (.int .i64 ((j : Int) + 1))) (by decide) (by decide) 1 (.slice A4 E1.length c4)
          have hx4 := (hxd.setCell (p := ⟨w2.heap.size, 0, none⟩) hw2 (.int .i64 ((j : Int) + 1))).setCell (p := ⟨w2.heap.size, 1, none⟩) hw2 (.slice A4 E1.length c4)
          have hjc : (j : Int) + 1 ≤ (c : Int) := by omega
          clear hb hL hlr hx hxc hubr hubd huba hLa hLd hbAl hxAl HK hb3 hbx hLx hxd
          go_wp2_with fail
          generalize (wc.setCell ⟨w2.heap.size, 0, none⟩ (.int .i64 ((j : Int) + 1))).setCell ⟨w2.heap.size, 1, none⟩ (.slice A4 E1.length c4) = w5 at *
          have hl5 := (hl.below hx4).first (j + 1) (by omega)
          refine (Root_fine _ _ _ (ll.take (j + 1)) hl5 (HF.out.take (j + 1))).mono ?_
          rintro e w6 ⟨rv, rfl, hown6, hx6⟩
          rw [← HT.out] at hown6
          have hx7 := hx4.trans (hx6.mono hx4.size)
          have hb6 := hb4.below hx6 hb4.lt
          have hL6 := hL4.below hx6
          have g0' : w6.cell? ⟨w2.heap.size, 0, none⟩ = some (.int .i64 ((j : Int) + 1)) := hb6.cell 0
          have g1' : w6.cell? ⟨w2.heap.size, 1, none⟩ = some (.slice A4 E1.length c4) := hb6.cell 1
          have hs6 := hb6.lt
          obtain ⟨A8, c8, hv8, _, _⟩ := Own.shape hown6
          subst hv8
          have hL7 := hL6.alloc (.cells #[.int .i64 0, .int .i64 0] 32)
          have hb7 := hb6.alloc (.cells #[.int .i64 0, .int .i64 0] 32)
          have hx8 := hx7.alloc hx7.size (.cells #[.int .i64 0, .int .i64 0] 32)
          have hr7 := (OwnB.bytes hown6).alloc (.cells #[.int .i64 0, .int .i64 0] 32)
          have hfl : Blk (w6.alloc (.cells #[.int .i64 0, .int .i64 0] 32)) w6.heap.size 32 #[.int .i64 0, .int .i64 0] := heap_alloc_new w6 _
          clear hL4 hb4 hL6 hb6 hown6 hl5
          go_wp2_with fail
          generalize w6.alloc (.cells #[.int .i64 0, .int .i64 0] 32) = w7 at *
          have hs7 := hb7.lt
          refine (top_ok w7 _ _ ((j : Int) + 1) E1 hL7.blist HED1.out).mono ?_
          rintro e w8 ⟨tv, rfl, hown8, hx9⟩
          have hb8 := hb7.below hx9 hb7.lt
          have hL8 := hL7.below hx9
          have hx10 := hx8.trans (hx9.mono hx8.size)
          have hr8 := hr7.below hx9
          have hfl8 := hfl.below hx9 hfl.lt
          have ht8 := OwnB.bytes hown8
          obtain ⟨A9, c9, hv9, _, _⟩ := Own.shape hown8
          subst hv9
          generalize topS E1 = T at *
          have hsame := fun n => same_any (w8.drewN n) _ _ _ _ T T (hr8.drewN n) (ht8.drewN n)
          simp only [beq_self_eq_true] at hsame
          have HSM := Lib.hid hsame
          have hone := fun w => refOnes_any (j + 1) (by omega) ((j : Int) + 1) (by omega) w
          have HON := Lib.hid hone
          have q0 : w8.cell? ⟨w2.heap.size, 0, none⟩ = some (.int .i64 ((j : Int) + 1)) := hb8.cell 0
          have q1 : w8.cell? ⟨w2.heap.size, 1, none⟩ = some (.slice A4 E1.length c4) := hb8.cell 1
          have q2 : w8.cell? ⟨w6.heap.size, 0, none⟩ = some (.int .i64 0) := hfl8.cell 0
          have hlB : ((E1.length : Int) != (Tr.ones (j + 1) : Int)) = false := by rw [bne_eq_false_iff_eq, HL1.out]
          have kW : IntKind.i64.wrap ((j : Int) + 1) = (j : Int) + 1 := IntWalk.i64_in _ (by omega)
          clear hsame hone hL7 hb7 hr7 hfl hown8
          go_wp2_with fail
          go_quiet ((first | (go_at_call 25; exact Calls.quiet_of (HSM.out _)) | (go_at_call 26; exact Calls.quiet_of_same (HON.out _))))
          go_wp2_with fail
          go_roundg (gk - 1)
          case measure => omega
          case rel => exact ⟨j + 1, _, by omega, by go_num, hb8.drewN _, by rw [HE1.out]; exact hL8.drewN _, below_drewN hx10 _⟩
      · have hltB : decide ((j : Int) < (ll.length : Int)) = false := decide_eq_false (by omega)
        go_wp2_with fail
        go_ret
        exact ⟨rfl, hx⟩
  · have hB0 : ((pa : Int) != 0) = true := by rw [bne_iff_ne]; omega
    clear hpa
    go_wp2_with fail
    go_ret
    exact ⟨rfl, hxb⟩
end Go.Proofs.Ytaojgabiefkcaaa
