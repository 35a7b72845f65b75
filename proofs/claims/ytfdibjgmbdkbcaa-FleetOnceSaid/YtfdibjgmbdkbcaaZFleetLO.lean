/-
  THE WALK of FleetOnce. Conditions: what comes in is read.
-/
import Derived.BigQuiet
import Derived.Test.YtfdibjgmbdkbcaaZRepr
import Derived.Test.YtfdibjgmbdkbcaaZFleetL7
import Derived.Test.YtfdibjgmbdkbcaaZFleetOP
namespace Go.Proofs.Ytfdibjgmbdkbcaa
open Go.RowKit Go.Lib Go.Maps

theorem ownsMap_belowO {H : Type} {P : Program} {k : TypeId} {R : Value → Option (DataW H × List MemPlace)} {w w' : World} {b n : Nat} {D : DataW H} (h : w.ownsMap P k R b n D) (hx : Below w.heap.size w w') : w'.ownsMap P k R b n D := by
  have hlt := h.lt
  obtain ⟨es, clock, hb, F, hs, hD⟩ := h
  exact ⟨es, clock, (hx.block b hlt).trans hb, F, hs, hD⟩
theorem below_grownO {a w w' : World} (h : Below a.heap.size a w) {r : Nat} (hg : w.grownBy w' (some r)) (hr : a.heap.size ≤ r) : Below a.heap.size a w' :=
  h.grown hg h.size (fun b hb => by injection hb with hb; omega)
theorem Bytes.len {w : World} {F : Nat → Prop} {v : Value} {l : Bs} (h : Bytes w F v l) : l.length ≤ maxLen := by obtain ⟨_, _, hv, h1, h2, _⟩ := h; exact Nat.le_trans h1 h2


set_option maxRecDepth 100000 in
set_option maxHeartbeats 8000000 in
theorem fleetOnce_walk (w : World) (v0 : Value) (l0 : List (Int × Int)) (h0 : RdL w (fun _ => True) v0 l0) (v1 : Value) (l1 : List Dob) (h1 : RdL w (fun _ => True) v1 l1) :
    Calls Try.prog 11 #[v0, v1] w fun e w' => e = .returned (.bool true) ∧ Below w.heap.size w w' := by
  obtain ⟨A0, c0, hv0, hn0, hm0⟩ := h0.form
  obtain ⟨A1, c1, hv1, hn1, hm1⟩ := h1.form
  subst hv0 hv1
  unfold maxLen at hm0 hm1
  go_enter Try.func11, Try.ntmps11
  go_wp2_with fail
  with_reducible refine (alive7 w).mono ?_
  rintro e w1 ⟨rfl, hx1⟩
  obtain ⟨fx, lax, ax, bx, hpl⟩ : ∃ f_ la_ a_ b_, Fl.play l0 l1 = (f_, la_, (a_, b_)) := ⟨_, _, _, _, rfl⟩
  have HP := Lib.hid (play_any w1 _ _ _ _ l0 l1 (h0.below hx1) (h1.below hx1))
  rw [hpl] at HP
  have HPLx := Lib.hid hpl
  clear hpl
  go_wp2_with fail
  refine HP.out.mono ?_
  rintro e w2 ⟨vs, vb, va, rfl, qsx, qbx, qax, hxpx⟩
  simp only at qsx qbx qax ⊢
  replace qsx := qsx.weak (F' := fun b => b < w2.heap.size) fun b hb _ => hb
  replace qbx := qbx.weak (F' := fun b => b < w2.heap.size) fun b hb _ => hb
  replace qax := qax.weak (F' := fun b => b < w2.heap.size) fun b hb _ => hb
  obtain ⟨Asx, csx, hvs, hlsx, hcsx⟩ := qsx.form
  obtain ⟨Abx, cbx, hvb, hlbx, hcbx⟩ := qbx.form
  obtain ⟨Aax, cax, hva, hlax, hcax⟩ := qax.form
  unfold maxLen at hcsx hcbx hcax
  subst hvs hvb hva
  clear HP
  go_upto_region 4 with (fail)
  have hxqx := ((Below.refl w2.heap.size w2).alloc (Nat.le_refl _) (.cells #[.slice Asx fx.sh.length csx, .slice Abx fx.book.length cbx] 92)).alloc (by simp) (.cells #[.int .i64 (ax : Int), .int .i64 (bx : Int)] 32)
  have hbFx : Blk ((w2.alloc (.cells #[.slice Asx fx.sh.length csx, .slice Abx fx.book.length cbx] 92)).alloc (.cells #[.int .i64 (ax : Int), .int .i64 (bx : Int)] 32)) w2.heap.size 92 #[.slice Asx fx.sh.length csx, .slice Abx fx.book.length cbx] := Blk.alloc (heap_alloc_new w2 _) _
  have hbWx : Blk ((w2.alloc (.cells #[.slice Asx fx.sh.length csx, .slice Abx fx.book.length cbx] 92)).alloc (.cells #[.int .i64 (ax : Int), .int .i64 (bx : Int)] 32)) (w2.heap.size + 1) 32 #[.int .i64 (ax : Int), .int .i64 (bx : Int)] := by
    have := heap_alloc_new (w2.alloc (.cells #[.slice Asx fx.sh.length csx, .slice Abx fx.book.length cbx] 92)) (.cells #[.int .i64 (ax : Int), .int .i64 (bx : Int)] 32)
    rw [World.size_alloc] at this
    exact this
  generalize ((w2.alloc (.cells #[.slice Asx fx.sh.length csx, .slice Abx fx.book.length cbx] 92)).alloc (.cells #[.int .i64 (ax : Int), .int .i64 (bx : Int)] 32)) = w3 at *
  have hxsx := hxpx.trans (hxqx.mono hxpx.size)
  have hxxB := hx1.trans (hxsx.mono hx1.size)
  replace qsx := qsx.below hxqx
  replace qbx := qbx.below hxqx
  replace qax := qax.below hxqx
  have hgwx : w1.heap.size ≤ w2.heap.size := hxpx.size
  clear hxpx hxqx
  generalize w2.heap.size = gx at *
  have e1 : w3.cell? ⟨gx + 1, 0, none⟩ = some (.int .i64 (ax : Int)) := hbWx.cell 0
  by_cases hax : ax = 0
  · have hneX : ((ax : Int) != 0) = false := by rw [bne_eq_false_iff_eq]; omega
    have hpl0 : Fl.play l0 l1 = (fx, lax, (0, bx)) := by rw [HPLx.out, hax]
    obtain ⟨-, -, px, hww, h120⟩ := Fl.play_ok hpl0
    have hlx : Hid (lax.length = l1.length) := Lib.hid (by rw [px, Fl.length_run])
    have HPX := Lib.hid px
    have HWW := Lib.hid hww
    have hmm1 : ∀ (t : TypeId) (w : World), (Instr.makeMap t none).run Try.prog w = .ok (.map (some w.heap.size)) (w.alloc (.map #[] 0)) := fun _ _ => rfl
    have hm1 : (w3.alloc (.map #[] 0)).ownsMap Try.prog 3 (plainElem (H := Unit) Try.prog 3) w3.heap.size 0 (.map []) := World.ownsMap_made w3 _ _ _
    have hm2 : ((w3.alloc (.map #[] 0)).alloc (.map #[] 0)).ownsMap Try.prog 112 (plainElem (H := Unit) Try.prog 9) (w3.heap.size + 1) 0 (.map []) := by
      have h := World.ownsMap_made (H := Unit) (w3.alloc (.map #[] 0)) Try.prog 112 (plainElem (H := Unit) Try.prog 9)
      rwa [World.size_alloc] at h
    replace hm1 := hm1.alloc (.map #[] 0)
    have hx4 := ((Below.refl w3.heap.size w3).alloc (Nat.le_refl _) (.map #[] 0)).alloc (by simp) (.map #[] 0)
    have h13 := h1.below hxxB
    have hgxw : gx + 1 < w3.heap.size := hbWx.lt
    clear px hww hpl0 hax
    go_wp2_with fail
    clear hmm1
    generalize (w3.alloc (.map #[] 0)).alloc (.map #[] 0) = w4 at *
    go_loopg [33] l1.length (fun m i wr => ∃ j : Nat, j + m = l1.length ∧ i = .int .i64 (j : Int) ∧ ∃ (gs : List (List Bs)) (D1 D2 : DataW Unit) (n1 n2 : Nat), Hid (Fl.Gt (Fl.run (Fl.start l0) (l1.take j)).1 gs) ∧ Hid (NextM D1 gs) ∧ Hid (HadM D2 gs) ∧ wr.ownsMap Try.prog 3 (plainElem Try.prog 3) w3.heap.size n1 D1 ∧ wr.ownsMap Try.prog 112 (plainElem Try.prog 9) (w3.heap.size + 1) n2 D2 ∧ n1 ≤ j ∧ n2 ≤ j ∧ Below w3.heap.size w3 wr)
    case atStart => exact ⟨0, by omega, rfl, _, _, _, 0, 0, Lib.hid (Fl.Gt.start l0), Lib.hid (NextM.nil_ l0), Lib.hid (HadM.nil_ l0), hm1, hm2, Nat.le_refl _, Nat.le_refl _, hx4⟩
    case round =>
      obtain ⟨j, hj, rfl, gs, D1, D2, n1, n2, HG, HN, HH, hm1r, hm2r, hn1, hn2, hx⟩ := hrel
      have hxr := hxxB.trans (hx.mono hxxB.size)
      by_cases hlt : j < l1.length
      · have hlt2 : j < lax.length := by have := hlx.out; omega
        obtain ⟨g2, o2, k2, Ae, ce, hA2, -, hg2, d0, d1, d2, d3, d4, d5, d6, hde⟩ := dob_at (h13.below hx) hlt
        obtain ⟨g1, o1, k1, u1, hA1, hg1x, hg1, a0, a1, a2, -⟩ := ans_at (qax.below hx) hlt2
        injection hA2 with hA2 _ hA3
        subst hA2 hA3
        injection hA1 with hA1 _ hA3
        subst hA1 hA3
        have hltB : (j : Int) < (l1.length : Int) := by omega
        have hlt2B : (j : Int) < (lax.length : Int) := by omega
        have hj0 : (0 : Int) ≤ (j : Int) := by omega
        have HR : Hid (∃ gs', Fl.Gt (Fl.run (Fl.start l0) (l1.take (j + 1))).1 gs' ∧ Fl.TookAt gs gs' l1[j] lax[j]) := Lib.hid (by
          have h := Fl.once_round HWW.out hlt HG.out (by rw [← HPX.out]; exact hlt2)
          obtain ⟨gs', h1, h2⟩ := h
          refine ⟨gs', h1, ?_⟩
          have e : (Fl.run (Fl.start l0) l1).2[j]'(by rw [← HPX.out]; exact hlt2) = lax[j] := by congr 1; rw [← HPX.out]
          rwa [e] at h2)
        unfold bv at d6
        generalize l1[j] = d at *
        generalize hla : lax[j] = la at *
        clear hla
        obtain ⟨gs', HG2, HT⟩ : ∃ gs', Hid (Fl.Gt (Fl.run (Fl.start l0) (l1.take (j + 1))).1 gs') ∧ Hid (Fl.TookAt gs gs' d la) := by obtain ⟨gs', h1, h2⟩ := HR.out; exact ⟨gs', Lib.hid h1, Lib.hid h2⟩
        obtain ⟨re, rs, rp, rz, rr⟩ := la
        simp only at a0 a1 a2
        clear HR HG
        go_upto_region 11 with (fail)
        have hxb := (Below.refl wr.heap.size wr).alloc (Nat.le_refl _) (.cells #[.int .i64 d.kind, .int .i64 d.n, .int .i64 d.time, .slice Ae d.entry.length ce, .int .i64 d.seg, .int .i64 d.pos, .int .u8 (d.turn.toNat : Int)] 111)
        have hbD : Blk (wr.alloc (.cells #[.int .i64 d.kind, .int .i64 d.n, .int .i64 d.time, .slice Ae d.entry.length ce, .int .i64 d.seg, .int .i64 d.pos, .int .u8 (d.turn.toNat : Int)] 111)) wr.heap.size 111 #[.int .i64 d.kind, .int .i64 d.n, .int .i64 d.time, .slice Ae d.entry.length ce, .int .i64 d.seg, .int .i64 d.pos, .int .u8 (d.turn.toNat : Int)] := heap_alloc_new wr _
        have hx6 := hx.alloc hx.size (.cells #[.int .i64 d.kind, .int .i64 d.n, .int .i64 d.time, .slice Ae d.entry.length ce, .int .i64 d.seg, .int .i64 d.pos, .int .u8 (d.turn.toNat : Int)] 111)
        have hm16 := hm1r.alloc (.cells #[.int .i64 d.kind, .int .i64 d.n, .int .i64 d.time, .slice Ae d.entry.length ce, .int .i64 d.seg, .int .i64 d.pos, .int .u8 (d.turn.toNat : Int)] 111)
        have hm26 := hm2r.alloc (.cells #[.int .i64 d.kind, .int .i64 d.n, .int .i64 d.time, .slice Ae d.entry.length ce, .int .i64 d.seg, .int .i64 d.pos, .int .u8 (d.turn.toNat : Int)] 111)
        generalize wr.alloc (.cells #[.int .i64 d.kind, .int .i64 d.n, .int .i64 d.time, .slice Ae d.entry.length ce, .int .i64 d.seg, .int .i64 d.pos, .int .u8 (d.turn.toNat : Int)] 111) = w6 at *
        have x0 : w6.cell? ⟨wr.heap.size, 0, none⟩ = some (.int .i64 d.kind) := hbD.cell 0
        have x3 : w6.cell? ⟨wr.heap.size, 3, none⟩ = some (.slice Ae d.entry.length ce) := hbD.cell 3
        have q0 : w6.cell? ⟨g1, o1 + j * 5, none⟩ = some (.int .i64 (re : Int)) := (hxb.cell (p := ⟨g1, _, none⟩) hg1).trans a0
        have q1 : w6.cell? ⟨g1, o1 + j * 5 + 1, none⟩ = some (.int .i64 rs) := (hxb.cell (p := ⟨g1, _, none⟩) hg1).trans a1
        have q2 : w6.cell? ⟨g1, o1 + j * 5 + 2, none⟩ = some (.int .i64 rp) := (hxb.cell (p := ⟨g1, _, none⟩) hg1).trans a2
        have hg16 : g1 < w6.heap.size := by have := hxb.size; omega
        have hde6 := SlAt.below hde hxb
        have hgd : w3.heap.size + 1 < wr.heap.size := hm2r.lt
        have hgdl : wr.heap.size < w6.heap.size := hbD.lt
        generalize wr.heap.size = gd at *
        have HBD := Lib.hid hbD
        clear a0 a1 a2 d0 d1 d2 d3 d4 d5 d6 hbD hde hm1r hm2r hxb hxr hx
        by_cases k1 : d.kind = 1
        · have kB : (d.kind != 1) = false := by rw [bne_eq_false_iff_eq]; exact k1
          by_cases e0 : re = 0
          · have eB : ((re : Int) != 0) = false := by rw [bne_eq_false_iff_eq]; omega
            obtain ⟨k, p, g, hks, hps, hk8, hp100, he200, hg, hnd, hor⟩ := HT.out.2 k1 e0
            simp only at hks hps
            subst hks hps
            have HOR := Lib.hid hor
            have HGG := Lib.hid hg
            have HND := Lib.hid hnd
            clear hor hg hnd HT e0 k1
            go_upto_region 12 with (fail)
            have z1 : (w6.alloc (.cells #[.int .i64 0, .int .i64 0] 112)).cell? ⟨g1, o1 + j * 5 + 1, none⟩ = some (.int .i64 (k : Int)) := (((Below.refl w6.heap.size w6).alloc (Nat.le_refl _) _).cell (p := ⟨g1, _, none⟩) hg16).trans q1
            have z2 : (w6.alloc (.cells #[.int .i64 0, .int .i64 0] 112)).cell? ⟨g1, o1 + j * 5 + 2, none⟩ = some (.int .i64 (p : Int)) := (((Below.refl w6.heap.size w6).alloc (Nat.le_refl _) _).cell (p := ⟨g1, _, none⟩) hg16).trans q2
            go_cut [12] (fun b wq => wq = (w6.alloc (.cells #[.int .i64 (k : Int), .int .i64 (p : Int)] 112)).drew ∧ b = .pointer (some ⟨w6.heap.size, 0, none⟩))
            case first =>
              go_region
              all_goals (rename_i J K2 hJ hK2; (first | refine hK2 _ _ (Met.intro (hJ _ _ ?_)) | refine Met.intro (hJ _ _ ?_)); (repeat apply Exists.intro); refine ⟨?_, rfl⟩; exact ⟨rfl, rfl⟩)
            case rest =>
              obtain ⟨rfl, rfl⟩ := hcut
              clear z1 z2
              have hxb := ((Below.refl w6.heap.size w6).alloc (Nat.le_refl _) (.cells #[.int .i64 (k : Int), .int .i64 (p : Int)] 112)).drew
              have hbK : Blk (w6.alloc (.cells #[.int .i64 (k : Int), .int .i64 (p : Int)] 112)).drew w6.heap.size 112 #[.int .i64 (k : Int), .int .i64 (p : Int)] := heap_alloc_new w6 _
              have hx7 := (hx6.alloc hx6.size (.cells #[.int .i64 (k : Int), .int .i64 (p : Int)] 112)).drew
              have hm17 : (w6.alloc (.cells #[.int .i64 (k : Int), .int .i64 (p : Int)] 112)).drew.ownsMap Try.prog 3 (plainElem Try.prog 3) w3.heap.size n1 D1 := hm16.alloc (.cells #[.int .i64 (k : Int), .int .i64 (p : Int)] 112)
              have hm27 : (w6.alloc (.cells #[.int .i64 (k : Int), .int .i64 (p : Int)] 112)).drew.ownsMap Try.prog 112 (plainElem Try.prog 9) (w3.heap.size + 1) n2 D2 := hm26.alloc (.cells #[.int .i64 (k : Int), .int .i64 (p : Int)] 112)
              have r1 := (hxb.cell (p := ⟨g1, _, none⟩) hg16).trans q1
              have r2 := (hxb.cell (p := ⟨g1, _, none⟩) hg16).trans q2
              have x37 := (hxb.cell (p := ⟨gd, 3, none⟩) hgdl).trans x3
              have hde7 := SlAt.below hde6 hxb
              generalize (w6.alloc (.cells #[.int .i64 (k : Int), .int .i64 (p : Int)] 112)).drew = w7 at *
              have y0 : w7.cell? ⟨w6.heap.size, 0, none⟩ = some (.int .i64 (k : Int)) := hbK.cell 0
              have y1 : w7.cell? ⟨w6.heap.size, 1, none⟩ = some (.int .i64 (p : Int)) := hbK.cell 1
              have hkl : w6.heap.size < w7.heap.size := hbK.lt
              generalize w6.heap.size = gk2 at *
              have hlook := look_had hm27 HH.out k p (by omega) (by omega)
              have hnext : ∀ m, (Instr.lookup 108 (.map (some w3.heap.size)) (.int .i64 (k : Int)) false).run Try.prog (w7.drewN m) = .ok (.int .i64 (g.length : Int)) (w7.drewN m) := fun m => by
                have h := look_next (w := w7.drewN m) hm17 HN.out k (by omega)
                rwa [Fl.num_at HGG.out] at h
              have hconv := fun m => conv_str (w7.drewN m) _ _ d.entry (SlAt.drewN hde7 m)
              have hel : d.entry.length ≤ maxLen := by have h : (200 : Nat) ≤ maxLen := by decide
                                                       omega
              clear q0 q1 q2 x0 x3 hm16 hm26 hde6 hxb hx6 hbK
              rcases HOR.out with ⟨hgp, hgs⟩ | ⟨hpg, hnin, hgs⟩
              · have hv : Fl.val gs (k : Int) (p : Int) = some d.entry := (Fl.val_at HGG.out p).trans hgp
                have hpl : p < g.length := (List.getElem?_eq_some_iff.1 hgp).1
                rw [hv] at hlook
                simp only [Option.getD_some, Option.isSome_some] at hlook
                have HVP := Lib.hid hv
                have hplI : (p : Int) < (g.length : Int) := by omega
                go_wp2_with fail
                go_quiet (fail)
                have hx8 := below_drewN hx7 nq
                have hm18 : (w7.drewN nq).ownsMap Try.prog 3 (plainElem Try.prog 3) w3.heap.size n1 D1 := hm17
                have hm28 : (w7.drewN nq).ownsMap Try.prog 112 (plainElem Try.prog 9) (w3.heap.size + 1) n2 D2 := hm27
                have x38 : (w7.drewN nq).cell? ⟨gd, 3, none⟩ = some (.slice Ae d.entry.length ce) := x37
                have y08 : (w7.drewN nq).cell? ⟨gk2, 0, none⟩ = some (.int .i64 (k : Int)) := y0
                have y18 : (w7.drewN nq).cell? ⟨gk2, 1, none⟩ = some (.int .i64 (p : Int)) := y1
                have r18 : (w7.drewN nq).cell? ⟨g1, o1 + j * 5 + 1, none⟩ = some (.int .i64 (k : Int)) := r1
                have hde8 := SlAt.drewN hde7 nq
                have hg18 : g1 < (w7.drewN nq).heap.size := Nat.lt_trans hg16 hkl
                have hgd8 : gd < (w7.drewN nq).heap.size := Nat.lt_trans hgdl hkl
                have hgk8 : gk2 < (w7.drewN nq).heap.size := hkl
                clear hx7 hm17 hm27 x37 y0 y1 r1 r2 hde7 hlook hnext hconv hkl
                generalize w7.drewN nq = w8 at *
                go_wp2_with (at_range
                             refine wpList_range_own _ rfl _ 109 rfl 112 9 law_pairO Try.underlying109 _ (w3.heap.size + 1) n2 D2 rfl hm28 ?_
                             intro w9 hrg0 hg0 hs0)
                have hb89 : Below w8.heap.size w8 w9 := (Below.refl w8.heap.size w8).grown hg0 (Nat.le_refl _) (fun _ h => by cases h)
                generalize gk = gk0 at *
                generalize wr = w0 at *
                go_frame
                go_loopg [112] (Maps.size D2) (fun m _u wr => ∃ left : Lit → Bool, wr.ranges Try.prog 112 (plainElem Try.prog 9) (w3.heap.size + 1) w8.heap.size n2 D2 left m ∧ Below w8.heap.size w8 wr)
                case atStart => exact ⟨_, hrg0, hb89⟩
                case round =>
                  obtain ⟨left, hrg, hxr⟩ := hrel
                  go_wp2_with (at_next
                               refine wpList_next_ranges _ rfl _ rfl 112 law_pairO (plainElem Try.prog 9) (fun p : {p : Int × Int // (Lit.int .i64 p.1).wf = true ∧ (Lit.int .i64 p.2).wf = true} => .agg #[.int .i64 p.1.1, .int .i64 p.1.2]) Value.string (fun key kl hk => by obtain ⟨a, b, wa, wb, h1, _⟩ := key_pair_inv hk; exact ⟨⟨(a, b), wa, wb⟩, h1⟩) (fun v y hv => by obtain ⟨s, h1, _⟩ := plainElem_string_invO Try.underlying9 hv; exact ⟨s, h1⟩) (w3.heap.size + 1) w8.heap.size n2 D2 left gk rfl hrg ?_ ?_)
                  · intro hc0 hl0
                    have hxw := hx8.trans (hxr.mono hx8.size)
                    subst hgs
                    go_wp2_with fail
                    go_roundg (gk0 - 1)
                    case measure => omega
                    case rel => exact ⟨j + 1, by omega, by go_num, _, D1, D2, n1, n2, HG2, HN, HH, ownsMap_belowO hm18 hxr, hrg.owns, by omega, by omega, hxw⟩
                  · intro a b wa wb c kl y1 y2 w10 cnt1 hkey hlk hv hat hrg1 hlt1 hg1' hs1 hen
                    have hkl0 : kl = keyL a b := Option.some.inj (hkey.symm.trans (keyOf_pairO wa wb))
                    obtain ⟨s0, hs0', hy0⟩ := plainElem_string_invO Try.underlying9 hv
                    injection hs0' with hs0'
                    have hy1 : y1 = .lit (.string c.data.toList) := by rw [hs0']; injection hy0
                    have HV : Hid (Fl.val gs a b = some c.data.toList) := Lib.hid (had_at HH.out wa wb (fun zd => by rw [← hkl0]; exact (hat zd).trans hy1))
                    have hxr10 : Below w8.heap.size w8 w10 := hxr.grown hg1' hxr.size (fun b hb => by injection hb with hb; omega)
                    clear hy0 hy1 hs0' hv hat hkey hlk hg1' hs1 hxr hrg hkl0
                    go_upto_region 19 with (fail)
                    have hrg2 := hrg1.alloc (.cells #[.int .i64 a, .int .i64 b] 112)
                    have hbX : Blk (w10.alloc (.cells #[.int .i64 a, .int .i64 b] 112)) w10.heap.size 112 #[.int .i64 a, .int .i64 b] := heap_alloc_new w10 _
                    have hx11 := hxr10.alloc hxr10.size (.cells #[.int .i64 a, .int .i64 b] 112)
                    generalize w10.alloc (.cells #[.int .i64 a, .int .i64 b] 112) = w11 at *
                    have a0 : w11.cell? ⟨w10.heap.size, 0, none⟩ = some (.int .i64 a) := hbX.cell 0
                    have a1 : w11.cell? ⟨w10.heap.size, 1, none⟩ = some (.int .i64 b) := hbX.cell 1
                    generalize w10.heap.size = gx10 at *
                    have b0 : w11.cell? ⟨gk2, 0, none⟩ = some (.int .i64 (k : Int)) := (hx11.cell (p := ⟨gk2, 0, none⟩) hgk8).trans y08
                    have b1 : w11.cell? ⟨gk2, 1, none⟩ = some (.int .i64 (p : Int)) := (hx11.cell (p := ⟨gk2, 1, none⟩) hgk8).trans y18
                    have b3 : w11.cell? ⟨gd, 3, none⟩ = some (.slice Ae d.entry.length ce) := (hx11.cell (p := ⟨gd, 3, none⟩) hgd8).trans x38
                    have hconv := conv_str w11 _ _ d.entry (SlAt.below hde8 hx11)
                    clear hrg1 hxr10
                    by_cases ha : a = (k : Int)
                    · subst ha
                      by_cases hc : c.toList = d.entry
                      · have hcd : c.data.toList = d.entry := by rw [← hc]; simp [ByteArray.toList_eq]
                        have hbp : b = (p : Int) := Fl.val_one HGG.out HND.out (HV.out.trans (by rw [hcd])) HVP.out
                        subst hbp
                        go_wp2_with fail
                        go_roundg cnt1
                        case measure => exact hlt1
                        case rel => exact ⟨_, hrg2, hx11⟩
                      · have hcD : decide (c.toList = d.entry) = false := decide_eq_false hc
                        go_wp2_with fail
                        go_roundg cnt1
                        case measure => exact hlt1
                        case rel => exact ⟨_, hrg2, hx11⟩
                    · have haB : (a == (k : Int)) = false := by rw [beq_eq_false_iff_ne]; exact ha
                      go_wp2_with fail
                      go_roundg cnt1
                      case measure => exact hlt1
                      case rel => exact ⟨_, hrg2, hx11⟩
              · subst hpg
                have hv : Fl.val gs (k : Int) (g.length : Int) = none := (Fl.val_at HGG.out _).trans (List.getElem?_eq_none (Nat.le_refl _))
                rw [hv] at hlook
                simp only [Option.getD_none, Option.isSome_none] at hlook
                have HNI := Lib.hid hnin
                clear hnin
                go_wp2_with fail
                go_quiet (fail)
                have hx8 := below_drewN hx7 nq
                have hm18 : (w7.drewN nq).ownsMap Try.prog 3 (plainElem Try.prog 3) w3.heap.size n1 D1 := hm17
                have hm28 : (w7.drewN nq).ownsMap Try.prog 112 (plainElem Try.prog 9) (w3.heap.size + 1) n2 D2 := hm27
                have x38 : (w7.drewN nq).cell? ⟨gd, 3, none⟩ = some (.slice Ae d.entry.length ce) := x37
                have y08 : (w7.drewN nq).cell? ⟨gk2, 0, none⟩ = some (.int .i64 (k : Int)) := y0
                have y18 : (w7.drewN nq).cell? ⟨gk2, 1, none⟩ = some (.int .i64 (g.length : Int)) := y1
                have r18 : (w7.drewN nq).cell? ⟨g1, o1 + j * 5 + 1, none⟩ = some (.int .i64 (k : Int)) := r1
                have hde8 := SlAt.drewN hde7 nq
                have hg18 : g1 < (w7.drewN nq).heap.size := Nat.lt_trans hg16 hkl
                have hgd8 : gd < (w7.drewN nq).heap.size := Nat.lt_trans hgdl hkl
                have hgk8 : gk2 < (w7.drewN nq).heap.size := hkl
                clear hx7 hm17 hm27 x37 y0 y1 r1 r2 hde7 hlook hnext hconv hkl
                generalize w7.drewN nq = w8 at *
                go_wp2_with (at_range
                             refine wpList_range_own _ rfl _ 109 rfl 112 9 law_pairO Try.underlying109 _ (w3.heap.size + 1) n2 D2 rfl hm28 ?_
                             intro w9 hrg0 hg0 hs0)
                have hb89 : Below w8.heap.size w8 w9 := (Below.refl w8.heap.size w8).grown hg0 (Nat.le_refl _) (fun _ h => by cases h)
                generalize gk = gk0 at *
                generalize wr = w0 at *
                go_frame
                go_loopg [112] (Maps.size D2) (fun m _u wr => ∃ left : Lit → Bool, wr.ranges Try.prog 112 (plainElem Try.prog 9) (w3.heap.size + 1) w8.heap.size n2 D2 left m ∧ Below w8.heap.size w8 wr)
                case atStart => exact ⟨_, hrg0, hb89⟩
                case round =>
                  obtain ⟨left, hrg, hxr⟩ := hrel
                  go_wp2_with (at_next
                               refine wpList_next_ranges _ rfl _ rfl 112 law_pairO (plainElem Try.prog 9) (fun p : {p : Int × Int // (Lit.int .i64 p.1).wf = true ∧ (Lit.int .i64 p.2).wf = true} => .agg #[.int .i64 p.1.1, .int .i64 p.1.2]) Value.string (fun key kl hk => by obtain ⟨a, b, wa, wb, h1, _⟩ := key_pair_inv hk; exact ⟨⟨(a, b), wa, wb⟩, h1⟩) (fun v y hv => by obtain ⟨s, h1, _⟩ := plainElem_string_invO Try.underlying9 hv; exact ⟨s, h1⟩) (w3.heap.size + 1) w8.heap.size n2 D2 left gk rfl hrg ?_ ?_)
                  · intro hc0 hl0
                    subst hgs
                    have hxw := hx8.trans (hxr.mono hx8.size)
                    have hm1w := ownsMap_belowO hm18 hxr
                    have hm2w := hrg.owns
                    have b0 : wr.cell? ⟨gk2, 0, none⟩ = some (.int .i64 (k : Int)) := (hxr.cell (p := ⟨gk2, 0, none⟩) hgk8).trans y08
                    have b1 : wr.cell? ⟨gk2, 1, none⟩ = some (.int .i64 (g.length : Int)) := (hxr.cell (p := ⟨gk2, 1, none⟩) hgk8).trans y18
                    have b3 : wr.cell? ⟨gd, 3, none⟩ = some (.slice Ae d.entry.length ce) := (hxr.cell (p := ⟨gd, 3, none⟩) hgd8).trans x38
                    have rw1 : wr.cell? ⟨g1, o1 + j * 5 + 1, none⟩ = some (.int .i64 (k : Int)) := (hxr.cell (p := ⟨g1, _, none⟩) hg18).trans r18
                    have hg1w : g1 < wr.heap.size := Nat.lt_of_lt_of_le hg18 hxr.size
                    have hconv := conv_str wr _ _ d.entry (SlAt.below hde8 hxr)
                    have hkk := keyOf_pairO (a := (k : Int)) (b := (g.length : Int)) (WalkArith.wf_i64 (by omega)) (WalkArith.wf_i64 (by omega))
                    have HH2 := Lib.hid (HadM.put HH.out hk8 HGG.out (by omega) d.entry)
                    have HN2 := Lib.hid (NextM.put HN.out HGG.out d.entry)
                    clear hrg
                    go_wp2_with (first
                                 | (at_mapUpdate
                                    refine wpList_mapUpdate_own _ rfl (.tmp 138) (.tmp 139) (.tmp 142) 109 rfl 112 9 law_pairO Try.underlying109 _ (w3.heap.size + 1) n2 D2 rfl hm2w (by simp only [maxLen]; omega) (.agg #[.int .i64 (k : Int), .int .i64 (g.length : Int)]) (.string ⟨d.entry.toArray⟩) (keyL (k : Int) (g.length : Int)) rfl rfl hkk (.lit (.string d.entry)) [] (plainElem_string Try.underlying9 (s := ⟨d.entry.toArray⟩) (show d.entry.toArray.size ≤ maxLen by simpa using hel)) ?_
                                    intro w12 hm2x hgr2
                                    have hx12 := below_grownO hxw hgr2 (Nat.le_succ _)
                                    have hm1x := hm1w.kept hgr2 (by simp)
                                    have rx1 : w12.cell? ⟨g1, o1 + j * 5 + 1, none⟩ = some (.int .i64 (k : Int)) := (World.cell?_of_block (hgr2.block g1 hg1w (by simp; omega))).trans rw1
                                    have hnext := look_next hm1x HN.out k (by omega)
                                    rw [Fl.num_at HGG.out] at hnext)
                                 | (at_mapUpdate
                                    refine wpList_mapUpdate_own _ rfl (.tmp 143) (.tmp 148) (.tmp 150) 108 rfl 3 3 law_intO Try.underlying108 _ w3.heap.size n1 D1 rfl hm1x (by simp only [maxLen]; omega) (.int .i64 (k : Int)) (.int .i64 ((g.length : Int) + 1)) (.int .i64 (k : Int)) rfl (by go_num) (keyOf_int_mk Try.underlying3 (a := (k : Int)) (WalkArith.wf_i64 (by omega))) (.lit (.int .i64 ((g.length : Int) + 1))) [] (plainElem_int Try.underlying3 (WalkArith.wf_i64 (by omega))) ?_
                                    intro w13 hm1y hgr3
                                    have hx13 := below_grownO hx12 hgr3 (Nat.le_refl _)
                                    have hm2y := hm2x.kept hgr3 (by simp)))
                    go_roundg (gk0 - 1)
                    case measure => omega
                    case rel => exact ⟨j + 1, by omega, by go_num, _, _, _, n1 + 1, n2 + 1, HG2, HN2, HH2, hm1y, hm2y, by omega, by omega, hx13⟩
                  · intro a b wa wb c kl y1 y2 w10 cnt1 hkey hlk hv hat hrg1 hlt1 hg1' hs1 hen
                    have hkl0 : kl = keyL a b := Option.some.inj (hkey.symm.trans (keyOf_pairO wa wb))
                    obtain ⟨s0, hs0', hy0⟩ := plainElem_string_invO Try.underlying9 hv
                    injection hs0' with hs0'
                    have hy1 : y1 = .lit (.string c.data.toList) := by rw [hs0']; injection hy0
                    have HV : Hid (Fl.val gs a b = some c.data.toList) := Lib.hid (had_at HH.out wa wb (fun zd => by rw [← hkl0]; exact (hat zd).trans hy1))
                    have hxr10 : Below w8.heap.size w8 w10 := hxr.grown hg1' hxr.size (fun b hb => by injection hb with hb; omega)
                    clear hy0 hy1 hs0' hv hat hkey hlk hg1' hs1 hxr hrg hkl0
                    go_upto_region 19 with (fail)
                    have hrg2 := hrg1.alloc (.cells #[.int .i64 a, .int .i64 b] 112)
                    have hbX : Blk (w10.alloc (.cells #[.int .i64 a, .int .i64 b] 112)) w10.heap.size 112 #[.int .i64 a, .int .i64 b] := heap_alloc_new w10 _
                    have hx11 := hxr10.alloc hxr10.size (.cells #[.int .i64 a, .int .i64 b] 112)
                    generalize w10.alloc (.cells #[.int .i64 a, .int .i64 b] 112) = w11 at *
                    have a0 : w11.cell? ⟨w10.heap.size, 0, none⟩ = some (.int .i64 a) := hbX.cell 0
                    have a1 : w11.cell? ⟨w10.heap.size, 1, none⟩ = some (.int .i64 b) := hbX.cell 1
                    generalize w10.heap.size = gx10 at *
                    have b0 : w11.cell? ⟨gk2, 0, none⟩ = some (.int .i64 (k : Int)) := (hx11.cell (p := ⟨gk2, 0, none⟩) hgk8).trans y08
                    have b1 : w11.cell? ⟨gk2, 1, none⟩ = some (.int .i64 (g.length : Int)) := (hx11.cell (p := ⟨gk2, 1, none⟩) hgk8).trans y18
                    have b3 : w11.cell? ⟨gd, 3, none⟩ = some (.slice Ae d.entry.length ce) := (hx11.cell (p := ⟨gd, 3, none⟩) hgd8).trans x38
                    have hconv := conv_str w11 _ _ d.entry (SlAt.below hde8 hx11)
                    clear hrg1 hxr10
                    by_cases ha : a = (k : Int)
                    · subst ha
                      by_cases hc : c.toList = d.entry
                      · have hcd : c.data.toList = d.entry := by rw [← hc]; simp [ByteArray.toList_eq]
                        exact absurd (Fl.val_mem HGG.out (HV.out.trans (by rw [hcd]))) HNI.out
                      · have hcD : decide (c.toList = d.entry) = false := decide_eq_false hc
                        go_wp2_with fail
                        go_roundg cnt1
                        case measure => exact hlt1
                        case rel => exact ⟨_, hrg2, hx11⟩
                    · have haB : (a == (k : Int)) = false := by rw [beq_eq_false_iff_ne]; exact ha
                      go_wp2_with fail
                      go_roundg cnt1
                      case measure => exact hlt1
                      case rel => exact ⟨_, hrg2, hx11⟩
          · have eB : ((re : Int) != 0) = true := by rw [bne_iff_ne]; omega
            have HE := Lib.hid (HT.out.1 (fun h => e0 h.2))
            clear HT
            go_wp2_with fail
            go_roundg (gk - 1)
            case measure => omega
            case rel => exact ⟨j + 1, by omega, by go_num, gs, D1, D2, n1, n2, by rw [← HE.out]; exact HG2, HN, HH, hm16, hm26, by omega, by omega, hx6⟩
        · have kB : (d.kind != 1) = true := by rw [bne_iff_ne]; exact k1
          have HE := Lib.hid (HT.out.1 (fun h => k1 h.1))
          clear HT
          go_wp2_with fail
          go_roundg (gk - 1)
          case measure => omega
          case rel => exact ⟨j + 1, by omega, by go_num, gs, D1, D2, n1, n2, by rw [← HE.out]; exact HG2, HN, HH, hm16, hm26, by omega, by omega, hx6⟩
      · have hltB : decide ((j : Int) < (l1.length : Int)) = false := decide_eq_false (by omega)
        go_wp2_with fail
        go_ret
        exact ⟨rfl, hxr⟩
  · have hneX : ((ax : Int) != 0) = true := by rw [bne_iff_ne]; omega
    go_wp2_with fail
    go_ret
    exact ⟨rfl, hxxB⟩
end Go.Proofs.Ytfdibjgmbdkbcaa
