/-
  THE WALK of yearlaw3.ClashTwo. Conditions: what comes in is read as bytes, and lists of bytes.
-/
import Derived.Test.YtaojgabiefkcaaaLaws2F
namespace Go.Proofs.Ytaojgabiefkcaaa
open Go.RowKit Go.Lib

theorem told_two {ll : List Bs} {b : Bs} {i : Int} {p : List Bs} (h : (clashS ll b i p).isSome = true) : (Tr.clashOf (fstO (clashS ll b i p)) (sndO (clashS ll b i p))).isSome = true := by
  cases hq : clashS ll b i p with
  | none => rw [hq] at h; cases h
  | some q =>
    show (Tr.clashOf q.1 q.2).isSome = true
    rw [(clashS_some hq).1]; rfl

theorem clashS_or {ll : List Bs} {a b : Bs} {i : Int} {p q : List Bs} (hf : Fine ll) (h1 : standsS (ll.length : Int) (Tr.root (ll.map Tr.leafH)) a i p = true) (h2 : standsS (ll.length : Int) (Tr.root (ll.map Tr.leafH)) b i q = true) (hne : a ≠ b)
    (hn : clashS ll a i p = none) : (clashS ll b i q).isSome = true := by
  refine clashS_there ⟨hf, h2, fun hb => ?_⟩
  have := clashS_there (ll := ll) (b := a) (i := i) (p := p) ⟨hf, h1, fun ha => hne (by rw [hb] at ha; injection ha with ha; exact ha.symm)⟩
  rw [hn] at this
  cases this

set_option maxRecDepth 100000 in
set_option maxHeartbeats 4000000 in
theorem clashTwo_walk (w : World) (v0 : Value) (l0 : List Bs) (h0 : BList w (fun _ => True) v0 l0) (n1 : Int) (v2 : Value) (l2 : Bs) (h2 : Bytes w (fun _ => True) v2 l2) (v3 : Value) (l3 : List Bs) (h3 : BList w (fun _ => True) v3 l3)
    (v4 : Value) (l4 : Bs) (h4 : Bytes w (fun _ => True) v4 l4) (v5 : Value) (l5 : List Bs) (h5 : BList w (fun _ => True) v5 l5) :
    Calls Try.prog 11 #[v0, .int .i64 n1, v2, v3, v4, v5] w fun e w' => e = .returned (.bool true) ∧ Below w.heap.size w w' := by
  obtain ⟨A, c, hv, hnc, hcm, _⟩ := h0.shape
  subst hv
  unfold maxLen at hcm
  obtain ⟨A3, c3, hv3, _⟩ := h3.shape
  subst hv3
  obtain ⟨A5, c5, hv5, _⟩ := h5.shape
  subst hv5
  obtain ⟨A2, c2, hv2⟩ := h2.form
  subst hv2
  obtain ⟨A4, c4, hv4⟩ := h4.form
  subst hv4
  go_enter Try.func11, Try.ntmps11
  go_wp2_with fail
  refine (alive3 w).mono ?_
  rintro e w1 ⟨rfl, hx1⟩
  have hl1 := h0.below hx1
  go_wp2_with fail
  by_cases hf : Fine l0
  · refine (Root_fine w1 _ _ l0 hl1 hf).mono ?_
    rintro e w2 ⟨rv, rfl, hown2, hx2⟩
    have hxb := hx1.trans (hx2.mono hx1.size)
    obtain ⟨A1, c1, hv1, _, _⟩ := Own.shape hown2
    subst hv1
    have hxc := (hxb.alloc hxb.size (.cells #[.int .i64 0, .int .i64 0] 32)).alloc (by simp; have := hxb.size; omega) (.cells #[.int .i64 (l0.length : Int), .slice A1 (Tr.root (l0.map Tr.leafH)).length c1] 24)
    have hrc := ((OwnB.bytes hown2).alloc (.cells #[.int .i64 0, .int .i64 0] 32)).alloc (.cells #[.int .i64 (l0.length : Int), .slice A1 (Tr.root (l0.map Tr.leafH)).length c1] 24)
    have hbc := h2.below hxc
    have hpc := h3.below hxc
    have hcF : Blk ((w2.alloc (.cells #[.int .i64 0, .int .i64 0] 32)).alloc (.cells #[.int .i64 (l0.length : Int), .slice A1 (Tr.root (l0.map Tr.leafH)).length c1] 24)) (w2.heap.size + 1) 24 #[.int .i64 (l0.length : Int), .slice A1 (Tr.root (l0.map Tr.leafH)).length c1] := by
      have := heap_alloc_new (w2.alloc (.cells #[.int .i64 0, .int .i64 0] 32)) (.cells #[.int .i64 (l0.length : Int), .slice A1 (Tr.root (l0.map Tr.leafH)).length c1] 24)
      rw [World.size_alloc] at this
      exact this
    go_wp2_with fail
    have hszc : w2.heap.size + 1 < ((w2.alloc (.cells #[.int .i64 0, .int .i64 0] 32)).alloc (.cells #[.int .i64 (l0.length : Int), .slice A1 (Tr.root (l0.map Tr.leafH)).length c1] 24)).heap.size := by simp
    generalize (w2.alloc (.cells #[.int .i64 0, .int .i64 0] 32)).alloc (.cells #[.int .i64 (l0.length : Int), .slice A1 (Tr.root (l0.map Tr.leafH)).length c1] 24) = w3 at *
    refine (stands_any w3 _ _ _ _ _ _ (l0.length : Int) _ l2 n1 l3 hrc hbc hpc).mono ?_
    rintro e w4 ⟨rfl, hx4⟩
    have hxd := hxc.trans (hx4.mono hxc.size)
    have hcF4 := hcF.below hx4 hszc
    have e0 : w4.cell? ⟨w2.heap.size + 1, 0, none⟩ = some (.int .i64 (l0.length : Int)) := hcF4.cell 0
    have e1 : w4.cell? ⟨w2.heap.size + 1, 1, none⟩ = some (.slice A1 (Tr.root (l0.map Tr.leafH)).length c1) := hcF4.cell 1
    have hr4 := hrc.below hx4
    have hb4 := h4.below hxd
    have hp4 := h5.below hxd
    cases hS : standsS (l0.length : Int) (Tr.root (l0.map Tr.leafH)) l2 n1 l3 with
    | false =>
      clear hS
      go_wp2_with fail
      go_ret
      exact ⟨rfl, hxd⟩
    | true =>
      have HS1 := Lib.hid hS
      clear hS
      go_wp2_with fail
      refine (stands_any w4 _ _ _ _ _ _ (l0.length : Int) _ l4 n1 l5 hr4 hb4 hp4).mono ?_
      rintro e w5 ⟨rfl, hx5⟩
      have hxe := hxd.trans (hx5.mono hxd.size)
      cases hS : standsS (l0.length : Int) (Tr.root (l0.map Tr.leafH)) l4 n1 l5 with
      | false =>
        clear hS
        go_wp2_with fail
        go_ret
        exact ⟨rfl, hxe⟩
      | true =>
        have HS2 := Lib.hid hS
        clear hS
        have ha5 := h2.below hxe
        have hb5 := h4.below hxe
        go_wp2_with fail
        refine (same_any w5 _ _ _ _ l2 l4 ha5 hb5).mono ?_
        rintro e w6 ⟨rfl, n6, hw⟩
        have hxf := below_drewN hxe n6
        rw [← hw] at hxf
        clear hw
        by_cases he : l2 = l4
        · have hbB : (l2 == l4) = true := beq_iff_eq.2 he
          clear he
          rw [hbB]
          go_wp2_with fail
          go_ret
          exact ⟨rfl, hxf⟩
        · have hbB : (l2 == l4) = false := beq_eq_false_iff_ne.2 he
          have HOR := Lib.hid (clashS_or hf HS1.out HS2.out he)
          clear he
          rw [hbB]
          have hl6 := h0.below hxf
          have ha6 := h2.below hxf
          have hp6 := h3.below hxf
          have hsh := told_short (ll := l0) (b := l2) (i := n1) (p := l3)
          have HT := Lib.hid (told_two (ll := l0) (b := l2) (i := n1) (p := l3))
          go_wp2_with fail
          refine (standsC_any w6 _ _ _ _ _ _ l0 l2 n1 l3 hl6 ha6 hp6).mono ?_
          generalize clashS l0 l2 n1 l3 = o1 at *
          rintro e w7 ⟨va, vc, rfl, ho1, ho2, hx7⟩
          have hxg := hxf.trans (hx7.mono hxf.size)
          cases o1 with
          | some q =>
            go_wp2_with fail
            refine (twoL_any w7 _ _ _ _ _ _ ho1.bytes ho2.bytes hsh.1 hsh.2).mono ?_
            rintro e w8 ⟨rfl, hx8⟩
            rw [HT.out rfl]
            go_wp2_with fail
            go_ret
            exact ⟨rfl, hxg.trans (hx8.mono hxg.size)⟩
          | none =>
            have HS := Lib.hid (HOR.out rfl)
            have hl7 := h0.below hxg
            have hb7 := h4.below hxg
            have hp7 := h5.below hxg
            have hsh2 := told_short (ll := l0) (b := l4) (i := n1) (p := l5)
            have HT2 := Lib.hid (told_two (ll := l0) (b := l4) (i := n1) (p := l5))
            clear HOR HT ho1 ho2 hsh
            go_wp2_with fail
            refine (standsC_any w7 _ _ _ _ _ _ l0 l4 n1 l5 hl7 hb7 hp7).mono ?_
            generalize clashS l0 l4 n1 l5 = o2 at *
            rintro e w8 ⟨va2, vc2, rfl, ho1, ho2, hx8⟩
            have hxh := hxg.trans (hx8.mono hxg.size)
            cases o2 with
            | none => exact absurd HS.out (by simp)
            | some q =>
              go_wp2_with fail
              refine (twoL_any w8 _ _ _ _ _ _ ho1.bytes ho2.bytes hsh2.1 hsh2.2).mono ?_
              rintro e w9 ⟨rfl, hx9⟩
              rw [HT2.out rfl]
              go_wp2_with fail
              go_ret
              exact ⟨rfl, hxh.trans (hx9.mono hxh.size)⟩
  · refine (Root_bad w1 _ _ l0 hl1 hf).mono ?_
    rintro e w2 ⟨a, a', rfl, _, ha, hx2⟩
    have hxb := hx1.trans (hx2.mono hx1.size)
    have hxc := (hxb.alloc hxb.size (.cells #[.int .i64 (a : Int), .int .i64 (a' : Int)] 32)).alloc (by simp; have := hxb.size; omega) (.cells #[.int .i64 (l0.length : Int), .slice none 0 0] 24)
    go_wp2_with fail
    go_ret
    exact ⟨rfl, hxc⟩
end Go.Proofs.Ytaojgabiefkcaaa
