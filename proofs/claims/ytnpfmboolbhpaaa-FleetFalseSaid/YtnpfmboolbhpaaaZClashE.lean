/-
  THE WALK of clash.Stands. Conditions: what is read is bytes, and lists of bytes.
-/
import Derived.Test.YtnpfmboolbhpaaaZGp
import Derived.Test.YtnpfmboolbhpaaaZGv
import Derived.Test.YtnpfmboolbhpaaaZGx
namespace Go.Proofs.Ytnpfmboolbhpaaa
open Go.RowKit Go.Lib

/-- what tells two texts, or none -/
def ToldPost (w : World) (o : Option Tr.PB) (e : Ending) (w' : World) : Prop :=
  ∃ va vc, e = .returned (.tuple #[va, vc, .bool o.isSome]) ∧ OwnB w' w.heap.size va (fstO o) ∧ OwnB w' w.heap.size vc (sndO o) ∧ Below w.heap.size w w'

set_option maxRecDepth 100000 in
set_option maxHeartbeats 2000000 in
theorem standsC_any (w : World) (F F' F'' : Nat → Prop) (v vb vp : Value) (ll : List Bs) (b : Bs) (i : Int) (p : List Bs) (hl : BList w F v ll) (hb : Bytes w F' vb b) (hp : BList w F'' vp p) :
    Calls Try.prog 31 #[v, vb, .int .i64 i, vp] w (ToldPost w (clashS ll b i p)) := by
  obtain ⟨A, c, hv, hnc, hcm, hA⟩ := hl.shape
  subst hv
  unfold maxLen at hcm
  obtain ⟨Ap, cp, hvp, _⟩ := hp.shape
  subst hvp
  obtain ⟨A2, c2, hvb⟩ := hb.form
  subst hvb
  obtain ⟨o, HO⟩ : ∃ o, Hid (o = clashS ll b i p) := ⟨_, Lib.hid rfl⟩
  rw [← HO.out]
  go_enter Try.func31, Try.ntmps31
  go_wp2_with fail
  by_cases hf : Fine ll
  · refine (Root_fine w F _ ll hl hf).mono ?_
    rintro e w1 ⟨rv, rfl, hown1, hx1⟩
    obtain ⟨A1, c1, hv1, _, _⟩ := Own.shape hown1
    subst hv1
    have hxb := hx1.alloc hx1.size (.cells #[.int .i64 0, .int .i64 0] 39)
    have hr2 := hown1.bytes.alloc (.cells #[.int .i64 0, .int .i64 0] 39)
    have hb2 := hb.below hxb
    have hp2 := hp.below hxb
    go_wp2_with fail
    generalize (w1.alloc (.cells #[.int .i64 0, .int .i64 0] 39)) = w2 at *
    refine (stands_any w2 _ _ _ _ _ _ (ll.length : Int) _ b i p hr2 hb2 hp2).mono ?_
    rintro e w3 ⟨rfl, hx3⟩
    have hxc := hxb.trans (hx3.mono hxb.size)
    cases hS : standsS (ll.length : Int) (Tr.root (ll.map Tr.leafH)) b i p with
    | false =>
      have ho := HO.out.trans (clashS_bad (fun h => by rw [hS] at h; cases h.2.1))
      clear HO hS
      subst ho
      go_wp2_with fail
      go_ret3
      exact ⟨_, _, rfl, Own.nil_ _ _ _ _, Own.nil_ _ _ _ _, hxc⟩
    | true =>
      obtain ⟨⟨h1, h2, h3, h4, hb200⟩, hd, _⟩ := standsS_yes hS
      have hdp := depth_of hS
      obtain ⟨ii, hii⟩ : ∃ k : Nat, i = (k : Int) := ⟨i.toNat, by omega⟩
      subst hii
      rw [Int.toNat_natCast] at hdp
      have hlt : ii < ll.length := by omega
      obtain ⟨g, off, u, hA', hc, _, hg, hub⟩ := hl.at_ hlt
      subst hA'
      have hc3 : w3.cell? ⟨g, off + ii, none⟩ = some u := (hxc.cell (p := ⟨g, off + ii, none⟩) hg).trans hc
      have hub3 := hub.below hxc
      have hb3 := hb.below hxc
      have hat : ll[ii]? = some ll[ii] := List.getElem?_eq_getElem hlt
      have hok : b ≠ ll[ii] → clashS ll b (ii : Int) p = (Tr.down ll b ii p).1 := fun hne => by
        rw [clashS_ok ⟨hf, hS, by rw [Int.toNat_natCast, hat]; intro h; injection h with h; exact hne h.symm⟩, Int.toNat_natCast]
      have hno : b = ll[ii] → clashS ll b (ii : Int) p = none := fun he => clashS_bad (fun h => h.2.2 (by rw [Int.toNat_natCast, hat, he]))
      have HOK := Lib.hid hok
      have HNO := Lib.hid hno
      have HDP := Lib.hid hdp
      have hltB : (ii : Int) < (ll.length : Int) := by omega
      have hi0 : (0 : Int) ≤ (ii : Int) := by omega
      generalize ll[ii] = x at *
      clear hok hno hdp hS hat
      go_wp2_with fail
      refine (equal_any w3 _ _ _ _ b x hb3 hub3).mono ?_
      rintro e w4 ⟨rfl, hw⟩
      subst hw
      by_cases he : b = x
      · have hbB : (b == x) = true := beq_iff_eq.2 he
        have ho := HO.out.trans (HNO.out he)
        clear HO he HNO HOK
        subst ho
        rw [hbB]
        go_wp2_with fail
        go_ret3
        exact ⟨_, _, rfl, Own.nil_ _ _ _ _, Own.nil_ _ _ _ _, hxc⟩
      · have hbB : (b == x) = false := beq_eq_false_iff_ne.2 he
        have ho := HO.out.trans (HOK.out he)
        have HOO := Lib.hid ho
        clear HO he HNO HOK ho
        rw [hbB]
        have hl4 := hl.below hxc
        have hb4 := hb.below hxc
        have hp4 := hp.below hxc
        go_wp2_with fail
        refine (down_any ll.length w4 F F' F'' _ _ _ ll b ii _ p hl4 hb4 hp4 rfl (by omega) hlt rfl HDP.out hd hf hb200).mono ?_
        rw [← HOO.out]
        rintro e w5 ⟨va, vc, vd, rfl, ho1, ho2, ho3, hx5⟩
        obtain ⟨A6, c6, hva, _, _⟩ := Own.shape ho1
        obtain ⟨A7, c7, hvc, _, _⟩ := Own.shape ho2
        subst hva hvc
        have hxd := hxc.trans (hx5.mono hxc.size)
        have hp1 := OwnB.mono ho1 hxc.size
        have hp2 := OwnB.mono ho2 hxc.size
        have hxe := hxd.alloc hxd.size (.cells #[.slice A6 (fstO o).length c6, .slice A7 (sndO o).length c7, .bool o.isSome] 115)
        clear ho1 ho2 ho3
        cases o with
        | none =>
          go_wp2_with fail
          go_ret3
          exact ⟨_, _, rfl, Own.nil_ _ _ _ _, Own.nil_ _ _ _ _, hxe⟩
        | some q =>
          go_wp2_with fail
          go_quiet (fail)
          go_wp2_with fail
          go_ret3
          exact ⟨_, _, rfl, OwnB.drewN (OwnB.alloc hp1 _) _, OwnB.drewN (OwnB.alloc hp2 _) _, below_drewN hxe _⟩
  · refine (Root_bad w F _ ll hl hf).mono ?_
    rintro e w1 ⟨a, a', rfl, _, ha, hx1⟩
    have ho := HO.out.trans (clashS_bad (fun h => hf h.1))
    clear HO
    subst ho
    go_wp2_with fail
    go_ret3
    exact ⟨_, _, rfl, Own.nil_ _ _ _ _, Own.nil_ _ _ _ _, hx1.alloc hx1.size _⟩
end Go.Proofs.Ytnpfmboolbhpaaa
