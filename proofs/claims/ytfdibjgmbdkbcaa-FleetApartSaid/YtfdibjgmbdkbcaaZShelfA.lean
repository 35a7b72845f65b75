/-
  THE WALK of shelf.lay. Conditions: what is read is a list of texts, a hundred at the most, each of 200 bytes at the most.
-/
import Derived.Test.YtfdibjgmbdkbcaaZGc
import Derived.Test.YtfdibjgmbdkbcaaZShelf
namespace Go.Proofs.Ytfdibjgmbdkbcaa
open Go.RowKit Go.Lib

set_option maxRecDepth 100000 in
set_option maxHeartbeats 2000000 in
theorem lay_any (w : World) (F : Nat → Prop) (v : Value) (ll : List Bs) (hl : BList w F v ll) (hn : ll.length ≤ 100) (hs : ∀ e ∈ ll, e.length ≤ 200) :
    Calls Try.prog 109 #[v] w fun e w' => ∃ v, e = .returned v ∧ OwnB w' w.heap.size v (Shf.lay ll) ∧ Below w.heap.size w w' := by
  obtain ⟨i0, hi, hz0, hz1, hz2⟩ := info_parts info_u8
  obtain ⟨A, c, hv⟩ := hl.form
  subst hv
  go_enter Try.func109, Try.ntmps109
  go_wp2_with fail
  go_loopg [3, 8] ll.length (fun k v i wr => ∃ j : Nat, j + k = ll.length ∧ i = .int .i64 (j : Int) ∧ OwnB wr w.heap.size v (Shf.lay (ll.take j)) ∧ Below w.heap.size w wr)
  case atStart => exact ⟨0, by omega, rfl, Own.nil_ _ _ _ _, Below.refl _ _⟩
  case round =>
    obtain ⟨j, hj, rfl, hown, hx⟩ := hrel
    obtain ⟨A1, c1, hv1, hac1, hcm1⟩ := Own.shape hown
    subst hv1
    by_cases hlt : j < ll.length
    · obtain ⟨b, off, u, hA, q0, _, hb, hub⟩ := BList.at_ hl hlt
      subst hA
      have hltB : (j : Int) < (ll.length : Int) := by omega
      have hlen : ll[j].length ≤ 200 := hs _ (List.getElem_mem hlt)
      have hsn : Shf.lay (ll.take (j + 1)) = Shf.lay (ll.take j) ++ Shf.lay1 ll[j] := by rw [List.take_succ_eq_append_getElem hlt, Shf.lay_snoc]
      have hll := Shf.lay_len (ll.take j) (fun e he => hs e (List.mem_of_mem_take he))
      have htl : (ll.take j).length ≤ 100 := by rw [List.length_take]; omega
      have p0 := (hx.cell (p := ⟨b, off + j, none⟩) hb).trans q0
      have hue := hub.below hx
      generalize hT : Shf.lay (ll.take j) = T at *
      generalize ll[j] = e at *
      have HSN := Lib.hid hsn
      clear hsn hT q0
      obtain ⟨A3, c3, hv3, hlc3, hcm3⟩ := hue.form'
      subst hv3
      obtain ⟨hownB, hsrc⟩ := byte_prep (UInt8.ofNat e.length) hown
      have hbv : bv (UInt8.ofNat e.length) = .int .u8 (e.length : Int) := by rw [bv_def, UInt8.toNat_ofNat']; congr 1; omega
      have hxB := hx.alloc hx.size (.cells #[bv (UInt8.ofNat e.length)] 5)
      have hueB := hue.alloc (.cells #[bv (UInt8.ofNat e.length)] 5)
      rw [hbv] at hownB hsrc hxB hueB
      have HBV := Lib.hid hbv
      have hTl : T.length ≤ 20100 := by omega
      clear hbv hll htl
      go_wp2_with (at_builtin
                   first
                   | (refine wpList_append_Own _ (by rfl) (.tmp 12) (.tmp 16) 22 (by rfl) w.heap.size 5 i0 _ 1 1 Try.underlying22 hi hz0 hz1 hz2 (by rfl) (by omega) (.slice A1 T.length c1) T.length (T.map bv) (by rfl) hownB _ _ _ _ (by rfl) hsrc (by simp [Value.oneCell']) (by simp only [maxLen]; omega) (by omega) (by simp; have := hx.size; omega) ?_
                      intro v2 w2 hown2 hgr2 hat2
                      have hx2 : Below w.heap.size w w2 := hxB.grown hgr2 hxB.size (fun k hk => (Own.lt hownB k hk).1)
                      have hsr2 := hub.below hx2)
                   | (refine wpList_append_Own _ (by rfl) (.tmp 17) (.tmp 18) 22 (by rfl) w.heap.size 5 i0 _ 1 1 Try.underlying22 hi hz0 hz1 hz2 (by rfl) (by omega) v2 (T.length + 1) (T.map bv ++ [.int .u8 (e.length : Int)]) (by rfl) hown2 _ _ _ _ (by rfl) hsr2 (by simp [bv_oneCell]) (by simp only [maxLen]; omega) (by omega) hx2.size ?_
                      intro v4 w4 hown4 hgr4 hat4
                      have hx4 : Below w.heap.size w w4 := hx2.grown hgr4 hx2.size (fun k hk => (Own.lt hown2 k hk).1)))
      go_roundg (gk - 1)
      case measure => omega
      case rel =>
        refine ⟨j + 1, by omega, by go_num, ?_, hx4⟩
        rw [HSN.out]
        unfold OwnB Shf.lay1
        rw [List.length_append, List.length_cons, List.map_append, List.map_cons, HBV.out, show T.length + (e.length + 1) = T.length + 1 + e.length by omega, show List.map bv T ++ Value.int .u8 (e.length : Int) :: List.map bv e = List.map bv T ++ [Value.int .u8 (e.length : Int)] ++ List.map bv e by simp]
        exact hown4
    · have hltB : decide ((j : Int) < (ll.length : Int)) = false := by simp; omega
      have hjn : ll.take j = ll := List.take_of_length_le (by omega)
      go_wp2_with fail
      go_ret
      have hown' : OwnB wr w.heap.size (.slice A1 (Shf.lay (ll.take j)).length c1) (Shf.lay ll) := by
        have := hown
        rw [hjn] at this ⊢
        exact this
      exact ⟨_, rfl, hown', hx⟩
end Go.Proofs.Ytfdibjgmbdkbcaa
