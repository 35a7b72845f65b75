/-
  THE WALK of yearref5.Lay; and lists of pieces of the call's own bytes. Conditions: what is read is a list of texts, a hundred at the most, each of 200 bytes at the most.
-/
import Derived.Test.YtfdibjgmbdkbcaaZGc
import Derived.Test.YtfdibjgmbdkbcaaZShelf
import Derived.Test.YtfdibjgmbdkbcaaZPiece
namespace Go.Proofs.Ytfdibjgmbdkbcaa
open Go.RowKit Go.Lib

set_option maxRecDepth 100000 in
set_option maxHeartbeats 2000000 in
theorem rlay_any (w : World) (F : Nat → Prop) (v : Value) (ll : List Bs) (hl : BList w F v ll) (hn : ll.length ≤ 100) (hs : ∀ e ∈ ll, e.length ≤ 200) :
    Calls Try.prog 110 #[v] w fun e w' => ∃ v, e = .returned v ∧ OwnB w' w.heap.size v (Shf.lay ll) ∧ Below w.heap.size w w' := by
  obtain ⟨i0, hi, hz0, hz1, hz2⟩ := info_parts info_u8
  obtain ⟨A, c, hv⟩ := hl.form
  subst hv
  go_enter Try.func110, Try.ntmps110
  go_wp2_with fail
  go_loopg [3, 8] ll.length (fun k v i wr => ∃ j : Nat, j + k = ll.length ∧ i = .int .i64 (j : Int) ∧ OwnB wr w.heap.size v (Shf.lay (ll.take j)) ∧ Below w.heap.size w wr)
  case atStart => exact ⟨0, by omega, rfl, Own.nil_ _ _ _ _, Below.refl _ _⟩
  case round =>
    obtain ⟨j, hj, rfl, hown, hx⟩ := hrel
    obtain ⟨A1, c1, hv1, hac1, hcm1⟩ := Own.shape hown
    subst hv1
    by_cases hlt : j < ll.length
    · obtain ⟨b, off, u, hA, q0, _, hb, hub⟩ := BList.at_ hl hlt
      subst hA
      have hltB : (j : Int) < (ll.length : Int) := by omega
      have hlen : ll[j].length ≤ 200 := hs _ (List.getElem_mem hlt)
      have hsn : Shf.lay (ll.take (j + 1)) = Shf.lay (ll.take j) ++ Shf.lay1 ll[j] := by rw [List.take_succ_eq_append_getElem hlt, Shf.lay_snoc]
      have hll := Shf.lay_len (ll.take j) (fun e he => hs e (List.mem_of_mem_take he))
      have htl : (ll.take j).length ≤ 100 := by rw [List.length_take]; omega
      have p0 := (hx.cell (p := ⟨b, off + j, none⟩) hb).trans q0
      have hue := hub.below hx
      generalize hT : Shf.lay (ll.take j) = T at *
      generalize ll[j] = e at *
      have HSN := Lib.hid hsn
      clear hsn hT q0
      obtain ⟨A3, c3, hv3, hlc3, hcm3⟩ := hue.form'
      subst hv3
      obtain ⟨hownB, hsrc⟩ := byte_prep (UInt8.ofNat e.length) hown
      have hbv : bv (UInt8.ofNat e.length) = .int .u8 (e.length : Int) := by rw [bv_def, UInt8.toNat_ofNat']; congr 1; omega
      have hxB := hx.alloc hx.size (.cells #[bv (UInt8.ofNat e.length)] 5)
      have hueB := hue.alloc (.cells #[bv (UInt8.ofNat e.length)] 5)
      rw [hbv] at hownB hsrc hxB hueB
      have HBV := Lib.hid hbv
      have hTl : T.length ≤ 20100 := by omega
      clear hbv hll htl
      go_wp2_with (at_builtin
                   first
                   | (refine wpList_append_Own _ (by rfl) (.tmp 12) (.tmp 16) 22 (by rfl) w.heap.size 5 i0 _ 1 1 Try.underlying22 hi hz0 hz1 hz2 (by rfl) (by omega) (.slice A1 T.length c1) T.length (T.map bv) (by rfl) hownB _ _ _ _ (by rfl) hsrc (by simp [Value.oneCell']) (by simp only [maxLen]; omega) (by omega) (by simp; have := hx.size; omega) ?_
                      intro v2 w2 hown2 hgr2 hat2
                      have hx2 : Below w.heap.size w w2 := hxB.grown hgr2 hxB.size (fun k hk => (Own.lt hownB k hk).1)
                      have hsr2 := hub.below hx2
                      obtain ⟨A5, c5, hv5, hac5, hcm5⟩ := Own.shape hown2
                      subst hv5)
                   | (refine wpList_append_Own _ (by rfl) (.tmp 18) (.tmp 19) 22 (by rfl) w.heap.size 5 i0 _ 1 1 Try.underlying22 hi hz0 hz1 hz2 (by rfl) (by omega) _ (T.length + 1) (T.map bv ++ [.int .u8 (e.length : Int)]) (by rfl) hown2 _ _ _ _ (by rfl) hsr2 (by simp [bv_oneCell]) (by simp only [maxLen]; omega) (by omega) hx2.size ?_
                      intro v4 w4 hown4 hgr4 hat4
                      have hx4 : Below w.heap.size w w4 := hx2.grown hgr4 hx2.size (fun k hk => (Own.lt hown2 k hk).1)))
      go_roundg (gk - 1)
      case measure => omega
      case rel =>
        refine ⟨j + 1, by omega, by go_num, ?_, hx4⟩
        rw [HSN.out]
        unfold OwnB Shf.lay1
        rw [List.length_append, List.length_cons, List.map_append, List.map_cons, HBV.out, show T.length + (e.length + 1) = T.length + 1 + e.length by omega, show List.map bv T ++ Value.int .u8 (e.length : Int) :: List.map bv e = List.map bv T ++ [Value.int .u8 (e.length : Int)] ++ List.map bv e by simp]
        exact hown4
    · have hltB : decide ((j : Int) < (ll.length : Int)) = false := by simp; omega
      have hjn : ll.take j = ll := List.take_of_length_le (by omega)
      go_wp2_with fail
      go_ret
      have hown' : OwnB wr w.heap.size (.slice A1 (Shf.lay (ll.take j)).length c1) (Shf.lay ll) := by
        have := hown
        rw [hjn] at this ⊢
        exact this
      exact ⟨_, rfl, hown', hx⟩

/-- a block of bytes, from B on -/
def ByB (w : World) (B : Nat) (k : Nat) : Prop := B ≤ k ∧ ∃ cs, w.heap[k]? = some (.cells cs 5 (0, 0))
/-- a piece of bytes of the call's own -/
def PcB (w : World) (B : Nat) (v : Value) (l : Bs) : Prop := Bytes w (ByB w B) v l
/-- a list of the call's own (from R on), of pieces of bytes of its own (from B on) -/
def OwnQ (w : World) (R B : Nat) (v : Value) (ll : List Bs) : Prop :=
  ∃ vs : List Value, Own w R 22 1 v ll.length vs ∧ ∀ (i : Nat) (b : Bs), ll[i]? = some b → ∃ u : Value, vs[i]? = some u ∧ PcB w B u b
section
variable {w w' : World} {R B : Nat} {v : Value} {l : Bs} {ll : List Bs}
theorem PcB.of_own (h : OwnB w B v l) : PcB w B v l := h.slAt fun k hk => ⟨(Own.type h k hk).1, (Own.type h k hk).2⟩
theorem PcB.keep (h : PcB w B v l) (hs : w.heap.size ≤ w'.heap.size) (hk : ∀ k, k < w.heap.size → ByB w B k → w'.heap[k]? = w.heap[k]?) : PcB w' B v l := by
  have h1 : Bytes w' (ByB w B) v l := SlAt.keep h hs hk
  obtain ⟨A, c, hv, h1, h2, h3, h4⟩ := h
  refine ⟨A, c, hv, h1, h2, h3, fun hn => ?_⟩
  obtain ⟨b, off, hA, hF, hb, hc⟩ := h4 hn
  have e := hk b hb hF
  exact ⟨b, off, hA, ⟨hF.1, by rw [e]; exact hF.2⟩, by omega, fun j u hu => (World.cell?_of_block e).trans (hc j u hu)⟩
theorem PcB.below (h : PcB w B v l) (hb : Below w.heap.size w w') : PcB w' B v l := h.keep hb.size fun k hk _ => hb.block k hk
theorem PcB.mono (h : PcB w B v l) {B' : Nat} (hb : B' ≤ B) : PcB w B' v l := SlAt.weak h (fun _ _ hk => ⟨Nat.le_trans hb hk.1, hk.2⟩)
theorem PcB.alloc (h : PcB w B v l) (o : Obj) : PcB (w.alloc o) B v l := h.below ((Below.refl _ _).alloc (Nat.le_refl _) o)
theorem OwnQ.nil_ (w : World) (R B : Nat) : OwnQ w R B (.slice none 0 0) [] := ⟨[], Own.nil_ _ _ _ _, fun i b hb => by simp at hb⟩
theorem OwnQ.below (h : OwnQ w R B v ll) (hb : Below w.heap.size w w') : OwnQ w' R B v ll := by
  obtain ⟨vs, h1, h2⟩ := h
  refine ⟨vs, h1.below hb, fun i b hi => ?_⟩
  obtain ⟨u, hu, ho⟩ := h2 i b hi
  exact ⟨u, hu, ho.below hb⟩
theorem OwnQ.mono (h : OwnQ w R B v ll) {R' B' : Nat} (hr : R' ≤ R) (hb : B' ≤ B) : OwnQ w R' B' v ll := by
  obtain ⟨vs, h1, h2⟩ := h
  refine ⟨vs, h1.mono hr, fun i b hi => ?_⟩
  obtain ⟨u, hu, ho⟩ := h2 i b hi
  exact ⟨u, hu, ho.mono hb⟩
theorem OwnQ.blist (h : OwnQ w R B v ll) : BList w (fun _ => True) v ll := by
  obtain ⟨vs, h1, h2⟩ := h
  refine ⟨vs, h1.slAt (fun _ _ => trivial), fun i b hi => ?_⟩
  obtain ⟨u, hu, ho⟩ := h2 i b hi
  exact ⟨u, hu, SlAt.weak ho (fun _ _ _ => trivial)⟩
/-- a row of slices grows: pieces of bytes stay -/
theorem PcB.grown (h : PcB w B v l) {z : Value} {n : Nat} {vs : List Value} (hz : Own w R 22 1 z n vs) (hg : w.grownBy w' z.ownBlock) : PcB w' B v l :=
  h.keep hg.size fun k hk hF => hg.block k hk (fun e => by
    obtain ⟨_, cur, hc⟩ := hz.type k e.symm
    obtain ⟨_, cs, hF⟩ := hF
    rw [hc] at hF
    injection hF with hF
    injection hF with _ hF
    exact absurd hF (by decide))
/-- a row of slices, behind an append of pieces -/
theorem OwnQ.join {v' : Value} {vs us : List Value} {mm : List Bs} (h1 : ∀ (i : Nat) (b : Bs), ll[i]? = some b → ∃ u : Value, vs[i]? = some u ∧ PcB w B u b) (hvs : vs.length = ll.length) (h2 : ∀ (i : Nat) (b : Bs), mm[i]? = some b → ∃ u : Value, us[i]? = some u ∧ PcB w B u b)
    (hv : Own w R 22 1 v ll.length vs) (hg : w.grownBy w' v.ownBlock) (hown : Own w' R 22 1 v' (ll.length + mm.length) (vs ++ us)) : OwnQ w' R B v' (ll ++ mm) := by
  refine ⟨vs ++ us, by rw [List.length_append]; exact hown, fun i c hi => ?_⟩
  rcases Nat.lt_or_ge i ll.length with hlt | hge
  · rw [List.getElem?_append_left hlt] at hi
    obtain ⟨x, hx, ho⟩ := h1 i c hi
    exact ⟨x, by rw [List.getElem?_append_left (by omega)]; exact hx, ho.grown hv hg⟩
  · rw [List.getElem?_append_right hge] at hi
    obtain ⟨x, hx, ho⟩ := h2 _ c hi
    exact ⟨x, by rw [List.getElem?_append_right (by omega), hvs]; exact hx, ho.grown hv hg⟩
end
end Go.Proofs.Ytfdibjgmbdkbcaa
