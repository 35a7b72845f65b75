/-
  THE WALKS of yearlaw6.one, alive, BookTurns. Conditions: what comes in is read as a record, and bytes.
-/
import Derived.Test.YtgbjfilkecmmgaaBookE
import Derived.Test.YtgbjfilkecmmgaaSame
namespace Go.Proofs.Ytgbjfilkecmmgaa
open Go.RowKit Go.Lib

set_option maxRecDepth 100000 in
set_option maxHeartbeats 1000000 in
theorem sameHead_yes (w : World) (F F' : Nat → Prop) (n : Int) (va vb : Value) (l : Bs) (ha : Bytes w F va l) (hb : Bytes w F' vb l) :
    Calls Try.prog 24 #[.agg #[.int .i64 n, va], .agg #[.int .i64 n, vb]] w fun e w' => e = .returned (.bool true) ∧ Below w.heap.size w w' := by
  obtain ⟨A, c, rfl⟩ := ha.form
  obtain ⟨A', c', rfl⟩ := hb.form
  have hx := ((Below.refl w.heap.size w).alloc (Nat.le_refl _) (.cells #[.int .i64 n, .slice A l.length c] 24)).alloc (by simp) (.cells #[.int .i64 n, .slice A' l.length c'] 24)
  have ha2 := (ha.alloc (.cells #[.int .i64 n, .slice A l.length c] 24)).alloc (.cells #[.int .i64 n, .slice A' l.length c'] 24)
  have hb2 := (hb.alloc (.cells #[.int .i64 n, .slice A l.length c] 24)).alloc (.cells #[.int .i64 n, .slice A' l.length c'] 24)
  go_enter Try.func24, Try.ntmps24
  go_wp2_with fail
  refine (same_any _ _ _ _ _ l l ha2 hb2).mono ?_
  rintro e w1 ⟨rfl, n1, hw⟩
  rw [beq_self_eq_true]
  have hx1 := below_drewN hx n1
  rw [← hw] at hx1
  clear hw
  go_wp2_with fail
  go_ret
  exact ⟨rfl, hx1⟩

set_option maxRecDepth 100000 in
set_option maxHeartbeats 1000000 in
theorem sameRec_yes (w : World) (F F' : Nat → Prop) (sh fr tt sz : Int) (va vb : Value) (l : Bs) (ha : Bytes w F va l) (hb : Bytes w F' vb l) :
    Calls Try.prog 14 #[.agg #[.int .i64 sh, .int .i64 fr, .int .i64 tt, .int .i64 sz, va], .agg #[.int .i64 sh, .int .i64 fr, .int .i64 tt, .int .i64 sz, vb]] w fun e w' => e = .returned (.bool true) ∧ Below w.heap.size w w' := by
  obtain ⟨A, c, rfl⟩ := ha.form
  obtain ⟨A', c', rfl⟩ := hb.form
  have hx := ((Below.refl w.heap.size w).alloc (Nat.le_refl _) (.cells #[.int .i64 sh, .int .i64 fr, .int .i64 tt, .int .i64 sz, .slice A l.length c] 26)).alloc (by simp) (.cells #[.int .i64 sh, .int .i64 fr, .int .i64 tt, .int .i64 sz, .slice A' l.length c'] 26)
  have ha2 := (ha.alloc (.cells #[.int .i64 sh, .int .i64 fr, .int .i64 tt, .int .i64 sz, .slice A l.length c] 26)).alloc (.cells #[.int .i64 sh, .int .i64 fr, .int .i64 tt, .int .i64 sz, .slice A' l.length c'] 26)
  have hb2 := (hb.alloc (.cells #[.int .i64 sh, .int .i64 fr, .int .i64 tt, .int .i64 sz, .slice A l.length c] 26)).alloc (.cells #[.int .i64 sh, .int .i64 fr, .int .i64 tt, .int .i64 sz, .slice A' l.length c'] 26)
  go_enter Try.func14, Try.ntmps14
  go_wp2_with fail
  refine (sameHead_yes _ _ _ sz _ _ l ha2 hb2).mono ?_
  rintro e w1 ⟨rfl, hx1⟩
  go_wp2_with fail
  go_ret
  exact ⟨rfl, hx.trans (hx1.mono hx.size)⟩

def zero32 : Bs := List.replicate 32 0
set_option maxRecDepth 100000 in
set_option maxHeartbeats 1000000 in
theorem one_any (w : World) (n : Int) (h0 : 0 ≤ n) (h1 : n ≤ 100) :
    Calls Try.prog 46 #[.int .i64 n] w fun e w' => ∃ v, e = .returned (.agg #[.int .i64 n, .int .i64 (10 * n), .int .i64 (10 * n + 5), .int .i64 n, v]) ∧ OwnB w' w.heap.size v zero32 ∧ Below w.heap.size w w' := by
  have hmk : ∀ w : World, (Instr.makeSlice 22 (.int .i64 32) (.int .i64 32)).run Try.prog w = .ok (.slice (some ⟨w.heap.size, 0, none⟩) 32 32) (w.alloc (.cells (List.replicate 32 (.int .u8 0)).toArray 5)) := fun _ => by kernel_rfl
  go_enter Try.func46, Try.ntmps46
  go_wp2_with fail
  have hxW := ((Below.refl w.heap.size w).alloc (Nat.le_refl _) (.cells #[.int .i64 n, .int .i64 (10 * n), .int .i64 (10 * n + 5), .int .i64 n, .slice (some ⟨w.heap.size + 1, 0, none⟩) 32 32] 26)).alloc (by simp) (.cells (List.replicate 32 (Value.int .u8 0)).toArray 5)
  have hoW := Own.new (w.alloc (.cells #[.int .i64 n, .int .i64 (10 * n), .int .i64 (10 * n + 5), .int .i64 n, .slice (some ⟨w.heap.size + 1, 0, none⟩) 32 32] 26)) w.heap.size 5 (List.replicate 32 (Value.int .u8 0)) 32 (by simp) (by decide) (by simp)
  rw [World.size_alloc] at hoW
  have hb : Blk ((w.alloc (.cells #[.int .i64 n, .int .i64 (10 * n), .int .i64 (10 * n + 5), .int .i64 n, .slice (some ⟨w.heap.size + 1, 0, none⟩) 32 32] 26)).alloc (.cells (List.replicate 32 (Value.int .u8 0)).toArray 5)) w.heap.size 26 #[.int .i64 n, .int .i64 (10 * n), .int .i64 (10 * n + 5), .int .i64 n, .slice (some ⟨w.heap.size + 1, 0, none⟩) 32 32] := Blk.alloc (heap_alloc_new w _) _
  have hz : (List.replicate 32 (Value.int .u8 0)) = zero32.map bv := by unfold zero32; rw [List.map_replicate]; rfl
  have hz2 : (List.replicate 32 (Value.int .u8 0)).toArray = #[.int .u8 0, .int .u8 0, .int .u8 0, .int .u8 0, .int .u8 0, .int .u8 0, .int .u8 0, .int .u8 0, .int .u8 0, .int .u8 0, .int .u8 0, .int .u8 0, .int .u8 0, .int .u8 0, .int .u8 0, .int .u8 0, .int .u8 0, .int .u8 0, .int .u8 0, .int .u8 0, .int .u8 0, .int .u8 0, .int .u8 0, .int .u8 0, .int .u8 0, .int .u8 0, .int .u8 0, .int .u8 0, .int .u8 0, .int .u8 0, .int .u8 0, .int .u8 0] := rfl
  rw [hz2] at hxW hoW hb
  rw [hz] at hoW
  generalize ((w.alloc (.cells #[.int .i64 n, .int .i64 (10 * n), .int .i64 (10 * n + 5), .int .i64 n, .slice (some ⟨w.heap.size + 1, 0, none⟩) 32 32] 26)).alloc (.cells #[.int .u8 0, .int .u8 0, .int .u8 0, .int .u8 0, .int .u8 0, .int .u8 0, .int .u8 0, .int .u8 0, .int .u8 0, .int .u8 0, .int .u8 0, .int .u8 0, .int .u8 0, .int .u8 0, .int .u8 0, .int .u8 0, .int .u8 0, .int .u8 0, .int .u8 0, .int .u8 0, .int .u8 0, .int .u8 0, .int .u8 0, .int .u8 0, .int .u8 0, .int .u8 0, .int .u8 0, .int .u8 0, .int .u8 0, .int .u8 0, .int .u8 0, .int .u8 0] 5)) = w1 at *
  have d0 : w1.cell? ⟨w.heap.size, 0, none⟩ = some (.int .i64 n) := hb.cell 0
  have d1 : w1.cell? ⟨w.heap.size, 1, none⟩ = some (.int .i64 (10 * n)) := hb.cell 1
  have d2 : w1.cell? ⟨w.heap.size, 2, none⟩ = some (.int .i64 (10 * n + 5)) := hb.cell 2
  have d3 : w1.cell? ⟨w.heap.size, 3, none⟩ = some (.int .i64 n) := hb.cell 3
  have d4 : w1.cell? ⟨w.heap.size, 4, none⟩ = some (.slice (some ⟨w.heap.size + 1, 0, none⟩) 32 32) := hb.cell 4
  exact bodyPost_ret (v := .agg #[.int .i64 n, .int .i64 (10 * n), .int .i64 (10 * n + 5), .int .i64 n, .slice (some ⟨w.heap.size + 1, 0, none⟩) 32 32]) (by simp [results, Try.results46, go_sem, d0, d1, d2, d3, d4]) rfl ⟨_, rfl, hoW, hxW⟩

theorem one_at (w : World) (n a b : Int) (h0 : 0 ≤ n) (h1 : n ≤ 100) (ha : a = 10 * n) (hb : b = 10 * n + 5) :
    Calls Try.prog 46 #[.int .i64 n] w fun e w' => ∃ v, e = .returned (.agg #[.int .i64 n, .int .i64 a, .int .i64 b, .int .i64 n, v]) ∧ OwnB w' w.heap.size v zero32 ∧ Below w.heap.size w w' := by
  subst ha hb
  exact one_any w n h0 h1
def rec1 : Rec := ⟨1, 10, 15, 1, zero32⟩
def rec2 : Rec := ⟨2, 20, 25, 2, zero32⟩
/-- a slice of data that lies in a new block -/
theorem flatten_at {n : Nat} : ∀ (ls : List (List Value)) (i j : Nat) (ecs : List Value) (u : Value), (∀ c ∈ ls, c.length = n) → ls[i]? = some ecs → ecs[j]? = some u → ls.flatten[i * n + j]? = some u
  | [], _, _, _, _, _, h, _ => by simp at h
  | c :: ls, 0, j, ecs, u, _, h, hu => by
    simp only [List.getElem?_cons_zero, Option.some.injEq] at h
    subst h
    have hj : j < c.length := by
      rcases Nat.lt_or_ge j c.length with h | h
      · exact h
      · rw [List.getElem?_eq_none h] at hu; cases hu
    rw [List.flatten_cons, Nat.zero_mul, Nat.zero_add, List.getElem?_append_left hj]
    exact hu
  | c :: ls, i + 1, j, ecs, u, hl, h, hu => by
    have hc := hl c (List.mem_cons_self ..)
    simp only [List.getElem?_cons_succ] at h
    have ih := flatten_at ls i j ecs u (fun d hd => hl d (List.mem_cons_of_mem _ hd)) h hu
    rw [List.flatten_cons, List.getElem?_append_right (by rw [hc, Nat.add_mul]; omega), hc, show (i + 1) * n + j - n = i * n + j by rw [Nat.add_mul]; omega]
    exact ih
theorem RdL.new {α : Type} [Rp α] (w : World) (F : Nat → Prop) (e : TypeId) (ls : List (List Value)) (l : List α) (hm : l.length ≤ maxLen) (hn : ls.length = l.length) (h : ∀ (i : Nat) (a : α), l[i]? = some a → ∃ ecs, ls[i]? = some ecs ∧ Rp.rd w F ecs a) :
    RdL (w.alloc (.cells ls.flatten.toArray e)) (fun _ => True) (.slice (some ⟨w.heap.size, 0, none⟩) l.length l.length) l := by
  refine ⟨_, l.length, rfl, Nat.le_refl _, hm, fun _ => ⟨w.heap.size, 0, rfl, trivial, by simp, fun i a ha => ?_⟩⟩
  obtain ⟨ecs, he, hr⟩ := h i a ha
  refine ⟨ecs, Rp.top (Rp.alloc hr _), fun j u hu => ?_⟩
  have hlen : ∀ c ∈ ls, c.length = Rp.sz α := fun c hc => by
    obtain ⟨k, hk, hkc⟩ := List.getElem_of_mem hc
    obtain ⟨ecs', he', hr'⟩ := h k l[k] (List.getElem?_eq_getElem (by omega))
    rw [List.getElem?_eq_getElem hk] at he'
    injection he' with he'
    rw [← hkc, he']
    exact Rp.len hr'
  rw [cell_of_row _ w.heap.size _ ls.flatten.toArray e (0, 0) (heap_alloc_new w _), Nat.zero_add, List.getElem?_toArray]
  exact flatten_at ls i j ecs u hlen he hu
theorem rd_rec_mk {w : World} {F : Nat → Prop} {v : Value} (r : Rec) (h : Bytes w F v r.root) : Rp.rd w F [.int .i64 r.sh, .int .i64 r.fr, .int .i64 r.to, .int .i64 r.sz, v] r :=
  ⟨[_], [_, _, _, _], rfl, rfl, [_], [_, _, _], rfl, rfl, [_], [_, _], rfl, rfl, [_], [_], rfl, rfl, _, rfl, rdL_bytes.2 h⟩
theorem ok_one (n : Int) (h0 : 0 ≤ n) (h1 : n ≤ 7) : Bk.wrongR ⟨n, 10 * n, 10 * n + 5, n, zero32⟩ = 0 := Bk.wrongR_ok.2 ⟨by simp; omega, by simp; omega, by simp; omega, by simp; omega, by simp; omega, by simp; omega, by simp; omega, by simp [zero32]⟩

set_option maxRecDepth 100000 in
set_option maxHeartbeats 2000000 in
theorem alive6 (w : World) : Calls Try.prog 11 #[] w fun e w' => e = .returned (.bool true) ∧ Below w.heap.size w w' := by
  have hw3 : Bk.wrongR ⟨3, 30, 35, 3, zero32⟩ = 0 := ok_one 3 (by decide) (by decide)
  have hz3 : zero32.length = 32 := by decide
  go_enter Try.func11, Try.ntmps11
  go_wp2_with fail
  refine (one_at w 3 30 35 (by decide) (by decide) rfl rfl).mono ?_
  rintro e w1 ⟨v1, rfl, ho1, hx1⟩
  obtain ⟨A1, c1, hv1, _, _⟩ := Own.shape ho1
  subst hv1
  have HW := Lib.hid hw3
  have HZ := Lib.hid hz3
  clear hw3 hz3
  go_wp2_with fail
  refine (bytesR_ok w1 _ 3 30 35 3 A1 c1 zero32 (OwnB.bytes ho1) HW.out).mono ?_
  obtain ⟨row, HR⟩ : ∃ r, Hid (r = Bk.rowR ⟨3, 30, 35, 3, zero32⟩) := ⟨_, Lib.hid rfl⟩
  rw [← HR.out]
  have H40 : Hid (row.length = 40) := Lib.hid (by rw [HR.out]; exact Bk.length_rowR HW.out)
  have HP : Hid (Bk.wrongP row = 0 ∧ Bk.parseR row = ⟨3, 30, 35, 3, zero32⟩) := Lib.hid (by rw [HR.out]; exact Bk.parse_row HW.out)
  rintro e w2 ⟨v2, rfl, ho2, hx2⟩
  have hxa := hx1.trans (hx2.mono hx1.size)
  obtain ⟨A2, c2, hv2, _, _⟩ := Own.shape ho2
  subst hv2
  go_wp2_with fail
  refine (parseR_any w2 _ _ row (OwnB.bytes ho2)).mono ?_
  rintro e w3 ⟨v3, rfl, ho3, hx3⟩
  unfold recV
  rw [HP.out.1, HP.out.2] at *
  have hxb := hxa.trans (hx3.mono hxa.size)
  have hxc := hxb.alloc hxb.size (.cells #[.int .i64 3, .int .i64 30, .int .i64 35, .int .i64 3, v3] 26)
  have hk4 : Blk (w3.alloc (.cells #[.int .i64 3, .int .i64 30, .int .i64 35, .int .i64 3, v3] 26)) w3.heap.size 26 #[.int .i64 3, .int .i64 30, .int .i64 35, .int .i64 3, v3] := heap_alloc_new w3 _
  obtain ⟨A3, c3, hv3, _, _⟩ := Own.shape ho3
  subst hv3
  simp only at hxc hk4 ⊢
  go_wp2_with fail
  generalize w3.alloc (.cells #[.int .i64 3, .int .i64 30, .int .i64 35, .int .i64 3, .slice A3 zero32.length c3] 26) = w4 at *
  refine (one_at w4 1 10 15 (by decide) (by decide) rfl rfl).mono ?_
  rintro e w5 ⟨v5, rfl, ho5, hx5⟩
  have hxd := hxc.trans (hx5.mono hxc.size)
  have hk5 := hk4.below hx5 hk4.lt
  go_wp2_with fail
  refine (one_at w5 2 20 25 (by decide) (by decide) rfl rfl).mono ?_
  rintro e w6 ⟨v6, rfl, ho6, hx6⟩
  have hxe := hxd.trans (hx6.mono hxd.size)
  have hk6 := hk5.below hx6 hk5.lt
  have HL : Hid (RdL (w6.alloc (.cells #[.int .i64 1, .int .i64 10, .int .i64 15, .int .i64 1, v5, .int .i64 2, .int .i64 20, .int .i64 25, .int .i64 2, v6] 26)) (fun _ => True) (.slice (some ⟨w6.heap.size, 0, none⟩) 2 2) [rec1, rec2]) := Lib.hid (by
    have hb5 := (OwnB.bytes (OwnB.below ho5 hx6))
    have hb6 := OwnB.bytes ho6
    refine RdL.new w6 (fun _ => True) 26 [[.int .i64 1, .int .i64 10, .int .i64 15, .int .i64 1, v5], [.int .i64 2, .int .i64 20, .int .i64 25, .int .i64 2, v6]] [rec1, rec2] (by decide) rfl (fun i a ha => ?_)
    match i, ha with
    | 0, ha => injection ha with ha; subst ha; exact ⟨_, rfl, rd_rec_mk rec1 (hb5.weak (fun _ _ _ => trivial))⟩
    | 1, ha => injection ha with ha; subst ha; exact ⟨_, rfl, rd_rec_mk rec2 (hb6.weak (fun _ _ _ => trivial))⟩)
  have hfb : Bk.FineB [rec1, rec2] := ⟨by decide, fun r hr => by
    simp only [List.mem_cons, List.not_mem_nil, or_false] at hr
    rcases hr with rfl | rfl
    · exact ok_one 1 (by decide) (by decide)
    · exact ok_one 2 (by decide) (by decide)⟩
  have hR32 : (Tr.root ((Bk.rows [rec1, rec2]).map Tr.leafH)).length = 32 := Tr.length_root _ (d32_leaves _)
  have HFB := Lib.hid hfb
  have hR33 := Lib.hid hR32
  have hxf := hxe.alloc hxe.size (.cells #[.int .i64 1, .int .i64 10, .int .i64 15, .int .i64 1, v5, .int .i64 2, .int .i64 20, .int .i64 25, .int .i64 2, v6] 26)
  have hk7 := hk6.alloc (.cells #[.int .i64 1, .int .i64 10, .int .i64 15, .int .i64 1, v5, .int .i64 2, .int .i64 20, .int .i64 25, .int .i64 2, v6] 26)
  obtain ⟨A5, c5, hv5, _, _⟩ := Own.shape ho5
  subst hv5
  obtain ⟨A6, c6, hv6, _, _⟩ := Own.shape ho6
  subst hv6
  clear hfb hR32
  go_wp2_with fail
  refine (Head_fine _ _ _ _ HL.out HFB.out).mono ?_
  rintro e w8 ⟨v8, rfl, ho8, hx8⟩
  have hxg := hxf.trans (hx8.mono hxf.size)
  have hk8 := hk7.below hx8 hk7.lt
  obtain ⟨A8, c8, hv8, _, _⟩ := Own.shape ho8
  subst hv8
  rw [hR33.out, H40.out]
  have e30 : w8.cell? ⟨w3.heap.size, 1, none⟩ = some (.int .i64 30) := hk8.cell 1
  have hlt8 := hk8.lt
  have hxh := (hxg.alloc hxg.size (.cells #[.int .i64 ([rec1, rec2].length : Int), .slice A8 32 c8] 24)).alloc (by simp; have := hxg.size; omega) (.cells #[.int .i64 0, .int .i64 0] 41)
  have hll : ([rec1, rec2].length : Int) = 2 := rfl
  rw [hll] at hxh
  rw [hll]
  clear hk4 hk5 hk6 hk7 hk8 hxc hxd hxe hxf hxa hxb hx1 hx2 hx3 hx5 hx6 hx8 ho1 ho2 ho3 ho5 ho6 hll
  go_wp2_with fail
  go_ret
  exact ⟨rfl, hxh⟩

set_option maxRecDepth 100000 in
set_option maxHeartbeats 4000000 in
theorem bookTurns_walk (w : World) (cs : List Value) (r : Rec) (h0 : Rp.rd w (fun _ => True) cs r) (v1 : Value) (l1 : Bs) (h1 : Bytes w (fun _ => True) v1 l1) :
    Calls Try.prog 3 #[.agg cs.toArray, v1] w fun e w' => e = .returned (.bool true) ∧ Below w.heap.size w w' := by
  obtain ⟨A, c, hcs, hr⟩ := rd_rec h0
  subst hcs
  obtain ⟨A1, c1, rfl⟩ := h1.form
  obtain ⟨sh, fr, tt, sz, root⟩ := r
  simp only at hr ⊢
  have hx0 := (Below.refl w.heap.size w).alloc (Nat.le_refl _) (.cells #[.int .i64 sh, .int .i64 fr, .int .i64 tt, .int .i64 sz, .slice A root.length c] 26)
  have hk0 : Blk (w.alloc (.cells #[.int .i64 sh, .int .i64 fr, .int .i64 tt, .int .i64 sz, .slice A root.length c] 26)) w.heap.size 26 #[.int .i64 sh, .int .i64 fr, .int .i64 tt, .int .i64 sz, .slice A root.length c] := heap_alloc_new w _
  go_enter Try.func3, Try.ntmps3
  go_wp2_with fail
  generalize w.alloc (.cells #[.int .i64 sh, .int .i64 fr, .int .i64 tt, .int .i64 sz, .slice A root.length c] 26) = w0 at *
  refine (alive6 w0).mono ?_
  rintro e w1 ⟨rfl, hx1⟩
  have hxa := hx0.trans (hx1.mono hx0.size)
  have hk1 := hk0.below hx1 hk0.lt
  have e0 : w1.cell? ⟨w.heap.size, 0, none⟩ = some (.int .i64 sh) := hk1.cell 0
  have e1 : w1.cell? ⟨w.heap.size, 1, none⟩ = some (.int .i64 fr) := hk1.cell 1
  have e2 : w1.cell? ⟨w.heap.size, 2, none⟩ = some (.int .i64 tt) := hk1.cell 2
  have e3 : w1.cell? ⟨w.heap.size, 3, none⟩ = some (.int .i64 sz) := hk1.cell 3
  have e4 : w1.cell? ⟨w.heap.size, 4, none⟩ = some (.slice A root.length c) := hk1.cell 4
  by_cases hw : Bk.wrongR ⟨sh, fr, tt, sz, root⟩ = 0
  · obtain ⟨hp1, hp2⟩ := Bk.parse_row hw
    have HP1 := Lib.hid hp1
    have HP2 := Lib.hid hp2
    have HW := Lib.hid hw
    clear hp1 hp2 hw
    go_wp2_with fail
    refine (bytesR_ok w1 _ sh fr tt sz A c root (hr.below hxa) HW.out).mono ?_
    obtain ⟨row, HR⟩ : ∃ x, Hid (x = Bk.rowR ⟨sh, fr, tt, sz, root⟩) := ⟨_, Lib.hid rfl⟩
    rw [← HR.out] at HP1 HP2 ⊢
    rintro e w2 ⟨v2, rfl, ho2, hx2⟩
    have hxb := hxa.trans (hx2.mono hxa.size)
    have hk2 := hk1.below hx2 hk1.lt
    obtain ⟨A2, c2, hv2, _, _⟩ := Own.shape ho2
    subst hv2
    clear e0 e1 e2 e3 e4
    go_wp2_with fail
    refine (parseR_any w2 _ _ row (OwnB.bytes ho2)).mono ?_
    rintro e w3 ⟨v3, rfl, ho3, hx3⟩
    unfold recV
    rw [HP1.out]
    have hpp := HP2.out
    generalize Bk.parseR row = pr at *
    subst hpp
    simp only at ho3 ⊢
    have hxc := hxb.trans (hx3.mono hxb.size)
    have hk3 := hk2.below hx3 hk2.lt
    obtain ⟨A3, c3, hv3, _, _⟩ := Own.shape ho3
    subst hv3
    have hxd := hxc.alloc hxc.size (.cells #[.int .i64 sh, .int .i64 fr, .int .i64 tt, .int .i64 sz, .slice A3 root.length c3] 26)
    have hk4 := hk3.alloc (.cells #[.int .i64 sh, .int .i64 fr, .int .i64 tt, .int .i64 sz, .slice A3 root.length c3] 26)
    have hb4 := (OwnB.bytes ho3).alloc (.cells #[.int .i64 sh, .int .i64 fr, .int .i64 tt, .int .i64 sz, .slice A3 root.length c3] 26)
    have hr4 := hr.below hxd
    have e0 : w3.cell? ⟨w.heap.size, 0, none⟩ = some (.int .i64 sh) := hk3.cell 0
    have e1 : w3.cell? ⟨w.heap.size, 1, none⟩ = some (.int .i64 fr) := hk3.cell 1
    have e2 : w3.cell? ⟨w.heap.size, 2, none⟩ = some (.int .i64 tt) := hk3.cell 2
    have e3 : w3.cell? ⟨w.heap.size, 3, none⟩ = some (.int .i64 sz) := hk3.cell 3
    have e4 : w3.cell? ⟨w.heap.size, 4, none⟩ = some (.slice A root.length c) := hk3.cell 4
    have hlt : w.heap.size < w3.heap.size := hk3.lt
    go_wp2_with fail
    generalize w3.alloc (.cells #[.int .i64 sh, .int .i64 fr, .int .i64 tt, .int .i64 sz, .slice A3 root.length c3] 26) = w4 at *
    refine (sameRec_yes w4 _ _ sh fr tt sz _ _ root hb4 hr4).mono ?_
    rintro e w9 ⟨rfl, hx9⟩
    have hxz := hxd.trans (hx9.mono hxd.size)
    clear hxa hxb hxc hxd hk0 hk1 hk2 hk3 hk4 hb4 hr4 ho2 ho3 e0 e1 e2 e3 e4
    go_wp2_with fail
    refine (parseR_any w9 _ _ l1 (h1.below hxz)).mono ?_
    rintro e w5 ⟨vr, rfl, ho5, hx5⟩
    unfold recV
    have hxa := hxz.trans (hx5.mono hxz.size)
    by_cases hp : Bk.wrongP l1 = 0
    · obtain ⟨hr1, hr2⟩ := Bk.row_parse hp
      rw [hp]
      generalize Bk.parseR l1 = r2 at *
      obtain ⟨sh2, fr2, tt2, sz2, root2⟩ := r2
      simp only at ho5
      obtain ⟨A5, c5, hv5, _, _⟩ := Own.shape ho5
      subst hv5
      have hxb := hxa.alloc hxa.size (.cells #[.int .i64 sh2, .int .i64 fr2, .int .i64 tt2, .int .i64 sz2, .slice A5 root2.length c5] 26)
      have hb6 := (OwnB.bytes ho5).alloc (.cells #[.int .i64 sh2, .int .i64 fr2, .int .i64 tt2, .int .i64 sz2, .slice A5 root2.length c5] 26)
      have HR2 := Lib.hid hr2
      clear hr2 hp
      go_wp2_with fail
      generalize w5.alloc (.cells #[.int .i64 sh2, .int .i64 fr2, .int .i64 tt2, .int .i64 sz2, .slice A5 root2.length c5] 26) = w6 at *
      refine (bytesR_ok w6 _ sh2 fr2 tt2 sz2 A5 c5 root2 hb6 hr1).mono ?_
      rw [HR2.out]
      rintro e w7 ⟨v7, rfl, ho7, hx7⟩
      have hxc := hxb.trans (hx7.mono hxb.size)
      obtain ⟨A7, c7, hv7, _, _⟩ := Own.shape ho7
      subst hv7
      go_wp2_with fail
      refine (same_any w7 _ _ _ _ l1 l1 (OwnB.bytes ho7) (h1.below hxc)).mono ?_
      rintro e w8 ⟨rfl, n8, hw⟩
      have hxd := below_drewN hxc n8
      rw [← hw] at hxd
      clear hw
      rw [beq_self_eq_true]
      go_wp2_with fail
      go_ret
      exact ⟨rfl, hxd⟩
    · have hz : Bk.parseR l1 = Bk.zeroR := by unfold Bk.parseR; rw [if_neg hp]
      rw [hz] at ho5
      simp only [hz, Bk.zeroR] at ho5 ⊢
      generalize Bk.wrongP l1 = x at *
      have hxB : ((x : Int) != 0) = true := by rw [bne_iff_ne]; omega
      obtain ⟨A5, c5, hv5, _, _⟩ := Own.shape ho5
      subst hv5
      have hxb := hxa.alloc hxa.size (.cells #[.int .i64 0, .int .i64 0, .int .i64 0, .int .i64 0, .slice A5 ([] : Bs).length c5] 26)
      have hb6 := (OwnB.bytes ho5).alloc (.cells #[.int .i64 0, .int .i64 0, .int .i64 0, .int .i64 0, .slice A5 ([] : Bs).length c5] 26)
      simp only [List.length_nil] at hxb hb6
      clear hp hz
      go_wp2_with fail
      generalize w5.alloc (.cells #[.int .i64 0, .int .i64 0, .int .i64 0, .int .i64 0, .slice A5 0 c5] 26) = w6 at *
      refine (sameRec_yes w6 _ _ 0 0 0 0 _ _ [] hb6 (SlAt.nil_ _ (fun _ => True) _)).mono ?_
      rintro e w7 ⟨rfl, hx7⟩
      go_wp2_with fail
      go_ret
      exact ⟨rfl, hxb.trans (hx7.mono hxb.size)⟩
  · obtain ⟨x, HX⟩ : ∃ x, Hid (x = Bk.wrongR ⟨sh, fr, tt, sz, root⟩) := ⟨_, Lib.hid rfl⟩
    have hB := bytesR_bad w1 sh fr tt sz A c root hw
    rw [← HX.out] at hB hw
    have hb : ((x : Int) == 0) = false := by rw [beq_eq_false_iff_ne]; omega
    clear hw
    go_wp2_with fail
    refine hB.mono ?_
    rintro e w9 ⟨rfl, hx9⟩
    have hxz := hxa.trans (hx9.mono hxa.size)
    clear e0 e1 e2 e3 e4 hk0 hk1 hxa hB hx1 hx0
    go_wp2_with fail
    refine (parseR_any w9 _ _ l1 (h1.below hxz)).mono ?_
    rintro e w5 ⟨vr, rfl, ho5, hx5⟩
    unfold recV
    have hxa := hxz.trans (hx5.mono hxz.size)
    by_cases hp : Bk.wrongP l1 = 0
    · obtain ⟨hr1, hr2⟩ := Bk.row_parse hp
      rw [hp]
      generalize Bk.parseR l1 = r2 at *
      obtain ⟨sh2, fr2, tt2, sz2, root2⟩ := r2
      simp only at ho5
      obtain ⟨A5, c5, hv5, _, _⟩ := Own.shape ho5
      subst hv5
      have hxb := hxa.alloc hxa.size (.cells #[.int .i64 sh2, .int .i64 fr2, .int .i64 tt2, .int .i64 sz2, .slice A5 root2.length c5] 26)
      have hb6 := (OwnB.bytes ho5).alloc (.cells #[.int .i64 sh2, .int .i64 fr2, .int .i64 tt2, .int .i64 sz2, .slice A5 root2.length c5] 26)
      have HR2 := Lib.hid hr2
      clear hr2 hp
      go_wp2_with fail
      generalize w5.alloc (.cells #[.int .i64 sh2, .int .i64 fr2, .int .i64 tt2, .int .i64 sz2, .slice A5 root2.length c5] 26) = w6 at *
      refine (bytesR_ok w6 _ sh2 fr2 tt2 sz2 A5 c5 root2 hb6 hr1).mono ?_
      rw [HR2.out]
      rintro e w7 ⟨v7, rfl, ho7, hx7⟩
      have hxc := hxb.trans (hx7.mono hxb.size)
      obtain ⟨A7, c7, hv7, _, _⟩ := Own.shape ho7
      subst hv7
      go_wp2_with fail
      refine (same_any w7 _ _ _ _ l1 l1 (OwnB.bytes ho7) (h1.below hxc)).mono ?_
      rintro e w8 ⟨rfl, n8, hw⟩
      have hxd := below_drewN hxc n8
      rw [← hw] at hxd
      clear hw
      rw [beq_self_eq_true]
      go_wp2_with fail
      go_ret
      exact ⟨rfl, hxd⟩
    · have hz : Bk.parseR l1 = Bk.zeroR := by unfold Bk.parseR; rw [if_neg hp]
      rw [hz] at ho5
      simp only [hz, Bk.zeroR] at ho5 ⊢
      generalize Bk.wrongP l1 = x at *
      have hxB : ((x : Int) != 0) = true := by rw [bne_iff_ne]; omega
      obtain ⟨A5, c5, hv5, _, _⟩ := Own.shape ho5
      subst hv5
      have hxb := hxa.alloc hxa.size (.cells #[.int .i64 0, .int .i64 0, .int .i64 0, .int .i64 0, .slice A5 ([] : Bs).length c5] 26)
      have hb6 := (OwnB.bytes ho5).alloc (.cells #[.int .i64 0, .int .i64 0, .int .i64 0, .int .i64 0, .slice A5 ([] : Bs).length c5] 26)
      simp only [List.length_nil] at hxb hb6
      clear hp hz
      go_wp2_with fail
      generalize w5.alloc (.cells #[.int .i64 0, .int .i64 0, .int .i64 0, .int .i64 0, .slice A5 0 c5] 26) = w6 at *
      refine (sameRec_yes w6 _ _ 0 0 0 0 _ _ [] hb6 (SlAt.nil_ _ (fun _ => True) _)).mono ?_
      rintro e w7 ⟨rfl, hx7⟩
      go_wp2_with fail
      go_ret
      exact ⟨rfl, hxb.trans (hx7.mono hxb.size)⟩
end Go.Proofs.Ytgbjfilkecmmgaa
