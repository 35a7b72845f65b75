/-
  append onto a row of the call's own, whatever its offset, from whatever slice is read: at the operation, at a plain region's list, at a step of a region that draws. No conditions but Go's own room.
-/
import Derived.Maps.AppendAt
import Derived.Deep.AppendLies
import Derived.RegionTactic
import Derived.OwnWalk
import Derived.ArgAppend
import Derived.Deep.MidRow
import Derived.Deep.QuietTactic
import Derived.Test.YtfdibjgmbdkbcaaBase
namespace Go.Proofs.Ytfdibjgmbdkbcaa
open Go.RowKit

theorem Own.form {w : World} {base : Nat} {e : TypeId} {size n : Nat} {v : Value} {xs : List Value} (h : Own w base e size v n xs) (hn : 0 < n) :
    ∃ g off cap, v = .slice (some ⟨g, off, none⟩) n cap ∧ base ≤ g ∧ g < w.heap.size ∧ n ≤ cap ∧ cap ≤ maxLen ∧ ∀ j u, xs[j]? = some u → w.cell? ⟨g, off + j, none⟩ = some u := by
  have hlt := h.lt
  obtain ⟨A, c, hv, hnc, hcm, _, hc⟩ := h.slAt (F := fun _ => True) (fun _ _ => trivial)
  obtain ⟨b, off, rfl, _, hb, hcell⟩ := hc hn
  subst hv
  exact ⟨b, off, c, rfl, (hlt b rfl).1, hb, hnc, hcm, hcell⟩
theorem Own.shape {w : World} {base : Nat} {e : TypeId} {size n : Nat} {v : Value} {xs : List Value} (h : Own w base e size v n xs) :
    ∃ A c, v = .slice A n c ∧ n ≤ c ∧ c ≤ maxLen := by
  obtain ⟨A, c, hv, hnc, hcm, _, hc⟩ := h.slAt (F := fun _ => True) (fun _ _ => trivial)
  exact ⟨A, c, hv, hnc, hcm⟩
/-- a row of another element type lies in another block -/
theorem Own.ne_blk {w : World} {base : Nat} {e t : TypeId} {size n g : Nat} {v : Value} {xs : List Value} {cs : Array Value} (h : Own w base e size v n xs) (hg : Blk w g t cs) (hne : e ≠ t) : v.ownBlock ≠ some g := by
  obtain ⟨_, ⟨rfl, _⟩ | ⟨g', off, cap, cur, rfl, _, hh, _⟩⟩ := h
  · simp [Value.ownBlock]
  · intro he
    have : g' = g := by simpa [Value.ownBlock] using he
    subst this
    unfold Blk at hg
    rw [hh] at hg
    injection hg with hg
    injection hg with _ ht
    exact hne ht
/-- a row cut at its beginning -/
theorem Own.cut {w : World} {base : Nat} {e : TypeId} {n c g off : Nat} {xs : List Value} (h : Own w base e 1 (.slice (some ⟨g, off, none⟩) n c) n xs) (k : Nat) (hk : k ≤ n) :
    Own w base e 1 (.slice (some ⟨g, off + k, none⟩) (n - k) (c - k)) (n - k) (xs.drop k) := by
  obtain ⟨hl, ⟨h0, _⟩ | ⟨g', off', cap, cur, hv, hb, hg, hn, hm, hs, ht⟩⟩ := h
  · cases h0
  · injection hv with h1 h2 h3
    injection h1 with h1
    injection h1 with h1 h4
    subst h1 h3 h4
    refine ⟨by rw [List.length_drop, hl]; omega, .inr ⟨g, off + k, c - k, cur, rfl, hb, hg, by omega, by omega, by omega, ?_⟩⟩
    rw [← ht, List.drop_take, List.drop_drop, Nat.mul_one, Nat.mul_one]
theorem Own.cut0 {w : World} {base : Nat} {e : TypeId} {n c g off : Nat} {xs : List Value} (h : Own w base e 1 (.slice (some ⟨g, off, none⟩) n c) n xs) :
    Own w base e 1 (.slice (some ⟨g, off, none⟩) 0 0) 0 [] := by
  obtain ⟨hl, ⟨h0, _⟩ | ⟨g', off', cap, cur, hv, hb, hg, hn, hm, hs, ht⟩⟩ := h
  · cases h0
  · injection hv with h1 h2 h3
    injection h1 with h1
    injection h1 with h1 h4
    subst h1 h3 h4
    exact ⟨rfl, .inr ⟨g, off, 0, cur, rfl, hb, hg, Nat.le_refl _, Nat.zero_le _, by omega, by simp⟩⟩
/-- a literal slice in a new block -/
theorem SlAt.new (w : World) (e : TypeId) (vs : List Value) (n : Nat) (hn : vs.length = n) (hm : n ≤ maxLen) :
    SlAt (w.alloc (.cells vs.toArray e)) (fun k => k = w.heap.size) 1 (.slice (some ⟨w.heap.size, 0, none⟩) n n) n vs := by
  refine ⟨_, n, rfl, Nat.le_refl _, hm, by omega, fun _ => ⟨w.heap.size, 0, rfl, rfl, by simp, fun j u hu => ?_⟩⟩
  rw [Nat.zero_add, World.cell?_alloc_new, List.getElem?_toArray]
  exact hu
/-- a literal slice in a new block is the call's own -/
theorem Own.new (w : World) (base : Nat) (e : TypeId) (vs : List Value) (n : Nat) (hn : vs.length = n) (hm : n ≤ maxLen) (hb : base ≤ w.heap.size) :
    Own (w.alloc (.cells vs.toArray e)) base e 1 (.slice (some ⟨w.heap.size, 0, none⟩) n n) n vs := by
  refine ⟨by omega, .inr ⟨w.heap.size, 0, n, vs.toArray, rfl, hb, heap_alloc_new w _, Nat.le_refl _, hm, by simp; omega, ?_⟩⟩
  simp only [List.drop_zero, Nat.mul_one, ← hn, List.take_length]
/-- a slice's beginning -/
theorem SlAt.first {w : World} {F : Nat → Prop} {n c : Nat} {A : Option Addr} {xs : List Value} (h : SlAt w F 1 (.slice A n c) n xs) (k : Nat) (hk : k ≤ n) : SlAt w F 1 (.slice A k c) k (xs.take k) := by
  obtain ⟨A', c', hv, h1, h2, h3, h4⟩ := h
  injection hv with e1 e2 e3
  subst e1 e3
  refine ⟨A, c, rfl, by omega, h2, by rw [List.length_take]; omega, fun hp => ?_⟩
  obtain ⟨b, off, hA, hF, hb, hc⟩ := h4 (by omega)
  refine ⟨b, off, hA, hF, hb, fun j u hu => hc j u ?_⟩
  have hj : j < k := by
    rcases Nat.lt_or_ge j k with h | h
    · exact h
    · rw [List.getElem?_eq_none (by rw [List.length_take]; omega)] at hu; cases hu
  rwa [List.getElem?_take_of_lt hj] at hu

/-! a call in a quiet region, behind draws -/
theorem quiet_add {P : Program} {f : FuncId} {args : Array Value} {w : World} {a n : Nat} {v : Value}
    (h : Calls P f args (w.drewN (a + n)) fun e w' => e = .returned v ∧ ∃ m, w' = (w.drewN (a + n)).drewN m) :
    Calls P f args (w.drewN (a + n)) fun e w'' => e = .returned v ∧ ∃ m, w'' = w.drewN (a + m) :=
  h.mono fun _ _ ⟨he, m, hm⟩ => ⟨he, n + m, by rw [hm, World.drewN_drewN, Nat.add_assoc]⟩
theorem quiet_add_same {P : Program} {f : FuncId} {args : Array Value} {w : World} {a n : Nat} {v : Value}
    (h : Calls P f args (w.drewN (a + n)) fun e w' => e = .returned v ∧ w' = w.drewN (a + n)) :
    Calls P f args (w.drewN (a + n)) fun e w'' => e = .returned v ∧ ∃ m, w'' = w.drewN (a + m) :=
  h.mono fun _ _ ⟨he, hm⟩ => ⟨he, n, hm⟩

/-- an operation that is known to yield a value, in whatever world it leaves -/
theorem wpList_value {P : Program} {w w' : World} {ops : Array Oper} {rest : List Oper} {o : Oper} {a : Act} {Q : Exit → Act → World → Prop} (hgd : o.guard = none) (v : Value)
    (hrun : (execOp a.eval o).run P w = .ok (.value v) w') (h : wpList P ops Q rest (a.put o.dst v) w') : wpList P ops Q (o :: rest) a w :=
  wpList_plain hgd fun _ hK => by
    unfold Oper.wp
    rw [hrun]
    exact hK _ _ h

theorem wpList_same {P : Program} {w : World} {ops : Array Oper} {rest : List Oper} {o : Oper} {a : Act} {Q : Exit → Act → World → Prop} (hgd : o.guard = none) (v : Value)
    (hrun : (execOp a.eval o).run P w = .ok (.value v) w) (h : wpList P ops Q rest (a.put o.dst v) w) : wpList P ops Q (o :: rest) a w := wpList_value hgd v hrun h

/-- a new block under a name of its own -/
theorem alloc_named {w w1 : World} {o : Obj} (h : w.alloc o = w1) : w1.heap[w.heap.size]? = some o ∧ Below w.heap.size w w1 ∧ w1.heap.size = w.heap.size + 1 := by
  subst h
  exact ⟨heap_alloc_new w o, (Below.refl _ _).alloc (Nat.le_refl _) _, by simp⟩

theorem there_whole {w : World} {b : Nat} {c : Array Value} {t : TypeId} (h : w.heap[b]? = some (.cells c t (0, 0))) (n : Nat) (hn : n ≤ c.size) : w.there b 0 n := by
  intro j hj
  rw [Nat.zero_add, cell_of_row w b j c t (0, 0) h, frozen_of_row w b j c t h, Array.getElem?_eq_getElem (by omega)]
  exact ⟨rfl, rfl⟩

theorem setCells_ch (b : Nat) : ∀ (vs : List Value) (o : Nat) (w : World), Ch (fun k => k = b) w (w.setCells b o vs)
  | [], _, w => Ch.refl _ w
  | v :: vs, o, w => by
    have h := setCells_ch b vs (o + 1) (w.setCell ⟨b, o, none⟩ v)
    exact ((Ch.refl (fun k => k = b) w).setCell (p := ⟨b, o, none⟩) (fun _ => rfl) v).trans h fun _ _ h => h

theorem set_piece {α : Type} (L vs : List α) (v : α) (o : Nat) (h : o < L.length) :
    List.take (o + 1) (L.set o v) ++ vs ++ List.drop (o + 1 + vs.length) (L.set o v) = List.take o L ++ v :: vs ++ List.drop (o + (v :: vs).length) L := by
  have h1 : List.take (o + 1) (L.set o v) = List.take o L ++ [v] := by
    rw [List.take_succ_eq_append_getElem (by simpa using h), List.take_set_of_le (Nat.le_refl _)]
    simp
  rw [h1, List.drop_set_of_lt (by omega)]
  simp only [List.append_assoc, List.cons_append, List.nil_append, List.length_cons]
  congr 4
  omega

theorem setCells_heap (b : Nat) (e : TypeId) : ∀ (vs : List Value) (o : Nat) (w : World) (cur : Array Value), w.heap[b]? = some (.cells cur e (0, 0)) → o + vs.length ≤ cur.size →
    ∃ cur' : Array Value, (w.setCells b o vs).heap[b]? = some (.cells cur' e (0, 0)) ∧ cur'.size = cur.size ∧ cur'.toList = cur.toList.take o ++ vs ++ cur.toList.drop (o + vs.length)
  | [], o, w, cur, h, _ => ⟨cur, h, rfl, by simp⟩
  | v :: vs, o, w, cur, h, hl => by
    have h1 : (w.setCell ⟨b, o, none⟩ v).heap[b]? = some (.cells (cur.setIfInBounds o v) e (0, 0)) := by
      simp [World.setCell, Array.getElem?_modify, h]
    obtain ⟨cur', h2, h3, h4⟩ := setCells_heap b e vs (o + 1) _ _ h1 (by simp at hl ⊢; omega)
    refine ⟨cur', h2, by rw [h3]; simp, ?_⟩
    rw [h4, Array.toList_setIfInBounds]
    exact set_piece cur.toList vs v o (by simp only [List.length_cons] at hl; simpa using (by omega : o < cur.size))

/-- a whole block is laid over -/
theorem setCells_whole (w : World) (b : Nat) (cur : Array Value) (e : TypeId) (vs : List Value) (h : w.heap[b]? = some (.cells cur e (0, 0))) (hl : vs.length = cur.size) :
    (w.setCells b 0 vs).heap[b]? = some (.cells vs.toArray e (0, 0)) := by
  obtain ⟨cur', h1, h2, h3⟩ := setCells_heap b e vs 0 w cur h (by omega)
  rw [h1]
  have : cur' = vs.toArray := by
    apply Array.ext'
    rw [h3]
    simp [hl]
  rw [this]

section
variable {P : Program} (w : World)

theorem run_append_none (t ty e : TypeId) (i : TypeInfo) (ht : P.underlying t = some (.slice e)) (hi : P.info? e = some i) (A B : Option Addr) (n cap c : Nat) (hn : n ≤ cap) :
    (Builtin.append_ #[t, t] ty #[.slice A n cap, .slice B 0 c]).run P w = .ok (.slice A n cap) w := by
  rcases B with _ | b <;> rcases A with _ | a <;>
  simp [Builtin.append_, run_underlying ht, sizeOf, typeInfo, hi, Builtin.lenOf, Builtin.firstCells, hn, storeCells, loadCells, loadCellsFrom]

theorem run_append_Own (base : Nat) (t ty e : TypeId) (i : TypeInfo) (z : Value) (size bytes : Nat) (ht : P.underlying t = some (.slice e)) (hi : P.info? e = some i) (hz : i.zero = some z)
    (hsize : i.size = size) (hby : i.bytes = bytes) (hzs : z.cells.size = size) (hsz : 0 < size)
    (v : Value) (n : Nat) (xs : List Value) (hown : Own w base e size v n xs)
    (F : Nat → Prop) (u : Value) (m : Nat) (news : List Value) (hr : SlAt w F size u m news) (h1 : ∀ u ∈ news, u.oneCell' = true)
    (h63 : n + m ≤ maxLen) (hbytes : (n + m) * bytes ≤ 140737488355328) (hbase : base ≤ w.heap.size) :
    ∃ v' w', (Builtin.append_ #[t, t] ty #[v, u]).run P w = .ok v' w' ∧ Own w' base e size v' (n + m) (xs ++ news) ∧ w.grownBy w' v.ownBlock ∧
      (v'.ownBlock = v.ownBlock ∨ v'.ownBlock = some w.heap.size) := by
  obtain ⟨A, c, rfl, hmc, hcm, hl, hcells⟩ := hr
  rcases Nat.eq_zero_or_pos m with hm | hm
  · subst hm
    have hn : news = [] := List.eq_nil_of_length_eq_zero (by simpa using hl)
    subst hn
    refine ⟨v, w, ?_, by simpa using hown, World.grownBy.refl w _, .inl rfl⟩
    obtain ⟨_, ⟨rfl, rfl⟩ | ⟨g, off, cap, cur, rfl, _, _, hnc, _⟩⟩ := hown
    · exact run_append_none w t ty e i ht hi none A 0 0 c (Nat.le_refl _)
    · exact run_append_none w t ty e i ht hi _ A n cap c hnc
  · obtain ⟨b, o, rfl, _, _, hc⟩ := hcells hm
    have hnews : ∀ j u, news[j]? = some u → w.cell? ((⟨b, o, none⟩ : Addr).add j) = some u := by
      intro j u hu
      rw [Addr.add_lit]
      exact hc j u hu
    obtain ⟨hxl, ⟨rfl, rfl⟩ | ⟨g, off, cap, cur, rfl, hbg, hg, hnc, hcap, hcs, htake⟩⟩ := hown
    · have hx : xs = [] := List.eq_nil_of_length_eq_zero (by simpa using hxl)
      subst hx
      obtain ⟨v', w', hrun, h2, h3, _, h5⟩ := run_append_own_at (P := P) w base t ty e i z size bytes ht hi hz hsize hby hzs hsz (.slice none 0 0) 0 [] ⟨by simp, .inl ⟨rfl, rfl⟩⟩ ⟨b, o, none⟩ m c news hl hnews h1 h63 hbytes hbase
      exact ⟨v', w', hrun, Own.of_ownsRow h2, h3, h5⟩
    · have hcell : ∀ j, w.cell? ⟨g, j, none⟩ = cur.toList[j]? := fun j => by rw [cell_of_row w g j cur e (0, 0) hg, Array.getElem?_toList]
      by_cases hroom : n + m ≤ cap
      · have hsz' : i.size = size := hsize
        have hfit : off + n * size + news.length ≤ cur.size := by
          have : (n + m) * size ≤ cap * size := Nat.mul_le_mul_right _ hroom
          rw [hl]; rw [Nat.add_mul] at this; omega
        have hrun := run_append_room_cells (P := P) w t ty e i ht hi g off n cap ⟨b, o, none⟩ m c news (by rw [hsize]; exact hl) hnews h1 hroom
          (fun j hj => by rw [hsize, hcell, List.getElem?_eq_getElem (by simp; omega)]; rfl)
          (fun j hj => frozen_of_row w g _ cur e hg)
        rw [hsize] at hrun
        obtain ⟨cur', hg', hs', ht'⟩ := setCells_heap g e news (off + n * size) w cur hg hfit
        have hch := setCells_ch g news (off + n * size) w
        refine ⟨_, _, hrun, ⟨by rw [List.length_append, hxl, hl, Nat.add_mul], .inr ⟨g, off, cap, cur', rfl, hbg, hg', hroom, hcap, by omega, ?_⟩⟩,
          ⟨hch.os, hch.tape, hch.output, hch.size, fun k hk hne => hch.block k hk (fun e => hne (by rw [e]; rfl))⟩, .inl rfl⟩
        rw [ht', ← htake]
        have hlt : off + n * size ≤ cur.toList.length := by simpa using (by omega : off + n * size ≤ cur.size)
        have ha : (List.take (off + n * size) cur.toList).drop off = (cur.toList.drop off).take (n * size) := by
          rw [List.drop_take]; congr 1; omega
        rw [List.append_assoc, List.drop_append_of_le_length (by rw [List.length_take]; omega), ha]
        have hll : ((cur.toList.drop off).take (n * size)).length = n * size := by rw [List.length_take, List.length_drop]; omega
        rw [List.take_append, hll, List.take_of_length_le (by rw [hll, Nat.add_mul]; omega), Nat.add_mul, Nat.add_sub_cancel_left]
        congr 1
        rw [List.take_append_of_le_length (by omega), List.take_of_length_le (by omega)]
      · have holds : ∀ j u, xs[j]? = some u → w.cell? ((⟨g, off, none⟩ : Addr).add j) = some u := by
          intro j u hu
          rw [Addr.add_lit, hcell]
          rw [← htake] at hu
          have hj : j < n * size := by
            rcases Nat.lt_or_ge j (n * size) with h | h
            · exact h
            · rw [List.getElem?_eq_none (by rw [List.length_take]; omega)] at hu; cases hu
          rw [List.getElem?_take_of_lt hj, List.getElem?_drop] at hu
          exact hu
        subst hsize
        subst hby
        have hrun := run_append_grow (P := P) w t ty e i z ht hi hz ⟨g, off, none⟩ n cap xs hxl holds ⟨b, o, none⟩ m c news hl hnews (by omega) (by simp only [maxLen] at h63; omega) (growslice_fits (by omega) hbytes)
        have hge := grownCap_ge w (n + m) cap e
        have hcm := grownCap_le_maxLen w (n + m) cap e h63
        have hlen : (xs ++ news).length = (n + m) * i.size := by rw [List.length_append, hxl, hl, Nat.add_mul]
        refine ⟨_, _, hrun, Own.of_ownsRow (base := base) ⟨hlen, .inr ⟨w.heap.size, _, _, rfl, hbase, heap_alloc_new w.drew _, hge, hcm, ?_, ?_⟩⟩,
          ⟨rfl, rfl, rfl, by simp, fun k hk _ => heap_alloc_old w.drew _ k hk⟩, .inr rfl⟩
        · simp only [Array.size_append, List.size_toArray, size_zeroCells, hzs, hxl, hl, ← Nat.add_mul]
          congr 1
          omega
        · simp only [Array.toList_append, List.append_assoc]
          rw [← List.append_assoc, ← hlen]
          exact List.take_left

theorem wp_append_Own {o : Oper} {a : Act} {K : Act → World → Prop} {Q : Exit → Act → World → Prop} (s x : Operand) (t : TypeId)
    (ho : o.op = .call { callee := .builtin .append, args := #[s, x], argTypes := #[t, t] })
    (base : Nat) (e : TypeId) (i : TypeInfo) (z : Value) (size bytes : Nat) (ht : P.underlying t = some (.slice e)) (hi : P.info? e = some i) (hz : i.zero = some z)
    (hsize : i.size = size) (hby : i.bytes = bytes) (hzs : z.cells.size = size) (hsz : 0 < size)
    (v : Value) (n : Nat) (xs : List Value) (hs : a.eval s = v) (hown : Own w base e size v n xs)
    (F : Nat → Prop) (u : Value) (m : Nat) (news : List Value) (hx : a.eval x = u) (hr : SlAt w F size u m news) (h1 : ∀ u ∈ news, u.oneCell' = true)
    (h63 : n + m ≤ maxLen) (hbytes : (n + m) * bytes ≤ 140737488355328) (hbase : base ≤ w.heap.size)
    (h : ∀ v' w', Own w' base e size v' (n + m) (xs ++ news) → w.grownBy w' v.ownBlock → (v'.ownBlock = v.ownBlock ∨ v'.ownBlock = some w.heap.size) → K (a.put o.dst v') w') : o.wp P a w K Q := by
  obtain ⟨v', w', hrun, h2, h3, h4⟩ := run_append_Own (P := P) w base t o.type e i z size bytes ht hi hz hsize hby hzs hsz v n xs hown F u m news hr h1 h63 hbytes hbase
  unfold Oper.wp execOp
  simp only [ho, resolve, invoke, builtin, Sem.run_bind, Sem.run_pure, Result.andThen_ok, List.map_toArray, List.map_cons, List.map_nil, hs, hx, hrun]
  exact h v' w' h2 h3 h4

theorem wpList_append_Own {ops : Array Oper} {rest : List Oper} {o : Oper} {a : Act} {Q : Exit → Act → World → Prop} (hgd : o.guard = none) (s x : Operand) (t : TypeId)
    (ho : o.op = .call { callee := .builtin .append, args := #[s, x], argTypes := #[t, t] })
    (base : Nat) (e : TypeId) (i : TypeInfo) (z : Value) (size bytes : Nat) (ht : P.underlying t = some (.slice e)) (hi : P.info? e = some i) (hz : i.zero = some z)
    (hsize : i.size = size) (hby : i.bytes = bytes) (hzs : z.cells.size = size) (hsz : 0 < size)
    (v : Value) (n : Nat) (xs : List Value) (hs : a.eval s = v) (hown : Own w base e size v n xs)
    (F : Nat → Prop) (u : Value) (m : Nat) (news : List Value) (hx : a.eval x = u) (hr : SlAt w F size u m news) (h1 : ∀ u ∈ news, u.oneCell' = true)
    (h63 : n + m ≤ maxLen) (hbytes : (n + m) * bytes ≤ 140737488355328) (hbase : base ≤ w.heap.size)
    (h : ∀ v' w', Own w' base e size v' (n + m) (xs ++ news) → w.grownBy w' v.ownBlock → (v'.ownBlock = v.ownBlock ∨ v'.ownBlock = some w.heap.size) → wpList P ops Q rest (a.put o.dst v') w') : wpList P ops Q (o :: rest) a w :=
  wpList_plain hgd fun _ hK => wp_append_Own w s x t ho base e i z size bytes ht hi hz hsize hby hzs hsz v n xs hs hown F u m news hx hr h1 h63 hbytes hbase fun v' w' h2 h3 h4 => hK _ _ (h v' w' h2 h3 h4)

theorem step_append_Own {ops : Array Oper} {o : Oper} {a : Act} {K : Act → World → Prop} {Q : Exit → Act → World → Prop} {E : Prop} (hgd : o.guard = none) (s x : Operand) (t : TypeId)
    (ho : o.op = .call { callee := .builtin .append, args := #[s, x], argTypes := #[t, t] })
    (base : Nat) (e : TypeId) (i : TypeInfo) (z : Value) (size bytes : Nat) (ht : P.underlying t = some (.slice e)) (hi : P.info? e = some i) (hz : i.zero = some z)
    (hsize : i.size = size) (hby : i.bytes = bytes) (hzs : z.cells.size = size) (hsz : 0 < size)
    (v : Value) (n : Nat) (xs : List Value) (hs : a.eval s = v) (hown : Own w base e size v n xs)
    (F : Nat → Prop) (u : Value) (m : Nat) (news : List Value) (hx : a.eval x = u) (hr : SlAt w F size u m news) (h1 : ∀ u ∈ news, u.oneCell' = true)
    (h63 : n + m ≤ maxLen) (hbytes : (n + m) * bytes ≤ 140737488355328) (hbase : base ≤ w.heap.size)
    (h : ∀ v' w', Own w' base e size v' (n + m) (xs ++ news) → w.grownBy w' v.ownBlock → (v'.ownBlock = v.ownBlock ∨ v'.ownBlock = some w.heap.size) → K (a.put o.dst v') w') :
    if Region.wanted o (yielded ops a.tmps) = true then Oper.wp P o a w K Q else E := by
  have hw : Region.wanted o (yielded ops a.tmps) = true := by simp [Region.wanted, hgd]
  rw [if_pos hw]
  exact wp_append_Own w s x t ho base e i z size bytes ht hi hz hsize hby hzs hsz v n xs hs hown F u m news hx hr h1 h63 hbytes hbase h
end
end Go.Proofs.Ytfdibjgmbdkbcaa
