/-
  Two lists of what is done, one behind the other, in a new row, and played: the regions of FleetApart that draw their order. Conditions: what is read.
-/
import Derived.Test.YtfdibjgmbdkbcaaZFleetL7
import Derived.Test.YtfdibjgmbdkbcaaZRgn
namespace Go.Proofs.Ytfdibjgmbdkbcaa
open Go.RowKit Go.Lib

/-- a list of what is done, cell by cell -/
theorem raw_dobs {w : World} {F : Nat → Prop} {v : Value} {l : List Dob} (h : RdL w F v l) : ∃ raw : List Value, raw.length = l.length * 7 ∧ (∀ u ∈ raw, u.oneCell' = true) ∧ SlAt w F 7 v l.length raw ∧
    ∀ (i : Nat) (d : Dob), l[i]? = some d → ∃ ecs, Rp.rd w F ecs d ∧ ∀ j u, ecs[j]? = some u → raw[i * 7 + j]? = some u := by
  obtain ⟨A, c, hv, hlc, hcm⟩ := h.form
  by_cases hn : 0 < l.length
  · have key : ∀ i, i < l.length → ∃ ecs : List Value, ecs.length = 7 ∧ (∀ u ∈ ecs, u.oneCell' = true) ∧ (∀ d, l[i]? = some d → Rp.rd w F ecs d) ∧ ∃ b off, A = some ⟨b, off, none⟩ ∧ F b ∧ b < w.heap.size ∧ ∀ j u, ecs[j]? = some u → w.cell? ⟨b, off + i * 7 + j, none⟩ = some u := by
      intro i hi
      obtain ⟨b, off, c', A', k', hv', hF, hb, q0, q1, q2, q3, q4, q5, q6, he⟩ := dob_at h hi
      rw [hv] at hv'
      injection hv' with e1 _ e3
      refine ⟨[.int .i64 l[i].kind, .int .i64 l[i].n, .int .i64 l[i].time, .slice A' l[i].entry.length k', .int .i64 l[i].seg, .int .i64 l[i].pos, bv l[i].turn], rfl, ?_, ?_, b, off, e1, hF, hb, ?_⟩
      · intro u hu
        simp only [List.mem_cons, List.not_mem_nil, or_false] at hu
        rcases hu with rfl | rfl | rfl | rfl | rfl | rfl | rfl <;> rfl
      · intro d hd
        rw [List.getElem?_eq_getElem hi] at hd
        injection hd with hd
        subst hd
        exact dob_rd _ he
      · intro j u hu
        match j, hu with
        | 0, hu => simp only [List.getElem?_cons_zero, Option.some.injEq] at hu; subst hu; exact q0
        | 1, hu => simp only [List.getElem?_cons_succ, List.getElem?_cons_zero, Option.some.injEq] at hu; subst hu; exact q1
        | 2, hu => simp only [List.getElem?_cons_succ, List.getElem?_cons_zero, Option.some.injEq] at hu; subst hu; exact q2
        | 3, hu => simp only [List.getElem?_cons_succ, List.getElem?_cons_zero, Option.some.injEq] at hu; subst hu; exact q3
        | 4, hu => simp only [List.getElem?_cons_succ, List.getElem?_cons_zero, Option.some.injEq] at hu; subst hu; exact q4
        | 5, hu => simp only [List.getElem?_cons_succ, List.getElem?_cons_zero, Option.some.injEq] at hu; subst hu; exact q5
        | 6, hu => simp only [List.getElem?_cons_succ, List.getElem?_cons_zero, Option.some.injEq] at hu; subst hu; exact q6
        | j + 7, hu => simp at hu
    obtain ⟨b, off, hA, hF, hb⟩ : ∃ b off, A = some ⟨b, off, none⟩ ∧ F b ∧ b < w.heap.size := by obtain ⟨_, _, _, _, b, off, h1, h2, h3, _⟩ := key 0 hn; exact ⟨b, off, h1, h2, h3⟩
    have key2 : ∀ t, t < l.length * 7 → ∃ u, w.cell? ⟨b, off + t, none⟩ = some u ∧ u.oneCell' = true := by
      intro t ht
      obtain ⟨ecs, h1, h2, _, b', off', hA', _, _, h3⟩ := key (t / 7) (by omega)
      rw [hA] at hA'
      injection hA' with hA'
      injection hA' with hb' ho'
      subst hb' ho'
      have hlt : t % 7 < ecs.length := by omega
      refine ⟨ecs[t % 7], ?_, h2 _ (List.getElem_mem hlt)⟩
      have := h3 (t % 7) _ (List.getElem?_eq_getElem hlt)
      rwa [show off + t / 7 * 7 + t % 7 = off + t by omega] at this
    have hraw : ∀ t, t < l.length * 7 → ((List.range (l.length * 7)).map fun t => (w.cell? ⟨b, off + t, none⟩).getD undef)[t]? = w.cell? ⟨b, off + t, none⟩ := by
      intro t ht
      obtain ⟨u, hu, _⟩ := key2 t ht
      rw [List.getElem?_map, List.getElem?_range ht]
      simp only [Option.map_some, hu, Option.getD_some]
    refine ⟨(List.range (l.length * 7)).map fun t => (w.cell? ⟨b, off + t, none⟩).getD undef, by simp, ?_, ⟨A, c, hv, hlc, hcm, by simp, fun _ => ⟨b, off, hA, hF, hb, ?_⟩⟩, ?_⟩
    · intro u hu
      obtain ⟨t, ht, rfl⟩ := List.mem_map.1 hu
      obtain ⟨u, hu, h1⟩ := key2 t (List.mem_range.1 ht)
      rw [hu]
      exact h1
    · intro j u hu
      have hj : j < l.length * 7 := by
        rcases Nat.lt_or_ge j (l.length * 7) with h | h
        · exact h
        · rw [List.getElem?_eq_none (by simpa using h)] at hu; cases hu
      rw [← hraw j hj]; exact hu
    · intro i d hd
      obtain ⟨hi, _⟩ := List.getElem?_eq_some_iff.1 hd
      obtain ⟨ecs, h1, h2, h3, b', off', hA', _, _, h4⟩ := key i hi
      rw [hA] at hA'
      injection hA' with hA'
      injection hA' with hb' ho'
      subst hb' ho'
      refine ⟨ecs, h3 d hd, fun j u hu => ?_⟩
      have hj : j < 7 := by
        rcases Nat.lt_or_ge j 7 with h | h
        · exact h
        · rw [List.getElem?_eq_none (by omega)] at hu; cases hu
      rw [hraw _ (by omega), ← Nat.add_assoc]
      exact h4 j u hu
  · have hl : l = [] := List.eq_nil_of_length_eq_zero (by omega)
    subst hl
    exact ⟨[], rfl, by simp, ⟨A, c, hv, hlc, hcm, rfl, fun h => absurd h (by simp)⟩, fun i d hd => by simp at hd⟩

section
variable {w w' : World} {B n s : Nat} {b6 b : Bool} {raw rxy : List Value} {x35 x37 x40 x41 x42 tup x vs vb va : Value} {FC : Nat → Prop} {f : Flt} {la : List Ans} {t : TypeId} {cs : Array Value}
/-- the chain: a new row, the first list, the second, what is played -/
def CA (w : World) (B n : Nat) (raw rxy : List Value) (s : Nat) (x35 x37 x41 x42 tup : Value) : Prop :=
  (s = 1 → Own w B 111 7 x35 0 []) ∧ (s = 2 → Own w B 111 7 x37 n raw) ∧ (s = 3 → Own w B 111 7 x41 (n + 2) (raw ++ rxy)) ∧ (s = 4 → x42 = tup)
theorem CA.below (h : CA w B n raw rxy s x35 x37 x41 x42 tup) (hb : Below w.heap.size w w') : CA w' B n raw rxy s x35 x37 x41 x42 tup :=
  ⟨fun e => (h.1 e).below hb, fun e => (h.2.1 e).below hb, fun e => (h.2.2.1 e).below hb, h.2.2.2⟩
/-- the two that are joined to it -/
def CB (w : World) (B : Nat) (rxy : List Value) (b6 : Bool) (s : Nat) (x35 x37 x40 : Value) : Prop :=
  b6 = true → s < 3 → ∃ g, x40 = .slice (some ⟨g, 0, none⟩) 2 2 ∧ B ≤ g ∧ Blk w g 111 rxy.toArray ∧ (s = 1 → x35.ownBlock ≠ some g) ∧ (s = 2 → x37.ownBlock ≠ some g)
theorem CB.below (h : CB w B rxy b6 s x35 x37 x40) (hb : Below w.heap.size w w') : CB w' B rxy b6 s x35 x37 x40 := fun e1 e2 => by
  obtain ⟨g, h1, h2, h3, h4, h5⟩ := h e1 e2
  exact ⟨g, h1, h2, h3.below hb h3.lt, h4, h5⟩
/-- what came of the play -/
def CR (w : World) (f : Flt) (la : List Ans) (s : Nat) (FC : Nat → Prop) (vs vb va : Value) : Prop :=
  s = 4 → RdL w FC vs f.sh ∧ RdL w FC vb f.book ∧ RdL w FC va la ∧ ∀ k, FC k → k < w.heap.size
theorem CR.below (h : CR w f la s FC vs vb va) (hb : Below w.heap.size w w') : CR w' f la s FC vs vb va := fun e => by
  obtain ⟨h1, h2, h3, h4⟩ := h e
  exact ⟨h1.below hb, h2.below hb, h3.below hb, fun k hk => Nat.lt_of_lt_of_le (h4 k hk) hb.size⟩
/-- a box -/
def CZ (w : World) (B : Nat) (b : Bool) (s : Nat) (FC : Nat → Prop) (x : Value) (t : TypeId) (cs : Array Value) : Prop :=
  b = true → ∃ g, x = .pointer (some ⟨g, 0, none⟩) ∧ B ≤ g ∧ (s = 4 → ¬ FC g) ∧ Blk w g t cs
theorem CZ.below (h : CZ w B b s FC x t cs) (hb : Below w.heap.size w w') : CZ w' B b s FC x t cs := fun e => by
  obtain ⟨g, h1, h2, h3, h4⟩ := h e
  exact ⟨g, h1, h2, h3, h4.below hb h4.lt⟩
theorem CZ.grown (h : CZ w B b s FC x t cs) {v : Value} {m : Nat} {ys : List Value} (hv : Own w B 111 7 v m ys) (hg : w.grownBy w' v.ownBlock) (ht : 111 ≠ t) {s' : Nat} (hs : s' ≠ 4) : CZ w' B b s' FC x t cs := fun e => by
  obtain ⟨g, h1, h2, h3, h4⟩ := h e
  exact ⟨g, h1, h2, fun e => absurd e hs, h4.keep (hg.block g h4.lt (fun e => Own.ne_blk hv h4 ht e.symm))⟩
theorem CZ.fit (h : CZ w B b s FC x t cs) {s' : Nat} (hs : s' ≠ 4) : CZ w B b s' FC x t cs := fun e => by
  obtain ⟨g, h1, h2, h3, h4⟩ := h e
  exact ⟨g, h1, h2, fun e => absurd e hs, h4⟩
theorem CZ.new (hB : B ≤ w.heap.size) (hR : s = 4 → ∀ k, FC k → k < w.heap.size) (t : TypeId) (cs : Array Value) : CZ (w.alloc (.cells cs t)) B true s FC (.pointer (some ⟨w.heap.size, 0, none⟩)) t cs := fun _ =>
  ⟨_, rfl, hB, fun e hk => Nat.lt_irrefl _ (hR e _ hk), heap_alloc_new w _⟩
end
theorem below_alloc (w : World) (o : Obj) : Below w.heap.size w (w.alloc o) := (Below.refl _ _).alloc (Nat.le_refl _) o
theorem own_empty (w : World) (B : Nat) (hB : B ≤ w.heap.size) : Own (w.alloc (.cells #[] 111)) B 111 7 (.slice (some ⟨w.heap.size, 0, none⟩) 0 0) 0 [] :=
  ⟨rfl, .inr ⟨w.heap.size, 0, 0, #[], rfl, hB, heap_alloc_new w _, Nat.le_refl _, by simp [maxLen], by simp, by simp⟩⟩
theorem dobs_two {w : World} {l1 : List Dob} {raw rxy : List Value} {x y : Dob} {Ax Ay : Option Addr} {cx cy : Nat} (hrl : raw.length = l1.length * 7) (hrr : ∀ (i : Nat) (d : Dob), l1[i]? = some d → ∃ ecs, Rp.rd w (fun _ => True) ecs d ∧ ∀ j u, ecs[j]? = some u → raw[i * 7 + j]? = some u)
    (hrxy : rxy = [.int .i64 x.kind, .int .i64 x.n, .int .i64 x.time, .slice Ax x.entry.length cx, .int .i64 x.seg, .int .i64 x.pos, bv x.turn, .int .i64 y.kind, .int .i64 y.n, .int .i64 y.time, .slice Ay y.entry.length cy, .int .i64 y.seg, .int .i64 y.pos, bv y.turn]) (heX : Bytes w (fun _ => True) (.slice Ax x.entry.length cx) x.entry) (heY : Bytes w (fun _ => True) (.slice Ay y.entry.length cy) y.entry) :
    ∀ (i : Nat) (d : Dob), (l1 ++ [x, y])[i]? = some d → ∃ ecs, Rp.rd w (fun _ => True) ecs d ∧ ∀ j u, ecs[j]? = some u → (raw ++ rxy)[i * Rp.sz Dob + j]? = some u := by
  intro i d hd
  have hsz : Rp.sz Dob = 7 := rfl
  rw [hsz]
  rcases Nat.lt_or_ge i l1.length with hlt | hge
  · rw [List.getElem?_append_left hlt] at hd
    obtain ⟨ecs, he, hj⟩ := hrr i d hd
    refine ⟨ecs, he, fun j u hu => ?_⟩
    have h := hj j u hu
    have hjl : i * 7 + j < raw.length := by
      rcases Nat.lt_or_ge (i * 7 + j) raw.length with h' | h'
      · exact h'
      · rw [List.getElem?_eq_none h'] at h; cases h
    rw [List.getElem?_append_left hjl]
    exact h
  · rw [List.getElem?_append_right hge] at hd
    rcases (show i - l1.length = 0 ∨ i - l1.length = 1 ∨ 2 ≤ i - l1.length by omega) with h | h | h
    · rw [h] at hd
      injection hd with hd
      subst hd
      refine ⟨_, dob_rd _ heX, fun j u hu => ?_⟩
      have hj7 : j < 7 := by
        rcases Nat.lt_or_ge j 7 with h' | h'
        · exact h'
        · rw [List.getElem?_eq_none (by simpa using h')] at hu; cases hu
      rw [List.getElem?_append_right (by omega), show i * 7 + j - raw.length = j by omega, hrxy]
      match j, hj7, hu with
      | 0, _, hu => exact hu
      | 1, _, hu => exact hu
      | 2, _, hu => exact hu
      | 3, _, hu => exact hu
      | 4, _, hu => exact hu
      | 5, _, hu => exact hu
      | 6, _, hu => exact hu
    · rw [h] at hd
      injection hd with hd
      subst hd
      refine ⟨_, dob_rd _ heY, fun j u hu => ?_⟩
      have hj7 : j < 7 := by
        rcases Nat.lt_or_ge j 7 with h' | h'
        · exact h'
        · rw [List.getElem?_eq_none (by simpa using h')] at hu; cases hu
      rw [List.getElem?_append_right (by omega), show i * 7 + j - raw.length = 7 + j by omega, hrxy]
      match j, hj7, hu with
      | 0, _, hu => exact hu
      | 1, _, hu => exact hu
      | 2, _, hu => exact hu
      | 3, _, hu => exact hu
      | 4, _, hu => exact hu
      | 5, _, hu => exact hu
      | 6, _, hu => exact hu
    · rw [List.getElem?_eq_none (by simpa using h)] at hd; cases hd
theorem blk_slat {w : World} {g : Nat} {rxy : List Value} (h : Blk w g 111 rxy.toArray) (hl : rxy.length = 14) : SlAt w (fun k => k = g) 7 (.slice (some ⟨g, 0, none⟩) 2 2) 2 rxy :=
  ⟨_, 2, rfl, Nat.le_refl _, by simp [maxLen], by rw [hl], fun _ => ⟨g, 0, rfl, rfl, h.lt, fun j u hu => by rw [cell_of_row w g _ rxy.toArray _ (0, 0) h, Nat.zero_add, List.getElem?_toArray]; exact hu⟩⟩
theorem blk_ne {w : World} {g k : Nat} {t u : TypeId} {cs ds : Array Value} (h : Blk w g t cs) (h' : Blk w k u ds) (hne : t ≠ u) : g ≠ k := fun e => by
  subst e
  unfold Blk at h h'
  rw [h] at h'
  injection h' with h'
  injection h' with _ h'
  exact hne h'
set_option maxRecDepth 100000 in
set_option maxHeartbeats 8000000 in
theorem apart_region5 (Q : Exit → Act → World → Prop) (w : World) (v0 v1 y2 y3 y4 y5 y8 y9 y10 y11 y12 y13 y14 y15 y16 y17 y18 y19 y20 y21 y22 y23 y24 y25 y26 y27 y28 y29 y30 y31 y32 y33 y34 y35 y36 y37 y38 y39 y40 y41 y42 y43 y44 y45 y46 y47 y48 y49 y50 y51 y52 y53 y54 y55 y56 y57 y58 y59 y60 y61 y62 y63 y64 y65 y66 y67 y68 y69 y70 y71 y72 y73 y74 y75 y76 y77 y78 y79 y80 y81 y82 y83 y84 y85 y86 y87 y88 y89 y90 y91 y92 y93 y94 y95 y96 y97 y98 y99 y100 y101 y102 y103 y104 y105 y106 y107 y108 y109 y110 y111 y112 y113 y114 y115 y116 y117 y118 y119 y120 y121 y122 y123 y124 y125 y126 y127 y128 y129 y130 y131 : Value) (ds : List Deferred) (l0 : List (Int × Int)) (l1 : List Dob) (x y : Dob) (gX gY : Nat) (Ax Ay : Option Addr) (cx cy : Nat)
    (h0 : RdL w (fun _ => True) v0 l0) (h1 : RdL w (fun _ => True) v1 l1) (hX : Blk w gX 111 #[.int .i64 x.kind, .int .i64 x.n, .int .i64 x.time, .slice Ax x.entry.length cx, .int .i64 x.seg, .int .i64 x.pos, bv x.turn]) (hY : Blk w gY 111 #[.int .i64 y.kind, .int .i64 y.n, .int .i64 y.time, .slice Ay y.entry.length cy, .int .i64 y.seg, .int .i64 y.pos, bv y.turn])
    (heX : Bytes w (fun _ => True) (.slice Ax x.entry.length cx) x.entry) (heY : Bytes w (fun _ => True) (.slice Ay y.entry.length cy) y.entry) (h118 : l1.length ≤ 118)
    (f : Flt) (la : List Ans) (fa fb : Nat) (hpl : Fl.play l0 (l1 ++ [x, y]) = (f, la, (fa, fb)))
    (hQ : ∀ (c : List PanicEntry) (a : Act) (d : Tmp) (v : Value) (z : World), Q (.panic c) (a.put (some d) v) z → Q (.panic c) a z)
    (hend : ∀ (x9 x10 x11 x33 x35 x37 x40 x41 x42 x43 x44 x45 : Value) (As Ab Aa : Option Addr) (cs cb ca : Nat) (g9 g11 : Nat) (FC : Nat → Prop) (z : World), x9 = .pointer (some ⟨g9, 0, none⟩) → x10 = (.slice Aa la.length ca) → x11 = .pointer (some ⟨g11, 0, none⟩) → w.heap.size ≤ g9 → w.heap.size ≤ g11 →
      Blk z g9 92 #[.slice As f.sh.length cs, .slice Ab f.book.length cb] → Blk z g11 32 #[.int .i64 (fa : Int), .int .i64 (fb : Int)] → RdL z FC (.slice As f.sh.length cs) f.sh → RdL z FC (.slice Ab f.book.length cb) f.book → RdL z FC (.slice Aa la.length ca) la → ¬ FC g9 → ¬ FC g11 → (∀ k, FC k → k < z.heap.size) → Below w.heap.size w z → Q .normal (Act.mk (List.toArray (v0 :: v1 :: y2 :: y3 :: y4 :: y5 :: (.pointer (some ⟨gX, 0, none⟩)) :: (.pointer (some ⟨gY, 0, none⟩)) :: y8 :: x9 :: x10 :: x11 :: y12 :: y13 :: y14 :: y15 :: y16 :: y17 :: y18 :: y19 :: y20 :: y21 :: y22 :: y23 :: y24 :: y25 :: y26 :: y27 :: y28 :: y29 :: y30 :: y31 :: y32 :: x33 :: v0 :: x35 :: v1 :: x37 :: (.agg #[.int .i64 x.kind, .int .i64 x.n, .int .i64 x.time, .slice Ax x.entry.length cx, .int .i64 x.seg, .int .i64 x.pos, bv x.turn]) :: (.agg #[.int .i64 y.kind, .int .i64 y.n, .int .i64 y.time, .slice Ay y.entry.length cy, .int .i64 y.seg, .int .i64 y.pos, bv y.turn]) :: x40 :: x41 :: x42 :: x43 :: x44 :: x45 :: y46 :: y47 :: y48 :: y49 :: y50 :: y51 :: y52 :: y53 :: y54 :: y55 :: y56 :: y57 :: y58 :: y59 :: y60 :: y61 :: y62 :: y63 :: y64 :: y65 :: y66 :: y67 :: y68 :: y69 :: y70 :: y71 :: y72 :: y73 :: y74 :: y75 :: y76 :: y77 :: y78 :: y79 :: y80 :: y81 :: y82 :: y83 :: y84 :: y85 :: y86 :: y87 :: y88 :: y89 :: y90 :: y91 :: y92 :: y93 :: y94 :: y95 :: y96 :: y97 :: y98 :: y99 :: y100 :: y101 :: y102 :: y103 :: y104 :: y105 :: y106 :: y107 :: y108 :: y109 :: y110 :: y111 :: y112 :: y113 :: y114 :: y115 :: y116 :: y117 :: y118 :: y119 :: y120 :: y121 :: y122 :: y123 :: y124 :: y125 :: y126 :: y127 :: y128 :: y129 :: y130 :: y131 :: [])) ds) z) :
    Code.wp Try.prog (Code.region 5 #[{ dst := some 34, op := Op.move (Operand.tmp 0), type := 86, pos := "law.go:324", after := #[], guard := none }, { dst := some 35, op := Op.buildSlice 87 0 #[], type := 87, pos := "law.go:324", after := #[], guard := none }, { dst := some 36, op := Op.move (Operand.tmp 1), type := 87, pos := "law.go:324", after := #[], guard := none }, { dst := some 37, op := Op.call { callee := Callee.builtin Builtin.append, args := #[Operand.tmp 35, Operand.tmp 36], argTypes := #[87, 87] }, type := 87, pos := "law.go:324", after := #[{ on := 1, ground := Ground.data }, { on := 2, ground := Ground.data }], guard := none }, { dst := some 38, op := Op.load 111 (Operand.tmp 6), type := 111, pos := "law.go:324", after := #[], guard := none }, { dst := some 39, op := Op.load 111 (Operand.tmp 7), type := 111, pos := "law.go:324", after := #[], guard := none }, { dst := some 40, op := Op.buildSlice 87 2 #[(0, Operand.tmp 38), (1, Operand.tmp 39)], type := 87, pos := "law.go:324", after := #[{ on := 4, ground := Ground.data }, { on := 5, ground := Ground.data }], guard := none }, { dst := some 41, op := Op.call { callee := Callee.builtin Builtin.append, args := #[Operand.tmp 37, Operand.tmp 40], argTypes := #[87, 87] }, type := 87, pos := "law.go:324", after := #[{ on := 3, ground := Ground.data }, { on := 6, ground := Ground.data }, { on := 3, ground := Ground.chain }], guard := none }, { dst := some 42, op := Op.call { callee := Callee.value (Operand.func 74), args := #[Operand.tmp 34, Operand.tmp 41], argTypes := #[86, 87] }, type := 94, pos := "law.go:324", after := #[{ on := 0, ground := Ground.data }, { on := 7, ground := Ground.data }, { on := 7, ground := Ground.chain }], guard := none }, { dst := some 33, op := Op.move (Operand.tmp 42), type := 94, pos := "law.go:324", after := #[{ on := 8, ground := Ground.data }], guard := none }, { dst := some 43, op := Op.extract (Operand.tmp 33) 0, type := 92, pos := "law.go:324", after := #[{ on := 9, ground := Ground.data }], guard := none }, { dst := some 44, op := Op.extract (Operand.tmp 33) 1, type := 93, pos := "law.go:324", after := #[{ on := 9, ground := Ground.data }, { on := 15, ground := Ground.gcOnly Departure.lateStores }], guard := none }, { dst := some 45, op := Op.extract (Operand.tmp 33) 2, type := 32, pos := "law.go:324", after := #[{ on := 9, ground := Ground.data }, { on := 16, ground := Ground.gcOnly Departure.lateStores }], guard := none }, { dst := some 9, op := Op.alloc 92, type := 0, pos := "law.go:324", after := #[], guard := none }, { dst := some 11, op := Op.alloc 32, type := 0, pos := "law.go:324", after := #[], guard := none }, { dst := none, op := Op.store 92 (Operand.tmp 9) (Operand.tmp 43), type := 0, pos := "law.go:324", after := #[{ on := 13, ground := Ground.data }, { on := 10, ground := Ground.data }, { on := 8, ground := Ground.chain }, { on := 0, ground := Ground.phase }, { on := 1, ground := Ground.phase }, { on := 2, ground := Ground.phase }, { on := 3, ground := Ground.phase }, { on := 4, ground := Ground.phase }, { on := 5, ground := Ground.phase }, { on := 6, ground := Ground.phase }, { on := 7, ground := Ground.phase }, { on := 8, ground := Ground.phase }, { on := 9, ground := Ground.phase }, { on := 10, ground := Ground.phase }, { on := 11, ground := Ground.textOnly Departure.lateStores }, { on := 12, ground := Ground.textOnly Departure.lateStores }, { on := 13, ground := Ground.phase }, { on := 14, ground := Ground.phase }], guard := none }, { dst := some 10, op := Op.assign (Operand.tmp 44), type := 93, pos := "law.go:324", after := #[{ on := 11, ground := Ground.data }, { on := 15, ground := Ground.chain }, { on := 0, ground := Ground.phase }, { on := 1, ground := Ground.phase }, { on := 2, ground := Ground.phase }, { on := 3, ground := Ground.phase }, { on := 4, ground := Ground.phase }, { on := 5, ground := Ground.phase }, { on := 6, ground := Ground.phase }, { on := 7, ground := Ground.phase }, { on := 8, ground := Ground.phase }, { on := 9, ground := Ground.phase }, { on := 10, ground := Ground.phase }, { on := 11, ground := Ground.phase }, { on := 12, ground := Ground.textOnly Departure.lateStores }, { on := 13, ground := Ground.phase }, { on := 14, ground := Ground.phase }, { on := 15, ground := Ground.phase }], guard := none }, { dst := none, op := Op.store 32 (Operand.tmp 11) (Operand.tmp 45), type := 0, pos := "law.go:324", after := #[{ on := 14, ground := Ground.data }, { on := 12, ground := Ground.data }, { on := 16, ground := Ground.chain }, { on := 0, ground := Ground.phase }, { on := 1, ground := Ground.phase }, { on := 2, ground := Ground.phase }, { on := 3, ground := Ground.phase }, { on := 4, ground := Ground.phase }, { on := 5, ground := Ground.phase }, { on := 6, ground := Ground.phase }, { on := 7, ground := Ground.phase }, { on := 8, ground := Ground.phase }, { on := 9, ground := Ground.phase }, { on := 10, ground := Ground.phase }, { on := 11, ground := Ground.phase }, { on := 12, ground := Ground.phase }, { on := 13, ground := Ground.phase }, { on := 14, ground := Ground.phase }, { on := 15, ground := Ground.phase }, { on := 16, ground := Ground.phase }], guard := none }] true) Q (Act.mk (List.toArray (v0 :: v1 :: y2 :: y3 :: y4 :: y5 :: (.pointer (some ⟨gX, 0, none⟩)) :: (.pointer (some ⟨gY, 0, none⟩)) :: y8 :: y9 :: y10 :: y11 :: y12 :: y13 :: y14 :: y15 :: y16 :: y17 :: y18 :: y19 :: y20 :: y21 :: y22 :: y23 :: y24 :: y25 :: y26 :: y27 :: y28 :: y29 :: y30 :: y31 :: y32 :: y33 :: y34 :: y35 :: y36 :: y37 :: y38 :: y39 :: y40 :: y41 :: y42 :: y43 :: y44 :: y45 :: y46 :: y47 :: y48 :: y49 :: y50 :: y51 :: y52 :: y53 :: y54 :: y55 :: y56 :: y57 :: y58 :: y59 :: y60 :: y61 :: y62 :: y63 :: y64 :: y65 :: y66 :: y67 :: y68 :: y69 :: y70 :: y71 :: y72 :: y73 :: y74 :: y75 :: y76 :: y77 :: y78 :: y79 :: y80 :: y81 :: y82 :: y83 :: y84 :: y85 :: y86 :: y87 :: y88 :: y89 :: y90 :: y91 :: y92 :: y93 :: y94 :: y95 :: y96 :: y97 :: y98 :: y99 :: y100 :: y101 :: y102 :: y103 :: y104 :: y105 :: y106 :: y107 :: y108 :: y109 :: y110 :: y111 :: y112 :: y113 :: y114 :: y115 :: y116 :: y117 :: y118 :: y119 :: y120 :: y121 :: y122 :: y123 :: y124 :: y125 :: y126 :: y127 :: y128 :: y129 :: y130 :: y131 :: [])) ds) w := by
  obtain ⟨raw, hrl, hr1, hrs, hrr⟩ := raw_dobs h1
  obtain ⟨rxy, hrxy⟩ : ∃ r : List Value, r = [.int .i64 x.kind, .int .i64 x.n, .int .i64 x.time, .slice Ax x.entry.length cx, .int .i64 x.seg, .int .i64 x.pos, bv x.turn, .int .i64 y.kind, .int .i64 y.n, .int .i64 y.time, .slice Ay y.entry.length cy, .int .i64 y.seg, .int .i64 y.pos, bv y.turn] := ⟨_, rfl⟩
  have hryl : rxy.length = 14 := by rw [hrxy]; rfl
  have hry1 : ∀ u ∈ rxy, u.oneCell' = true := by
    rw [hrxy]
    intro u hu
    simp only [List.mem_cons, List.not_mem_nil, or_false] at hu
    rcases hu with rfl | rfl | rfl | rfl | rfl | rfl | rfl | rfl | rfl | rfl | rfl | rfl | rfl | rfl <;> rfl
  obtain ⟨i0, hi0, hz0, hz1, hz2⟩ := info_parts info_dob
  have hall2 : Hid (∀ (i : Nat) (d : Dob), (l1 ++ [x, y])[i]? = some d → ∃ ecs, Rp.rd w (fun _ => True) ecs d ∧ ∀ j u, ecs[j]? = some u → (raw ++ rxy)[i * Rp.sz Dob + j]? = some u) := Lib.hid (dobs_two hrl hrr hrxy heX heY)
  have HRXY := Lib.hid hrxy
  clear hrxy
  have hSS : ∀ z : World, Below w.heap.size w z → (z.cell? ⟨gX, 0, none⟩ = some (.int .i64 x.kind) ∧ z.cell? ⟨gX, 1, none⟩ = some (.int .i64 x.n) ∧ z.cell? ⟨gX, 2, none⟩ = some (.int .i64 x.time) ∧ z.cell? ⟨gX, 3, none⟩ = some (.slice Ax x.entry.length cx) ∧ z.cell? ⟨gX, 4, none⟩ = some (.int .i64 x.seg) ∧ z.cell? ⟨gX, 5, none⟩ = some (.int .i64 x.pos) ∧ z.cell? ⟨gX, 6, none⟩ = some (bv x.turn) ∧ z.cell? ⟨gY, 0, none⟩ = some (.int .i64 y.kind) ∧ z.cell? ⟨gY, 1, none⟩ = some (.int .i64 y.n) ∧ z.cell? ⟨gY, 2, none⟩ = some (.int .i64 y.time) ∧ z.cell? ⟨gY, 3, none⟩ = some (.slice Ay y.entry.length cy) ∧ z.cell? ⟨gY, 4, none⟩ = some (.int .i64 y.seg) ∧ z.cell? ⟨gY, 5, none⟩ = some (.int .i64 y.pos) ∧ z.cell? ⟨gY, 6, none⟩ = some (bv y.turn)) := fun z hz => by
    have a1 := hX.below hz hX.lt
    have a2 := hY.below hz hY.lt
    exact ⟨a1.cell 0, a1.cell 1, a1.cell 2, a1.cell 3, a1.cell 4, a1.cell 5, a1.cell 6, a2.cell 0, a2.cell 1, a2.cell 2, a2.cell 3, a2.cell 4, a2.cell 5, a2.cell 6⟩
  have HSS := Lib.hid hSS
  clear hSS
  refine wp_region_held_drew (S := fun z => z.cell? ⟨gX, 0, none⟩ = some (.int .i64 x.kind) ∧ z.cell? ⟨gX, 1, none⟩ = some (.int .i64 x.n) ∧ z.cell? ⟨gX, 2, none⟩ = some (.int .i64 x.time) ∧ z.cell? ⟨gX, 3, none⟩ = some (.slice Ax x.entry.length cx) ∧ z.cell? ⟨gX, 4, none⟩ = some (.int .i64 x.seg) ∧ z.cell? ⟨gX, 5, none⟩ = some (.int .i64 x.pos) ∧ z.cell? ⟨gX, 6, none⟩ = some (bv x.turn) ∧ z.cell? ⟨gY, 0, none⟩ = some (.int .i64 y.kind) ∧ z.cell? ⟨gY, 1, none⟩ = some (.int .i64 y.n) ∧ z.cell? ⟨gY, 2, none⟩ = some (.int .i64 y.time) ∧ z.cell? ⟨gY, 3, none⟩ = some (.slice Ay y.entry.length cy) ∧ z.cell? ⟨gY, 4, none⟩ = some (.int .i64 y.seg) ∧ z.cell? ⟨gY, 5, none⟩ = some (.int .i64 y.pos) ∧ z.cell? ⟨gY, 6, none⟩ = some (bv y.turn)) (by kernel_rfl) ?_ (fun hHeld => ?_)
  · exact HSS.out _ (Below.refl _ _).drew
  refine step_take (i := 0) (v := ?_) rfl (by kernel_rfl) (by kernel_rfl) (by kernel_rfl) (fun c a z h => hQ c a _ _ z h) (by rfl) ?yh0 (by assumption) ?_
  case yh0 => (intro w hSw; (try dsimp only at hSw); go_simp; (try with_reducible rfl))
  try simp only [Act.put, List.setIfInBounds_toArray, List.set_cons_zero, List.set_cons_succ]
  refine step_take (i := 2) (v := ?_) rfl (by kernel_rfl) (by kernel_rfl) (by kernel_rfl) (fun c a z h => hQ c a _ _ z h) (by rfl) ?yh2 (by assumption) ?_
  case yh2 => (intro w hSw; (try dsimp only at hSw); go_simp; (try with_reducible rfl))
  try simp only [Act.put, List.setIfInBounds_toArray, List.set_cons_zero, List.set_cons_succ]
  refine step_take (i := 4) (v := ?_) rfl (by kernel_rfl) (by kernel_rfl) (by kernel_rfl) (fun c a z h => hQ c a _ _ z h) (by rfl) ?yh4 (by assumption) ?_
  case yh4 => (intro w hSw; (try dsimp only at hSw); go_simp; (try with_reducible rfl))
  try simp only [Act.put, List.setIfInBounds_toArray, List.set_cons_zero, List.set_cons_succ]
  refine step_take (i := 5) (v := ?_) rfl (by kernel_rfl) (by kernel_rfl) (by kernel_rfl) (fun c a z h => hQ c a _ _ z h) (by rfl) ?yh5 (by assumption) ?_
  case yh5 => (intro w hSw; (try dsimp only at hSw); go_simp; (try with_reducible rfl))
  try simp only [Act.put, List.setIfInBounds_toArray, List.set_cons_zero, List.set_cons_succ]
  refine wpAnyH_all (by kernel_rfl) (fun l a z => ∃ (s : Nat) (b6 b9 b10 b11 b12 b13 b14 b15 b16 b17 : Bool) (x9 x10 x11 x33 x35 x37 x40 x41 x42 x43 x44 x45 : Value) (As Ab Aa : Option Addr) (cs cb ca : Nat) (FC : Nat → Prop), l = #[true, decide (1 ≤ s), true, decide (2 ≤ s), true, true, b6, decide (3 ≤ s), decide (4 ≤ s), b9, b10, b11, b12, b13, b14, b15, b16, b17] ∧ a = (Act.mk (List.toArray (v0 :: v1 :: y2 :: y3 :: y4 :: y5 :: (.pointer (some ⟨gX, 0, none⟩)) :: (.pointer (some ⟨gY, 0, none⟩)) :: y8 :: x9 :: x10 :: x11 :: y12 :: y13 :: y14 :: y15 :: y16 :: y17 :: y18 :: y19 :: y20 :: y21 :: y22 :: y23 :: y24 :: y25 :: y26 :: y27 :: y28 :: y29 :: y30 :: y31 :: y32 :: x33 :: v0 :: x35 :: v1 :: x37 :: (.agg #[.int .i64 x.kind, .int .i64 x.n, .int .i64 x.time, .slice Ax x.entry.length cx, .int .i64 x.seg, .int .i64 x.pos, bv x.turn]) :: (.agg #[.int .i64 y.kind, .int .i64 y.n, .int .i64 y.time, .slice Ay y.entry.length cy, .int .i64 y.seg, .int .i64 y.pos, bv y.turn]) :: x40 :: x41 :: x42 :: x43 :: x44 :: x45 :: y46 :: y47 :: y48 :: y49 :: y50 :: y51 :: y52 :: y53 :: y54 :: y55 :: y56 :: y57 :: y58 :: y59 :: y60 :: y61 :: y62 :: y63 :: y64 :: y65 :: y66 :: y67 :: y68 :: y69 :: y70 :: y71 :: y72 :: y73 :: y74 :: y75 :: y76 :: y77 :: y78 :: y79 :: y80 :: y81 :: y82 :: y83 :: y84 :: y85 :: y86 :: y87 :: y88 :: y89 :: y90 :: y91 :: y92 :: y93 :: y94 :: y95 :: y96 :: y97 :: y98 :: y99 :: y100 :: y101 :: y102 :: y103 :: y104 :: y105 :: y106 :: y107 :: y108 :: y109 :: y110 :: y111 :: y112 :: y113 :: y114 :: y115 :: y116 :: y117 :: y118 :: y119 :: y120 :: y121 :: y122 :: y123 :: y124 :: y125 :: y126 :: y127 :: y128 :: y129 :: y130 :: y131 :: [])) ds) ∧ s ≤ 4 ∧ (3 ≤ s → b6 = true) ∧ (b9 = true → s = 4 ∧ x33 = (.tuple #[.agg #[(.slice As f.sh.length cs), (.slice Ab f.book.length cb)], (.slice Aa la.length ca), .agg #[.int .i64 (fa : Int), .int .i64 (fb : Int)]])) ∧ (b10 = true → s = 4 ∧ x43 = .agg #[(.slice As f.sh.length cs), (.slice Ab f.book.length cb)]) ∧ (b11 = true → s = 4 ∧ x44 = (.slice Aa la.length ca)) ∧ (b12 = true → s = 4 ∧ x45 = .agg #[.int .i64 (fa : Int), .int .i64 (fb : Int)]) ∧ (b15 = true → s = 4 ∧ b13 = true) ∧ (b16 = true → s = 4 ∧ x10 = (.slice Aa la.length ca)) ∧ (b17 = true → s = 4 ∧ b14 = true) ∧
      CA z w.heap.size l1.length raw rxy s x35 x37 x41 x42 (.tuple #[.agg #[(.slice As f.sh.length cs), (.slice Ab f.book.length cb)], (.slice Aa la.length ca), .agg #[.int .i64 (fa : Int), .int .i64 (fb : Int)]]) ∧ CB z w.heap.size rxy b6 s x35 x37 x40 ∧ CR z f la s FC (.slice As f.sh.length cs) (.slice Ab f.book.length cb) (.slice Aa la.length ca) ∧ CZ z w.heap.size b13 s FC x9 92 (if b15 then #[(.slice As f.sh.length cs), (.slice Ab f.book.length cb)] else #[.slice none 0 0, .slice none 0 0]) ∧ CZ z w.heap.size b14 s FC x11 32 (if b17 then #[.int .i64 (fa : Int), .int .i64 (fb : Int)] else #[.int .i64 0, .int .i64 0]) ∧ Below w.heap.size w z) (fun l a z hT => ?S_) (fun l a z i hT hi => ?step_) (fun l a z hT hall => ?end_) _ _ _ _ ?init_ (of_decide_eq_true (by kernel_rfl))
  case S_ =>
    obtain ⟨s, b6, b9, b10, b11, b12, b13, b14, b15, b16, b17, x9, x10, x11, x33, x35, x37, x40, x41, x42, x43, x44, x45, As, Ab, Aa, cs, cb, ca, FC, rfl, rfl, hs4, h36, h9, h10, h11, h12, h15, h16, h17, cA, cB, cR, cZ9, cZ11, hB⟩ := hT
    exact HSS.out z hB
  case init_ =>
    exact ⟨0, false, false, false, false, false, false, false, false, false, false, y9, y10, y11, y33, y35, y37, y40, y41, y42, y43, y44, y45, none, none, none, 0, 0, 0, fun _ => False, by kernel_rfl, rfl, by decide, (fun h => absurd h (by decide)), (fun h => absurd h (by decide)), (fun h => absurd h (by decide)), (fun h => absurd h (by decide)), (fun h => absurd h (by decide)), (fun h => absurd h (by decide)), (fun h => absurd h (by decide)), (fun h => absurd h (by decide)), ⟨(fun h => absurd h (by decide)), (fun h => absurd h (by decide)), (fun h => absurd h (by decide)), (fun h => absurd h (by decide))⟩, (fun h => absurd h (by decide)), (fun h => absurd h (by decide)), (fun h => absurd h (by decide)), (fun h => absurd h (by decide)), (Below.refl _ _).drew⟩
  case end_ =>
    obtain ⟨s, b6, b9, b10, b11, b12, b13, b14, b15, b16, b17, x9, x10, x11, x33, x35, x37, x40, x41, x42, x43, x44, x45, As, Ab, Aa, cs, cb, ca, FC, rfl, rfl, hs4, h36, h9, h10, h11, h12, h15, h16, h17, cA, cB, cR, cZ9, cZ11, hB⟩ := hT
    have f4 : decide (4 ≤ s) = true := hall 8 (by decide)
    obtain rfl : s = 4 := by have := of_decide_eq_true f4; omega
    have f109 : b9 = true := hall 9 (by decide)
    have f113 : b13 = true := hall 13 (by decide)
    have f114 : b14 = true := hall 14 (by decide)
    have f115 : b15 = true := hall 15 (by decide)
    have f116 : b16 = true := hall 16 (by decide)
    have f117 : b17 = true := hall 17 (by decide)
    subst f109 f113 f114 f115 f116 f117
    obtain ⟨g9, e9, k9, n9, z9⟩ := cZ9 rfl
    obtain ⟨g11, e11, k11, n11, z11⟩ := cZ11 rfl
    obtain ⟨r1, r2, r3, r4⟩ := cR rfl
    exact hend x9 x10 x11 x33 x35 x37 x40 x41 x42 x43 x44 x45 As Ab Aa cs cb ca g9 g11 FC z e9 (h16 rfl).2 e11 k9 k11 z9 z11 r1 r2 r3 (n9 rfl) (n11 rfl) r4 hB
  case step_ =>
    obtain ⟨s, b6, b9, b10, b11, b12, b13, b14, b15, b16, b17, x9, x10, x11, x33, x35, x37, x40, x41, x42, x43, x44, x45, As, Ab, Aa, cs, cb, ca, FC, rfl, rfl, hs4, h36, h9, h10, h11, h12, h15, h16, h17, cA, cB, cR, cZ9, cZ11, hB⟩ := hT
    have hi18 : i < 18 := (ready_lt hi).1
    rcases (show i = 0 ∨ i = 1 ∨ i = 2 ∨ i = 3 ∨ i = 4 ∨ i = 5 ∨ i = 6 ∨ i = 7 ∨ i = 8 ∨ i = 9 ∨ i = 10 ∨ i = 11 ∨ i = 12 ∨ i = 13 ∨ i = 14 ∨ i = 15 ∨ i = 16 ∨ i = 17 by omega) with rfl | rfl | rfl | rfl | rfl | rfl | rfl | rfl | rfl | rfl | rfl | rfl | rfl | rfl | rfl | rfl | rfl | rfl
    · skip
      exact Bool.noConfusion (show true = false from (mem_ready.1 hi).1)
    · skip
      have hf := ready_flags hi rfl
      have hn := hf.1
      obtain rfl : s = 0 := by have h : decide (1 ≤ s) = false := hn; have := of_decide_eq_false h; omega
      refine duty rfl rfl (fun K hK => ?_)
      go_simp
      refine hK _ _ ⟨1, b6, b9, b10, b11, b12, b13, b14, b15, b16, b17, x9, x10, x11, x33, _, x37, x40, x41, x42, x43, x44, x45, As, Ab, Aa, cs, cb, ca, FC, rfl, rfl, by decide, (fun h => absurd h (by decide)), (fun h => absurd (h9 h).1 (by decide)), (fun h => absurd (h10 h).1 (by decide)), (fun h => absurd (h11 h).1 (by decide)), (fun h => absurd (h12 h).1 (by decide)), (fun h => absurd (h15 h).1 (by decide)), (fun h => absurd (h16 h).1 (by decide)), (fun h => absurd (h17 h).1 (by decide)), ⟨fun _ => own_empty z _ hB.size, (fun h => absurd h (by decide)), (fun h => absurd h (by decide)), (fun h => absurd h (by decide))⟩, fun e1 _ => ?_, (fun h => absurd h (by decide)), (cZ9.below (below_alloc z _)).fit (by decide), (cZ11.below (below_alloc z _)).fit (by decide), hB.alloc hB.size _⟩
      obtain ⟨g, q1, q2, q3, _, _⟩ := cB e1 (by decide)
      exact ⟨g, q1, q2, q3.alloc _, fun _ h => (by have := q3.lt; injection h with h; have h2 : z.heap.size = g := h; omega), fun h => absurd h (by decide)⟩
    · skip
      exact Bool.noConfusion (show true = false from (mem_ready.1 hi).1)
    · skip
      have hf := ready_flags hi rfl
      have hn := hf.1
      have d1 := hf.2 _ (Array.mem_of_getElem? (i := 0) rfl) rfl
      obtain rfl : s = 1 := by have h : decide (2 ≤ s) = false := hn; have h2 : decide (1 ≤ s) = true := d1; have := of_decide_eq_false h; have := of_decide_eq_true h2; omega
      refine duty rfl rfl (fun K hK => ?_)
      refine wp_append_Own z (.tmp 35) (.tmp 36) 87 (by rfl) w.heap.size 111 i0 _ 7 72 Try.underlying87 hi0 hz0 hz1 hz2 (by rfl) (by omega) x35 0 [] (by rfl) (cA.1 rfl) (fun _ => True) v1 l1.length raw (by rfl) (SlAt.below hrs hB) hr1 (by simp [maxLen]; omega) (by omega) hB.size ?_
      intro v2 z2 hown2 hgr2 hat2
      rw [Nat.zero_add, List.nil_append] at hown2
      refine hK _ _ ⟨2, b6, b9, b10, b11, b12, b13, b14, b15, b16, b17, x9, x10, x11, x33, x35, v2, x40, x41, x42, x43, x44, x45, As, Ab, Aa, cs, cb, ca, FC, rfl, rfl, by decide, (fun h => absurd h (by decide)), (fun h => absurd (h9 h).1 (by decide)), (fun h => absurd (h10 h).1 (by decide)), (fun h => absurd (h11 h).1 (by decide)), (fun h => absurd (h12 h).1 (by decide)), (fun h => absurd (h15 h).1 (by decide)), (fun h => absurd (h16 h).1 (by decide)), (fun h => absurd (h17 h).1 (by decide)), ⟨(fun h => absurd h (by decide)), fun _ => hown2, (fun h => absurd h (by decide)), (fun h => absurd h (by decide))⟩, fun e1 _ => ?_, (fun h => absurd h (by decide)), cZ9.grown (cA.1 rfl) hgr2 (by decide) (by decide), cZ11.grown (cA.1 rfl) hgr2 (by decide) (by decide), hB.grown hgr2 hB.size (fun k hk => (Own.lt (cA.1 rfl) k hk).1)⟩
      obtain ⟨g, q1, q2, q3, q4, _⟩ := cB e1 (by decide)
      refine ⟨g, q1, q2, q3.keep (hgr2.block g q3.lt (fun h => q4 rfl h.symm)), fun h => absurd h (by decide), fun _ h => ?_⟩
      rcases hat2 with h2 | h2
      · exact q4 rfl (h2.symm.trans h)
      · rw [h2] at h; have := q3.lt; injection h with h; omega
    · skip
      exact Bool.noConfusion (show true = false from (mem_ready.1 hi).1)
    · skip
      exact Bool.noConfusion (show true = false from (mem_ready.1 hi).1)
    · skip
      have hf := ready_flags hi rfl
      have hn := hf.1
      have hb6 : b6 = false := hn
      have hs3 : s < 3 := by rcases Nat.lt_or_ge s 3 with h | h; exact h; exact absurd (h36 h) (by rw [hb6]; decide)
      refine duty rfl rfl (fun K hK => ?_)
      go_simp
      refine hK _ _ ⟨s, true, b9, b10, b11, b12, b13, b14, b15, b16, b17, x9, x10, x11, x33, x35, x37, _, x41, x42, x43, x44, x45, As, Ab, Aa, cs, cb, ca, FC, rfl, rfl, hs4, (fun _ => rfl), h9, h10, h11, h12, h15, h16, h17, cA.below (below_alloc z _), fun _ _ => ?_, cR.below (below_alloc z _), cZ9.below (below_alloc z _), cZ11.below (below_alloc z _), hB.alloc hB.size _⟩
      refine ⟨z.heap.size, rfl, hB.size, by rw [HRXY.out]; exact heap_alloc_new z _, fun e h => ?_, fun e h => ?_⟩
      · exact Nat.lt_irrefl _ (Own.lt (cA.1 e) _ h).2
      · exact Nat.lt_irrefl _ (Own.lt (cA.2.1 e) _ h).2
    · skip
      have hf := ready_flags hi rfl
      have hn := hf.1
      have d3 := hf.2 _ (Array.mem_of_getElem? (i := 0) rfl) rfl
      have d6 := hf.2 _ (Array.mem_of_getElem? (i := 1) rfl) rfl
      obtain rfl : s = 2 := by have h : decide (3 ≤ s) = false := hn; have h2 : decide (2 ≤ s) = true := d3; have := of_decide_eq_false h; have := of_decide_eq_true h2; omega
      have hb6 : b6 = true := d6
      obtain ⟨g, q1, q2, q3, _, q5⟩ := cB hb6 (by decide)
      subst q1
      refine duty rfl rfl (fun K hK => ?_)
      refine wp_append_Own z (.tmp 37) (.tmp 40) 87 (by rfl) w.heap.size 111 i0 _ 7 72 Try.underlying87 hi0 hz0 hz1 hz2 (by rfl) (by omega) x37 l1.length raw (by rfl) (cA.2.1 rfl) (fun k => k = g) (.slice (some ⟨g, 0, none⟩) 2 2) 2 rxy (by rfl) (blk_slat q3 hryl) hry1 (by simp [maxLen]; omega) (by omega) hB.size ?_
      intro v2 z2 hown2 hgr2 hat2
      exact hK _ _ ⟨3, b6, b9, b10, b11, b12, b13, b14, b15, b16, b17, x9, x10, x11, x33, x35, x37, _, v2, x42, x43, x44, x45, As, Ab, Aa, cs, cb, ca, FC, rfl, rfl, by decide, (fun _ => hb6), (fun h => absurd (h9 h).1 (by decide)), (fun h => absurd (h10 h).1 (by decide)), (fun h => absurd (h11 h).1 (by decide)), (fun h => absurd (h12 h).1 (by decide)), (fun h => absurd (h15 h).1 (by decide)), (fun h => absurd (h16 h).1 (by decide)), (fun h => absurd (h17 h).1 (by decide)), ⟨(fun h => absurd h (by decide)), (fun h => absurd h (by decide)), fun _ => hown2, (fun h => absurd h (by decide))⟩, (fun _ h => absurd h (by decide)), (fun h => absurd h (by decide)), cZ9.grown (cA.2.1 rfl) hgr2 (by decide) (by decide), cZ11.grown (cA.2.1 rfl) hgr2 (by decide) (by decide), hB.grown hgr2 hB.size (fun k hk => (Own.lt (cA.2.1 rfl) k hk).1)⟩
    · skip
      have hf := ready_flags hi rfl
      have hn := hf.1
      have d7 := hf.2 _ (Array.mem_of_getElem? (i := 1) rfl) rfl
      obtain rfl : s = 3 := by have h : decide (4 ≤ s) = false := hn; have h2 : decide (3 ≤ s) = true := d7; have := of_decide_eq_false h; have := of_decide_eq_true h2; omega
      have hb15 : b15 = false := by cases b15 with | false => rfl | true => exact absurd (h15 rfl).1 (by decide)
      have hb17 : b17 = false := by cases b17 with | false => rfl | true => exact absurd (h17 rfl).1 (by decide)
      subst hb15 hb17
      have hown := cA.2.2.1 rfl
      have hrd : RdL z (fun _ => True) x41 (l1 ++ [x, y]) := by
        refine OwnR.rd (B := w.heap.size) (e := 111) (F := fun _ => True) ⟨raw ++ rxy, by rw [List.length_append]; exact hown, fun i d hd => ?_⟩ (fun _ _ => trivial)
        obtain ⟨ecs, he, hj⟩ := hall2.out i d hd
        exact ⟨ecs, Rp.below he hB, hj⟩
      have hpl2 := play_any z _ _ v0 x41 l0 (l1 ++ [x, y]) (h0.below hB) hrd
      rw [hpl] at hpl2
      have HPL2 := Lib.hid hpl2
      clear hpl2
      refine duty rfl rfl (fun K hK => ?_)
      go_simp
      refine HPL2.out.mono ?_
      rintro e2 z2 ⟨vs, vb, va, rfl, q1, q2, q3, hx⟩
      simp only at q1 q2 q3 ⊢
      obtain ⟨As2, cs2, hvs, _⟩ := q1.form
      obtain ⟨Ab2, cb2, hvb, _⟩ := q2.form
      obtain ⟨Aa2, ca2, hva, _⟩ := q3.form
      subst hvs hvb hva
      replace q1 := q1.weak (F' := fun k => z.heap.size ≤ k ∧ k < z2.heap.size) (fun k h1 h2 => ⟨h2, h1⟩)
      replace q2 := q2.weak (F' := fun k => z.heap.size ≤ k ∧ k < z2.heap.size) (fun k h1 h2 => ⟨h2, h1⟩)
      replace q3 := q3.weak (F' := fun k => z.heap.size ≤ k ∧ k < z2.heap.size) (fun k h1 h2 => ⟨h2, h1⟩)
      have ncZ9 : CZ z2 w.heap.size b13 4 (fun k => z.heap.size ≤ k ∧ k < z2.heap.size) x9 92 #[.slice none 0 0, .slice none 0 0] := fun e => by
        obtain ⟨g, p1, p2, _, p4⟩ := cZ9 e
        exact ⟨g, p1, p2, fun _ h => Nat.lt_irrefl _ (Nat.lt_of_lt_of_le p4.lt h.1), p4.below hx p4.lt⟩
      have ncZ11 : CZ z2 w.heap.size b14 4 (fun k => z.heap.size ≤ k ∧ k < z2.heap.size) x11 32 #[.int .i64 0, .int .i64 0] := fun e => by
        obtain ⟨g, p1, p2, _, p4⟩ := cZ11 e
        exact ⟨g, p1, p2, fun _ h => Nat.lt_irrefl _ (Nat.lt_of_lt_of_le p4.lt h.1), p4.below hx p4.lt⟩
      exact hK _ _ ⟨4, b6, b9, b10, b11, b12, b13, b14, false, b16, false, x9, x10, x11, x33, x35, x37, x40, x41, _, x43, x44, x45, As2, Ab2, Aa2, cs2, cb2, ca2, (fun k => z.heap.size ≤ k ∧ k < z2.heap.size), rfl, rfl, by decide, (fun _ => h36 (by decide)), (fun h => absurd (h9 h).1 (by decide)), (fun h => absurd (h10 h).1 (by decide)), (fun h => absurd (h11 h).1 (by decide)), (fun h => absurd (h12 h).1 (by decide)), (fun h => absurd (h15 h).1 (by decide)), (fun h => absurd (h16 h).1 (by decide)), (fun h => absurd (h17 h).1 (by decide)), ⟨(fun h => absurd h (by decide)), (fun h => absurd h (by decide)), (fun h => absurd h (by decide)), fun _ => rfl⟩, (fun _ h => absurd h (by decide)), (fun _ => ⟨q1, q2, q3, fun k h => h.2⟩), ncZ9, ncZ11, hB.trans (hx.mono hB.size)⟩
    · skip
      have hf := ready_flags hi rfl
      have hn := hf.1
      have d8 := hf.2 _ (Array.mem_of_getElem? (i := 0) rfl) rfl
      obtain rfl : s = 4 := by have h : decide (4 ≤ s) = true := d8; have := of_decide_eq_true h; omega
      have hx42 := cA.2.2.2 rfl
      subst hx42
      refine duty rfl rfl (fun K hK => ?_)
      go_simp
      exact hK _ _ ⟨4, b6, true, b10, b11, b12, b13, b14, b15, b16, b17, x9, x10, x11, _, x35, x37, x40, x41, _, x43, x44, x45, As, Ab, Aa, cs, cb, ca, FC, rfl, rfl, hs4, h36, (fun _ => ⟨rfl, rfl⟩), h10, h11, h12, h15, h16, h17, cA, cB, cR, cZ9, cZ11, hB⟩
    · skip
      have hf := ready_flags hi rfl
      have hn := hf.1
      have d9 := hf.2 _ (Array.mem_of_getElem? (i := 0) rfl) rfl
      have hb9 : b9 = true := d9
      obtain ⟨hs, hx33⟩ := h9 hb9
      subst hs hx33
      refine duty rfl rfl (fun K hK => ?_)
      go_simp
      exact hK _ _ ⟨4, b6, b9, true, b11, b12, b13, b14, b15, b16, b17, x9, x10, x11, _, x35, x37, x40, x41, x42, _, x44, x45, As, Ab, Aa, cs, cb, ca, FC, rfl, rfl, hs4, h36, h9, (fun _ => ⟨rfl, rfl⟩), h11, h12, h15, h16, h17, cA, cB, cR, cZ9, cZ11, hB⟩
    · skip
      have hf := ready_flags hi rfl
      have hn := hf.1
      have d9 := hf.2 _ (Array.mem_of_getElem? (i := 0) rfl) rfl
      have hb9 : b9 = true := d9
      obtain ⟨hs, hx33⟩ := h9 hb9
      subst hs hx33
      refine duty rfl rfl (fun K hK => ?_)
      go_simp
      exact hK _ _ ⟨4, b6, b9, b10, true, b12, b13, b14, b15, b16, b17, x9, x10, x11, _, x35, x37, x40, x41, x42, x43, _, x45, As, Ab, Aa, cs, cb, ca, FC, rfl, rfl, hs4, h36, h9, h10, (fun _ => ⟨rfl, rfl⟩), h12, h15, h16, h17, cA, cB, cR, cZ9, cZ11, hB⟩
    · skip
      have hf := ready_flags hi rfl
      have hn := hf.1
      have d9 := hf.2 _ (Array.mem_of_getElem? (i := 0) rfl) rfl
      have hb9 : b9 = true := d9
      obtain ⟨hs, hx33⟩ := h9 hb9
      subst hs hx33
      refine duty rfl rfl (fun K hK => ?_)
      go_simp
      exact hK _ _ ⟨4, b6, b9, b10, b11, true, b13, b14, b15, b16, b17, x9, x10, x11, _, x35, x37, x40, x41, x42, x43, x44, _, As, Ab, Aa, cs, cb, ca, FC, rfl, rfl, hs4, h36, h9, h10, h11, (fun _ => ⟨rfl, rfl⟩), h15, h16, h17, cA, cB, cR, cZ9, cZ11, hB⟩
    · skip
      have hf := ready_flags hi rfl
      have hn := hf.1
      have hb : b13 = false := hn
      have hbb : b15 = false := by cases hq : b15 with | false => rfl | true => exact absurd (h15 hq).2 (by rw [hb]; decide)
      subst hb hbb
      refine duty rfl rfl (fun K hK => ?_)
      go_simp
      exact hK _ _ ⟨s, b6, b9, b10, b11, b12, true, b14, false, b16, b17, _, x10, x11, x33, x35, x37, x40, x41, x42, x43, x44, x45, As, Ab, Aa, cs, cb, ca, FC, rfl, rfl, hs4, h36, h9, h10, h11, h12, (fun h => absurd h (by decide)), h16, h17, cA.below (below_alloc z _), cB.below (below_alloc z _), cR.below (below_alloc z _), CZ.new hB.size (fun e k hk => (cR e).2.2.2 k hk) _ _, cZ11.below (below_alloc z _), hB.alloc hB.size _⟩
    · skip
      have hf := ready_flags hi rfl
      have hn := hf.1
      have hb : b14 = false := hn
      have hbb : b17 = false := by cases hq : b17 with | false => rfl | true => exact absurd (h17 hq).2 (by rw [hb]; decide)
      subst hb hbb
      refine duty rfl rfl (fun K hK => ?_)
      go_simp
      exact hK _ _ ⟨s, b6, b9, b10, b11, b12, b13, true, b15, b16, false, x9, x10, _, x33, x35, x37, x40, x41, x42, x43, x44, x45, As, Ab, Aa, cs, cb, ca, FC, rfl, rfl, hs4, h36, h9, h10, h11, h12, h15, h16, (fun h => absurd h (by decide)), cA.below (below_alloc z _), cB.below (below_alloc z _), cR.below (below_alloc z _), cZ9.below (below_alloc z _), CZ.new hB.size (fun e k hk => (cR e).2.2.2 k hk) _ _, hB.alloc hB.size _⟩
    · skip
      have hf := ready_flags hi rfl
      have hn := hf.1
      have d13 := hf.2 _ (Array.mem_of_getElem? (i := 0) rfl) rfl
      have d10 := hf.2 _ (Array.mem_of_getElem? (i := 1) rfl) rfl
      have hc : b13 = true := d13
      have hm : b10 = true := d10
      have hb : b15 = false := hn
      subst hb
      obtain ⟨hs, hy⟩ := h10 hm
      subst hs hy
      obtain ⟨g, q1, q2, q3, q4⟩ := cZ9 hc
      subst q1
      replace q4 : Blk z g 92 #[.slice none 0 0, .slice none 0 0] := q4
      obtain ⟨r1, r2, r3, r4⟩ := cR rfl
      have e0 : z.cell? ⟨g, 0, none⟩ = some (.slice none 0 0) := q4.cell 0
      have e1 : z.cell? ⟨g, 1, none⟩ = some (.slice none 0 0) := q4.cell 1
      have g0 := q4.frozen 0
      have g1 := q4.frozen 1
      refine duty rfl rfl (fun K hK => ?_)
      go_simp
      have nR : ∀ {α : Type} [Rp α] {v : Value} {l : List α}, RdL z FC v l → RdL ((z.setCell ⟨g, 0, none⟩ (.slice As f.sh.length cs)).setCell ⟨g, 1, none⟩ (.slice Ab f.book.length cb)) FC v l := fun h => (h.setCell (p := ⟨g, 0, none⟩) (q3 rfl) _).setCell (p := ⟨g, 1, none⟩) (q3 rfl) _
      have nO : CZ ((z.setCell ⟨g, 0, none⟩ (.slice As f.sh.length cs)).setCell ⟨g, 1, none⟩ (.slice Ab f.book.length cb)) w.heap.size b14 4 FC x11 32 (if b17 then #[.int .i64 (fa : Int), .int .i64 (fb : Int)] else #[.int .i64 0, .int .i64 0]) := fun e => by
        obtain ⟨k, p1, p2, p3, p4⟩ := cZ11 e
        exact ⟨k, p1, p2, p3, p4.far2 (blk_ne p4 q4 (by decide)) _ _⟩
      exact hK _ _ ⟨4, b6, b9, b10, b11, b12, b13, b14, true, b16, b17, _, x10, x11, x33, x35, x37, x40, x41, x42, _, x44, x45, As, Ab, Aa, cs, cb, ca, FC, rfl, rfl, hs4, h36, h9, (fun _ => ⟨rfl, rfl⟩), h11, h12, (fun _ => ⟨rfl, hc⟩), h16, h17, ⟨(fun h => absurd h (by decide)), (fun h => absurd h (by decide)), (fun h => absurd h (by decide)), cA.2.2.2⟩, (fun _ h => absurd h (by decide)), (fun _ => ⟨nR r1, nR r2, nR r3, fun k hk => by simpa using r4 k hk⟩), (fun _ => ⟨g, rfl, q2, q3, q4.set2 _ _⟩), nO, below_set2 hB q2 _ _⟩
    · skip
      have hf := ready_flags hi rfl
      have hn := hf.1
      have d11 := hf.2 _ (Array.mem_of_getElem? (i := 0) rfl) rfl
      have hm : b11 = true := d11
      obtain ⟨hs, hy⟩ := h11 hm
      subst hs hy
      refine duty rfl rfl (fun K hK => ?_)
      go_simp
      exact hK _ _ ⟨4, b6, b9, b10, b11, b12, b13, b14, b15, true, b17, x9, _, x11, x33, x35, x37, x40, x41, x42, x43, _, x45, As, Ab, Aa, cs, cb, ca, FC, rfl, rfl, hs4, h36, h9, h10, (fun _ => ⟨rfl, rfl⟩), h12, h15, (fun _ => ⟨rfl, rfl⟩), h17, cA, cB, cR, cZ9, cZ11, hB⟩
    · skip
      have hf := ready_flags hi rfl
      have hn := hf.1
      have d14 := hf.2 _ (Array.mem_of_getElem? (i := 0) rfl) rfl
      have d12 := hf.2 _ (Array.mem_of_getElem? (i := 1) rfl) rfl
      have hc : b14 = true := d14
      have hm : b12 = true := d12
      have hb : b17 = false := hn
      subst hb
      obtain ⟨hs, hy⟩ := h12 hm
      subst hs hy
      obtain ⟨g, q1, q2, q3, q4⟩ := cZ11 hc
      subst q1
      replace q4 : Blk z g 32 #[.int .i64 0, .int .i64 0] := q4
      obtain ⟨r1, r2, r3, r4⟩ := cR rfl
      have e0 : z.cell? ⟨g, 0, none⟩ = some (.int .i64 0) := q4.cell 0
      have e1 : z.cell? ⟨g, 1, none⟩ = some (.int .i64 0) := q4.cell 1
      have g0 := q4.frozen 0
      have g1 := q4.frozen 1
      refine duty rfl rfl (fun K hK => ?_)
      go_simp
      have nR : ∀ {α : Type} [Rp α] {v : Value} {l : List α}, RdL z FC v l → RdL ((z.setCell ⟨g, 0, none⟩ (.int .i64 (fa : Int))).setCell ⟨g, 1, none⟩ (.int .i64 (fb : Int))) FC v l := fun h => (h.setCell (p := ⟨g, 0, none⟩) (q3 rfl) _).setCell (p := ⟨g, 1, none⟩) (q3 rfl) _
      have nO : CZ ((z.setCell ⟨g, 0, none⟩ (.int .i64 (fa : Int))).setCell ⟨g, 1, none⟩ (.int .i64 (fb : Int))) w.heap.size b13 4 FC x9 92 (if b15 then #[.slice As f.sh.length cs, .slice Ab f.book.length cb] else #[.slice none 0 0, .slice none 0 0]) := fun e => by
        obtain ⟨k, p1, p2, p3, p4⟩ := cZ9 e
        exact ⟨k, p1, p2, p3, p4.far2 (blk_ne p4 q4 (by decide)) _ _⟩
      exact hK _ _ ⟨4, b6, b9, b10, b11, b12, b13, b14, b15, b16, true, x9, x10, _, x33, x35, x37, x40, x41, x42, x43, x44, _, As, Ab, Aa, cs, cb, ca, FC, rfl, rfl, hs4, h36, h9, h10, h11, (fun _ => ⟨rfl, rfl⟩), h15, h16, (fun _ => ⟨rfl, hc⟩), ⟨(fun h => absurd h (by decide)), (fun h => absurd h (by decide)), (fun h => absurd h (by decide)), cA.2.2.2⟩, (fun _ h => absurd h (by decide)), (fun _ => ⟨nR r1, nR r2, nR r3, fun k hk => by simpa using r4 k hk⟩), nO, (fun _ => ⟨g, rfl, q2, q3, q4.set2 _ _⟩), below_set2 hB q2 _ _⟩
set_option maxRecDepth 100000 in
set_option maxHeartbeats 8000000 in
theorem apart_region6 (Q : Exit → Act → World → Prop) (w : World) (v0 v1 y2 y3 y4 y5 y8 y9 y10 y11 y12 y13 y14 y15 y16 y17 y18 y19 y20 y21 y22 y23 y24 y25 y26 y27 y28 y29 y30 y31 y32 y33 y34 y35 y36 y37 y38 y39 y40 y41 y42 y43 y44 y45 y46 y47 y48 y49 y50 y51 y52 y53 y54 y55 y56 y57 y58 y59 y60 y61 y62 y63 y64 y65 y66 y67 y68 y69 y70 y71 y72 y73 y74 y75 y76 y77 y78 y79 y80 y81 y82 y83 y84 y85 y86 y87 y88 y89 y90 y91 y92 y93 y94 y95 y96 y97 y98 y99 y100 y101 y102 y103 y104 y105 y106 y107 y108 y109 y110 y111 y112 y113 y114 y115 y116 y117 y118 y119 y120 y121 y122 y123 y124 y125 y126 y127 y128 y129 y130 y131 : Value) (ds : List Deferred) (l0 : List (Int × Int)) (l1 : List Dob) (x y : Dob) (gX gY : Nat) (Ax Ay : Option Addr) (cx cy : Nat)
    (h0 : RdL w (fun _ => True) v0 l0) (h1 : RdL w (fun _ => True) v1 l1) (hX : Blk w gX 111 #[.int .i64 x.kind, .int .i64 x.n, .int .i64 x.time, .slice Ax x.entry.length cx, .int .i64 x.seg, .int .i64 x.pos, bv x.turn]) (hY : Blk w gY 111 #[.int .i64 y.kind, .int .i64 y.n, .int .i64 y.time, .slice Ay y.entry.length cy, .int .i64 y.seg, .int .i64 y.pos, bv y.turn])
    (heX : Bytes w (fun _ => True) (.slice Ax x.entry.length cx) x.entry) (heY : Bytes w (fun _ => True) (.slice Ay y.entry.length cy) y.entry) (h118 : l1.length ≤ 118)
    (f : Flt) (la : List Ans) (fa fb : Nat) (hpl : Fl.play l0 (l1 ++ [x, y]) = (f, la, (fa, fb)))
    (hQ : ∀ (c : List PanicEntry) (a : Act) (d : Tmp) (v : Value) (z : World), Q (.panic c) (a.put (some d) v) z → Q (.panic c) a z)
    (hend : ∀ (x9 x10 x11 x33 x35 x37 x40 x41 x42 x43 x44 x45 : Value) (As Ab Aa : Option Addr) (cs cb ca : Nat) (g9 g11 : Nat) (FC : Nat → Prop) (z : World), x9 = .pointer (some ⟨g9, 0, none⟩) → x10 = (.slice Aa la.length ca) → x11 = .pointer (some ⟨g11, 0, none⟩) → w.heap.size ≤ g9 → w.heap.size ≤ g11 →
      Blk z g9 92 #[.slice As f.sh.length cs, .slice Ab f.book.length cb] → Blk z g11 32 #[.int .i64 (fa : Int), .int .i64 (fb : Int)] → RdL z FC (.slice As f.sh.length cs) f.sh → RdL z FC (.slice Ab f.book.length cb) f.book → RdL z FC (.slice Aa la.length ca) la → ¬ FC g9 → ¬ FC g11 → (∀ k, FC k → k < z.heap.size) → Below w.heap.size w z → Q .normal (Act.mk (List.toArray (v0 :: v1 :: y2 :: y3 :: y4 :: y5 :: (.pointer (some ⟨gY, 0, none⟩)) :: (.pointer (some ⟨gX, 0, none⟩)) :: y8 :: y9 :: y10 :: y11 :: x9 :: x10 :: x11 :: y15 :: y16 :: y17 :: y18 :: y19 :: y20 :: y21 :: y22 :: y23 :: y24 :: y25 :: y26 :: y27 :: y28 :: y29 :: y30 :: y31 :: y32 :: y33 :: y34 :: y35 :: y36 :: y37 :: y38 :: y39 :: y40 :: y41 :: y42 :: y43 :: y44 :: y45 :: x33 :: v0 :: x35 :: v1 :: x37 :: (.agg #[.int .i64 x.kind, .int .i64 x.n, .int .i64 x.time, .slice Ax x.entry.length cx, .int .i64 x.seg, .int .i64 x.pos, bv x.turn]) :: (.agg #[.int .i64 y.kind, .int .i64 y.n, .int .i64 y.time, .slice Ay y.entry.length cy, .int .i64 y.seg, .int .i64 y.pos, bv y.turn]) :: x40 :: x41 :: x42 :: x43 :: x44 :: x45 :: y59 :: y60 :: y61 :: y62 :: y63 :: y64 :: y65 :: y66 :: y67 :: y68 :: y69 :: y70 :: y71 :: y72 :: y73 :: y74 :: y75 :: y76 :: y77 :: y78 :: y79 :: y80 :: y81 :: y82 :: y83 :: y84 :: y85 :: y86 :: y87 :: y88 :: y89 :: y90 :: y91 :: y92 :: y93 :: y94 :: y95 :: y96 :: y97 :: y98 :: y99 :: y100 :: y101 :: y102 :: y103 :: y104 :: y105 :: y106 :: y107 :: y108 :: y109 :: y110 :: y111 :: y112 :: y113 :: y114 :: y115 :: y116 :: y117 :: y118 :: y119 :: y120 :: y121 :: y122 :: y123 :: y124 :: y125 :: y126 :: y127 :: y128 :: y129 :: y130 :: y131 :: [])) ds) z) :
    Code.wp Try.prog (Code.region 6 #[{ dst := some 47, op := Op.move (Operand.tmp 0), type := 86, pos := "law.go:325", after := #[], guard := none }, { dst := some 48, op := Op.buildSlice 87 0 #[], type := 87, pos := "law.go:325", after := #[], guard := none }, { dst := some 49, op := Op.move (Operand.tmp 1), type := 87, pos := "law.go:325", after := #[], guard := none }, { dst := some 50, op := Op.call { callee := Callee.builtin Builtin.append, args := #[Operand.tmp 48, Operand.tmp 49], argTypes := #[87, 87] }, type := 87, pos := "law.go:325", after := #[{ on := 1, ground := Ground.data }, { on := 2, ground := Ground.data }], guard := none }, { dst := some 51, op := Op.load 111 (Operand.tmp 7), type := 111, pos := "law.go:325", after := #[], guard := none }, { dst := some 52, op := Op.load 111 (Operand.tmp 6), type := 111, pos := "law.go:325", after := #[], guard := none }, { dst := some 53, op := Op.buildSlice 87 2 #[(0, Operand.tmp 51), (1, Operand.tmp 52)], type := 87, pos := "law.go:325", after := #[{ on := 4, ground := Ground.data }, { on := 5, ground := Ground.data }], guard := none }, { dst := some 54, op := Op.call { callee := Callee.builtin Builtin.append, args := #[Operand.tmp 50, Operand.tmp 53], argTypes := #[87, 87] }, type := 87, pos := "law.go:325", after := #[{ on := 3, ground := Ground.data }, { on := 6, ground := Ground.data }, { on := 3, ground := Ground.chain }], guard := none }, { dst := some 55, op := Op.call { callee := Callee.value (Operand.func 74), args := #[Operand.tmp 47, Operand.tmp 54], argTypes := #[86, 87] }, type := 94, pos := "law.go:325", after := #[{ on := 0, ground := Ground.data }, { on := 7, ground := Ground.data }, { on := 7, ground := Ground.chain }], guard := none }, { dst := some 46, op := Op.move (Operand.tmp 55), type := 94, pos := "law.go:325", after := #[{ on := 8, ground := Ground.data }], guard := none }, { dst := some 56, op := Op.extract (Operand.tmp 46) 0, type := 92, pos := "law.go:325", after := #[{ on := 9, ground := Ground.data }], guard := none }, { dst := some 57, op := Op.extract (Operand.tmp 46) 1, type := 93, pos := "law.go:325", after := #[{ on := 9, ground := Ground.data }, { on := 15, ground := Ground.gcOnly Departure.lateStores }], guard := none }, { dst := some 58, op := Op.extract (Operand.tmp 46) 2, type := 32, pos := "law.go:325", after := #[{ on := 9, ground := Ground.data }, { on := 16, ground := Ground.gcOnly Departure.lateStores }], guard := none }, { dst := some 12, op := Op.alloc 92, type := 0, pos := "law.go:325", after := #[], guard := none }, { dst := some 14, op := Op.alloc 32, type := 0, pos := "law.go:325", after := #[], guard := none }, { dst := none, op := Op.store 92 (Operand.tmp 12) (Operand.tmp 56), type := 0, pos := "law.go:325", after := #[{ on := 13, ground := Ground.data }, { on := 10, ground := Ground.data }, { on := 8, ground := Ground.chain }, { on := 0, ground := Ground.phase }, { on := 1, ground := Ground.phase }, { on := 2, ground := Ground.phase }, { on := 3, ground := Ground.phase }, { on := 4, ground := Ground.phase }, { on := 5, ground := Ground.phase }, { on := 6, ground := Ground.phase }, { on := 7, ground := Ground.phase }, { on := 8, ground := Ground.phase }, { on := 9, ground := Ground.phase }, { on := 10, ground := Ground.phase }, { on := 11, ground := Ground.textOnly Departure.lateStores }, { on := 12, ground := Ground.textOnly Departure.lateStores }, { on := 13, ground := Ground.phase }, { on := 14, ground := Ground.phase }], guard := none }, { dst := some 13, op := Op.assign (Operand.tmp 57), type := 93, pos := "law.go:325", after := #[{ on := 11, ground := Ground.data }, { on := 15, ground := Ground.chain }, { on := 0, ground := Ground.phase }, { on := 1, ground := Ground.phase }, { on := 2, ground := Ground.phase }, { on := 3, ground := Ground.phase }, { on := 4, ground := Ground.phase }, { on := 5, ground := Ground.phase }, { on := 6, ground := Ground.phase }, { on := 7, ground := Ground.phase }, { on := 8, ground := Ground.phase }, { on := 9, ground := Ground.phase }, { on := 10, ground := Ground.phase }, { on := 11, ground := Ground.phase }, { on := 12, ground := Ground.textOnly Departure.lateStores }, { on := 13, ground := Ground.phase }, { on := 14, ground := Ground.phase }, { on := 15, ground := Ground.phase }], guard := none }, { dst := none, op := Op.store 32 (Operand.tmp 14) (Operand.tmp 58), type := 0, pos := "law.go:325", after := #[{ on := 14, ground := Ground.data }, { on := 12, ground := Ground.data }, { on := 16, ground := Ground.chain }, { on := 0, ground := Ground.phase }, { on := 1, ground := Ground.phase }, { on := 2, ground := Ground.phase }, { on := 3, ground := Ground.phase }, { on := 4, ground := Ground.phase }, { on := 5, ground := Ground.phase }, { on := 6, ground := Ground.phase }, { on := 7, ground := Ground.phase }, { on := 8, ground := Ground.phase }, { on := 9, ground := Ground.phase }, { on := 10, ground := Ground.phase }, { on := 11, ground := Ground.phase }, { on := 12, ground := Ground.phase }, { on := 13, ground := Ground.phase }, { on := 14, ground := Ground.phase }, { on := 15, ground := Ground.phase }, { on := 16, ground := Ground.phase }], guard := none }] true) Q (Act.mk (List.toArray (v0 :: v1 :: y2 :: y3 :: y4 :: y5 :: (.pointer (some ⟨gY, 0, none⟩)) :: (.pointer (some ⟨gX, 0, none⟩)) :: y8 :: y9 :: y10 :: y11 :: y12 :: y13 :: y14 :: y15 :: y16 :: y17 :: y18 :: y19 :: y20 :: y21 :: y22 :: y23 :: y24 :: y25 :: y26 :: y27 :: y28 :: y29 :: y30 :: y31 :: y32 :: y33 :: y34 :: y35 :: y36 :: y37 :: y38 :: y39 :: y40 :: y41 :: y42 :: y43 :: y44 :: y45 :: y46 :: y47 :: y48 :: y49 :: y50 :: y51 :: y52 :: y53 :: y54 :: y55 :: y56 :: y57 :: y58 :: y59 :: y60 :: y61 :: y62 :: y63 :: y64 :: y65 :: y66 :: y67 :: y68 :: y69 :: y70 :: y71 :: y72 :: y73 :: y74 :: y75 :: y76 :: y77 :: y78 :: y79 :: y80 :: y81 :: y82 :: y83 :: y84 :: y85 :: y86 :: y87 :: y88 :: y89 :: y90 :: y91 :: y92 :: y93 :: y94 :: y95 :: y96 :: y97 :: y98 :: y99 :: y100 :: y101 :: y102 :: y103 :: y104 :: y105 :: y106 :: y107 :: y108 :: y109 :: y110 :: y111 :: y112 :: y113 :: y114 :: y115 :: y116 :: y117 :: y118 :: y119 :: y120 :: y121 :: y122 :: y123 :: y124 :: y125 :: y126 :: y127 :: y128 :: y129 :: y130 :: y131 :: [])) ds) w := by
  obtain ⟨raw, hrl, hr1, hrs, hrr⟩ := raw_dobs h1
  obtain ⟨rxy, hrxy⟩ : ∃ r : List Value, r = [.int .i64 x.kind, .int .i64 x.n, .int .i64 x.time, .slice Ax x.entry.length cx, .int .i64 x.seg, .int .i64 x.pos, bv x.turn, .int .i64 y.kind, .int .i64 y.n, .int .i64 y.time, .slice Ay y.entry.length cy, .int .i64 y.seg, .int .i64 y.pos, bv y.turn] := ⟨_, rfl⟩
  have hryl : rxy.length = 14 := by rw [hrxy]; rfl
  have hry1 : ∀ u ∈ rxy, u.oneCell' = true := by
    rw [hrxy]
    intro u hu
    simp only [List.mem_cons, List.not_mem_nil, or_false] at hu
    rcases hu with rfl | rfl | rfl | rfl | rfl | rfl | rfl | rfl | rfl | rfl | rfl | rfl | rfl | rfl <;> rfl
  obtain ⟨i0, hi0, hz0, hz1, hz2⟩ := info_parts info_dob
  have hall2 : Hid (∀ (i : Nat) (d : Dob), (l1 ++ [x, y])[i]? = some d → ∃ ecs, Rp.rd w (fun _ => True) ecs d ∧ ∀ j u, ecs[j]? = some u → (raw ++ rxy)[i * Rp.sz Dob + j]? = some u) := Lib.hid (dobs_two hrl hrr hrxy heX heY)
  have HRXY := Lib.hid hrxy
  clear hrxy
  have hSS : ∀ z : World, Below w.heap.size w z → (z.cell? ⟨gX, 0, none⟩ = some (.int .i64 x.kind) ∧ z.cell? ⟨gX, 1, none⟩ = some (.int .i64 x.n) ∧ z.cell? ⟨gX, 2, none⟩ = some (.int .i64 x.time) ∧ z.cell? ⟨gX, 3, none⟩ = some (.slice Ax x.entry.length cx) ∧ z.cell? ⟨gX, 4, none⟩ = some (.int .i64 x.seg) ∧ z.cell? ⟨gX, 5, none⟩ = some (.int .i64 x.pos) ∧ z.cell? ⟨gX, 6, none⟩ = some (bv x.turn) ∧ z.cell? ⟨gY, 0, none⟩ = some (.int .i64 y.kind) ∧ z.cell? ⟨gY, 1, none⟩ = some (.int .i64 y.n) ∧ z.cell? ⟨gY, 2, none⟩ = some (.int .i64 y.time) ∧ z.cell? ⟨gY, 3, none⟩ = some (.slice Ay y.entry.length cy) ∧ z.cell? ⟨gY, 4, none⟩ = some (.int .i64 y.seg) ∧ z.cell? ⟨gY, 5, none⟩ = some (.int .i64 y.pos) ∧ z.cell? ⟨gY, 6, none⟩ = some (bv y.turn)) := fun z hz => by
    have a1 := hX.below hz hX.lt
    have a2 := hY.below hz hY.lt
    exact ⟨a1.cell 0, a1.cell 1, a1.cell 2, a1.cell 3, a1.cell 4, a1.cell 5, a1.cell 6, a2.cell 0, a2.cell 1, a2.cell 2, a2.cell 3, a2.cell 4, a2.cell 5, a2.cell 6⟩
  have HSS := Lib.hid hSS
  clear hSS
  refine wp_region_held_drew (S := fun z => z.cell? ⟨gX, 0, none⟩ = some (.int .i64 x.kind) ∧ z.cell? ⟨gX, 1, none⟩ = some (.int .i64 x.n) ∧ z.cell? ⟨gX, 2, none⟩ = some (.int .i64 x.time) ∧ z.cell? ⟨gX, 3, none⟩ = some (.slice Ax x.entry.length cx) ∧ z.cell? ⟨gX, 4, none⟩ = some (.int .i64 x.seg) ∧ z.cell? ⟨gX, 5, none⟩ = some (.int .i64 x.pos) ∧ z.cell? ⟨gX, 6, none⟩ = some (bv x.turn) ∧ z.cell? ⟨gY, 0, none⟩ = some (.int .i64 y.kind) ∧ z.cell? ⟨gY, 1, none⟩ = some (.int .i64 y.n) ∧ z.cell? ⟨gY, 2, none⟩ = some (.int .i64 y.time) ∧ z.cell? ⟨gY, 3, none⟩ = some (.slice Ay y.entry.length cy) ∧ z.cell? ⟨gY, 4, none⟩ = some (.int .i64 y.seg) ∧ z.cell? ⟨gY, 5, none⟩ = some (.int .i64 y.pos) ∧ z.cell? ⟨gY, 6, none⟩ = some (bv y.turn)) (by kernel_rfl) ?_ (fun hHeld => ?_)
  · exact HSS.out _ (Below.refl _ _).drew
  refine step_take (i := 0) (v := ?_) rfl (by kernel_rfl) (by kernel_rfl) (by kernel_rfl) (fun c a z h => hQ c a _ _ z h) (by rfl) ?yh0 (by assumption) ?_
  case yh0 => (intro w hSw; (try dsimp only at hSw); go_simp; (try with_reducible rfl))
  try simp only [Act.put, List.setIfInBounds_toArray, List.set_cons_zero, List.set_cons_succ]
  refine step_take (i := 2) (v := ?_) rfl (by kernel_rfl) (by kernel_rfl) (by kernel_rfl) (fun c a z h => hQ c a _ _ z h) (by rfl) ?yh2 (by assumption) ?_
  case yh2 => (intro w hSw; (try dsimp only at hSw); go_simp; (try with_reducible rfl))
  try simp only [Act.put, List.setIfInBounds_toArray, List.set_cons_zero, List.set_cons_succ]
  refine step_take (i := 4) (v := ?_) rfl (by kernel_rfl) (by kernel_rfl) (by kernel_rfl) (fun c a z h => hQ c a _ _ z h) (by rfl) ?yh4 (by assumption) ?_
  case yh4 => (intro w hSw; (try dsimp only at hSw); go_simp; (try with_reducible rfl))
  try simp only [Act.put, List.setIfInBounds_toArray, List.set_cons_zero, List.set_cons_succ]
  refine step_take (i := 5) (v := ?_) rfl (by kernel_rfl) (by kernel_rfl) (by kernel_rfl) (fun c a z h => hQ c a _ _ z h) (by rfl) ?yh5 (by assumption) ?_
  case yh5 => (intro w hSw; (try dsimp only at hSw); go_simp; (try with_reducible rfl))
  try simp only [Act.put, List.setIfInBounds_toArray, List.set_cons_zero, List.set_cons_succ]
  refine wpAnyH_all (by kernel_rfl) (fun l a z => ∃ (s : Nat) (b6 b9 b10 b11 b12 b13 b14 b15 b16 b17 : Bool) (x9 x10 x11 x33 x35 x37 x40 x41 x42 x43 x44 x45 : Value) (As Ab Aa : Option Addr) (cs cb ca : Nat) (FC : Nat → Prop), l = #[true, decide (1 ≤ s), true, decide (2 ≤ s), true, true, b6, decide (3 ≤ s), decide (4 ≤ s), b9, b10, b11, b12, b13, b14, b15, b16, b17] ∧ a = (Act.mk (List.toArray (v0 :: v1 :: y2 :: y3 :: y4 :: y5 :: (.pointer (some ⟨gY, 0, none⟩)) :: (.pointer (some ⟨gX, 0, none⟩)) :: y8 :: y9 :: y10 :: y11 :: x9 :: x10 :: x11 :: y15 :: y16 :: y17 :: y18 :: y19 :: y20 :: y21 :: y22 :: y23 :: y24 :: y25 :: y26 :: y27 :: y28 :: y29 :: y30 :: y31 :: y32 :: y33 :: y34 :: y35 :: y36 :: y37 :: y38 :: y39 :: y40 :: y41 :: y42 :: y43 :: y44 :: y45 :: x33 :: v0 :: x35 :: v1 :: x37 :: (.agg #[.int .i64 x.kind, .int .i64 x.n, .int .i64 x.time, .slice Ax x.entry.length cx, .int .i64 x.seg, .int .i64 x.pos, bv x.turn]) :: (.agg #[.int .i64 y.kind, .int .i64 y.n, .int .i64 y.time, .slice Ay y.entry.length cy, .int .i64 y.seg, .int .i64 y.pos, bv y.turn]) :: x40 :: x41 :: x42 :: x43 :: x44 :: x45 :: y59 :: y60 :: y61 :: y62 :: y63 :: y64 :: y65 :: y66 :: y67 :: y68 :: y69 :: y70 :: y71 :: y72 :: y73 :: y74 :: y75 :: y76 :: y77 :: y78 :: y79 :: y80 :: y81 :: y82 :: y83 :: y84 :: y85 :: y86 :: y87 :: y88 :: y89 :: y90 :: y91 :: y92 :: y93 :: y94 :: y95 :: y96 :: y97 :: y98 :: y99 :: y100 :: y101 :: y102 :: y103 :: y104 :: y105 :: y106 :: y107 :: y108 :: y109 :: y110 :: y111 :: y112 :: y113 :: y114 :: y115 :: y116 :: y117 :: y118 :: y119 :: y120 :: y121 :: y122 :: y123 :: y124 :: y125 :: y126 :: y127 :: y128 :: y129 :: y130 :: y131 :: [])) ds) ∧ s ≤ 4 ∧ (3 ≤ s → b6 = true) ∧ (b9 = true → s = 4 ∧ x33 = (.tuple #[.agg #[(.slice As f.sh.length cs), (.slice Ab f.book.length cb)], (.slice Aa la.length ca), .agg #[.int .i64 (fa : Int), .int .i64 (fb : Int)]])) ∧ (b10 = true → s = 4 ∧ x43 = .agg #[(.slice As f.sh.length cs), (.slice Ab f.book.length cb)]) ∧ (b11 = true → s = 4 ∧ x44 = (.slice Aa la.length ca)) ∧ (b12 = true → s = 4 ∧ x45 = .agg #[.int .i64 (fa : Int), .int .i64 (fb : Int)]) ∧ (b15 = true → s = 4 ∧ b13 = true) ∧ (b16 = true → s = 4 ∧ x10 = (.slice Aa la.length ca)) ∧ (b17 = true → s = 4 ∧ b14 = true) ∧
      CA z w.heap.size l1.length raw rxy s x35 x37 x41 x42 (.tuple #[.agg #[(.slice As f.sh.length cs), (.slice Ab f.book.length cb)], (.slice Aa la.length ca), .agg #[.int .i64 (fa : Int), .int .i64 (fb : Int)]]) ∧ CB z w.heap.size rxy b6 s x35 x37 x40 ∧ CR z f la s FC (.slice As f.sh.length cs) (.slice Ab f.book.length cb) (.slice Aa la.length ca) ∧ CZ z w.heap.size b13 s FC x9 92 (if b15 then #[(.slice As f.sh.length cs), (.slice Ab f.book.length cb)] else #[.slice none 0 0, .slice none 0 0]) ∧ CZ z w.heap.size b14 s FC x11 32 (if b17 then #[.int .i64 (fa : Int), .int .i64 (fb : Int)] else #[.int .i64 0, .int .i64 0]) ∧ Below w.heap.size w z) (fun l a z hT => ?S_) (fun l a z i hT hi => ?step_) (fun l a z hT hall => ?end_) _ _ _ _ ?init_ (of_decide_eq_true (by kernel_rfl))
  case S_ =>
    obtain ⟨s, b6, b9, b10, b11, b12, b13, b14, b15, b16, b17, x9, x10, x11, x33, x35, x37, x40, x41, x42, x43, x44, x45, As, Ab, Aa, cs, cb, ca, FC, rfl, rfl, hs4, h36, h9, h10, h11, h12, h15, h16, h17, cA, cB, cR, cZ9, cZ11, hB⟩ := hT
    exact HSS.out z hB
  case init_ =>
    exact ⟨0, false, false, false, false, false, false, false, false, false, false, y12, y13, y14, y46, y48, y50, y53, y54, y55, y56, y57, y58, none, none, none, 0, 0, 0, fun _ => False, by kernel_rfl, rfl, by decide, (fun h => absurd h (by decide)), (fun h => absurd h (by decide)), (fun h => absurd h (by decide)), (fun h => absurd h (by decide)), (fun h => absurd h (by decide)), (fun h => absurd h (by decide)), (fun h => absurd h (by decide)), (fun h => absurd h (by decide)), ⟨(fun h => absurd h (by decide)), (fun h => absurd h (by decide)), (fun h => absurd h (by decide)), (fun h => absurd h (by decide))⟩, (fun h => absurd h (by decide)), (fun h => absurd h (by decide)), (fun h => absurd h (by decide)), (fun h => absurd h (by decide)), (Below.refl _ _).drew⟩
  case end_ =>
    obtain ⟨s, b6, b9, b10, b11, b12, b13, b14, b15, b16, b17, x9, x10, x11, x33, x35, x37, x40, x41, x42, x43, x44, x45, As, Ab, Aa, cs, cb, ca, FC, rfl, rfl, hs4, h36, h9, h10, h11, h12, h15, h16, h17, cA, cB, cR, cZ9, cZ11, hB⟩ := hT
    have f4 : decide (4 ≤ s) = true := hall 8 (by decide)
    obtain rfl : s = 4 := by have := of_decide_eq_true f4; omega
    have f109 : b9 = true := hall 9 (by decide)
    have f113 : b13 = true := hall 13 (by decide)
    have f114 : b14 = true := hall 14 (by decide)
    have f115 : b15 = true := hall 15 (by decide)
    have f116 : b16 = true := hall 16 (by decide)
    have f117 : b17 = true := hall 17 (by decide)
    subst f109 f113 f114 f115 f116 f117
    obtain ⟨g9, e9, k9, n9, z9⟩ := cZ9 rfl
    obtain ⟨g11, e11, k11, n11, z11⟩ := cZ11 rfl
    obtain ⟨r1, r2, r3, r4⟩ := cR rfl
    exact hend x9 x10 x11 x33 x35 x37 x40 x41 x42 x43 x44 x45 As Ab Aa cs cb ca g9 g11 FC z e9 (h16 rfl).2 e11 k9 k11 z9 z11 r1 r2 r3 (n9 rfl) (n11 rfl) r4 hB
  case step_ =>
    obtain ⟨s, b6, b9, b10, b11, b12, b13, b14, b15, b16, b17, x9, x10, x11, x33, x35, x37, x40, x41, x42, x43, x44, x45, As, Ab, Aa, cs, cb, ca, FC, rfl, rfl, hs4, h36, h9, h10, h11, h12, h15, h16, h17, cA, cB, cR, cZ9, cZ11, hB⟩ := hT
    have hi18 : i < 18 := (ready_lt hi).1
    rcases (show i = 0 ∨ i = 1 ∨ i = 2 ∨ i = 3 ∨ i = 4 ∨ i = 5 ∨ i = 6 ∨ i = 7 ∨ i = 8 ∨ i = 9 ∨ i = 10 ∨ i = 11 ∨ i = 12 ∨ i = 13 ∨ i = 14 ∨ i = 15 ∨ i = 16 ∨ i = 17 by omega) with rfl | rfl | rfl | rfl | rfl | rfl | rfl | rfl | rfl | rfl | rfl | rfl | rfl | rfl | rfl | rfl | rfl | rfl
    · skip
      exact Bool.noConfusion (show true = false from (mem_ready.1 hi).1)
    · skip
      have hf := ready_flags hi rfl
      have hn := hf.1
      obtain rfl : s = 0 := by have h : decide (1 ≤ s) = false := hn; have := of_decide_eq_false h; omega
      refine duty rfl rfl (fun K hK => ?_)
      go_simp
      refine hK _ _ ⟨1, b6, b9, b10, b11, b12, b13, b14, b15, b16, b17, x9, x10, x11, x33, _, x37, x40, x41, x42, x43, x44, x45, As, Ab, Aa, cs, cb, ca, FC, rfl, rfl, by decide, (fun h => absurd h (by decide)), (fun h => absurd (h9 h).1 (by decide)), (fun h => absurd (h10 h).1 (by decide)), (fun h => absurd (h11 h).1 (by decide)), (fun h => absurd (h12 h).1 (by decide)), (fun h => absurd (h15 h).1 (by decide)), (fun h => absurd (h16 h).1 (by decide)), (fun h => absurd (h17 h).1 (by decide)), ⟨fun _ => own_empty z _ hB.size, (fun h => absurd h (by decide)), (fun h => absurd h (by decide)), (fun h => absurd h (by decide))⟩, fun e1 _ => ?_, (fun h => absurd h (by decide)), (cZ9.below (below_alloc z _)).fit (by decide), (cZ11.below (below_alloc z _)).fit (by decide), hB.alloc hB.size _⟩
      obtain ⟨g, q1, q2, q3, _, _⟩ := cB e1 (by decide)
      exact ⟨g, q1, q2, q3.alloc _, fun _ h => (by have := q3.lt; injection h with h; have h2 : z.heap.size = g := h; omega), fun h => absurd h (by decide)⟩
    · skip
      exact Bool.noConfusion (show true = false from (mem_ready.1 hi).1)
    · skip
      have hf := ready_flags hi rfl
      have hn := hf.1
      have d1 := hf.2 _ (Array.mem_of_getElem? (i := 0) rfl) rfl
      obtain rfl : s = 1 := by have h : decide (2 ≤ s) = false := hn; have h2 : decide (1 ≤ s) = true := d1; have := of_decide_eq_false h; have := of_decide_eq_true h2; omega
      refine duty rfl rfl (fun K hK => ?_)
      refine wp_append_Own z (.tmp 48) (.tmp 49) 87 (by rfl) w.heap.size 111 i0 _ 7 72 Try.underlying87 hi0 hz0 hz1 hz2 (by rfl) (by omega) x35 0 [] (by rfl) (cA.1 rfl) (fun _ => True) v1 l1.length raw (by rfl) (SlAt.below hrs hB) hr1 (by simp [maxLen]; omega) (by omega) hB.size ?_
      intro v2 z2 hown2 hgr2 hat2
      rw [Nat.zero_add, List.nil_append] at hown2
      refine hK _ _ ⟨2, b6, b9, b10, b11, b12, b13, b14, b15, b16, b17, x9, x10, x11, x33, x35, v2, x40, x41, x42, x43, x44, x45, As, Ab, Aa, cs, cb, ca, FC, rfl, rfl, by decide, (fun h => absurd h (by decide)), (fun h => absurd (h9 h).1 (by decide)), (fun h => absurd (h10 h).1 (by decide)), (fun h => absurd (h11 h).1 (by decide)), (fun h => absurd (h12 h).1 (by decide)), (fun h => absurd (h15 h).1 (by decide)), (fun h => absurd (h16 h).1 (by decide)), (fun h => absurd (h17 h).1 (by decide)), ⟨(fun h => absurd h (by decide)), fun _ => hown2, (fun h => absurd h (by decide)), (fun h => absurd h (by decide))⟩, fun e1 _ => ?_, (fun h => absurd h (by decide)), cZ9.grown (cA.1 rfl) hgr2 (by decide) (by decide), cZ11.grown (cA.1 rfl) hgr2 (by decide) (by decide), hB.grown hgr2 hB.size (fun k hk => (Own.lt (cA.1 rfl) k hk).1)⟩
      obtain ⟨g, q1, q2, q3, q4, _⟩ := cB e1 (by decide)
      refine ⟨g, q1, q2, q3.keep (hgr2.block g q3.lt (fun h => q4 rfl h.symm)), fun h => absurd h (by decide), fun _ h => ?_⟩
      rcases hat2 with h2 | h2
      · exact q4 rfl (h2.symm.trans h)
      · rw [h2] at h; have := q3.lt; injection h with h; omega
    · skip
      exact Bool.noConfusion (show true = false from (mem_ready.1 hi).1)
    · skip
      exact Bool.noConfusion (show true = false from (mem_ready.1 hi).1)
    · skip
      have hf := ready_flags hi rfl
      have hn := hf.1
      have hb6 : b6 = false := hn
      have hs3 : s < 3 := by rcases Nat.lt_or_ge s 3 with h | h; exact h; exact absurd (h36 h) (by rw [hb6]; decide)
      refine duty rfl rfl (fun K hK => ?_)
      go_simp
      refine hK _ _ ⟨s, true, b9, b10, b11, b12, b13, b14, b15, b16, b17, x9, x10, x11, x33, x35, x37, _, x41, x42, x43, x44, x45, As, Ab, Aa, cs, cb, ca, FC, rfl, rfl, hs4, (fun _ => rfl), h9, h10, h11, h12, h15, h16, h17, cA.below (below_alloc z _), fun _ _ => ?_, cR.below (below_alloc z _), cZ9.below (below_alloc z _), cZ11.below (below_alloc z _), hB.alloc hB.size _⟩
      refine ⟨z.heap.size, rfl, hB.size, by rw [HRXY.out]; exact heap_alloc_new z _, fun e h => ?_, fun e h => ?_⟩
      · exact Nat.lt_irrefl _ (Own.lt (cA.1 e) _ h).2
      · exact Nat.lt_irrefl _ (Own.lt (cA.2.1 e) _ h).2
    · skip
      have hf := ready_flags hi rfl
      have hn := hf.1
      have d3 := hf.2 _ (Array.mem_of_getElem? (i := 0) rfl) rfl
      have d6 := hf.2 _ (Array.mem_of_getElem? (i := 1) rfl) rfl
      obtain rfl : s = 2 := by have h : decide (3 ≤ s) = false := hn; have h2 : decide (2 ≤ s) = true := d3; have := of_decide_eq_false h; have := of_decide_eq_true h2; omega
      have hb6 : b6 = true := d6
      obtain ⟨g, q1, q2, q3, _, q5⟩ := cB hb6 (by decide)
      subst q1
      refine duty rfl rfl (fun K hK => ?_)
      refine wp_append_Own z (.tmp 50) (.tmp 53) 87 (by rfl) w.heap.size 111 i0 _ 7 72 Try.underlying87 hi0 hz0 hz1 hz2 (by rfl) (by omega) x37 l1.length raw (by rfl) (cA.2.1 rfl) (fun k => k = g) (.slice (some ⟨g, 0, none⟩) 2 2) 2 rxy (by rfl) (blk_slat q3 hryl) hry1 (by simp [maxLen]; omega) (by omega) hB.size ?_
      intro v2 z2 hown2 hgr2 hat2
      exact hK _ _ ⟨3, b6, b9, b10, b11, b12, b13, b14, b15, b16, b17, x9, x10, x11, x33, x35, x37, _, v2, x42, x43, x44, x45, As, Ab, Aa, cs, cb, ca, FC, rfl, rfl, by decide, (fun _ => hb6), (fun h => absurd (h9 h).1 (by decide)), (fun h => absurd (h10 h).1 (by decide)), (fun h => absurd (h11 h).1 (by decide)), (fun h => absurd (h12 h).1 (by decide)), (fun h => absurd (h15 h).1 (by decide)), (fun h => absurd (h16 h).1 (by decide)), (fun h => absurd (h17 h).1 (by decide)), ⟨(fun h => absurd h (by decide)), (fun h => absurd h (by decide)), fun _ => hown2, (fun h => absurd h (by decide))⟩, (fun _ h => absurd h (by decide)), (fun h => absurd h (by decide)), cZ9.grown (cA.2.1 rfl) hgr2 (by decide) (by decide), cZ11.grown (cA.2.1 rfl) hgr2 (by decide) (by decide), hB.grown hgr2 hB.size (fun k hk => (Own.lt (cA.2.1 rfl) k hk).1)⟩
    · skip
      have hf := ready_flags hi rfl
      have hn := hf.1
      have d7 := hf.2 _ (Array.mem_of_getElem? (i := 1) rfl) rfl
      obtain rfl : s = 3 := by have h : decide (4 ≤ s) = false := hn; have h2 : decide (3 ≤ s) = true := d7; have := of_decide_eq_false h; have := of_decide_eq_true h2; omega
      have hb15 : b15 = false := by cases b15 with | false => rfl | true => exact absurd (h15 rfl).1 (by decide)
      have hb17 : b17 = false := by cases b17 with | false => rfl | true => exact absurd (h17 rfl).1 (by decide)
      subst hb15 hb17
      have hown := cA.2.2.1 rfl
      have hrd : RdL z (fun _ => True) x41 (l1 ++ [x, y]) := by
        refine OwnR.rd (B := w.heap.size) (e := 111) (F := fun _ => True) ⟨raw ++ rxy, by rw [List.length_append]; exact hown, fun i d hd => ?_⟩ (fun _ _ => trivial)
        obtain ⟨ecs, he, hj⟩ := hall2.out i d hd
        exact ⟨ecs, Rp.below he hB, hj⟩
      have hpl2 := play_any z _ _ v0 x41 l0 (l1 ++ [x, y]) (h0.below hB) hrd
      rw [hpl] at hpl2
      have HPL2 := Lib.hid hpl2
      clear hpl2
      refine duty rfl rfl (fun K hK => ?_)
      go_simp
      refine HPL2.out.mono ?_
      rintro e2 z2 ⟨vs, vb, va, rfl, q1, q2, q3, hx⟩
      simp only at q1 q2 q3 ⊢
      obtain ⟨As2, cs2, hvs, _⟩ := q1.form
      obtain ⟨Ab2, cb2, hvb, _⟩ := q2.form
      obtain ⟨Aa2, ca2, hva, _⟩ := q3.form
      subst hvs hvb hva
      replace q1 := q1.weak (F' := fun k => z.heap.size ≤ k ∧ k < z2.heap.size) (fun k h1 h2 => ⟨h2, h1⟩)
      replace q2 := q2.weak (F' := fun k => z.heap.size ≤ k ∧ k < z2.heap.size) (fun k h1 h2 => ⟨h2, h1⟩)
      replace q3 := q3.weak (F' := fun k => z.heap.size ≤ k ∧ k < z2.heap.size) (fun k h1 h2 => ⟨h2, h1⟩)
      have ncZ9 : CZ z2 w.heap.size b13 4 (fun k => z.heap.size ≤ k ∧ k < z2.heap.size) x9 92 #[.slice none 0 0, .slice none 0 0] := fun e => by
        obtain ⟨g, p1, p2, _, p4⟩ := cZ9 e
        exact ⟨g, p1, p2, fun _ h => Nat.lt_irrefl _ (Nat.lt_of_lt_of_le p4.lt h.1), p4.below hx p4.lt⟩
      have ncZ11 : CZ z2 w.heap.size b14 4 (fun k => z.heap.size ≤ k ∧ k < z2.heap.size) x11 32 #[.int .i64 0, .int .i64 0] := fun e => by
        obtain ⟨g, p1, p2, _, p4⟩ := cZ11 e
        exact ⟨g, p1, p2, fun _ h => Nat.lt_irrefl _ (Nat.lt_of_lt_of_le p4.lt h.1), p4.below hx p4.lt⟩
      exact hK _ _ ⟨4, b6, b9, b10, b11, b12, b13, b14, false, b16, false, x9, x10, x11, x33, x35, x37, x40, x41, _, x43, x44, x45, As2, Ab2, Aa2, cs2, cb2, ca2, (fun k => z.heap.size ≤ k ∧ k < z2.heap.size), rfl, rfl, by decide, (fun _ => h36 (by decide)), (fun h => absurd (h9 h).1 (by decide)), (fun h => absurd (h10 h).1 (by decide)), (fun h => absurd (h11 h).1 (by decide)), (fun h => absurd (h12 h).1 (by decide)), (fun h => absurd (h15 h).1 (by decide)), (fun h => absurd (h16 h).1 (by decide)), (fun h => absurd (h17 h).1 (by decide)), ⟨(fun h => absurd h (by decide)), (fun h => absurd h (by decide)), (fun h => absurd h (by decide)), fun _ => rfl⟩, (fun _ h => absurd h (by decide)), (fun _ => ⟨q1, q2, q3, fun k h => h.2⟩), ncZ9, ncZ11, hB.trans (hx.mono hB.size)⟩
    · skip
      have hf := ready_flags hi rfl
      have hn := hf.1
      have d8 := hf.2 _ (Array.mem_of_getElem? (i := 0) rfl) rfl
      obtain rfl : s = 4 := by have h : decide (4 ≤ s) = true := d8; have := of_decide_eq_true h; omega
      have hx42 := cA.2.2.2 rfl
      subst hx42
      refine duty rfl rfl (fun K hK => ?_)
      go_simp
      exact hK _ _ ⟨4, b6, true, b10, b11, b12, b13, b14, b15, b16, b17, x9, x10, x11, _, x35, x37, x40, x41, _, x43, x44, x45, As, Ab, Aa, cs, cb, ca, FC, rfl, rfl, hs4, h36, (fun _ => ⟨rfl, rfl⟩), h10, h11, h12, h15, h16, h17, cA, cB, cR, cZ9, cZ11, hB⟩
    · skip
      have hf := ready_flags hi rfl
      have hn := hf.1
      have d9 := hf.2 _ (Array.mem_of_getElem? (i := 0) rfl) rfl
      have hb9 : b9 = true := d9
      obtain ⟨hs, hx33⟩ := h9 hb9
      subst hs hx33
      refine duty rfl rfl (fun K hK => ?_)
      go_simp
      exact hK _ _ ⟨4, b6, b9, true, b11, b12, b13, b14, b15, b16, b17, x9, x10, x11, _, x35, x37, x40, x41, x42, _, x44, x45, As, Ab, Aa, cs, cb, ca, FC, rfl, rfl, hs4, h36, h9, (fun _ => ⟨rfl, rfl⟩), h11, h12, h15, h16, h17, cA, cB, cR, cZ9, cZ11, hB⟩
    · skip
      have hf := ready_flags hi rfl
      have hn := hf.1
      have d9 := hf.2 _ (Array.mem_of_getElem? (i := 0) rfl) rfl
      have hb9 : b9 = true := d9
      obtain ⟨hs, hx33⟩ := h9 hb9
      subst hs hx33
      refine duty rfl rfl (fun K hK => ?_)
      go_simp
      exact hK _ _ ⟨4, b6, b9, b10, true, b12, b13, b14, b15, b16, b17, x9, x10, x11, _, x35, x37, x40, x41, x42, x43, _, x45, As, Ab, Aa, cs, cb, ca, FC, rfl, rfl, hs4, h36, h9, h10, (fun _ => ⟨rfl, rfl⟩), h12, h15, h16, h17, cA, cB, cR, cZ9, cZ11, hB⟩
    · skip
      have hf := ready_flags hi rfl
      have hn := hf.1
      have d9 := hf.2 _ (Array.mem_of_getElem? (i := 0) rfl) rfl
      have hb9 : b9 = true := d9
      obtain ⟨hs, hx33⟩ := h9 hb9
      subst hs hx33
      refine duty rfl rfl (fun K hK => ?_)
      go_simp
      exact hK _ _ ⟨4, b6, b9, b10, b11, true, b13, b14, b15, b16, b17, x9, x10, x11, _, x35, x37, x40, x41, x42, x43, x44, _, As, Ab, Aa, cs, cb, ca, FC, rfl, rfl, hs4, h36, h9, h10, h11, (fun _ => ⟨rfl, rfl⟩), h15, h16, h17, cA, cB, cR, cZ9, cZ11, hB⟩
    · skip
      have hf := ready_flags hi rfl
      have hn := hf.1
      have hb : b13 = false := hn
      have hbb : b15 = false := by cases hq : b15 with | false => rfl | true => exact absurd (h15 hq).2 (by rw [hb]; decide)
      subst hb hbb
      refine duty rfl rfl (fun K hK => ?_)
      go_simp
      exact hK _ _ ⟨s, b6, b9, b10, b11, b12, true, b14, false, b16, b17, _, x10, x11, x33, x35, x37, x40, x41, x42, x43, x44, x45, As, Ab, Aa, cs, cb, ca, FC, rfl, rfl, hs4, h36, h9, h10, h11, h12, (fun h => absurd h (by decide)), h16, h17, cA.below (below_alloc z _), cB.below (below_alloc z _), cR.below (below_alloc z _), CZ.new hB.size (fun e k hk => (cR e).2.2.2 k hk) _ _, cZ11.below (below_alloc z _), hB.alloc hB.size _⟩
    · skip
      have hf := ready_flags hi rfl
      have hn := hf.1
      have hb : b14 = false := hn
      have hbb : b17 = false := by cases hq : b17 with | false => rfl | true => exact absurd (h17 hq).2 (by rw [hb]; decide)
      subst hb hbb
      refine duty rfl rfl (fun K hK => ?_)
      go_simp
      exact hK _ _ ⟨s, b6, b9, b10, b11, b12, b13, true, b15, b16, false, x9, x10, _, x33, x35, x37, x40, x41, x42, x43, x44, x45, As, Ab, Aa, cs, cb, ca, FC, rfl, rfl, hs4, h36, h9, h10, h11, h12, h15, h16, (fun h => absurd h (by decide)), cA.below (below_alloc z _), cB.below (below_alloc z _), cR.below (below_alloc z _), cZ9.below (below_alloc z _), CZ.new hB.size (fun e k hk => (cR e).2.2.2 k hk) _ _, hB.alloc hB.size _⟩
    · skip
      have hf := ready_flags hi rfl
      have hn := hf.1
      have d13 := hf.2 _ (Array.mem_of_getElem? (i := 0) rfl) rfl
      have d10 := hf.2 _ (Array.mem_of_getElem? (i := 1) rfl) rfl
      have hc : b13 = true := d13
      have hm : b10 = true := d10
      have hb : b15 = false := hn
      subst hb
      obtain ⟨hs, hy⟩ := h10 hm
      subst hs hy
      obtain ⟨g, q1, q2, q3, q4⟩ := cZ9 hc
      subst q1
      replace q4 : Blk z g 92 #[.slice none 0 0, .slice none 0 0] := q4
      obtain ⟨r1, r2, r3, r4⟩ := cR rfl
      have e0 : z.cell? ⟨g, 0, none⟩ = some (.slice none 0 0) := q4.cell 0
      have e1 : z.cell? ⟨g, 1, none⟩ = some (.slice none 0 0) := q4.cell 1
      have g0 := q4.frozen 0
      have g1 := q4.frozen 1
      refine duty rfl rfl (fun K hK => ?_)
      go_simp
      have nR : ∀ {α : Type} [Rp α] {v : Value} {l : List α}, RdL z FC v l → RdL ((z.setCell ⟨g, 0, none⟩ (.slice As f.sh.length cs)).setCell ⟨g, 1, none⟩ (.slice Ab f.book.length cb)) FC v l := fun h => (h.setCell (p := ⟨g, 0, none⟩) (q3 rfl) _).setCell (p := ⟨g, 1, none⟩) (q3 rfl) _
      have nO : CZ ((z.setCell ⟨g, 0, none⟩ (.slice As f.sh.length cs)).setCell ⟨g, 1, none⟩ (.slice Ab f.book.length cb)) w.heap.size b14 4 FC x11 32 (if b17 then #[.int .i64 (fa : Int), .int .i64 (fb : Int)] else #[.int .i64 0, .int .i64 0]) := fun e => by
        obtain ⟨k, p1, p2, p3, p4⟩ := cZ11 e
        exact ⟨k, p1, p2, p3, p4.far2 (blk_ne p4 q4 (by decide)) _ _⟩
      exact hK _ _ ⟨4, b6, b9, b10, b11, b12, b13, b14, true, b16, b17, _, x10, x11, x33, x35, x37, x40, x41, x42, _, x44, x45, As, Ab, Aa, cs, cb, ca, FC, rfl, rfl, hs4, h36, h9, (fun _ => ⟨rfl, rfl⟩), h11, h12, (fun _ => ⟨rfl, hc⟩), h16, h17, ⟨(fun h => absurd h (by decide)), (fun h => absurd h (by decide)), (fun h => absurd h (by decide)), cA.2.2.2⟩, (fun _ h => absurd h (by decide)), (fun _ => ⟨nR r1, nR r2, nR r3, fun k hk => by simpa using r4 k hk⟩), (fun _ => ⟨g, rfl, q2, q3, q4.set2 _ _⟩), nO, below_set2 hB q2 _ _⟩
    · skip
      have hf := ready_flags hi rfl
      have hn := hf.1
      have d11 := hf.2 _ (Array.mem_of_getElem? (i := 0) rfl) rfl
      have hm : b11 = true := d11
      obtain ⟨hs, hy⟩ := h11 hm
      subst hs hy
      refine duty rfl rfl (fun K hK => ?_)
      go_simp
      exact hK _ _ ⟨4, b6, b9, b10, b11, b12, b13, b14, b15, true, b17, x9, _, x11, x33, x35, x37, x40, x41, x42, x43, _, x45, As, Ab, Aa, cs, cb, ca, FC, rfl, rfl, hs4, h36, h9, h10, (fun _ => ⟨rfl, rfl⟩), h12, h15, (fun _ => ⟨rfl, rfl⟩), h17, cA, cB, cR, cZ9, cZ11, hB⟩
    · skip
      have hf := ready_flags hi rfl
      have hn := hf.1
      have d14 := hf.2 _ (Array.mem_of_getElem? (i := 0) rfl) rfl
      have d12 := hf.2 _ (Array.mem_of_getElem? (i := 1) rfl) rfl
      have hc : b14 = true := d14
      have hm : b12 = true := d12
      have hb : b17 = false := hn
      subst hb
      obtain ⟨hs, hy⟩ := h12 hm
      subst hs hy
      obtain ⟨g, q1, q2, q3, q4⟩ := cZ11 hc
      subst q1
      replace q4 : Blk z g 32 #[.int .i64 0, .int .i64 0] := q4
      obtain ⟨r1, r2, r3, r4⟩ := cR rfl
      have e0 : z.cell? ⟨g, 0, none⟩ = some (.int .i64 0) := q4.cell 0
      have e1 : z.cell? ⟨g, 1, none⟩ = some (.int .i64 0) := q4.cell 1
      have g0 := q4.frozen 0
      have g1 := q4.frozen 1
      refine duty rfl rfl (fun K hK => ?_)
      go_simp
      have nR : ∀ {α : Type} [Rp α] {v : Value} {l : List α}, RdL z FC v l → RdL ((z.setCell ⟨g, 0, none⟩ (.int .i64 (fa : Int))).setCell ⟨g, 1, none⟩ (.int .i64 (fb : Int))) FC v l := fun h => (h.setCell (p := ⟨g, 0, none⟩) (q3 rfl) _).setCell (p := ⟨g, 1, none⟩) (q3 rfl) _
      have nO : CZ ((z.setCell ⟨g, 0, none⟩ (.int .i64 (fa : Int))).setCell ⟨g, 1, none⟩ (.int .i64 (fb : Int))) w.heap.size b13 4 FC x9 92 (if b15 then #[.slice As f.sh.length cs, .slice Ab f.book.length cb] else #[.slice none 0 0, .slice none 0 0]) := fun e => by
        obtain ⟨k, p1, p2, p3, p4⟩ := cZ9 e
        exact ⟨k, p1, p2, p3, p4.far2 (blk_ne p4 q4 (by decide)) _ _⟩
      exact hK _ _ ⟨4, b6, b9, b10, b11, b12, b13, b14, b15, b16, true, x9, x10, _, x33, x35, x37, x40, x41, x42, x43, x44, _, As, Ab, Aa, cs, cb, ca, FC, rfl, rfl, hs4, h36, h9, h10, h11, (fun _ => ⟨rfl, rfl⟩), h15, h16, (fun _ => ⟨rfl, hc⟩), ⟨(fun h => absurd h (by decide)), (fun h => absurd h (by decide)), (fun h => absurd h (by decide)), cA.2.2.2⟩, (fun _ h => absurd h (by decide)), (fun _ => ⟨nR r1, nR r2, nR r3, fun k hk => by simpa using r4 k hk⟩), nO, (fun _ => ⟨g, rfl, q2, q3, q4.set2 _ _⟩), below_set2 hB q2 _ _⟩
end Go.Proofs.Ytfdibjgmbdkbcaa
