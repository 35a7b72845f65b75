/-
  Words for memory, no program: what a slice reads as; a row of the call's own, whatever its offset; a world that has changed in some blocks alone. No conditions.
-/
import Derived.Below
import Derived.Laws.OwnMore
import Derived.Laws.Rows
import Derived.Deep.Draws
import Derived.OwnWalk
import Derived.ArgAppend
import Derived.Lib.Hide
import Derived.Test.YtfdibjgmbdkbcaaSha
namespace Go.Proofs.Ytfdibjgmbdkbcaa
open Go.RowKit

def bv (b : UInt8) : Value := .int .u8 (b.toNat : Int)

theorem bv_def (b : UInt8) : bv b = .int .u8 (b.toNat : Int) := rfl
theorem bv_oneCell (b : UInt8) : (bv b).oneCell' = true := rfl

theorem u8_bne {x y : UInt8} (h : x ≠ y) : ((x.toNat : Int) != (y.toNat : Int)) = true := by
  rw [bne_iff_ne]; intro e; exact h (UInt8.toNat_inj.1 (by omega))
theorem u8_bne_not {x y : UInt8} (h : x = y) : ((x.toNat : Int) != (y.toNat : Int)) = false := by rw [h]; simp
theorem u8_beq {x y : UInt8} (h : x = y) : ((x.toNat : Int) == (y.toNat : Int)) = true := by rw [h]; simp
theorem u8_beq_not {x y : UInt8} (h : x ≠ y) : ((x.toNat : Int) == (y.toNat : Int)) = false := by
  rw [beq_eq_false_iff_ne]; intro e; exact h (UInt8.toNat_inj.1 (by omega))
theorem nat_bne {x y : Nat} (h : x ≠ y) : ((x : Int) != (y : Int)) = true := by rw [bne_iff_ne]; omega
theorem nat_bne_not {x y : Nat} (h : x = y) : ((x : Int) != (y : Int)) = false := by rw [h]; simp
theorem nat_beq {x y : Nat} (h : x = y) : ((x : Int) == (y : Int)) = true := by rw [h]; simp
theorem nat_beq_not {x y : Nat} (h : x ≠ y) : ((x : Int) == (y : Int)) = false := by rw [beq_eq_false_iff_ne]; omega

/-- A world that has changed in the blocks of S alone, and in new ones. -/
structure Ch (S : Nat → Prop) (w w' : World) : Prop where
  os : w'.os = w.os
  tape : w'.tape = w.tape
  output : w'.output = w.output
  size : w.heap.size ≤ w'.heap.size
  block : ∀ k, k < w.heap.size → ¬ S k → w'.heap[k]? = w.heap[k]?

section
variable {S S' : Nat → Prop} {w w' w'' : World}
theorem Ch.refl (S : Nat → Prop) (w : World) : Ch S w w := ⟨rfl, rfl, rfl, Nat.le_refl _, fun _ _ _ => rfl⟩
theorem Ch.trans (h : Ch S w w') (h' : Ch S' w' w'') (hs : ∀ k, k < w.heap.size → S' k → S k) : Ch S w w'' :=
  ⟨h'.os.trans h.os, h'.tape.trans h.tape, h'.output.trans h.output, Nat.le_trans h.size h'.size,
    fun k hk hn => (h'.block k (Nat.lt_of_lt_of_le hk h.size) (fun hx => hn (hs k hk hx))).trans (h.block k hk hn)⟩
theorem Ch.mono (h : Ch S w w') (hs : ∀ k, k < w.heap.size → S k → S' k) : Ch S' w w' :=
  ⟨h.os, h.tape, h.output, h.size, fun k hk hn => h.block k hk (fun hx => hn (hs k hk hx))⟩
theorem Ch.drew (h : Ch S w w') : Ch S w w'.drew := ⟨h.os, h.tape, h.output, h.size, h.block⟩
theorem Ch.drewN (h : Ch S w w') (n : Nat) : Ch S w (w'.drewN n) := ⟨h.os, h.tape, h.output, h.size, h.block⟩
theorem Ch.alloc (h : Ch S w w') (o : Obj) : Ch S w (w'.alloc o) :=
  ⟨h.os, h.tape, h.output, by rw [World.size_alloc]; have := h.size; omega, fun k hk hn => (Below.heap_alloc w' o k (Nat.lt_of_lt_of_le hk h.size)).trans (h.block k hk hn)⟩
theorem Ch.setCell (h : Ch S w w') {p : Addr} (hp : p.block < w.heap.size → S p.block) (u : Value) : Ch S w (w'.setCell p u) :=
  ⟨h.os, h.tape, h.output, by rw [World.size_setCell]; exact h.size, fun k hk hn => (Below.heap_setCell w' p u k (fun e => hn (e ▸ hp (e ▸ hk)))).trans (h.block k hk hn)⟩
theorem Ch.below (h : Ch S w w') (hS : ∀ k, k < w.heap.size → ¬ S k) : Below w.heap.size w w' :=
  ⟨h.os, h.tape, h.output, h.size, fun k hk => h.block k hk (hS k hk)⟩
theorem Ch.of_below {B : Nat} (h : Below B w w') (hB : ∀ k, k < w.heap.size → ¬ S k → k < B) : Ch S w w' :=
  ⟨h.os, h.tape, h.output, h.size, fun k hk hn => h.block k (hB k hk hn)⟩
theorem Ch.of_below' (h : Below w.heap.size w w') : Ch S w w' := Ch.of_below h fun _ hk _ => hk
theorem Ch.of_grown {row : Option Nat} (h : w.grownBy w' row) (hr : ∀ k, row = some k → k < w.heap.size → S k) : Ch S w w' :=
  ⟨h.os, h.tape, h.output, h.size, fun k hk hn => h.block k hk (fun e => hn (hr k e.symm hk))⟩
theorem Ch.cell (h : Ch S w w') {p : Addr} (hp : p.block < w.heap.size) (hn : ¬ S p.block) : w'.cell? p = w.cell? p := World.cell?_of_block (h.block _ hp hn)
theorem below_drewN {B : Nat} {a w : World} (h : Below B a w) (n : Nat) : Below B a (w.drewN n) := ⟨h.os, h.tape, h.output, h.size, h.block⟩
end

/-- block g is just the cells cs, of elements t, none of them frozen -/
def Blk (w : World) (g : Nat) (t : TypeId) (cs : Array Value) : Prop := w.heap[g]? = some (.cells cs t (0, 0))
section
variable {w w' : World} {g : Nat} {t : TypeId} {cs : Array Value}
theorem Blk.lt (h : Blk w g t cs) : g < w.heap.size := by
  rcases Nat.lt_or_ge g w.heap.size with hlt | hge
  · exact hlt
  · unfold Blk at h; rw [Array.getElem?_eq_none hge] at h; cases h
theorem Blk.cell (h : Blk w g t cs) (i : Nat) : w.cell? ⟨g, i, none⟩ = cs[i]? := cell_of_row w g i cs t (0, 0) h
theorem Blk.frozen (h : Blk w g t cs) (i : Nat) : w.frozen? ⟨g, i, none⟩ = false := frozen_of_row w g i cs t h
theorem Blk.keep (h : Blk w g t cs) (hk : w'.heap[g]? = w.heap[g]?) : Blk w' g t cs := hk.trans h
theorem Blk.drewN (h : Blk w g t cs) (n : Nat) : Blk (w.drewN n) g t cs := h
theorem Blk.alloc (h : Blk w g t cs) (o : Obj) : Blk (w.alloc o) g t cs := (Below.heap_alloc w o g h.lt).trans h
theorem Blk.set_ (h : Blk w g t cs) (i : Nat) (u : Value) : Blk (w.setCell ⟨g, i, none⟩ u) g t (cs.setIfInBounds i u) := by
  unfold Blk at h ⊢
  simp [World.setCell, Array.getElem?_modify, h]
theorem Blk.far (h : Blk w g t cs) {p : Addr} (hp : g ≠ p.block) (u : Value) : Blk (w.setCell p u) g t cs := (Below.heap_setCell w p u g hp).trans h
theorem Blk.ch {S : Nat → Prop} (h : Blk w g t cs) (hc : Ch S w w') (hS : ¬ S g) : Blk w' g t cs := (hc.block g h.lt hS).trans h
theorem Blk.below {B : Nat} (h : Blk w g t cs) (hb : Below B w w') (hg : g < B) : Blk w' g t cs := (hb.block g hg).trans h
end

/-- 'v' is a slice of n elements, each of 'size' cells: the cells xs, in a block that F holds of. -/
def SlAt (w : World) (F : Nat → Prop) (size : Nat) (v : Value) (n : Nat) (xs : List Value) : Prop :=
  ∃ A c, v = .slice A n c ∧ n ≤ c ∧ c ≤ maxLen ∧ xs.length = n * size ∧
    (0 < n → ∃ b off, A = some ⟨b, off, none⟩ ∧ F b ∧ b < w.heap.size ∧ ∀ j u, xs[j]? = some u → w.cell? ⟨b, off + j, none⟩ = some u)

section
variable {w w' : World} {F F' S : Nat → Prop} {size n : Nat} {v : Value} {xs : List Value}
theorem SlAt.keep (h : SlAt w F size v n xs) (hs : w.heap.size ≤ w'.heap.size) (hk : ∀ k, k < w.heap.size → F k → w'.heap[k]? = w.heap[k]?) : SlAt w' F size v n xs := by
  obtain ⟨A, c, hv, h1, h2, h3, h4⟩ := h
  refine ⟨A, c, hv, h1, h2, h3, fun hn => ?_⟩
  obtain ⟨b, off, hA, hF, hb, hc⟩ := h4 hn
  exact ⟨b, off, hA, hF, by omega, fun j u hu => (World.cell?_of_block (hk b hb hF)).trans (hc j u hu)⟩
theorem SlAt.ch (h : SlAt w F size v n xs) (hc : Ch S w w') (hS : ∀ k, F k → ¬ S k) : SlAt w' F size v n xs :=
  h.keep hc.size fun k hk hF => hc.block k hk (hS k hF)
theorem SlAt.below (h : SlAt w F size v n xs) (hb : Below w.heap.size w w') : SlAt w' F size v n xs := h.keep hb.size fun k hk _ => hb.block k hk
theorem SlAt.below_of {B : Nat} (h : SlAt w F size v n xs) (hb : Below B w w') (hF : ∀ k, F k → k < B) : SlAt w' F size v n xs := h.keep hb.size fun k _ hk => hb.block k (hF k hk)
theorem SlAt.drew (h : SlAt w F size v n xs) : SlAt w.drew F size v n xs := h
theorem SlAt.drewN (h : SlAt w F size v n xs) (k : Nat) : SlAt (w.drewN k) F size v n xs := h
theorem SlAt.alloc (h : SlAt w F size v n xs) (o : Obj) : SlAt (w.alloc o) F size v n xs :=
  h.keep (by simp) fun k hk _ => Below.heap_alloc w o k hk
theorem SlAt.setCell (h : SlAt w F size v n xs) {p : Addr} (hp : ¬ F p.block) (u : Value) : SlAt (w.setCell p u) F size v n xs :=
  h.keep (by simp) fun k _ hF => Below.heap_setCell w p u k (fun e => hp (e ▸ hF))
theorem SlAt.weak (h : SlAt w F size v n xs) (hF : ∀ k, k < w.heap.size → F k → F' k) : SlAt w F' size v n xs := by
  obtain ⟨A, c, hv, h1, h2, h3, h4⟩ := h
  refine ⟨A, c, hv, h1, h2, h3, fun hn => ?_⟩
  obtain ⟨b, off, hA, hF', hb, hc⟩ := h4 hn
  exact ⟨b, off, hA, hF b hb hF', hb, hc⟩
theorem SlAt.nil_ (w : World) (F : Nat → Prop) (size : Nat) : SlAt w F size (.slice none 0 0) 0 [] :=
  ⟨none, 0, rfl, Nat.le_refl _, by simp [maxLen], by simp, fun h => absurd h (by omega)⟩
end

/-- 'v' reads as the bytes l -/
def Bytes (w : World) (F : Nat → Prop) (v : Value) (l : Bs) : Prop := SlAt w F 1 v l.length (l.map bv)

/-- 'v' reads as a list of lists of bytes -/
def BList (w : World) (F : Nat → Prop) (v : Value) (ll : List Bs) : Prop :=
  ∃ vs : List Value, SlAt w F 1 v ll.length vs ∧ ∀ (i : Nat) (b : Bs), ll[i]? = some b → ∃ u : Value, vs[i]? = some u ∧ Bytes w F u b

section
variable {w w' : World} {F F' S : Nat → Prop} {v : Value} {l : Bs} {ll : List Bs}
theorem BList.map_ (h : BList w F v ll) (hs : ∀ v n xs, SlAt w F 1 v n xs → SlAt w' F' 1 v n xs) : BList w' F' v ll := by
  obtain ⟨vs, h1, h2⟩ := h
  refine ⟨vs, hs _ _ _ h1, fun i b hb => ?_⟩
  obtain ⟨u, hu, hub⟩ := h2 i b hb
  exact ⟨u, hu, hs _ _ _ hub⟩
theorem BList.ch (h : BList w F v ll) (hc : Ch S w w') (hS : ∀ k, F k → ¬ S k) : BList w' F v ll := h.map_ fun _ _ _ h => h.ch hc hS
theorem BList.below (h : BList w F v ll) (hb : Below w.heap.size w w') : BList w' F v ll := h.map_ fun _ _ _ h => h.below hb
theorem BList.drewN (h : BList w F v ll) (k : Nat) : BList (w.drewN k) F v ll := h
theorem BList.alloc (h : BList w F v ll) (o : Obj) : BList (w.alloc o) F v ll := h.map_ fun _ _ _ h => h.alloc o
theorem BList.setCell (h : BList w F v ll) {p : Addr} (hp : ¬ F p.block) (u : Value) : BList (w.setCell p u) F v ll := h.map_ fun _ _ _ h => h.setCell hp u
theorem BList.weak (h : BList w F v ll) (hF : ∀ k, k < w.heap.size → F k → F' k) : BList w F' v ll := h.map_ fun _ _ _ h => h.weak hF
theorem Bytes.form (h : Bytes w F v l) : ∃ A c, v = .slice A l.length c := by
  obtain ⟨A, c, hv, _⟩ := h
  exact ⟨A, c, hv⟩
theorem Bytes.form' (h : Bytes w F v l) : ∃ A c, v = .slice A l.length c ∧ l.length ≤ c ∧ c ≤ maxLen := by
  obtain ⟨A, c, hv, h1, h2, _⟩ := h
  exact ⟨A, c, hv, h1, h2⟩
theorem BList.form (h : BList w F v ll) : ∃ A c, v = .slice A ll.length c := by
  obtain ⟨vs, ⟨A, c, hv, _⟩, _⟩ := h
  exact ⟨A, c, hv⟩
end

/-- A row of the call's own, at whatever offset: 'v' is nil or lies in block g, from 'base' on, of elements e, none of it frozen; its first cells are xs. -/
def Own (w : World) (base : Nat) (e : TypeId) (size : Nat) (v : Value) (n : Nat) (xs : List Value) : Prop :=
  xs.length = n * size ∧
  ((v = .slice none 0 0 ∧ n = 0) ∨
   ∃ g off cap cur, v = .slice (some ⟨g, off, none⟩) n cap ∧ base ≤ g ∧ w.heap[g]? = some (.cells cur e (0, 0)) ∧ n ≤ cap ∧ cap ≤ maxLen ∧ off + cap * size ≤ cur.size ∧ (cur.toList.drop off).take (n * size) = xs)

section
variable {w w' : World} {base : Nat} {e : TypeId} {size n : Nat} {v : Value} {xs : List Value} {S F : Nat → Prop}
theorem Own.of_ownsRow (h : w.ownsRow base e size v n xs) : Own w base e size v n xs := by
  obtain ⟨h1, h2 | ⟨g, cap, cur, hv, hb, hg, hn, hm, hs, ht⟩⟩ := h
  · exact ⟨h1, .inl h2⟩
  · exact ⟨h1, .inr ⟨g, 0, cap, cur, hv, hb, hg, hn, hm, by omega, by simpa using ht⟩⟩
theorem Own.nil_ (w : World) (base : Nat) (e : TypeId) (size : Nat) : Own w base e size (.slice none 0 0) 0 [] := ⟨by simp, .inl ⟨rfl, rfl⟩⟩
theorem Own.keep (h : Own w base e size v n xs) (hk : ∀ k, v.ownBlock = some k → k < w.heap.size → base ≤ k → w'.heap[k]? = w.heap[k]?) : Own w' base e size v n xs := by
  obtain ⟨h1, h2 | ⟨g, off, cap, cur, hv, hb, hg, hn, hm, hs, ht⟩⟩ := h
  · exact ⟨h1, .inl h2⟩
  · have hlt : g < w.heap.size := by
      rcases Nat.lt_or_ge g w.heap.size with hlt | hge
      · exact hlt
      · rw [Array.getElem?_eq_none hge] at hg; cases hg
    exact ⟨h1, .inr ⟨g, off, cap, cur, hv, hb, (hk g (by rw [hv]; rfl) hlt hb).trans hg, hn, hm, hs, ht⟩⟩
theorem Own.ch (h : Own w base e size v n xs) (hc : Ch S w w') (hS : ∀ k, v.ownBlock = some k → base ≤ k → ¬ S k) : Own w' base e size v n xs :=
  h.keep fun k hv hk hb => hc.block k hk (hS k hv hb)
theorem Own.below (h : Own w base e size v n xs) (hb : Below w.heap.size w w') : Own w' base e size v n xs := h.keep fun k _ hk _ => hb.block k hk
theorem Own.alloc (h : Own w base e size v n xs) (o : Obj) : Own (w.alloc o) base e size v n xs := h.keep fun k _ hk _ => Below.heap_alloc w o k hk
theorem Own.drew (h : Own w base e size v n xs) : Own w.drew base e size v n xs := h
theorem Own.drewN (h : Own w base e size v n xs) (k : Nat) : Own (w.drewN k) base e size v n xs := h
theorem Own.setCell (h : Own w base e size v n xs) {p : Addr} (hp : v.ownBlock ≠ some p.block) (u : Value) : Own (w.setCell p u) base e size v n xs :=
  h.keep fun k hv _ _ => Below.heap_setCell w p u k (fun ek => hp (ek ▸ hv))
theorem Own.mono (h : Own w base e size v n xs) {base' : Nat} (hb : base' ≤ base) : Own w base' e size v n xs := by
  obtain ⟨h1, h2 | ⟨g, off, cap, cur, hv, hb', r⟩⟩ := h
  · exact ⟨h1, .inl h2⟩
  · exact ⟨h1, .inr ⟨g, off, cap, cur, hv, by omega, r⟩⟩
theorem Own.lt (h : Own w base e size v n xs) : ∀ k, v.ownBlock = some k → base ≤ k ∧ k < w.heap.size := by
  obtain ⟨h1, ⟨rfl, _⟩ | ⟨g, off, cap, cur, rfl, hb, hg, _⟩⟩ := h
  · intro k hk; simp [Value.ownBlock] at hk
  · intro k hk
    simp only [Value.ownBlock, Option.some.injEq] at hk
    subst hk
    refine ⟨hb, ?_⟩
    rcases Nat.lt_or_ge g w.heap.size with hlt | hge
    · exact hlt
    · rw [Array.getElem?_eq_none hge] at hg; cases hg
theorem Own.slAt (h : Own w base e size v n xs) (hF : ∀ k, v.ownBlock = some k → F k) : SlAt w F size v n xs := by
  have hlt := h.lt
  obtain ⟨h1, ⟨rfl, rfl⟩ | ⟨g, off, cap, cur, rfl, hb, hg, hn, hm, hs, ht⟩⟩ := h
  · exact ⟨none, 0, rfl, Nat.le_refl _, by simp [maxLen], h1, fun h => absurd h (by omega)⟩
  · refine ⟨_, cap, rfl, hn, hm, h1, fun _ => ⟨g, off, rfl, hF g rfl, (hlt g rfl).2, fun j u hu => ?_⟩⟩
    rw [cell_of_row w g (off + j) cur e (0, 0) hg]
    rw [← ht] at hu
    have hj : j < n * size := by
      rcases Nat.lt_or_ge j (n * size) with h | h
      · exact h
      · rw [List.getElem?_eq_none (by rw [List.length_take]; omega)] at hu; cases hu
    rw [List.getElem?_take_of_lt hj, List.getElem?_drop] at hu
    rw [← Array.getElem?_toList]
    exact hu
end
end Go.Proofs.Ytfdibjgmbdkbcaa
