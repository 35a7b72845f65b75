/-
  From the form's readings to the walks' words: what reads as a slice of bytes, or of slices of bytes. No conditions.
-/
import Derived.Test.YtfdibjgmbdkbcaaRows
import Derived.WalkKit
import Derived.ProofKit
import Derived.OpenShut
import Derived.ChangeOld
import Derived.Below
import Derived.Deep.Slices
import Derived.SizedLaws
import Derived.Test.YtfdibjgmbdkbcaaZGa
namespace Go.Proofs.Ytfdibjgmbdkbcaa
open Go.ChangeShapes Go.WideShapes Go.ChangeAt Go.RowKit Go.Deep

theorem ownProg : ownKnob Try.prog.godebug = none := by kernel_rfl
theorem laidOutProg : laidOutB Try.prog = true := by kernel_rfl

section
variable {H : Type} {enc : TypeId × Value → H} {w : World} {base fuel : Nat} {spare : Nat → Bool} {held : Bool}

theorem u8_of_wf {z : Int} (h : (Lit.int .u8 z).wf = true) : ((UInt8.ofNat z.toNat).toNat : Int) = z := by
  have hb := bounds_u8 h
  rw [UInt8.toNat_ofNat']
  omega

theorem addr_row {a : Addr} {u : Value} (h : w.cell? (a.add 0) = some u) : a = ⟨a.block, a.off, none⟩ := by
  have h0 : w.cell? a = some u := by simpa [Addr.add] using h
  have hs := World.cell?_spot h0
  cases a
  simp_all

theorem trod_bytes {v : Value} {x : DataW H × List MemPlace} (h : DataW.trod enc Try.prog w base spare held fuel 22 [v] = some x) :
    ∃ l : Bs, Bytes w (fun _ => True) v l ∧ ((x.1 = .nil ∧ l = []) ∨ ∃ es ss, x.1 = .slice es ss ∧ es.length = l.length) := by
  rcases open_ints Try.underlying22 Try.underlying5 (by kernel_rfl) h with ⟨hcs, hx⟩ | ⟨a, len, cap, zs, hcs, _, hl, hm, hz, hx, hcell, hwz⟩
  · injection hcs with hcs _
    subst hcs hx
    exact ⟨[], SlAt.nil_ _ _ _, .inl ⟨rfl, rfl⟩⟩
  · injection hcs with hcs _
    subst hcs hx
    have hlz : len ≤ zs.length := by rw [hz]; split <;> omega
    refine ⟨(zs.take len).map fun z => UInt8.ofNat z.toNat, ?_, .inr ⟨_, _, rfl, by simp [lits]⟩⟩
    have hlen : ((zs.take len).map fun z => UInt8.ofNat z.toNat).length = len := by simp; omega
    unfold Bytes
    rw [hlen]
    refine ⟨_, _, rfl, hl, hm, by simp; omega, fun hp => ?_⟩
    have ha := addr_row (hcell 0 (by omega))
    have hb := block_lt_of_cell (hcell 0 (by omega))
    rw [ha] at hb
    refine ⟨a.block, a.off, congrArg some ha, trivial, by simpa [Addr.add] using hb, fun j u hu => ?_⟩
    have hj : j < len := by
      rcases Nat.lt_or_ge j len with h | h
      · exact h
      · rw [List.getElem?_eq_none (by simp; omega)] at hu; cases hu
    have hc := hcell j (by omega)
    rw [ha, Addr.add_lit] at hc
    rw [hc]
    rw [List.getElem?_map, List.getElem?_map, List.getElem?_take_of_lt hj, List.getElem?_eq_getElem (by omega)] at hu
    simp only [Option.map_some, Option.some.injEq] at hu
    rw [← hu]
    have hw := hwz zs[j] (List.getElem_mem (by omega))
    unfold bv
    rw [u8_of_wf hw, List.getD_eq_getElem?_getD, List.getElem?_eq_getElem (by omega)]
    rfl

theorem trod_blist {v : Value} {x : DataW H × List MemPlace} (h : DataW.trod enc Try.prog w base spare held fuel 40 [v] = some x) :
    ∃ ll : List Bs, BList w (fun _ => True) v ll := by
  rcases open_slice1 Try.underlying40 (by kernel_rfl) h with ⟨hcs, hx⟩ | ⟨a, len, cap, m, n, V, D, Pl, hcs, _, hl, hm, hmm, hx, hcell⟩
  · injection hcs with hcs _
    subst hcs
    exact ⟨[], [], SlAt.nil_ _ _ _, fun i b hb => by simp at hb⟩
  · injection hcs with hcs _
    subst hcs
    have hlm : len ≤ m := by rw [hmm]; split <;> omega
    have hex : ∀ i, i < len → ∃ l : Bs, Bytes w (fun _ => True) (V i) l := fun i hi => by
      obtain ⟨l, hl, _⟩ := trod_bytes (hcell i (by omega)).2
      exact ⟨l, hl⟩
    have hll : ∀ k, k ≤ len → ∃ ll : List Bs, ll.length = k ∧ ∀ (i : Nat) (b : Bs), ll[i]? = some b → Bytes w (fun _ => True) (V i) b := by
      intro k
      induction k with
      | zero => intro _; exact ⟨[], rfl, fun i b hb => by simp at hb⟩
      | succ k ih =>
        intro hk
        obtain ⟨ll, hlen, hll⟩ := ih (by omega)
        obtain ⟨l, hl⟩ := hex k (by omega)
        refine ⟨ll ++ [l], by simp [hlen], fun i b hb => ?_⟩
        rcases Nat.lt_or_ge i k with h | h
        · rw [List.getElem?_append_left (by omega)] at hb
          exact hll i b hb
        · rw [List.getElem?_append_right (by omega)] at hb
          have hi : i = k := by
            rcases Nat.eq_or_lt_of_le h with h | h
            · exact h.symm
            · rw [List.getElem?_eq_none (by simp; omega)] at hb; cases hb
          subst hi
          rw [hlen, Nat.sub_self] at hb
          simp only [List.getElem?_cons_zero, Option.some.injEq] at hb
          subst hb
          exact hl
    obtain ⟨ll, hlen, hll⟩ := hll len (Nat.le_refl _)
    refine ⟨ll, (List.range len).map V, ?_, fun i b hb => ⟨V i, ?_, hll i b hb⟩⟩
    · rw [hlen]
      refine ⟨_, _, rfl, hl, hm, by simp, fun hp => ?_⟩
      have ha := addr_row (hcell 0 (by omega)).1
      have hb := block_lt_of_cell (hcell 0 (by omega)).1
      rw [ha] at hb
      refine ⟨a.block, a.off, congrArg some ha, trivial, by simpa [Addr.add] using hb, fun j u hu => ?_⟩
      have hj : j < len := by
        rcases Nat.lt_or_ge j len with h | h
        · exact h
        · rw [List.getElem?_eq_none (by simp; omega)] at hu; cases hu
      have hc := (hcell j (by omega)).1
      rw [ha, Addr.add_lit] at hc
      rw [hc]
      rw [List.getElem?_map, List.getElem?_range hj] at hu
      exact hu
    · have hi : i < len := by
        rcases Nat.lt_or_ge i len with h | h
        · exact h
        · rw [List.getElem?_eq_none (by omega)] at hb; cases hb
      rw [List.getElem?_map, List.getElem?_range hi]
      rfl
end
end Go.Proofs.Ytfdibjgmbdkbcaa
