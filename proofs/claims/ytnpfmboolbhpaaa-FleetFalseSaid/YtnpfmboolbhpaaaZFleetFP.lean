/-
  THE PLAIN LAW: what is shown falsely has broken the digest. No conditions.
-/
import Derived.Test.YtnpfmboolbhpaaaZFleetSP
namespace Go.Proofs.Ytnpfmboolbhpaaa
/-- two texts are told -/
def ToldT (o : Option Tr.PB) : Prop := ∃ q, o = some q ∧ q.1 ≠ q.2 ∧ Sha.sha256 q.1 = Sha.sha256 q.2 ∧ q.1.length ≤ 201 ∧ q.2.length ≤ 201
theorem told_of {ll : List Bs} {b : Bs} {i : Int} {p : List Bs} (h : Fine ll ∧ standsS (ll.length : Int) (Tr.root (ll.map Tr.leafH)) b i p = true ∧ ll[i.toNat]? ≠ some b) : ToldT (clashS ll b i p) := by
  have hth := clashS_there h
  cases hc : clashS ll b i p with
  | none => rw [hc] at hth; cases hth
  | some x =>
    obtain ⟨c1, c2, c3⟩ := clashS_some hc
    obtain ⟨c4, c5⟩ := clashOf_two c1
    exact ⟨x, rfl, c4, c5, c2, c3⟩
namespace Fl
theorem false_row {f : Flt} (hI : Inv f) {s : Shw} (hc : checkC s f.book.length (bookRoot f.book) = true) :
    Bk.wrongR s.rcd = 0 ∧ ∃ (r : Nat) (hr : r < f.book.length), s.row = (r : Int) ∧ (Bk.rowR f.book[r] ≠ Bk.rowR s.rcd → ToldT (clashS (Bk.rows f.book) (Bk.rowR s.rcd) (r : Int) s.bpath)) ∧
      (Bk.rowR f.book[r] = Bk.rowR s.rcd → ∃ (k : Nat) (hk : k < f.sh.length), s.rcd.sh = (k : Int) ∧ (f.sh[k].st ≠ 4 → ∃ (p : Nat) (hp : p < f.sh[k].ents.length), s.place = (p : Int) ∧ (f.sh[k].ents[p] ≠ s.entry → ToldT (clashS f.sh[k].ents s.entry (p : Int) s.path)))) := by
  have hfb := hI.fineB
  have hbr := Bk.rows_short hfb
  unfold checkC at hc
  simp only [Bool.and_eq_true, decide_eq_true_eq] at hc
  obtain ⟨⟨⟨⟨⟨c1, c2⟩, c3⟩, c4⟩, c5⟩, c6⟩ := hc
  obtain ⟨⟨g1, g2, g3, g4, g5⟩, _, _⟩ := standsS_yes c6
  obtain ⟨r, hr⟩ : ∃ r : Nat, s.row = (r : Int) := ⟨s.row.toNat, by omega⟩
  have hrl : r < f.book.length := by omega
  have hlr : (Bk.rows f.book).length = f.book.length := by unfold Bk.rows; rw [List.length_map]
  have hat : (Bk.rows f.book)[r]? = some (Bk.rowR f.book[r]) := by unfold Bk.rows; rw [List.getElem?_map, List.getElem?_eq_getElem hrl]; rfl
  refine ⟨c1, r, hrl, hr, fun hne => ?_, fun he => ?_⟩
  · refine told_of ⟨hbr, ?_, ?_⟩
    · rw [hlr, ← hr]; exact c6
    · rw [Int.toNat_natCast, hat]
      intro h
      injection h with h
      exact hne h
  · have hm := List.getElem_mem hrl
    have hok := hI.book _ hm
    have hw := hok.wrong hI.sh hI.len
    have hrr : s.rcd = f.book[r] := by rw [← Bk.read_row c1, ← he, Bk.read_row hw]
    obtain ⟨⟨k, t, e1, e2, e3, e4, e5, e6, e7⟩, hsz, hro⟩ := hok
    obtain ⟨hlt, hg⟩ := List.getElem?_eq_some_iff.1 e2
    refine ⟨k, hlt, by rw [hrr]; exact e1, fun hst => ?_⟩
    rw [hg] at hst
    simp only [hg]
    obtain ⟨m1, m2⟩ := e6 hst
    rw [hrr, m1, m2] at c5
    obtain ⟨⟨k1, k2, k3, k4, k5⟩, _, _⟩ := standsS_yes c5
    obtain ⟨p, hp⟩ : ∃ p : Nat, s.place = (p : Int) := ⟨s.place.toNat, by omega⟩
    have hpl : p < t.ents.length := by omega
    rw [hp] at c5
    refine ⟨p, hpl, hp, fun hne => told_of ⟨(hI.sh k t e2).fine, c5, ?_⟩⟩
    rw [Int.toNat_natCast, List.getElem?_eq_getElem hpl]
    intro h
    injection h with h
    exact hne h
end Fl
end Go.Proofs.Ytnpfmboolbhpaaa
