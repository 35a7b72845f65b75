/-
  THE WALKS of slices.IndexFunc over entries, with the fleet's own question. Conditions: what is read is texts.
  THE WALKS of slices.IndexFunc over rows, with the fleet's own question. Conditions: what is read is rows.
  THE WALKS of slices.IndexFunc over rows, as Show asks, with the fleet's own question. Conditions: what is read is rows.
-/
import Derived.Test.YtfdibjgmbdkbcaaZBookD
import Derived.Test.YtfdibjgmbdkbcaaZGq
namespace Go.Proofs.Ytfdibjgmbdkbcaa
open Go.RowKit Go.Lib

set_option maxRecDepth 100000 in
set_option maxHeartbeats 1000000 in
theorem isEnt_any (w : World) (F F' : Nat → Prop) (u : Value) (b : Bs) (gb q o : Nat) (A' : Option Addr) (c' : Nat) (e0 : Bs) (hu : Bytes w F u b) (hb : w.cell? ⟨gb, 0, none⟩ = some (.pointer (some ⟨q, o, none⟩))) (ht : w.cell? ⟨q, o + 3, none⟩ = some (.slice A' e0.length c')) (he : Bytes w F' (.slice A' e0.length c') e0) :
    Calls Try.prog 145 #[u, .pointer (some ⟨gb, 0, none⟩)] w fun e w' => e = .returned (.bool (b == e0)) ∧ w' = w := by
  obtain ⟨A2, c2, hu2⟩ := hu.form
  subst hu2
  go_enter Try.func145, Try.ntmps145
  go_wp2_with fail
  with_reducible refine (equal_any w _ _ _ _ b e0 hu he).mono ?_
  rintro e w2 ⟨rfl, hw2⟩
  subst hw2
  go_wp2_with fail
  go_ret
  exact ⟨rfl, rfl⟩

set_option maxRecDepth 100000 in
set_option maxHeartbeats 2000000 in
theorem idxEnt_any (w : World) (F F' : Nat → Prop) (v : Value) (l : List Bs) (gb q o : Nat) (A' : Option Addr) (c' : Nat) (e0 : Bs) (hl : BList w F v l) (hb : w.cell? ⟨gb, 0, none⟩ = some (.pointer (some ⟨q, o, none⟩))) (ht : w.cell? ⟨q, o + 3, none⟩ = some (.slice A' e0.length c')) (he : Bytes w F' (.slice A' e0.length c') e0) :
    Calls Try.prog 141 #[v, .func (.func 145) #[] #[.pointer (some ⟨gb, 0, none⟩)]] w fun e w' => e = .returned (.int .i64 (idx (l.findIdx? (· == e0)))) ∧ w' = w := by
  obtain ⟨A, c, hv, hlc, hcm, _⟩ := hl.shape
  subst hv
  unfold maxLen at hcm
  obtain ⟨R, HR⟩ : ∃ R, Hid (R = idx (l.findIdx? (· == e0))) := ⟨_, Lib.hid rfl⟩
  rw [← HR.out]
  go_enter Try.func141, Try.ntmps141
  go_wp2_with fail
  go_loopg [8] l.length (fun k i wr => ∃ j : Nat, j + k = l.length ∧ i = .int .i64 (j : Int) ∧ Hid ((l.take j).all (fun a => !(a == e0)) = true) ∧ wr = w)
  case atStart => exact ⟨0, by omega, rfl, Lib.hid (by simp), rfl⟩
  case round =>
    obtain ⟨j, hj, rfl, HA, rfl⟩ := hrel
    by_cases hlt : j < l.length
    · obtain ⟨b, off, u, hA1, p0, _, hb1, hu⟩ := BList.at_ hl hlt
      subst hA1
      obtain ⟨A2, c2, hu2⟩ := hu.form
      subst hu2
      have hltB : (j : Int) < (l.length : Int) := by omega
      have hfy : (l[j] == e0) = true → R = (j : Int) := fun h => by rw [HR.out, findIdx_at (p := (· == e0)) HA.out hlt h]; rfl
      have hfn : (l[j] == e0) = false → (l.take (j + 1)).all (fun a => !(a == e0)) = true := fun h => all_snoc (p := (· == e0)) HA.out hlt h
      have HEQ := Lib.hid (isEnt_any wr _ _ _ l[j] gb q o A' c' e0 hu hb ht he)
      generalize l[j] = s at *
      cases hin : (s == e0) with
      | true =>
        have hR := hfy hin
        rw [hin] at HEQ
        clear hin hfy hfn
        go_wp2_with fail
        with_reducible refine HEQ.out.mono ?_
        rintro e w2 ⟨rfl, hw2⟩
        subst hw2
        go_wp2_with fail
        go_ret
        exact ⟨by rw [hR]; rfl, rfl⟩
      | false =>
        have HN := Lib.hid (hfn hin)
        rw [hin] at HEQ
        clear hin hfy hfn
        go_wp2_with fail
        with_reducible refine HEQ.out.mono ?_
        rintro e w2 ⟨rfl, hw2⟩
        subst hw2
        go_wp2_with fail
        go_roundg (gk - 1)
        case measure => omega
        case rel => exact ⟨j + 1, by omega, by go_num, HN, rfl⟩
    · have hltB : decide ((j : Int) < (l.length : Int)) = false := decide_eq_false (by omega)
      have hR : R = -1 := by
        have h := HA.out
        rw [List.take_of_length_le (by omega)] at h
        rw [HR.out, findIdx_no (p := (· == e0)) h]; rfl
      have HRR := Lib.hid hR
      clear hR
      go_wp2_with fail
      go_ret
      exact ⟨by rw [HRR.out]; rfl, rfl⟩
end Go.Proofs.Ytfdibjgmbdkbcaa

namespace Go.Proofs.Ytfdibjgmbdkbcaa
open Go.RowKit Go.Lib

set_option maxRecDepth 100000 in
set_option maxHeartbeats 1000000 in
theorem isRow_any (w : World) (gb : Nat) (r : Rec) (u : Value) (k : Int) (hb : w.cell? ⟨gb, 0, none⟩ = some (.int .i64 k)) (hgb : gb < w.heap.size) :
    Calls Try.prog 146 #[.agg #[.int .i64 r.sh, .int .i64 r.fr, .int .i64 r.to, .int .i64 r.sz, u], .pointer (some ⟨gb, 0, none⟩)] w fun e w' => e = .returned (.bool (r.sh == k)) ∧ Below w.heap.size w w' := by
  obtain ⟨sh, fr, tt, sz, root⟩ := r
  simp only
  have hx0 := (Below.refl w.heap.size w).alloc (Nat.le_refl _) (.cells #[.int .i64 sh, .int .i64 fr, .int .i64 tt, .int .i64 sz, u] 61)
  have c0 := (hx0.cell (p := ⟨gb, 0, none⟩) hgb).trans hb
  go_enter Try.func146, Try.ntmps146
  go_wp2_with fail
  go_ret
  exact ⟨rfl, hx0⟩

set_option maxRecDepth 100000 in
set_option maxHeartbeats 2000000 in
theorem idxRow_any (w : World) (F : Nat → Prop) (v : Value) (l : List Rec) (gb : Nat) (kk : Int) (hl : RdL w F v l) (hb : w.cell? ⟨gb, 0, none⟩ = some (.int .i64 kk)) (hgb : gb < w.heap.size) :
    Calls Try.prog 114 #[v, .func (.func 146) #[] #[.pointer (some ⟨gb, 0, none⟩)]] w fun e w' => e = .returned (.int .i64 (idx (Fl.row l kk))) ∧ Below w.heap.size w w' := by
  obtain ⟨A, c, hv, hlc, hcm⟩ := hl.form
  subst hv
  unfold maxLen at hcm
  obtain ⟨R, HR⟩ : ∃ R, Hid (R = idx (l.findIdx? fun r => r.sh == kk)) := ⟨_, Lib.hid rfl⟩
  have hrow : idx (Fl.row l kk) = R := HR.out.symm
  rw [hrow]
  clear hrow
  go_enter Try.func114, Try.ntmps114
  go_wp2_with fail
  go_loopg [8] l.length (fun k i wr => ∃ j : Nat, j + k = l.length ∧ i = .int .i64 (j : Int) ∧ Hid ((l.take j).all (fun a => !(a.sh == kk)) = true) ∧ Below w.heap.size w wr)
  case atStart => exact ⟨0, by omega, rfl, Lib.hid (by simp), Below.refl _ _⟩
  case round =>
    obtain ⟨j, hj, rfl, HA, hx⟩ := hrel
    by_cases hlt : j < l.length
    · obtain ⟨b, off, c', A2, k2, hA1, _, hb1, p0, p1, p2, p3, p4, _⟩ := rec_at (hl.below hx) hlt
      injection hA1 with hA1 _ hA3
      subst hA1 hA3
      have hltB : (j : Int) < (l.length : Int) := by omega
      have hfy : (l[j].sh == kk) = true → R = (j : Int) := fun h => by rw [HR.out, findIdx_at HA.out hlt h]; rfl
      have hfn : (l[j].sh == kk) = false → (l.take (j + 1)).all (fun a => !(a.sh == kk)) = true := fun h => all_snoc HA.out hlt h
      have hcl := isRow_any wr gb l[j] (.slice A2 l[j].root.length k2) kk ((hx.cell (p := ⟨gb, 0, none⟩) hgb).trans hb) (by have := hx.size; omega)
      have HCL := Lib.hid hcl
      clear hcl
      generalize l[j] = s at *
      cases hin : (s.sh == kk) with
      | true =>
        have hR := hfy hin
        rw [hin] at HCL
        clear hin hfy hfn
        go_wp2_with fail
        with_reducible refine HCL.out.mono ?_
        rintro e w2 ⟨rfl, hx2⟩
        go_wp2_with fail
        go_ret
        exact ⟨by rw [hR]; rfl, hx.trans (hx2.mono hx.size)⟩
      | false =>
        have HN := Lib.hid (hfn hin)
        rw [hin] at HCL
        clear hin hfy hfn
        go_wp2_with fail
        with_reducible refine HCL.out.mono ?_
        rintro e w2 ⟨rfl, hx2⟩
        go_wp2_with fail
        go_roundg (gk - 1)
        case measure => omega
        case rel => exact ⟨j + 1, by omega, by go_num, HN, hx.trans (hx2.mono hx.size)⟩
    · have hltB : decide ((j : Int) < (l.length : Int)) = false := decide_eq_false (by omega)
      have hR : R = -1 := by
        have h := HA.out
        rw [List.take_of_length_le (by omega)] at h
        rw [HR.out, findIdx_no h]; rfl
      have HRR := Lib.hid hR
      clear hR
      go_wp2_with fail
      go_ret
      exact ⟨by rw [HRR.out]; rfl, hx⟩
end Go.Proofs.Ytfdibjgmbdkbcaa

namespace Go.Proofs.Ytfdibjgmbdkbcaa
open Go.RowKit Go.Lib

set_option maxRecDepth 100000 in
set_option maxHeartbeats 1000000 in
theorem isRowS_any (w : World) (gb : Nat) (r : Rec) (u : Value) (k : Int) (hb : w.cell? ⟨gb, 0, none⟩ = some (.int .i64 k)) (hgb : gb < w.heap.size) :
    Calls Try.prog 115 #[.agg #[.int .i64 r.sh, .int .i64 r.fr, .int .i64 r.to, .int .i64 r.sz, u], .pointer (some ⟨gb, 0, none⟩)] w fun e w' => e = .returned (.bool (r.sh == k)) ∧ Below w.heap.size w w' := by
  obtain ⟨sh, fr, tt, sz, root⟩ := r
  simp only
  have hx0 := (Below.refl w.heap.size w).alloc (Nat.le_refl _) (.cells #[.int .i64 sh, .int .i64 fr, .int .i64 tt, .int .i64 sz, u] 61)
  have c0 := (hx0.cell (p := ⟨gb, 0, none⟩) hgb).trans hb
  go_enter Try.func115, Try.ntmps115
  go_wp2_with fail
  go_ret
  exact ⟨rfl, hx0⟩

set_option maxRecDepth 100000 in
set_option maxHeartbeats 2000000 in
theorem idxRowS_any (w : World) (F : Nat → Prop) (v : Value) (l : List Rec) (gb : Nat) (kk : Int) (hl : RdL w F v l) (hb : w.cell? ⟨gb, 0, none⟩ = some (.int .i64 kk)) (hgb : gb < w.heap.size) :
    Calls Try.prog 114 #[v, .func (.func 115) #[] #[.pointer (some ⟨gb, 0, none⟩)]] w fun e w' => e = .returned (.int .i64 (idx (Fl.row l kk))) ∧ Below w.heap.size w w' := by
  obtain ⟨A, c, hv, hlc, hcm⟩ := hl.form
  subst hv
  unfold maxLen at hcm
  obtain ⟨R, HR⟩ : ∃ R, Hid (R = idx (l.findIdx? fun r => r.sh == kk)) := ⟨_, Lib.hid rfl⟩
  have hrow : idx (Fl.row l kk) = R := HR.out.symm
  rw [hrow]
  clear hrow
  go_enter Try.func114, Try.ntmps114
  go_wp2_with fail
  go_loopg [8] l.length (fun k i wr => ∃ j : Nat, j + k = l.length ∧ i = .int .i64 (j : Int) ∧ Hid ((l.take j).all (fun a => !(a.sh == kk)) = true) ∧ Below w.heap.size w wr)
  case atStart => exact ⟨0, by omega, rfl, Lib.hid (by simp), Below.refl _ _⟩
  case round =>
    obtain ⟨j, hj, rfl, HA, hx⟩ := hrel
    by_cases hlt : j < l.length
    · obtain ⟨b, off, c', A2, k2, hA1, _, hb1, p0, p1, p2, p3, p4, _⟩ := rec_at (hl.below hx) hlt
      injection hA1 with hA1 _ hA3
      subst hA1 hA3
      have hltB : (j : Int) < (l.length : Int) := by omega
      have hfy : (l[j].sh == kk) = true → R = (j : Int) := fun h => by rw [HR.out, findIdx_at HA.out hlt h]; rfl
      have hfn : (l[j].sh == kk) = false → (l.take (j + 1)).all (fun a => !(a.sh == kk)) = true := fun h => all_snoc HA.out hlt h
      have hcl := isRowS_any wr gb l[j] (.slice A2 l[j].root.length k2) kk ((hx.cell (p := ⟨gb, 0, none⟩) hgb).trans hb) (by have := hx.size; omega)
      have HCL := Lib.hid hcl
      clear hcl
      generalize l[j] = s at *
      cases hin : (s.sh == kk) with
      | true =>
        have hR := hfy hin
        rw [hin] at HCL
        clear hin hfy hfn
        go_wp2_with fail
        with_reducible refine HCL.out.mono ?_
        rintro e w2 ⟨rfl, hx2⟩
        go_wp2_with fail
        go_ret
        exact ⟨by rw [hR]; rfl, hx.trans (hx2.mono hx.size)⟩
      | false =>
        have HN := Lib.hid (hfn hin)
        rw [hin] at HCL
        clear hin hfy hfn
        go_wp2_with fail
        with_reducible refine HCL.out.mono ?_
        rintro e w2 ⟨rfl, hx2⟩
        go_wp2_with fail
        go_roundg (gk - 1)
        case measure => omega
        case rel => exact ⟨j + 1, by omega, by go_num, HN, hx.trans (hx2.mono hx.size)⟩
    · have hltB : decide ((j : Int) < (l.length : Int)) = false := decide_eq_false (by omega)
      have hR : R = -1 := by
        have h := HA.out
        rw [List.take_of_length_le (by omega)] at h
        rw [HR.out, findIdx_no h]; rfl
      have HRR := Lib.hid hR
      clear hR
      go_wp2_with fail
      go_ret
      exact ⟨by rw [HRR.out]; rfl, hx⟩
end Go.Proofs.Ytfdibjgmbdkbcaa
