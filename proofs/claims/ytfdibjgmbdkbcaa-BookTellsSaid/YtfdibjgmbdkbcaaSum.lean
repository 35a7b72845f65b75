/-
  THE WALKS of sha.Parts, sha.Sum: what comes in parts has the digest of all. Conditions: fewer than 2^47 bytes in all.
-/
import Derived.Test.YtfdibjgmbdkbcaaParts
namespace Go.Proofs.Ytfdibjgmbdkbcaa
open Go.RowKit

/-- the bytes l in a slice of a call's own, all in blocks from 'base' on -/
def OwnB (w : World) (base : Nat) (v : Value) (l : Bs) : Prop := Own w base 5 1 v l.length (l.map bv)
theorem OwnB.bytes {w : World} {base : Nat} {v : Value} {l : Bs} (h : OwnB w base v l) : Bytes w (fun k => base ≤ k ∧ k < w.heap.size) v l := h.slAt fun k hk => h.lt k hk

theorem flatten_take_le (ll : List Bs) (j : Nat) : ((ll.take j).flatten).length ≤ ll.flatten.length := by
  conv => rhs; rw [← List.take_append_drop j ll, List.flatten_append, List.length_append]
  omega
theorem flatten_take_succ (ll : List Bs) (j : Nat) (b : Bs) (h : ll[j]? = some b) : (ll.take (j + 1)).flatten = (ll.take j).flatten ++ b := by
  obtain ⟨hj, rfl⟩ := List.getElem?_eq_some_iff.1 h
  rw [List.take_succ_eq_append_getElem hj, List.flatten_append]
  simp

theorem BList.at_ {w : World} {F : Nat → Prop} {A : Option Addr} {n c : Nat} {ll : List Bs} (h : BList w F (.slice A n c) ll) {j : Nat} (hj : j < ll.length) :
    ∃ b off u, A = some ⟨b, off, none⟩ ∧ w.cell? ⟨b, off + j, none⟩ = some u ∧ F b ∧ b < w.heap.size ∧ Bytes w F u ll[j] := by
  obtain ⟨vs, ⟨A', c', hv, _, _, _, h4⟩, h2⟩ := h
  injection hv with e1 e2 e3
  obtain ⟨b, off, hA, hF, hb, hc⟩ := h4 (by omega)
  obtain ⟨u, hu, hub⟩ := h2 j ll[j] (List.getElem?_eq_getElem hj)
  exact ⟨b, off, u, e1.trans hA, hc j u hu, hF, hb, hub⟩

set_option maxRecDepth 100000 in
set_option maxHeartbeats 1000000 in
theorem parts_any (w : World) (F : Nat → Prop) (v : Value) (ll : List Bs) (hl : BList w F v ll) (hlen : ll.flatten.length ≤ 140737488355200) :
    Calls Try.prog 80 #[v] w fun e w' => ∃ v, e = .returned v ∧ OwnB w' w.heap.size v (Sha.sha256 ll.flatten) ∧ Below w.heap.size w w' := by
  obtain ⟨A, c, hv⟩ := hl.form
  subst hv
  have hn63 : ll.length ≤ 9223372036854775807 := by
    obtain ⟨vs, ⟨A', c', hv, h1, h2, _⟩, _⟩ := hl
    unfold maxLen at h2
    omega
  go_enter Try.func80, Try.ntmps80
  go_wp2_with fail
  refine (begin_any w).mono ?_
  rintro e w1 ⟨rfl, hst, hx⟩
  go_wp2_with fail
  go_loopg [9] ll.length (fun k i wr => ∃ j : Nat, j + k = ll.length ∧ i = .int .i64 (j : Int) ∧ StIs wr w.heap.size w.heap.size (ll.take j).flatten ∧ Below w.heap.size w wr)
  case atStart => exact ⟨0, by omega, rfl, hst, hx⟩
  case round =>
    clear hst hx
    obtain ⟨j, hj, rfl, hst, hx⟩ := hrel
    by_cases hlt : j < ll.length
    · obtain ⟨b, off, u, hA, hc, _, hb, hub⟩ := hl.at_ hlt
      subst hA
      have hc' := (hx.cell (p := ⟨b, off + j, none⟩) hb).trans hc
      have hltB : (j : Int) < (ll.length : Int) := by omega
      have hub' : Bytes wr (fun k => k < w.heap.size) u ll[j] := ((hub.weak (F' := fun k => k < w.heap.size) (fun k hk _ => hk))).below_of hx (fun _ h => h)
      have hs := flatten_take_succ ll j ll[j] (List.getElem?_eq_getElem hlt)
      have hle := flatten_take_le ll (j + 1)
      rw [hs, List.length_append] at hle
      have HS := Lib.hid hs
      clear hs
      go_wp2_with fail
      refine (write_any wr w.heap.size w.heap.size _ _ _ _ hst hub' (by omega) hx.size (by omega)).mono ?_
      rintro e w2 ⟨rfl, hst2, hx2⟩
      go_wp2_with fail
      go_roundg (gk - 1)
      case measure => omega
      case rel => exact ⟨j + 1, by omega, by go_num, by rw [HS.out]; exact hst2, hx.trans hx2⟩
    · have hltB : decide ((j : Int) < (ll.length : Int)) = false := by simp; omega
      rw [List.take_of_length_le (by omega)] at hst
      go_wp2_with fail
      refine (end_any wr w.heap.size w.heap.size _ hst hx.size hlen).mono ?_
      rintro e w2 ⟨vr, rfl, hown, hx2⟩
      go_wp2_with fail
      go_ret
      exact ⟨_, rfl, hown.mono hx.size, hx.trans hx2⟩

set_option maxHeartbeats 1000000 in
theorem sum_any (w : World) (F : Nat → Prop) (v : Value) (l : Bs) (hl : Bytes w F v l) (hlen : l.length ≤ 140737488355200) :
    Calls Try.prog 14 #[v] w fun e w' => ∃ v, e = .returned v ∧ OwnB w' w.heap.size v (Sha.sha256 l) ∧ Below w.heap.size w w' := by
  obtain ⟨A, c, hv⟩ := hl.form
  subst hv
  have hb : BList (w.alloc (.cells #[.slice A l.length c] 22)) (fun _ => True) (.slice (some ⟨w.heap.size, 0, none⟩) 1 1) [l] :=
    ⟨_, (SlAt.new w 22 [.slice A l.length c] 1 rfl (by decide)).weak (fun _ _ _ => trivial), fun i b hb => by
      rcases i with _ | i
      · simp only [List.getElem?_cons_zero, Option.some.injEq] at hb
        subst hb
        exact ⟨_, rfl, (hl.alloc _).weak (fun _ _ _ => trivial)⟩
      · simp at hb⟩
  have hx : Below w.heap.size w (w.alloc (.cells #[.slice A l.length c] 22)) := (Below.refl _ _).alloc (Nat.le_refl _) _
  go_enter Try.func14, Try.ntmps14
  go_wp2_with fail
  refine (parts_any _ _ _ _ hb (by simpa using hlen)).mono ?_
  rintro e w2 ⟨vr, rfl, hown, hx2⟩
  go_wp2_with fail
  go_ret
  refine ⟨_, rfl, ?_, hx.trans (hx2.mono hx.size)⟩
  have e1 : [l].flatten = l := by simp
  rw [e1] at hown
  exact hown.mono hx.size
end Go.Proofs.Ytfdibjgmbdkbcaa
