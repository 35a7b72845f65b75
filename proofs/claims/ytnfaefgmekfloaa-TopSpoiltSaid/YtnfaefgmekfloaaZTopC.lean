/-
  THE WALK of yeartop.unlike. Conditions: what comes in is read.
-/
import Derived.Maps.OwnOps
import Derived.Maps.Views
import Derived.StringKeys
import Derived.Test.YtnfaefgmekfloaaZTopA
namespace Go.Proofs.Ytnfaefgmekfloaa
open Go.RowKit Go.Lib Go.Maps

theorem law_str : Keyed Try.prog 9 := string_keyed Try.underlying9
theorem plainElem_bool_inv {H : Type} {P : Program} {e : TypeId} (he : P.underlying e = some .bool) {v : Value} {z : DataW H × List MemPlace} (h : plainElem P e v = some z) : ∃ x, v = .bool x ∧ z = (.lit (.bool x), []) := by
  unfold plainElem at h
  rw [he] at h
  cases v <;> simp at h
  subst h
  exact ⟨_, rfl, rfl⟩
theorem zero_bool (w : World) : (zeroValue 4).run Try.prog w = .ok (.bool false) w := by kernel_rfl
/-- a set of texts -/
def SetM (D : DataW Unit) (l : List Bs) : Prop := IsMap D ∧ ∀ x : Bs, D.atKey (.string x) (.lit (.bool false)) = .lit (.bool (decide (x ∈ l)))
theorem SetM.nil_ : SetM (.map []) [] := ⟨⟨_, rfl⟩, fun _ => rfl⟩
theorem SetM.put {D : DataW Unit} {l : List Bs} (h : SetM D l) (e : Bs) : SetM (D.put (.string e) (.lit (.bool true))) (l ++ [e]) := by
  refine ⟨h.1.put _ _, fun x => ?_⟩
  by_cases hx : x = e
  · subst hx
    rw [atKey_put_same h.1 (by trivial)]
    simp
  · rw [atKey_put_other (fun he => hx (by injection he)), h.2 x]
    simp [hx]
set_option maxRecDepth 100000 in
theorem look_set {w : World} {g n : Nat} {D : DataW Unit} {l : List Bs} (hown : w.ownsMap Try.prog 9 (plainElem Try.prog 4) g n D) (hD : SetM D l) (e : Bs) (he : e.length ≤ maxLen) :
    (Instr.lookup 83 (.map (some g)) (.string ⟨e.toArray⟩) false).run Try.prog w = .ok (.bool (decide (e ∈ l))) w := by
  obtain ⟨v, ps, hrun, hv⟩ := hown.lookup law_str Try.underlying83 (zero_bool w) (plainElem_bool Try.underlying4 false) (WideMaps.keyOf_string_mk Try.underlying9 (s := ⟨e.toArray⟩) (show e.toArray.size ≤ maxLen by simpa using he))
  obtain ⟨x, rfl, hx⟩ := plainElem_bool_inv Try.underlying4 hv
  have h := hD.2 e
  injection hx with hx _
  have hx' : D.atKey (.string e) (.lit (.bool false)) = .lit (.bool x) := hx
  rw [h] at hx'
  injection hx' with hx'
  injection hx' with hx'
  rw [hx']
  exact hrun
theorem nodup_snoc {l : List Bs} {e : Bs} (h : l.Nodup) (he : e ∉ l) : (l ++ [e]).Nodup := by
  rw [List.nodup_append]
  refine ⟨h, by simp, fun a ha b hb => ?_⟩
  simp only [List.mem_singleton] at hb
  subst hb
  intro e
  subst e
  exact he ha

set_option maxRecDepth 100000 in
set_option maxHeartbeats 4000000 in
theorem unlike_any (w : World) (F : Nat → Prop) (v : Value) (es : List Bs) (h : BList w F v es) :
    Calls Try.prog 12 #[v] w fun e w' => ∃ b, e = .returned (.bool b) ∧ (b = true → Fl.Unlike es) ∧ Below w.heap.size w w' := by
  obtain ⟨A, c, hv, hnc, hcm, _⟩ := h.shape
  subst hv
  unfold maxLen at hcm
  have hm0 : (w.alloc (.map #[] 0)).ownsMap Try.prog 9 (plainElem (H := Unit) Try.prog 4) w.heap.size 0 (.map []) := World.ownsMap_made w _ _ _
  have hx0 := (Below.refl w.heap.size w).alloc (Nat.le_refl _) (.map #[] 0)
  have hmm : ∀ (t : TypeId) (w : World), (Instr.makeMap t none).run Try.prog w = .ok (.map (some w.heap.size)) (w.alloc (.map #[] 0)) := fun _ _ => rfl
  go_enter Try.func12, Try.ntmps12
  go_wp2_with fail
  clear hmm
  generalize w.alloc (.map #[] 0) = w1 at *
  go_loopg [9] es.length (fun m i wr => ∃ j : Nat, j + m = es.length ∧ i = .int .i64 (j : Int) ∧ ∃ (D : DataW Unit) (n : Nat), wr.ownsMap Try.prog 9 (plainElem Try.prog 4) w.heap.size n D ∧ n ≤ j ∧ Hid (SetM D (es.take j)) ∧ Hid ((es.take j).Nodup ∧ ∀ e ∈ es.take j, e.length ≤ 200) ∧ Below w.heap.size w wr)
  case atStart => exact ⟨0, by omega, rfl, _, 0, hm0, Nat.le_refl _, Lib.hid SetM.nil_, Lib.hid (by simp), hx0⟩
  case round =>
    obtain ⟨j, hj, rfl, D, n, hown, hnj, HD, HU, hx⟩ := hrel
    by_cases hlt : j < es.length
    · obtain ⟨g, off, u, hA, hcell, _, hg, hu⟩ := (h.below hx).at_ hlt
      obtain ⟨Ae, ce, hue⟩ := hu.form
      subst hA hue
      have hltB : (j : Int) < (es.length : Int) := by omega
      have hj0 : (0 : Int) ≤ (j : Int) := by omega
      have hconv := conv_str wr F _ es[j] hu
      have hel : es[j].length ≤ maxLen := by obtain ⟨_, _, hh, h1, h2, _⟩ := hu; injection hh with _ _ h3; omega
      have hlook := look_set hown HD.out es[j] hel
      have HN : Hid (es[j].length ≤ 200 → es[j] ∉ es.take j → (es.take (j + 1)).Nodup ∧ ∀ e ∈ es.take (j + 1), e.length ≤ 200) := Lib.hid (fun h1 h2 => by
        rw [List.take_succ_eq_append_getElem hlt]
        refine ⟨nodup_snoc HU.out.1 h2, fun e he => ?_⟩
        rcases List.mem_append.1 he with he | he
        · exact HU.out.2 e he
        · rw [List.mem_singleton.1 he]; exact h1)
      have HD2 : Hid (SetM (D.put (.string es[j]) (.lit (.bool true))) (es.take (j + 1))) := Lib.hid (by rw [List.take_succ_eq_append_getElem hlt]; exact HD.out.put _)
      by_cases hmem : es[j] ∈ es.take j
      · rw [decide_eq_true hmem] at hlook
        clear hmem
        generalize es[j] = e at *
        go_wp2_with fail
        go_ret
        exact ⟨_, rfl, fun h => (by cases h), hx⟩
      · rw [decide_eq_false hmem] at hlook
        by_cases hbig : 200 < es[j].length
        · have hbigB : (200 : Int) < (es[j].length : Int) := by omega
          clear hmem hbig
          generalize es[j] = e at *
          go_wp2_with fail
          go_ret
          exact ⟨_, rfl, fun h => (by cases h), hx⟩
        · have hbigB : decide ((200 : Int) < (es[j].length : Int)) = false := decide_eq_false (by omega)
          have HN2 := Lib.hid (HN.out (by omega) hmem)
          have hkey := WideMaps.keyOf_string_mk (P := Try.prog) (k := 9) Try.underlying9 (s := ⟨es[j].toArray⟩) (show es[j].toArray.size ≤ maxLen by simpa using hel)
          clear hmem hbig HN
          generalize es[j] = e at *
          go_wp2_with (at_mapUpdate
                       refine wpList_mapUpdate_own _ rfl (.tmp 22) (.tmp 24) (.const (.bool true)) 83 rfl 9 4 law_str Try.underlying83 _ w.heap.size n D rfl hown (by simp only [maxLen]; omega) (.string ⟨e.toArray⟩) (.bool true) (.string e) rfl rfl hkey (.lit (.bool true)) [] (plainElem_bool Try.underlying4 true) ?_
                       intro w2 hown2 hgr2
                       have hx2 : Below w.heap.size w w2 := hx.grown hgr2 hx.size (fun b hb => by injection hb with hb; omega))
          go_roundg (gk - 1)
          case measure => omega
          case rel => exact ⟨j + 1, by omega, by go_num, _, n + 1, hown2, by omega, HD2, HN2, hx2⟩
    · have hltB : decide ((j : Int) < (es.length : Int)) = false := decide_eq_false (by omega)
      have htk : es.take j = es := List.take_of_length_le (by omega)
      have HU2 : Hid (es.Nodup ∧ ∀ e ∈ es, e.length ≤ 200) := Lib.hid (by have := HU.out; rw [htk] at this; exact this)
      clear htk
      by_cases h30 : es.length ≤ 30
      · have h30B : (es.length : Int) ≤ 30 := by omega
        go_wp2_with fail
        go_ret
        exact ⟨_, rfl, fun _ => ⟨HU2.out.1, HU2.out.2, h30⟩, hx⟩
      · have h30B : decide ((es.length : Int) ≤ 30) = false := decide_eq_false (by omega)
        go_wp2_with fail
        go_ret
        exact ⟨_, rfl, fun h => (by cases h), hx⟩
end Go.Proofs.Ytnfaefgmekfloaa
