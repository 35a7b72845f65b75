/-
  THE PLAIN LAW: an entry has one place. No conditions.
  The maps of FleetOnce: how many each shard took; what was taken at a place. No conditions.
-/
import Derived.Maps.OwnOps
import Derived.Maps.Views
import Derived.Maps.RangeWalk
import Derived.WideKeyPair
import Derived.DeepKeys4
import Derived.Test.YtfdibjgmbdkbcaaZFrame
import Derived.Test.YtfdibjgmbdkbcaaZGp
namespace Go.Proofs.Ytfdibjgmbdkbcaa
namespace Fl
/-- all that each shard took -/
def Gt (f : Flt) (gs : List (List Bs)) : Prop := gs.length = f.sh.length ∧ ∀ (k : Nat) (s : Shd) (g : List Bs), f.sh[k]? = some s → gs[k]? = some g → g.Nodup ∧ g.length ≤ 100 ∧ (s.st = 1 → s.ents = g)
/-- what one thing that is done makes of it -/
def TookAt (gs gs' : List (List Bs)) (d : Dob) (a : Ans) : Prop :=
  (¬ (d.kind = 1 ∧ a.err = 0) → gs' = gs) ∧
  (d.kind = 1 → a.err = 0 → ∃ (k p : Nat) (g : List Bs), a.sh = k ∧ a.pl = p ∧ k < 8 ∧ p < 100 ∧ d.entry.length ≤ 200 ∧ gs[k]? = some g ∧ g.Nodup ∧
    ((g[p]? = some d.entry ∧ gs' = gs) ∨ (p = g.length ∧ d.entry ∉ g ∧ gs' = gs.set k (g ++ [d.entry]))))
theorem TookAt.no {gs : List (List Bs)} {d : Dob} {a : Ans} (h : a.err ≠ 0) : TookAt gs gs d a := ⟨fun _ => rfl, fun _ h0 => absurd h0 h⟩
theorem TookAt.other {gs : List (List Bs)} {d : Dob} {a : Ans} (h : d.kind ≠ 1) : TookAt gs gs d a := ⟨fun _ => rfl, fun h0 => absurd h0 h⟩
theorem Gt.set_ {f : Flt} {gs : List (List Bs)} (h : Gt f gs) {k : Nat} {s s' : Shd} {b : List Rec} (hk : f.sh[k]? = some s) (hs : s'.st ≠ 1) : Gt ⟨f.sh.set k s', b⟩ gs := by
  obtain ⟨hlt, hg⟩ := List.getElem?_eq_some_iff.1 hk
  refine ⟨by simpa using h.1, fun j t g hj hgj => ?_⟩
  rw [List.getElem?_set] at hj
  split at hj
  · rename_i e
    subst e
    first | (rw [if_pos hlt] at hj; injection hj with hj) | injection hj with hj
    subst hj
    exact ⟨(h.2 _ s g hk hgj).1, (h.2 _ s g hk hgj).2.1, fun h1 => absurd h1 hs⟩
  · exact h.2 j t g hj hgj
theorem Gt.step {f : Flt} {gs : List (List Bs)} (h : Gt f gs) (hI : Inv f) (d : Dob) : ∃ gs', Gt (step f d).1 gs' ∧ TookAt gs gs' d (step f d).2 := by
  unfold Fl.step
  by_cases h1 : d.kind = 1
  · rw [if_pos h1]
    unfold Fl.submit
    split
    · exact ⟨gs, h, .no (by simp [no])⟩
    · rename_i h200
      split
      · exact ⟨gs, h, .no (by simp [no])⟩
      · rename_i k hk
        split
        · exact ⟨gs, h, .no (by simp [no])⟩
        · rename_i s hs
          obtain ⟨hlt, _⟩ := List.getElem?_eq_some_iff.1 hs
          have hltg : k < gs.length := by have := h.1; omega
          have hk8 : k < 8 := by have := hI.len; clear hk; omega
          obtain ⟨g, hg⟩ : ∃ g, gs[k]? = some g := ⟨_, List.getElem?_eq_getElem hltg⟩
          obtain ⟨g1, g2, g3⟩ := h.2 k s g hs hg
          split
          · exact ⟨gs, h, .no (by simp [no])⟩
          · rename_i hst
            have hst' : s.st = 1 := by simpa using hst
            have hge := g3 hst'
            split
            · rename_i i hi
              obtain ⟨hil, hb, _⟩ := List.findIdx?_eq_some_iff_getElem.1 hi
              have hgi : g[i]? = some d.entry := by
                rw [← hge, List.getElem?_eq_getElem hil]
                simpa using hb
              refine ⟨gs, h, fun hn => rfl, fun _ _ => ⟨k, i, g, rfl, rfl, hk8, ?_, by omega, hg, g1, .inl ⟨hgi, rfl⟩⟩⟩
              rw [hge] at hil
              clear hk hi
              omega
            · rename_i hi
              have hnin : d.entry ∉ g := by
                rw [← hge]
                intro hm
                have := List.findIdx?_eq_none_iff.1 hi _ hm
                simp at this
              split
              · exact ⟨gs, h, .no (by simp [no])⟩
              · rename_i h100
                have h101 : g.length < 100 := by rw [← hge]; have := (hI.sh k s hs).fine.1; clear hk hi; omega
                refine ⟨gs.set k (g ++ [d.entry]), ⟨by simpa using h.1, fun j t x hj hx => ?_⟩, fun hn => absurd ⟨h1, rfl⟩ hn, fun _ _ => ⟨k, g.length, g, rfl, by show ((s.ents.length : Nat) : Int) = _; rw [hge], hk8, h101, by omega, hg, g1, .inr ⟨rfl, hnin, rfl⟩⟩⟩
                rw [List.getElem?_set] at hj hx
                split at hj
                · rename_i e
                  subst e
                  rw [if_pos rfl, if_pos hltg] at hx
                  first | (rw [if_pos hlt] at hj; injection hj with hj) | injection hj with hj
                  injection hx with hx
                  subst hj hx
                  refine ⟨?_, ?_, fun _ => by show s.ents ++ [d.entry] = _; rw [hge]⟩
                  · rw [List.nodup_append]
                    refine ⟨g1, by simp, fun a ha b hb => ?_⟩
                    simp only [List.mem_singleton] at hb
                    subst hb
                    intro e
                    subst e
                    exact hnin ha
                  · rw [List.length_append]
                    simp only [List.length_cons, List.length_nil]
                    omega
                · rename_i e
                  rw [if_neg e] at hx
                  exact h.2 j t x hj hx
  · rw [if_neg h1]
    split
    · exact ⟨gs, h, .other h1⟩
    · rename_i h25
      split
      · exact ⟨gs, h, .other h1⟩
      · split
        · exact ⟨gs, h, .other h1⟩
        · rename_i s hs
          split
          · exact ⟨gs, h, .other h1⟩
          · rename_i hw
            unfold want at hw
            split
            · unfold freeze
              exact ⟨gs, h.set_ hs (by simp), .other h1⟩
            · rename_i h2
              rw [if_neg h2] at hw
              split
              · unfold lay
                exact ⟨gs, h.set_ hs (by simp), .other h1⟩
              · rename_i h3
                rw [if_neg h3] at hw
                have hst : s.st = 3 := by simpa using hw
                split
                · unfold retire
                  split
                  · exact ⟨gs, h.set_ hs (by simp), .other h1⟩
                  · exact ⟨gs, h, .other h1⟩
                · unfold spoil
                  split
                  · exact ⟨gs, h, .other h1⟩
                  · split
                    · exact ⟨gs, h, .other h1⟩
                    · exact ⟨gs, h.set_ hs (by simp [hst]), .other h1⟩
theorem Gt.start (ws : List (Int × Int)) : Gt (start ws) (ws.map fun _ => []) := by
  refine ⟨by simp [Fl.start], fun k s g hk hg => ?_⟩
  unfold Fl.start at hk
  simp only [List.getElem?_map] at hk hg
  obtain ⟨p, _, rfl⟩ := Option.map_eq_some_iff.1 hk
  obtain ⟨q, _, rfl⟩ := Option.map_eq_some_iff.1 hg
  exact ⟨by simp, by simp, fun _ => rfl⟩
theorem once_round {ws : List (Int × Int)} {l : List Dob} (hw : (wrongW ws).1 = 0) {j : Nat} (hj : j < l.length) {gs : List (List Bs)} (h : Gt (run (start ws) (l.take j)).1 gs) (hj2 : j < (run (start ws) l).2.length) :
    ∃ gs', Gt (run (start ws) (l.take (j + 1))).1 gs' ∧ TookAt gs gs' l[j] (run (start ws) l).2[j] := by
  have hI : Inv (run (start ws) (l.take j)).1 := (Inv.start hw).run _
  obtain ⟨gs', g1, g2⟩ := h.step hI l[j]
  have hr := run_append (start ws) (l.take j) [l[j]]
  rw [← List.take_succ_eq_append_getElem hj] at hr
  refine ⟨gs', by rw [hr]; exact g1, ?_⟩
  have ht := run_take (start ws) l (j + 1)
  have e : (run (start ws) l).2[j]? = some (step (run (start ws) (l.take j)).1 l[j]).2 := by
    have h1 : ((run (start ws) l).2.take (j + 1))[j]? = (run (start ws) l).2[j]? := by rw [List.getElem?_take_of_lt (by omega)]
    rw [← h1, ← ht, hr]
    have hl : (run (start ws) (l.take j)).2.length = j := by rw [length_run, List.length_take]; omega
    rw [List.getElem?_append_right (by omega), hl]
    simp [run]
  rw [List.getElem?_eq_getElem hj2] at e
  injection e with e
  rw [e]
  exact g2
/-- what was taken at a place -/
def val (gs : List (List Bs)) (a b : Int) : Option Bs := if 0 ≤ a ∧ 0 ≤ b then (gs.getD a.toNat [])[b.toNat]? else none
def num (gs : List (List Bs)) (k : Nat) : Nat := (gs.getD k []).length
theorem val_nat (gs : List (List Bs)) (k p : Nat) : val gs (k : Int) (p : Int) = (gs.getD k [])[p]? := by
  unfold val
  rw [if_pos ⟨by omega, by omega⟩, Int.toNat_natCast, Int.toNat_natCast]
theorem val_at {gs : List (List Bs)} {k : Nat} {g : List Bs} (hg : gs[k]? = some g) (p : Nat) : val gs (k : Int) (p : Int) = g[p]? := by
  rw [val_nat, List.getD_eq_getElem?_getD, hg]; rfl
theorem num_at {gs : List (List Bs)} {k : Nat} {g : List Bs} (hg : gs[k]? = some g) : num gs k = g.length := by
  unfold num
  rw [List.getD_eq_getElem?_getD, hg]; rfl
theorem num_set {gs : List (List Bs)} {k : Nat} {g : List Bs} (hg : gs[k]? = some g) (e : Bs) (j : Nat) : num (gs.set k (g ++ [e])) j = if j = k then g.length + 1 else num gs j := by
  obtain ⟨hlt, _⟩ := List.getElem?_eq_some_iff.1 hg
  unfold num
  rw [List.getD_eq_getElem?_getD, List.getD_eq_getElem?_getD]
  by_cases h : j = k
  · subst h
    rw [if_pos rfl, List.getElem?_set_self hlt]
    simp
  · rw [if_neg h, List.getElem?_set_ne (fun e => h e.symm)]
theorem val_set {gs : List (List Bs)} {k : Nat} {g : List Bs} (hg : gs[k]? = some g) (e : Bs) (a b : Int) : val (gs.set k (g ++ [e])) a b = if a = (k : Int) ∧ b = (g.length : Int) then some e else val gs a b := by
  obtain ⟨hlt, _⟩ := List.getElem?_eq_some_iff.1 hg
  unfold val
  by_cases h0 : 0 ≤ a ∧ 0 ≤ b
  · rw [if_pos h0, if_pos h0]
    rw [List.getD_eq_getElem?_getD, List.getD_eq_getElem?_getD]
    by_cases ha : a = (k : Int)
    · subst ha
      rw [Int.toNat_natCast, List.getElem?_set_self hlt, hg]
      simp only [Option.getD_some]
      by_cases hb : b = (g.length : Int)
      · subst hb
        simp
      · rw [if_neg (fun h => hb h.2)]
        by_cases hlt2 : b.toNat < g.length
        · rw [List.getElem?_append_left hlt2]
        · rw [List.getElem?_eq_none (by rw [List.length_append]; simp; omega), List.getElem?_eq_none (by omega)]
    · rw [if_neg (fun h => ha h.1), List.getElem?_set_ne (by omega)]
  · rw [if_neg h0, if_neg h0, if_neg (fun h => h0 ⟨by omega, by omega⟩)]
/-- of one shard no two places have one entry -/
theorem val_one {gs : List (List Bs)} {k : Nat} {g : List Bs} (hg : gs[k]? = some g) (hn : g.Nodup) {b p : Int} {e : Bs} (h1 : val gs (k : Int) b = some e) (h2 : val gs (k : Int) p = some e) : b = p := by
  have e0 : ∀ x : Int, val gs (k : Int) x = some e → 0 ≤ x ∧ g[x.toNat]? = some e := fun x h => by
    unfold val at h
    split at h
    · rename_i h0
      rw [List.getD_eq_getElem?_getD, Int.toNat_natCast, hg] at h
      exact ⟨h0.2, h⟩
    · cases h
  obtain ⟨b0, hb⟩ := e0 b h1
  obtain ⟨p0, hp⟩ := e0 p h2
  obtain ⟨b1, _⟩ := List.getElem?_eq_some_iff.1 hb
  have hbp : b.toNat = p.toNat := (List.getElem?_inj b1 hn).1 (hb.trans hp.symm)
  omega
theorem val_mem {gs : List (List Bs)} {k : Nat} {g : List Bs} (hg : gs[k]? = some g) {b : Int} {e : Bs} (h1 : val gs (k : Int) b = some e) : e ∈ g := by
  unfold val at h1
  split at h1
  · rw [List.getD_eq_getElem?_getD, Int.toNat_natCast, hg] at h1
    exact List.mem_of_getElem? h1
  · cases h1
end Fl
end Go.Proofs.Ytfdibjgmbdkbcaa

namespace Go.Proofs.Ytfdibjgmbdkbcaa
open Go.RowKit Go.Lib Go.Maps Go.WideMaps

theorem law_intO : Keyed Try.prog 3 := int_keyed Try.underlying3
theorem arrO : ArrKey Try.prog 112 3 2 := ⟨Try.underlying112, by kernel_rfl, by kernel_rfl, by kernel_rfl⟩
theorem hszO : ∃ m, Try.prog.types.size = m + 1 := ⟨Try.prog.types.size - 1, by kernel_rfl⟩
set_option maxRecDepth 100000 in
theorem law_pairO : Keyed Try.prog 112 := Keyed.of_law (deep_law_laid laidOutProg (m := 2) (by omega) (of_decide_eq_true (by kernel_rfl)) (by kernel_rfl) arrO.wide)
def keyL (a b : Int) : Lit := .string (keyBytes [.int .i64 a, .int .i64 b])
set_option maxRecDepth 100000 in
theorem keyOf_pairO {a b : Int} (wa : (Lit.int .i64 a).wf = true) (wb : (Lit.int .i64 b).wf = true) : keyOf Try.prog 112 (.agg #[.int .i64 a, .int .i64 b]) = some (keyL a b) :=
  keyOf_pair arrO Try.underlying3 hszO wa wb
theorem keyL_inj {a b c d : Int} (wa : (Lit.int .i64 a).wf = true) (wb : (Lit.int .i64 b).wf = true) (wc : (Lit.int .i64 c).wf = true) (wd : (Lit.int .i64 d).wf = true) (h : keyL a b = keyL c d) : a = c ∧ b = d := by
  have h1 := keyOf_pairO wa wb
  have h2 := keyOf_pairO wc wd
  rw [h] at h1
  have h3 := law_pairO.inj h1 h2
  injection h3 with h3
  have h4 := congrArg Array.toList h3
  simp only [List.cons.injEq, Value.int.injEq] at h4
  exact ⟨h4.1.2, h4.2.1.2⟩
set_option maxRecDepth 100000 in
theorem key_pair_inv {v : Value} {kl : Lit} (h : keyOf Try.prog 112 v = some kl) : ∃ a b : Int, (Lit.int .i64 a).wf = true ∧ (Lit.int .i64 b).wf = true ∧ v = .agg #[.int .i64 a, .int .i64 b] ∧ kl = keyL a b := by
  obtain ⟨m, hm⟩ := hszO
  unfold keyOf at h
  simp only [arrO.hu] at h
  split at h
  · rename_i hf
    obtain ⟨_, hf⟩ := (Bool.and_eq_true _ _ ▸ hf : _ ∧ _)
    obtain ⟨ls, hl, hk⟩ := Option.map_eq_some_iff.1 h
    obtain ⟨c0, c1, rfl⟩ : ∃ c0 c1, v = .agg #[c0, c1] := by
      cases v with
      | agg cs =>
        have hs : cs.size = 2 := by
          have h2 := hf
          simp only [Value.formed, arrO.hu, arrO.size] at h2
          simpa using h2
        obtain ⟨l⟩ := cs
        match l, hs with
        | [c0, c1], _ => exact ⟨c0, c1, rfl⟩
      | _ => simp [Value.formed, arrO.hu] at hf
    rw [hm] at hl
    unfold Program.keyLits at hl
    simp only [arrO.hu, Value.cells] at hl
    rw [if_pos (by rw [arrO.size]; rfl), show List.range 2 = [0, 1] from rfl, List.mapM_cons, List.mapM_cons, List.mapM_nil] at hl
    simp only [bind, Option.bind_eq_some_iff, pure, Option.some.injEq, arrO.one, Option.map_eq_some_iff] at hl
    obtain ⟨_, ⟨y0, h0, _, ⟨y1, h1, _, rfl, rfl⟩, rfl⟩, rfl⟩ := hl
    obtain ⟨a, ea, rfl⟩ := keyLits_int' Try.underlying3 h0
    obtain ⟨b, eb, rfl⟩ := keyLits_int' Try.underlying3 h1
    have w0 := keyLits_wf h0 _ (List.mem_singleton.2 rfl)
    have w1 := keyLits_wf h1 _ (List.mem_singleton.2 rfl)
    simp at ea eb
    subst ea eb
    exact ⟨a, b, w0, w1, rfl, by rw [← hk]; rfl⟩
  · cases h
/-- how many each shard took -/
def NextM (D : DataW Unit) (gs : List (List Bs)) : Prop := IsMap D ∧ ∀ k : Nat, D.atKey (.int .i64 (k : Int)) (.lit (.int .i64 0)) = .lit (.int .i64 (Fl.num gs k : Nat))
theorem NextM.nil_ (ws : List (Int × Int)) : NextM (.map []) (ws.map fun _ => []) := by
  refine ⟨⟨_, rfl⟩, fun k => ?_⟩
  have : Fl.num (ws.map fun _ => []) k = 0 := by
    unfold Fl.num
    rw [List.getD_eq_getElem?_getD, List.getElem?_map]
    cases ws[k]? <;> rfl
  rw [this]
  rfl
theorem NextM.put {D : DataW Unit} {gs : List (List Bs)} (h : NextM D gs) {k : Nat} {g : List Bs} (hg : gs[k]? = some g) (e : Bs) : NextM (D.put (.int .i64 (k : Int)) (.lit (.int .i64 ((g.length : Int) + 1)))) (gs.set k (g ++ [e])) := by
  refine ⟨h.1.put _ _, fun j => ?_⟩
  rw [Fl.num_set hg]
  by_cases hj : j = k
  · subst hj
    rw [atKey_put_same h.1 (by trivial), if_pos rfl]
    rfl
  · rw [atKey_put_other (fun he => hj (by injection he; omega)), h.2 j, if_neg hj]
/-- what was taken, and where -/
def HadM (D : DataW Unit) (gs : List (List Bs)) : Prop := IsMap D ∧ ∀ a b : Int, (Lit.int .i64 a).wf = true → (Lit.int .i64 b).wf = true → ∀ zd, D.atKey (keyL a b) zd = match Fl.val gs a b with | some e => .lit (.string e) | none => zd
theorem HadM.nil_ (ws : List (Int × Int)) : HadM (.map []) (ws.map fun _ => []) := by
  refine ⟨⟨_, rfl⟩, fun a b _ _ zd => ?_⟩
  have : Fl.val (ws.map fun _ => []) a b = none := by
    unfold Fl.val
    split
    · rw [List.getD_eq_getElem?_getD, List.getElem?_map]
      cases ws[a.toNat]? <;> rfl
    · rfl
  rw [this]
  rfl
theorem HadM.put {D : DataW Unit} {gs : List (List Bs)} (h : HadM D gs) {k : Nat} (hk : k < 8) {g : List Bs} (hg : gs[k]? = some g) (hl : g.length < 1000) (e : Bs) : HadM (D.put (keyL (k : Int) (g.length : Int)) (.lit (.string e))) (gs.set k (g ++ [e])) := by
  refine ⟨h.1.put _ _, fun a b wa wb zd => ?_⟩
  rw [Fl.val_set hg]
  have wk : (Lit.int .i64 (k : Int)).wf = true := WalkArith.wf_i64 (by omega)
  have wl : (Lit.int .i64 (g.length : Int)).wf = true := WalkArith.wf_i64 (by omega)
  by_cases hab : a = (k : Int) ∧ b = (g.length : Int)
  · obtain ⟨rfl, rfl⟩ := hab
    rw [atKey_put_same h.1 (by trivial), if_pos ⟨rfl, rfl⟩]
  · rw [atKey_put_other (fun he => hab (keyL_inj wa wb wk wl he)), if_neg hab, h.2 a b wa wb]
theorem zero_strO (w : World) : (zeroValue 9).run Try.prog w = .ok (.string ⟨#[]⟩) w := by kernel_rfl
theorem zero_intO (w : World) : (zeroValue 3).run Try.prog w = .ok (.int .i64 0) w := by kernel_rfl
theorem plainElem_string_invO {H : Type} {P : Program} {e : TypeId} (he : P.underlying e = some .string) {v : Value} {z : DataW H × List MemPlace} (h : plainElem P e v = some z) : ∃ s : ByteArray, v = .string s ∧ z = (.lit (.string s.data.toList), []) := by
  unfold plainElem at h
  rw [he] at h
  cases v <;> simp at h
  obtain ⟨_, rfl⟩ := h
  exact ⟨_, rfl, rfl⟩
set_option maxRecDepth 100000 in
theorem look_next {w : World} {g n : Nat} {D : DataW Unit} {gs : List (List Bs)} (hown : w.ownsMap Try.prog 3 (plainElem Try.prog 3) g n D) (hD : NextM D gs) (k : Nat) (hk : k < 100) :
    (Instr.lookup 108 (.map (some g)) (.int .i64 (k : Int)) false).run Try.prog w = .ok (.int .i64 (Fl.num gs k : Nat)) w := by
  obtain ⟨c, hrun, hat, _⟩ := hown.lookup_int law_intO Try.underlying108 Try.underlying3 (zero_intO w) (keyOf_int_mk Try.underlying3 (a := (k : Int)) (WalkArith.wf_i64 (by omega)))
  rw [hD.2 k] at hat
  injection hat with hat
  injection hat with _ hat
  rw [hat]
  exact hrun
set_option maxRecDepth 100000 in
theorem look_had {w : World} {g n : Nat} {D : DataW Unit} {gs : List (List Bs)} (hown : w.ownsMap Try.prog 112 (plainElem Try.prog 9) g n D) (hD : HadM D gs) (k p : Nat) (hk : k < 100) (hp : p < 1000) :
    (Instr.lookup 109 (.map (some g)) (.agg #[.int .i64 (k : Int), .int .i64 (p : Int)]) true).run Try.prog w = .ok (.tuple #[.string ⟨((Fl.val gs k p).getD []).toArray⟩, .bool (Fl.val gs k p).isSome]) w := by
  obtain ⟨es, clock, hb, F, _, rfl⟩ := hown
  have wk : (Lit.int .i64 (k : Int)).wf = true := WalkArith.wf_i64 (by omega)
  have wp : (Lit.int .i64 (p : Int)).wf = true := WalkArith.wf_i64 (by omega)
  have h0 := hD.2 _ _ wk wp
  rcases Maps.fit_look true law_pairO Try.underlying109 (zero_strO w) hb F (keyOf_pairO wk wp) with ⟨hrun, _, hat⟩ | ⟨e0, y, _, _, hrun, hRv, hat, _⟩
  · have hv : Fl.val gs k p = none := by
      have h1 := (hat (.lit (.bool true))).symm.trans (h0 _)
      cases hv : Fl.val gs k p with
      | none => rfl
      | some e => rw [hv] at h1; simp at h1
    rw [hv]
    exact hrun
  · obtain ⟨s, hs, rfl⟩ := plainElem_string_invO Try.underlying9 hRv
    have h1 := (hat (.lit (.bool true))).symm.trans (h0 _)
    cases hv : Fl.val gs k p with
    | none => rw [hv] at h1; simp at h1
    | some e =>
      rw [hv] at h1
      simp only [DataW.lit.injEq, Lit.string.injEq] at h1
      rw [hs] at hrun
      simp only [Option.getD_some, Option.isSome_some]
      rw [← h1]
      exact hrun
/-- what comes out of the range is a place that was taken -/
theorem had_at {D : DataW Unit} {gs : List (List Bs)} (hD : HadM D gs) {a b : Int} (wa : (Lit.int .i64 a).wf = true) (wb : (Lit.int .i64 b).wf = true) {e : Bs} (h : ∀ zd, D.atKey (keyL a b) zd = .lit (.string e)) : Fl.val gs a b = some e := by
  have h0 := (h (.lit (.bool true))).symm.trans (hD.2 a b wa wb _)
  cases hv : Fl.val gs a b with
  | none => rw [hv] at h0; simp at h0
  | some x =>
    rw [hv] at h0
    simp only [DataW.lit.injEq, Lit.string.injEq] at h0
    rw [h0]
end Go.Proofs.Ytfdibjgmbdkbcaa
