/-
  THE PLAIN LAW: each entry that was taken is shown, if nothing was spoilt. No conditions.
  THE PLAIN LAW: what is retired is what it was, or two texts are told. No conditions.
-/
import Derived.Test.YtnpfmboolbhpaaaZGp
namespace Go.Proofs.Ytnpfmboolbhpaaa
namespace Fl
theorem play_bad {ws : List (Int × Int)} {l : List Dob} {f : Flt} {la : List Ans} {a b : Nat} (h : play ws l = (f, la, (a, b))) (ha : a ≠ 0) : la = [] := by
  unfold play at h
  split at h
  · injection h with _ h
    injection h with h _
    exact h.symm
  · split at h
    · injection h with _ h
      injection h with h _
      exact h.symm
    · injection h with _ h
      injection h with _ h
      injection h with h _
      exact absurd h.symm ha
theorem shown_taken {ws : List (Int × Int)} {l : List Dob} {f : Flt} {la : List Ans} {b : Nat} (h : play ws l = (f, la, (0, b))) (h5 : ∀ d ∈ l, d.kind ≠ 5) {i : Nat} {d : Dob} {a : Ans} (hd : l[i]? = some d) (ha : la[i]? = some a) (h1 : d.kind = 1) (h0 : a.err = 0) :
    ∃ (k p : Nat) (hk : k < f.sh.length), a.sh = (k : Int) ∧ a.pl = (p : Int) ∧ (f.sh[k].st ≠ 1 → ∃ s : Shw, showC f k p = (0, s) ∧ s.entry = d.entry ∧ checkC s f.book.length (bookRoot f.book) = true) := by
  obtain ⟨hI, e1, e2, hw, _⟩ := play_ok h
  rw [e2] at ha
  obtain ⟨k, p, s, a1, a2, hs, hp⟩ := taken_there hw h5 hd ha h1 h0
  rw [← e1] at hs
  obtain ⟨hlt, hg⟩ := List.getElem?_eq_some_iff.1 hs
  refine ⟨k, p, hlt, a1, a2, fun hst => ?_⟩
  rw [hg] at hst
  have hst4 := (hI.sh k s hs).st
  have h2 : 2 ≤ s.st := by omega
  obtain ⟨hpl, hpe⟩ := List.getElem?_eq_some_iff.1 hp
  obtain ⟨r, hr, h3, h4, h5', h6, h7, h8, h9⟩ := hI.frozen hs h2
  obtain ⟨r', hr', g3, g4, hsh⟩ := showC_frozen hI hs h2 (p : Int)
  rw [h3] at g3
  injection g3 with g3
  subst g3
  rw [if_pos (by omega), Int.toNat_natCast] at hsh
  refine ⟨_, hsh, ?_, check_shown hI hs h2 h3 hpl⟩
  unfold shown
  simp only [List.getD_eq_getElem?_getD, hp, Option.getD_some]
end Fl
end Go.Proofs.Ytnpfmboolbhpaaa

namespace Go.Proofs.Ytnpfmboolbhpaaa
theorem clashOf_two {q : Tr.PB} (h : Tr.clashOf q.1 q.2 = some q) : q.1 ≠ q.2 ∧ Sha.sha256 q.1 = Sha.sha256 q.2 := by
  unfold Tr.clashOf at h
  split at h
  · assumption
  · cases h
namespace Fl
theorem step_retired {g : Flt} {d : Dob} (h4 : d.kind = 4) (h0 : (step g d).2.err = 0) : ∃ (k : Nat) (s : Shd), d.n = (k : Int) ∧ g.sh[k]? = some s ∧ s.st = 3 ∧ (Shf.verC s.man).1.1 = 0 ∧ (step g d).1 = ⟨g.sh.set k { s with st := 4, ents := [] }, g.book⟩ := by
  unfold step at h0 ⊢
  rw [if_neg (by omega), if_neg (by omega)] at h0 ⊢
  by_cases hr : d.n < 0 ∨ (g.sh.length : Int) ≤ d.n
  · rw [if_pos hr] at h0
    simp [no] at h0
  rw [if_neg hr] at h0 ⊢
  obtain ⟨k, hk⟩ : ∃ k : Nat, d.n = (k : Int) := ⟨d.n.toNat, by omega⟩
  rw [hk] at h0 hr ⊢
  rw [Int.toNat_natCast] at h0 ⊢
  have hlt : k < g.sh.length := by omega
  have hs := List.getElem?_eq_getElem hlt
  rw [hs] at h0 ⊢
  simp only at h0 ⊢
  refine ⟨k, g.sh[k], rfl, hs, ?_⟩
  have hw : want d.kind = 3 := by unfold want; rw [if_neg (by omega), if_neg (by omega)]
  rw [hw] at h0 ⊢
  by_cases h3 : g.sh[k].st ≠ 3
  · rw [if_pos h3] at h0
    simp [no] at h0
  rw [if_neg h3, if_neg (by omega), if_neg (by omega), if_pos h4] at h0 ⊢
  unfold retire at h0 ⊢
  by_cases hv : (Shf.verC g.sh[k].man).1.1 = 0
  · rw [if_pos hv]
    exact ⟨by omega, hv, rfl⟩
  · rw [if_neg hv] at h0
    simp only [no] at h0
    exact absurd h0 hv
theorem run_at {f : Flt} {l : List Dob} {i : Nat} {d : Dob} (hd : l[i]? = some d) : (run f l).2[i]? = some (step (run f (l.take i)).1 d).2 ∧ (run f l).1 = (run (step (run f (l.take i)).1 d).1 (l.drop (i + 1))).1 := by
  obtain ⟨hlt, hg⟩ := List.getElem?_eq_some_iff.1 hd
  have he : l = l.take i ++ d :: l.drop (i + 1) := by rw [← hg, ← List.drop_eq_getElem_cons hlt, List.take_append_drop]
  have h := run_append f (l.take i) (d :: l.drop (i + 1))
  rw [← he] at h
  rw [h]
  simp only [run]
  refine ⟨?_, trivial⟩
  have hl : (run f (l.take i)).2.length = i := by rw [length_run, List.length_take]; omega
  rw [List.getElem?_append_right (by omega), hl]
  simp
/-- a shard that was retired: what it had, and what it shows -/
theorem keeps {ws : List (Int × Int)} {l : List Dob} {f g : Flt} {la lb : List Ans} {b a2 b2 : Nat} (h : play ws l = (f, la, (0, b))) {i : Nat} (h2 : play ws (l.take i) = (g, lb, (a2, b2))) {d : Dob} {a : Ans} (hd : l[i]? = some d) (ha : la[i]? = some a) (h4 : d.kind = 4) (h0 : a.err = 0) :
    ∃ (k : Nat) (hk : k < g.sh.length) (hk' : k < f.sh.length), d.n = (k : Int) ∧ f.sh[k].ents = [] ∧ ∀ (j : Nat) (hj : j < g.sh[k].ents.length), ∃ s : Shw, showC f k j = (0, s) ∧ (s.entry ≠ g.sh[k].ents[j] → ∃ q, clashS g.sh[k].ents s.entry j s.path = some q ∧ q.1 ≠ q.2 ∧ Sha.sha256 q.1 = Sha.sha256 q.2 ∧ q.1.length ≤ 201 ∧ q.2.length ≤ 201) := by
  obtain ⟨hI, e1, e2, hw, hl⟩ := play_ok h
  have hg : g = (run (start ws) (l.take i)).1 := by
    unfold play at h2
    rw [if_neg (by simpa using hw), if_neg (by rw [List.length_take]; omega)] at h2
    injection h2 with h2 _
    exact h2.symm
  obtain ⟨r1, r2⟩ := run_at (f := start ws) hd
  rw [← hg] at r1 r2
  rw [e2, r1] at ha
  injection ha with ha
  rw [← ha] at h0
  obtain ⟨k, s, hn, hs, h3, hv, hst⟩ := step_retired h4 h0
  obtain ⟨hlt, hge⟩ := List.getElem?_eq_some_iff.1 hs
  have hIg : Inv g := by rw [hg]; exact (Inv.start hw).run _
  have hfin : f.sh[k]? = some { s with st := 4, ents := [] } := by
    rw [e1, r2]
    exact run_stay _ (by rw [hst]; exact List.getElem?_set_self hlt) rfl
  obtain ⟨hlt', hge'⟩ := List.getElem?_eq_some_iff.1 hfin
  refine ⟨k, hlt, hlt', hn, by rw [hge'], fun j hj => ?_⟩
  have o := hIg.sh k s hs
  obtain ⟨r, hr, er⟩ := o.row (by omega)
  obtain ⟨⟨j', t, f1, f2, f3, f4, f5, f6, f7⟩, _, _⟩ := hIg.book r hr
  have : j' = k := by omega
  subst this
  rw [hs] at f2
  injection f2 with f2
  subst f2
  obtain ⟨g1, g2⟩ := f6 (by omega)
  obtain ⟨m1, m2⟩ := f7 (by omega)
  obtain ⟨_, _, v3, _, v5, v6⟩ := Shf.verC_ok hv
  have hvl : (Shf.verC s.man).2.length = s.ents.length := by omega
  have hvr : Tr.rootL (Shf.verC s.man).2 = Tr.rootL s.ents := by rw [v3, m2, g2]
  obtain ⟨q, hq, q3, q4, q5, q6, q7, q8, q9⟩ := hI.frozen hfin (show (2 : Int) ≤ 4 by decide)
  obtain ⟨q', hq', p3, p4, hsh⟩ := showC_frozen hI hfin (show (2 : Int) ≤ 4 by decide) (j : Int)
  rw [q3] at p3
  injection p3 with p3
  subst p3
  have hents : (entsC { s with st := 4, ents := [] }).2 = (Shf.verC s.man).2 := by unfold entsC; rw [if_pos rfl]
  rw [hents] at hsh q7
  rw [hge] at hj
  rw [if_pos (by omega), Int.toNat_natCast] at hsh
  refine ⟨_, hsh, fun hne => ?_⟩
  simp only [hge] at hne ⊢
  have hjv : j < (Shf.verC s.man).2.length := by omega
  have hat : (Shf.verC s.man).2.getD j [] = (Shf.verC s.man).2[j] := by rw [List.getD_eq_getElem?_getD, List.getElem?_eq_getElem hjv]; rfl
  have hstand := standsS_path (Shf.verC s.man).2 v6 j _ (List.getElem?_eq_getElem hjv)
  have hroot : Tr.root ((Shf.verC s.man).2.map Tr.leafH) = Tr.root (s.ents.map Tr.leafH) := hvr
  rw [hvl, hroot] at hstand
  have hth := clashS_there (ll := s.ents) (b := (Shf.verC s.man).2[j]) (i := (j : Int)) (p := Tr.path ((Shf.verC s.man).2.map Tr.leafH) j) ⟨o.fine, hstand, by
    rw [Int.toNat_natCast, List.getElem?_eq_getElem hj]
    intro hx
    injection hx with hx
    apply hne
    unfold shown
    simp only [hat]
    exact hx.symm⟩
  have hsh2 : (shown f.book j' j q (Shf.verC s.man).2).entry = (Shf.verC s.man).2[j] := hat
  have hsh3 : (shown f.book j' j q (Shf.verC s.man).2).path = Tr.path ((Shf.verC s.man).2.map Tr.leafH) j := rfl
  rw [hsh2, hsh3]
  cases hc : clashS s.ents (Shf.verC s.man).2[j] (j : Int) (Tr.path ((Shf.verC s.man).2.map Tr.leafH) j) with
  | none => rw [hc] at hth; cases hth
  | some x =>
    obtain ⟨c1, c2, c3⟩ := clashS_some hc
    obtain ⟨c4, c5⟩ := clashOf_two c1
    exact ⟨x, rfl, c4, c5, c2, c3⟩
end Fl
end Go.Proofs.Ytnpfmboolbhpaaa
