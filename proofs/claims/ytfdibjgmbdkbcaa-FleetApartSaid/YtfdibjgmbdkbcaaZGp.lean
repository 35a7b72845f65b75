/-
  THE PLAIN LAW of fleets: what each thing that is done makes of shards and of the book; no program. No conditions.
  THE PLAIN LAW of fleets, on: what holds, stays. No conditions.
  THE PLAIN LAWS of fleets: what came of the past stays; what is refused did not happen; shards know nothing of each other. No conditions.
  THE PLAIN LAWS of what is shown of a fleet. No conditions.
  THE PLAIN FACTS of the fleet that the laws ask first. No conditions.
  THE PLAIN LAW: how many entries a shard's row tells. No conditions.
-/
import Derived.Test.YtfdibjgmbdkbcaaZBook
import Derived.Test.YtfdibjgmbdkbcaaZGf
import Derived.Test.YtfdibjgmbdkbcaaZShelfP
namespace Go.Proofs.Ytfdibjgmbdkbcaa

/-- a shard -/
structure Shd where
  fr : Int
  til : Int
  st : Int
  ents : List Bs
  man : Man
deriving DecidableEq
instance : Rp Shd := Rp.of fun s => (s.fr, s.til, s.st, s.ents, s.man)
/-- a fleet -/
structure Flt where
  sh : List Shd
  book : List Rec
deriving DecidableEq
instance : Rp Flt := Rp.of fun f => (f.sh, f.book)
/-- what is done -/
structure Dob where
  kind : Int
  n : Int
  time : Int
  entry : Bs
  seg : Int
  pos : Int
  turn : UInt8
deriving DecidableEq
instance : Rp Dob := Rp.of fun d => (d.kind, d.n, d.time, d.entry, d.seg, d.pos, d.turn)
/-- what comes of it -/
structure Ans where
  err : Nat
  sh : Int
  pl : Int
  sz : Int
  root : Bs
deriving DecidableEq
instance : Rp Ans := Rp.of fun a => ((a.err : Int), a.sh, a.pl, a.sz, a.root)

namespace Fl
def no (e : Nat) : Ans := ⟨e, 0, 0, 0, []⟩
def inW (t : Int) (s : Shd) : Bool := decide (s.fr ≤ t) && decide (t < s.til)
def submit (f : Flt) (d : Dob) : Flt × Ans :=
  if 200 < d.entry.length then (f, no 4) else
  match f.sh.findIdx? (inW d.time) with
  | none => (f, no 6)
  | some k => match f.sh[k]? with
    | none => (f, no 6)
    | some s => if s.st ≠ 1 then (f, no 8) else
      match s.ents.findIdx? (· == d.entry) with
      | some i => (f, ⟨0, k, i, 0, []⟩)
      | none => if s.ents.length = 100 then (f, no 5) else (⟨f.sh.set k { s with ents := s.ents ++ [d.entry] }, f.book⟩, ⟨0, k, s.ents.length, 0, []⟩)
def freeze (f : Flt) (k : Nat) (s : Shd) : Flt × Ans :=
  (⟨f.sh.set k { s with st := 2 }, f.book ++ [⟨k, s.fr, s.til, s.ents.length, Tr.rootL s.ents⟩]⟩, ⟨0, k, 0, s.ents.length, Tr.rootL s.ents⟩)
def lay (f : Flt) (k : Nat) (s : Shd) : Flt × Ans :=
  (⟨f.sh.set k { s with st := 3, man := Shf.manOf s.ents }, f.book⟩, ⟨0, k, 0, s.ents.length, Tr.rootL s.ents⟩)
/-- a shard's row in the book -/
def row (b : List Rec) (k : Int) : Option Nat := b.findIdx? fun r => r.sh == k
def rowR (b : List Rec) (k : Int) : Rec := match row b k with
  | some i => b.getD i Bk.zeroR
  | none => Bk.zeroR
def retire (f : Flt) (k : Nat) (s : Shd) : Flt × Ans :=
  if (Shf.verC s.man).1.1 = 0 then (⟨f.sh.set k { s with st := 4, ents := [] }, f.book⟩, ⟨0, k, 0, (rowR f.book k).sz, (rowR f.book k).root⟩) else (f, no (Shf.verC s.man).1.1)
/-- a byte is turned -/
def turned (b : Bs) (p : Nat) (x : UInt8) : Bs := b.set p (b.getD p 0 ^^^ x)
def spoilM (m : Man) (j p : Nat) (x : UInt8) : Man := { m with segs := m.segs.set j { m.segs.getD j ⟨0, 0, []⟩ with packed := turned (m.segs.getD j ⟨0, 0, []⟩).packed p x } }
def spoil (f : Flt) (k : Nat) (s : Shd) (d : Dob) : Flt × Ans :=
  if d.seg < 0 ∨ (s.man.segs.length : Int) ≤ d.seg then (f, no 6)
  else if d.pos < 0 ∨ ((s.man.segs.getD d.seg.toNat ⟨0, 0, []⟩).packed.length : Int) ≤ d.pos then (f, no 3)
  else (⟨f.sh.set k { s with man := spoilM s.man d.seg.toNat d.pos.toNat d.turn }, f.book⟩, ⟨0, k, 0, 0, []⟩)
def want (kind : Int) : Int := if kind = 2 then 1 else if kind = 3 then 2 else 3
def step (f : Flt) (d : Dob) : Flt × Ans :=
  if d.kind = 1 then submit f d
  else if d.kind < 2 ∨ 5 < d.kind then (f, no 1)
  else if d.n < 0 ∨ (f.sh.length : Int) ≤ d.n then (f, no 6)
  else match f.sh[d.n.toNat]? with
    | none => (f, no 6)
    | some s => if s.st ≠ want d.kind then (f, no 7)
      else if d.kind = 2 then freeze f d.n.toNat s
      else if d.kind = 3 then lay f d.n.toNat s
      else if d.kind = 4 then retire f d.n.toNat s
      else spoil f d.n.toNat s d
/-- one thing after the other -/
def run : Flt → List Dob → Flt × List Ans
  | f, [] => (f, [])
  | f, d :: l => ((run (step f d).1 l).1, (step f d).2 :: (run (step f d).1 l).2)
/-- what is wrong with windows -/
def wrongF : Int → List (Int × Int) → Nat → Nat × Nat
  | _, [], _ => (0, 0)
  | e, p :: l, i => if p.1 < 0 ∨ p.2 ≤ p.1 ∨ 1000000 < p.2 then (3, i) else if 0 < i ∧ p.1 < e then (7, i) else wrongF p.2 l (i + 1)
def wrongW (l : List (Int × Int)) : Nat × Nat := if 8 < l.length then (5, 0) else wrongF 0 l 0
def start (l : List (Int × Int)) : Flt := ⟨l.map fun p => ⟨p.1, p.2, 1, [], Shf.zeroM⟩, []⟩
/-- a play's fleet, its answers, and what is wrong -/
def play (ws : List (Int × Int)) (l : List Dob) : Flt × List Ans × (Nat × Nat) :=
  if (wrongW ws).1 ≠ 0 then (⟨[], []⟩, [], wrongW ws)
  else if 120 < l.length then (⟨[], []⟩, [], (5, 0))
  else ((run (start ws) l).1, (run (start ws) l).2, (0, 0))

/-- what holds of a shard -/
structure OkS (b : List Rec) (k : Nat) (s : Shd) : Prop where
  fine : Fine s.ents
  nodup : s.ents.Nodup
  win : 0 ≤ s.fr ∧ s.fr < s.til ∧ s.til ≤ 1000000
  st : 1 ≤ s.st ∧ s.st ≤ 4
  row : 2 ≤ s.st → ∃ r ∈ b, r.sh = (k : Int)
  gone : s.st = 4 → s.ents = [] ∧ (Shf.verC s.man).1.1 = 0
/-- what holds of a row -/
structure OkR (sh : List Shd) (r : Rec) : Prop where
  at_ : ∃ (k : Nat) (s : Shd), r.sh = (k : Int) ∧ sh[k]? = some s ∧ 2 ≤ s.st ∧ r.fr = s.fr ∧ r.to = s.til ∧ (s.st ≠ 4 → r.sz = s.ents.length ∧ r.root = Tr.rootL s.ents) ∧ (3 ≤ s.st → s.man.size = r.sz ∧ s.man.root = r.root)
  sz : 0 ≤ r.sz ∧ r.sz ≤ 100
  root : r.root.length = 32
structure Inv (f : Flt) : Prop where
  len : f.sh.length ≤ 8
  sh : ∀ (k : Nat) (s : Shd), f.sh[k]? = some s → OkS f.book k s
  book : ∀ r ∈ f.book, OkR f.sh r
  one : f.book.Pairwise fun a b => a.sh ≠ b.sh
  count : f.book.length = f.sh.countP fun s => decide (2 ≤ s.st)
theorem Inv.book_len {f : Flt} (h : Inv f) : f.book.length ≤ 8 := by
  rw [h.count]
  have := List.countP_le_length (p := fun s : Shd => decide (2 ≤ s.st)) (l := f.sh)
  have := h.len
  omega
/-- a shard turned to another of the same window -/
theorem Inv.set_ {f : Flt} (h : Inv f) {k : Nat} {s s' : Shd} (hk : f.sh[k]? = some s) (hs : OkS f.book k s') (hf : s'.fr = s.fr ∧ s'.til = s.til) (h2 : (2 ≤ s.st ↔ 2 ≤ s'.st))
    (hr : ∀ r ∈ f.book, r.sh = (k : Int) → (s'.st ≠ 4 → r.sz = s'.ents.length ∧ r.root = Tr.rootL s'.ents) ∧ (3 ≤ s'.st → s'.man.size = r.sz ∧ s'.man.root = r.root)) : Inv ⟨f.sh.set k s', f.book⟩ := by
  obtain ⟨hlt, hg⟩ := List.getElem?_eq_some_iff.1 hk
  refine ⟨by simpa using h.len, fun j t hj => ?_, fun r hrm => ?_, h.one, ?_⟩
  · rw [List.getElem?_set] at hj
    split at hj
    · rename_i e
      subst e
      first | (rw [if_pos hlt] at hj; injection hj with hj) | injection hj with hj
      subst hj
      exact hs
    · exact h.sh j t hj
  · obtain ⟨⟨j, t, e1, e2, e3, e4, e5, e6, e7⟩, hsz, hro⟩ := h.book r hrm
    refine ⟨?_, hsz, hro⟩
    by_cases hjk : k = j
    · subst hjk
      rw [hk] at e2
      injection e2 with e2
      subst e2
      exact ⟨k, s', e1, by rw [List.getElem?_set_self hlt], h2.1 e3, by rw [hf.1]; exact e4, by rw [hf.2]; exact e5, (hr r hrm e1).1, (hr r hrm e1).2⟩
    · exact ⟨j, t, e1, by rw [List.getElem?_set_ne hjk]; exact e2, e3, e4, e5, e6, e7⟩
  · rw [h.count, List.countP_set (by exact hlt)]
    have hc : decide (2 ≤ f.sh[k].st) = decide (2 ≤ s'.st) := by rw [hg]; exact decide_eq_decide.2 h2
    rw [hc]
    by_cases hp : decide (2 ≤ s'.st) = true
    · simp only [hp, if_true]
      have : 0 < f.sh.countP fun s => decide (2 ≤ s.st) := List.countP_pos_iff.2 ⟨f.sh[k], List.getElem_mem hlt, by rw [hc]; exact hp⟩
      omega
    · simp only [hp]; simp
end Fl
end Go.Proofs.Ytfdibjgmbdkbcaa

namespace Go.Proofs.Ytfdibjgmbdkbcaa
namespace Fl
theorem wrongF_ok : ∀ (l : List (Int × Int)) (e : Int) (i : Nat), (wrongF e l i).1 = 0 → ∀ p ∈ l, 0 ≤ p.1 ∧ p.1 < p.2 ∧ p.2 ≤ 1000000
  | [], _, _, _, p, hp => by simp at hp
  | q :: l, e, i, h, p, hp => by
    unfold wrongF at h
    split at h
    · cases h
    · rename_i h1
      split at h
      · cases h
      · rcases List.mem_cons.1 hp with rfl | hp
        · omega
        · exact wrongF_ok l _ _ h p hp
theorem wrongW_ok {l : List (Int × Int)} (h : (wrongW l).1 = 0) : l.length ≤ 8 ∧ ∀ p ∈ l, 0 ≤ p.1 ∧ p.1 < p.2 ∧ p.2 ≤ 1000000 := by
  unfold wrongW at h
  split at h
  · cases h
  · rename_i h1
    exact ⟨by omega, wrongF_ok l 0 0 h⟩
theorem Inv.start {l : List (Int × Int)} (h : (wrongW l).1 = 0) : Inv (start l) := by
  obtain ⟨h1, h2⟩ := wrongW_ok h
  refine ⟨by simp [Fl.start, h1], fun k s hk => ?_, fun r hr => by simp [Fl.start] at hr, List.Pairwise.nil, ?_⟩
  · unfold Fl.start at hk
    simp only [List.getElem?_map] at hk
    obtain ⟨p, hp, rfl⟩ := Option.map_eq_some_iff.1 hk
    have hm := h2 p (List.mem_of_getElem? hp)
    exact ⟨⟨by simp, by simp⟩, List.nodup_nil, hm, by simp, fun h => by simp at h, fun h => by simp at h⟩
  · unfold Fl.start
    simp only [List.countP_map]
    refine (List.countP_eq_zero.2 fun p _ => ?_).symm
    simp
theorem no_row {f : Flt} (h : Inv f) {k : Nat} {s : Shd} (hk : f.sh[k]? = some s) (h1 : s.st = 1) : ∀ r ∈ f.book, r.sh ≠ (k : Int) := by
  intro r hr e
  obtain ⟨⟨j, t, e1, e2, e3, _⟩, _, _⟩ := h.book r hr
  have : j = k := by omega
  subst this
  rw [hk] at e2
  injection e2 with e2
  subst e2
  omega
theorem Inv.submit {f : Flt} (h : Inv f) (d : Dob) : Inv (submit f d).1 := by
  unfold Fl.submit
  split
  · exact h
  · rename_i hl
    split
    · exact h
    · rename_i k hk
      split
      · exact h
      · rename_i s hs
        split
        · exact h
        · rename_i h1
          split
          · exact h
          · rename_i hn
            split
            · exact h
            · rename_i h100
              obtain ⟨o1, o2, o3, o4, o5, o6⟩ := h.sh k s hs
              have h1' : s.st = 1 := by simpa using h1
              refine h.set_ hs ⟨⟨?_, fun e he => ?_⟩, ?_, o3, o4, fun h2 => ?_, fun h4 => ?_⟩ ⟨rfl, rfl⟩ (by simp) (fun r hr e => absurd e (no_row h hs h1' r hr))
              · have h101 := o1.1
                have hx : (s.ents ++ [d.entry]).length = s.ents.length + 1 := by simp
                rw [hx]
                clear hn hk o5 o6
                omega
              · rcases List.mem_append.1 he with he | he
                · exact o1.2 e he
                · simp only [List.mem_singleton] at he; subst he; omega
              · rw [List.nodup_append]
                refine ⟨o2, by simp, fun a ha b hb e => ?_⟩
                simp only [List.mem_singleton] at hb
                subst hb e
                have := List.findIdx?_eq_none_iff.1 hn d.entry ha
                simp at this
              · have h2' : 2 ≤ s.st := h2; omega
              · have h4' : s.st = 4 := h4; omega
theorem Inv.freeze {f : Flt} (h : Inv f) {k : Nat} {s : Shd} (hk : f.sh[k]? = some s) (h1 : s.st = 1) : Inv (freeze f k s).1 := by
  obtain ⟨hlt, hg⟩ := List.getElem?_eq_some_iff.1 hk
  obtain ⟨o1, o2, o3, o4, o5, o6⟩ := h.sh k s hk
  have hno := no_row h hk h1
  unfold Fl.freeze
  refine ⟨by simpa using h.len, fun j t hj => ?_, fun r hr => ?_, ?_, ?_⟩
  · simp only at hj ⊢
    rw [List.getElem?_set] at hj
    split at hj
    · rename_i e
      subst e
      injection hj with hj
      subst hj
      exact ⟨o1, o2, o3, by simp, fun _ => ⟨_, List.mem_append_right _ (List.mem_singleton.2 rfl), rfl⟩, fun h4 => by simp at h4⟩
    · obtain ⟨p1, p2, p3, p4, p5, p6⟩ := h.sh j t hj
      exact ⟨p1, p2, p3, p4, fun h2 => by obtain ⟨r, hr, e⟩ := p5 h2; exact ⟨r, List.mem_append_left _ hr, e⟩, p6⟩
  · simp only at hr ⊢
    rcases List.mem_append.1 hr with hr | hr
    · obtain ⟨⟨j, t, e1, e2, e3, e4, e5, e6, e7⟩, hsz, hro⟩ := h.book r hr
      have hjk : k ≠ j := fun e => hno r hr (by rw [e1, e])
      exact ⟨⟨j, t, e1, by rw [List.getElem?_set_ne hjk]; exact e2, e3, e4, e5, e6, e7⟩, hsz, hro⟩
    · simp only [List.mem_singleton] at hr
      subst hr
      refine ⟨⟨k, _, rfl, List.getElem?_set_self hlt, by simp, rfl, rfl, fun _ => ⟨rfl, rfl⟩, fun h3 => by simp at h3⟩, ?_, Tr.length_rootL _⟩
      have := o1.1
      simp only
      omega
  · simp only
    rw [List.pairwise_append]
    refine ⟨h.one, List.pairwise_singleton _ _, fun a ha b hb => ?_⟩
    simp only [List.mem_singleton] at hb
    subst hb
    exact hno a ha
  · simp only [List.length_append, List.length_cons, List.length_nil]
    rw [h.count, List.countP_set (by exact hlt), hg]
    simp [h1]
theorem Inv.lay {f : Flt} (h : Inv f) {k : Nat} {s : Shd} (hk : f.sh[k]? = some s) (h1 : s.st = 2) : Inv (lay f k s).1 := by
  obtain ⟨o1, o2, o3, o4, o5, o6⟩ := h.sh k s hk
  unfold Fl.lay
  refine h.set_ hk ⟨o1, o2, o3, by simp, fun _ => o5 (by omega), fun h4 => by simp at h4⟩ ⟨rfl, rfl⟩ (by simp [h1]) (fun r hr e => ?_)
  obtain ⟨⟨j, t, e1, e2, e3, e4, e5, e6, e7⟩, _, _⟩ := h.book r hr
  have : j = k := by omega
  subst this
  rw [hk] at e2
  injection e2 with e2
  subst e2
  obtain ⟨g1, g2⟩ := e6 (by omega)
  exact ⟨fun _ => ⟨g1, g2⟩, fun _ => ⟨g1.symm, g2.symm⟩⟩
theorem Inv.retire {f : Flt} (h : Inv f) {k : Nat} {s : Shd} (hk : f.sh[k]? = some s) (h1 : s.st = 3) : Inv (retire f k s).1 := by
  obtain ⟨o1, o2, o3, o4, o5, o6⟩ := h.sh k s hk
  unfold Fl.retire
  split
  · rename_i hv
    refine h.set_ hk ⟨⟨by simp, by simp⟩, List.nodup_nil, o3, by simp, fun _ => o5 (by omega), fun _ => ⟨rfl, hv⟩⟩ ⟨rfl, rfl⟩ (by simp [h1]) (fun r hr e => ?_)
    obtain ⟨⟨j, t, e1, e2, e3, e4, e5, e6, e7⟩, _, _⟩ := h.book r hr
    have : j = k := by omega
    subst this
    rw [hk] at e2
    injection e2 with e2
    subst e2
    exact ⟨fun h4 => absurd rfl h4, fun _ => e7 (by omega)⟩
  · exact h
theorem Inv.spoil {f : Flt} (h : Inv f) {k : Nat} {s : Shd} (hk : f.sh[k]? = some s) (h1 : s.st = 3) (d : Dob) : Inv (spoil f k s d).1 := by
  obtain ⟨o1, o2, o3, o4, o5, o6⟩ := h.sh k s hk
  unfold Fl.spoil
  split
  · exact h
  · split
    · exact h
    · refine h.set_ hk ⟨o1, o2, o3, o4, o5, fun h4 => ?_⟩ ⟨rfl, rfl⟩ Iff.rfl (fun r hr e => ?_)
      · have h4' : s.st = 4 := h4; omega
      · obtain ⟨⟨j, t, e1, e2, e3, e4, e5, e6, e7⟩, _, _⟩ := h.book r hr
        have : j = k := by omega
        subst this
        rw [hk] at e2
        injection e2 with e2
        subst e2
        exact ⟨e6, e7⟩
theorem Inv.step {f : Flt} (h : Inv f) (d : Dob) : Inv (step f d).1 := by
  unfold Fl.step
  split
  · exact h.submit d
  · split
    · exact h
    · rename_i h1 hk
      split
      · exact h
      · split
        · exact h
        · rename_i s hs
          split
          · exact h
          · rename_i hw
            unfold want at hw
            split
            · rename_i h2
              rw [if_pos h2] at hw
              exact h.freeze hs (by omega)
            · rename_i h2
              rw [if_neg h2] at hw
              split
              · rename_i h3
                rw [if_pos h3] at hw
                exact h.lay hs (by omega)
              · rename_i h3
                rw [if_neg h3] at hw
                split
                · exact h.retire hs (by omega)
                · exact h.spoil hs (by omega) d
theorem Inv.run : ∀ {f : Flt} (_ : Inv f) (l : List Dob), Inv (run f l).1
  | _, h, [] => h
  | _, h, d :: l => Inv.run (h.step d) l
end Fl
end Go.Proofs.Ytfdibjgmbdkbcaa

namespace Go.Proofs.Ytfdibjgmbdkbcaa
namespace Fl
theorem length_run : ∀ (f : Flt) (l : List Dob), (run f l).2.length = l.length
  | _, [] => rfl
  | f, d :: l => by simp [run, length_run (step f d).1 l]
theorem run_append : ∀ (f : Flt) (l m : List Dob), run f (l ++ m) = ((run (run f l).1 m).1, (run f l).2 ++ (run (run f l).1 m).2)
  | f, [], m => by simp [run]
  | f, d :: l, m => by
    have := run_append (step f d).1 l m
    simp only [List.cons_append, run]
    rw [this]
theorem run_take (f : Flt) (l : List Dob) (n : Nat) : (run f (l.take n)).2 = (run f l).2.take n := by
  by_cases hn : n ≤ l.length
  · have h := run_append f (l.take n) (l.drop n)
    rw [List.take_append_drop] at h
    have hl : (run f (l.take n)).2.length = n := by rw [length_run, List.length_take]; omega
    generalize run f (l.take n) = r at *
    rw [h]
    simp only
    rw [List.take_append_of_le_length (by omega), List.take_of_length_le (by omega)]
  · rw [List.take_of_length_le (by omega), List.take_of_length_le (by rw [length_run]; omega)]
/-- what is refused did not happen -/
theorem step_err {f : Flt} {d : Dob} (h : (step f d).2.err ≠ 0) : (step f d).1 = f := by
  revert h
  unfold step submit freeze lay retire spoil
  repeat' split
  all_goals (intro h; first | rfl | exact absurd rfl h)
/-- those that were not refused -/
def good : List Dob → List Ans → List Dob
  | d :: l, a :: bs => if a.err = 0 then d :: good l bs else good l bs
  | _, _ => []
theorem run_good : ∀ (f : Flt) (l : List Dob), (run f (good l (run f l).2)).1 = (run f l).1 ∧ ∀ a ∈ (run f (good l (run f l).2)).2, a.err = 0
  | f, [] => by simp [good, run]
  | f, d :: l => by
    obtain ⟨h1, h2⟩ := run_good (step f d).1 l
    simp only [run, good]
    by_cases he : (step f d).2.err = 0
    · rw [if_pos he]
      simp only [run]
      refine ⟨h1, fun a ha => ?_⟩
      rcases List.mem_cons.1 ha with rfl | ha
      · exact he
      · exact h2 a ha
    · rw [if_neg he]
      have hs := step_err he
      rw [hs] at h1 h2 ⊢
      exact ⟨h1, h2⟩
theorem good_length : ∀ (l : List Dob) (bs : List Ans), (good l bs).length ≤ l.length
  | d :: l, a :: bs => by
    unfold good
    have := good_length l bs
    split <;> simp <;> omega
  | [], _ => by simp [good]
  | _ :: _, [] => by simp [good]
theorem good_snoc : ∀ (l : List Dob) (bs : List Ans) (d : Dob) (a : Ans), l.length = bs.length → good (l ++ [d]) (bs ++ [a]) = good l bs ++ if a.err = 0 then [d] else []
  | [], [], d, a, _ => by simp [good]
  | x :: l, y :: bs, d, a, h => by
    have ih := good_snoc l bs d a (by simpa using h)
    simp only [List.cons_append, good, ih]
    split <;> simp
  | [], _ :: _, _, _, h => by simp at h
  | _ :: _, [], _, _, h => by simp at h
end Fl
end Go.Proofs.Ytfdibjgmbdkbcaa

namespace Go.Proofs.Ytfdibjgmbdkbcaa

/-- an entry, shown under its shard's head, and that under the book's -/
structure Shw where
  entry : Bs
  place : Int
  shard : Int
  path : List Bs
  rcd : Rec
  row : Int
  bpath : List Bs
  hsz : Int
  hroot : Bs
deriving DecidableEq
instance : Rp Shw := Rp.of fun s => (s.entry, s.place, s.shard, s.path, s.rcd, s.row, s.bpath, (s.hsz, s.hroot))

namespace Fl
def entsC (s : Shd) : Nat × List Bs := if s.st = 4 then ((Shf.verC s.man).1.1, (Shf.verC s.man).2) else (0, s.ents)
def zeroS : Shw := ⟨[], 0, 0, [], Bk.zeroR, 0, [], 0, []⟩
def bookRoot (b : List Rec) : Bs := Tr.rootL (Bk.rows b)
def shown (b : List Rec) (k i : Nat) (r : Nat) (l : List Bs) : Shw :=
  ⟨l.getD i [], i, k, Tr.path (l.map Tr.leafH) i, b.getD r Bk.zeroR, r, Tr.path ((Bk.rows b).map Tr.leafH) r, b.length, bookRoot b⟩
/-- what shows an entry of a fleet of which all holds, or what is wrong -/
def showC (f : Flt) (k i : Int) : Nat × Shw :=
  if k < 0 ∨ (f.sh.length : Int) ≤ k then (6, zeroS)
  else match f.sh[k.toNat]? with
    | none => (6, zeroS)
    | some s => match row f.book k with
      | none => (8, zeroS)
      | some r => if (entsC s).1 ≠ 0 then ((entsC s).1, zeroS)
        else if i < 0 ∨ ((entsC s).2.length : Int) ≤ i then (6, zeroS)
        else (0, shown f.book k.toNat i.toNat r (entsC s).2)
/-- is what is shown so? -/
def checkC (s : Shw) (hsz : Int) (hroot : Bs) : Bool :=
  decide (Bk.wrongR s.rcd = 0) && decide (s.rcd.sh = s.shard) && decide (s.hsz = hsz) && decide (s.hroot = hroot) && standsS s.rcd.sz s.rcd.root s.entry s.place s.path && standsS hsz hroot (Bk.rowR s.rcd) s.row s.bpath

theorem OkR.wrong {sh : List Shd} {b : List Rec} {r : Rec} (h : OkR sh r) (hs : ∀ (k : Nat) (s : Shd), sh[k]? = some s → OkS b k s) (hl : sh.length ≤ 8) : Bk.wrongR r = 0 := by
  obtain ⟨⟨k, s, e1, e2, e3, e4, e5, e6, e7⟩, hsz, hro⟩ := h
  obtain ⟨hlt, _⟩ := List.getElem?_eq_some_iff.1 e2
  have w := (hs k s e2).win
  exact Bk.wrongR_ok.2 ⟨by omega, by omega, by omega, by omega, by omega, hsz.1, hsz.2, hro⟩
theorem Inv.fineB {f : Flt} (h : Inv f) : Bk.FineB f.book := ⟨h.book_len, fun r hr => (h.book r hr).wrong h.sh h.len⟩
/-- a row of a shard: its place, and what it says -/
theorem row_some {b : List Rec} {k : Int} {i : Nat} (h : row b k = some i) : ∃ hi : i < b.length, b[i].sh = k := by
  unfold row at h
  obtain ⟨hi, h1, _⟩ := List.findIdx?_eq_some_iff_getElem.1 h
  exact ⟨hi, by simpa using h1⟩
theorem row_none {b : List Rec} {k : Int} (h : row b k = none) : ∀ r ∈ b, r.sh ≠ k := by
  unfold row at h
  intro r hr e
  have := List.findIdx?_eq_none_iff.1 h r hr
  simp [e] at this
theorem Inv.uniq {f : Flt} (h : Inv f) {r r' : Rec} (hr : r ∈ f.book) (hr' : r' ∈ f.book) (e : r.sh = r'.sh) : r = r' := by
  obtain ⟨i, hi, rfl⟩ := List.getElem_of_mem hr
  obtain ⟨j, hj, rfl⟩ := List.getElem_of_mem hr'
  rcases Nat.lt_trichotomy i j with h1 | h1 | h1
  · exact absurd e (List.pairwise_iff_getElem.1 h.one i j hi hj h1)
  · subst h1; rfl
  · exact absurd e.symm (List.pairwise_iff_getElem.1 h.one j i hj hi h1)
/-- a shard that was frozen has its row, and its entries under the row's head -/
theorem Inv.frozen {f : Flt} (h : Inv f) {k : Nat} {s : Shd} (hk : f.sh[k]? = some s) (h2 : 2 ≤ s.st) : ∃ (r : Nat) (hr : r < f.book.length), row f.book k = some r ∧ f.book[r].sh = (k : Int) ∧ (entsC s).1 = 0 ∧
    Fine (entsC s).2 ∧ ((entsC s).2.length : Int) = f.book[r].sz ∧ Tr.rootL (entsC s).2 = f.book[r].root ∧ Bk.wrongR f.book[r] = 0 := by
  have o := h.sh k s hk
  obtain ⟨r, hr, e⟩ := o.row h2
  cases hrow : row f.book k with
  | none => exact absurd e (row_none hrow r hr)
  | some i =>
    obtain ⟨hi, hi2⟩ := row_some hrow
    have hm := List.getElem_mem hi
    have hok := h.book _ hm
    have hw := hok.wrong h.sh h.len
    obtain ⟨⟨j, t, e1, e2, e3, e4, e5, e6, e7⟩, hsz, hro⟩ := hok
    have : j = k := by omega
    subst this
    rw [hk] at e2
    injection e2 with e2
    subst e2
    refine ⟨i, hi, rfl, hi2, ?_⟩
    unfold entsC
    by_cases h4 : s.st = 4
    · rw [if_pos h4]
      obtain ⟨_, hv⟩ := o.gone h4
      obtain ⟨hs, _, hr', _, hl, hf⟩ := Shf.verC_ok hv
      obtain ⟨m1, m2⟩ := e7 (by omega)
      have := hs.1
      exact ⟨hv, hf, by show ((Shf.verC s.man).2.length : Int) = _; omega, by show Tr.rootL (Shf.verC s.man).2 = _; rw [hr', m2], hw⟩
    · rw [if_neg h4]
      obtain ⟨g1, g2⟩ := e6 h4
      exact ⟨rfl, o.fine, g1.symm, g2.symm, hw⟩
theorem showC_none {f : Flt} {k : Int} (i : Int) (h : k < 0 ∨ (f.sh.length : Int) ≤ k) : showC f k i = (6, zeroS) := by unfold showC; rw [if_pos h]
theorem showC_open {f : Flt} (h : Inv f) {k : Nat} {s : Shd} (hk : f.sh[k]? = some s) (h1 : s.st = 1) (i : Int) : showC f k i = (8, zeroS) := by
  obtain ⟨hlt, _⟩ := List.getElem?_eq_some_iff.1 hk
  unfold showC
  rw [if_neg (by omega), Int.toNat_natCast, hk]
  simp only
  cases hrow : row f.book k with
  | none => rfl
  | some r =>
    obtain ⟨hi, hi2⟩ := row_some hrow
    exact absurd hi2 (no_row h hk h1 _ (List.getElem_mem hi))
theorem showC_frozen {f : Flt} (h : Inv f) {k : Nat} {s : Shd} (hk : f.sh[k]? = some s) (h2 : 2 ≤ s.st) (i : Int) : ∃ (r : Nat) (hr : r < f.book.length), row f.book k = some r ∧ f.book[r].sh = (k : Int) ∧
    showC f k i = if 0 ≤ i ∧ i < f.book[r].sz then (0, shown f.book k i.toNat r (entsC s).2) else (6, zeroS) := by
  obtain ⟨r, hr, h3, h4, h5, h6, h7, h8, h9⟩ := h.frozen hk h2
  obtain ⟨hlt, _⟩ := List.getElem?_eq_some_iff.1 hk
  refine ⟨r, hr, h3, h4, ?_⟩
  unfold showC
  rw [if_neg (by omega), Int.toNat_natCast, hk]
  simp only [h3]
  rw [if_neg (by rw [h5]; simp)]
  by_cases hi : 0 ≤ i ∧ i < f.book[r].sz
  · rw [if_pos hi, if_neg (by omega)]
  · rw [if_neg hi, if_pos (by omega)]
/-- what is shown of a shard that was frozen is so -/
theorem check_shown {f : Flt} (h : Inv f) {k : Nat} {s : Shd} (hk : f.sh[k]? = some s) (h2 : 2 ≤ s.st) {r : Nat} (hr : row f.book k = some r) {i : Nat} (hi : i < (entsC s).2.length) :
    checkC (shown f.book k i r (entsC s).2) f.book.length (bookRoot f.book) = true := by
  obtain ⟨r', hr', h3, h4, h5, h6, h7, h8, h9⟩ := h.frozen hk h2
  rw [hr] at h3
  injection h3 with h3
  subst h3
  have hfb := h.fineB
  have hbr := Bk.rows_short hfb
  have hg : f.book.getD r Bk.zeroR = f.book[r] := by rw [List.getD_eq_getElem?_getD, List.getElem?_eq_getElem hr']; rfl
  have hge : (entsC s).2.getD i [] = (entsC s).2[i] := by rw [List.getD_eq_getElem?_getD, List.getElem?_eq_getElem hi]; rfl
  have s1 := standsS_path (entsC s).2 h6 i _ (List.getElem?_eq_getElem hi)
  have hrl : r < (Bk.rows f.book).length := by unfold Bk.rows; rw [List.length_map]; exact hr'
  have hlr : (Bk.rows f.book).length = f.book.length := by unfold Bk.rows; rw [List.length_map]
  have s2 := standsS_path (Bk.rows f.book) hbr r _ (List.getElem?_eq_getElem hrl)
  have hrr : (Bk.rows f.book)[r] = Bk.rowR f.book[r] := by simp [Bk.rows]
  rw [hrr, hlr] at s2
  rw [h7] at s1
  have h8' : Tr.root ((entsC s).2.map Tr.leafH) = f.book[r].root := h8
  rw [h8'] at s1
  unfold checkC shown
  simp only [hg, hge, h9, h4, s1]
  unfold bookRoot
  have s2' : standsS (↑f.book.length) (Tr.rootL (Bk.rows f.book)) (Bk.rowR f.book[r]) (↑r) (Tr.path (List.map Tr.leafH (Bk.rows f.book)) r) = true := s2
  simp [s2']
end Fl
end Go.Proofs.Ytfdibjgmbdkbcaa

namespace Go.Proofs.Ytfdibjgmbdkbcaa
def wsA : List (Int × Int) := [(0, 10), (10, 20)]
def lA : List Dob := [⟨1, 0, 12, [7], 0, 0, 0⟩, ⟨2, 1, 0, [], 0, 0, 0⟩, ⟨3, 1, 0, [], 0, 0, 0⟩, ⟨4, 1, 0, [], 0, 0, 0⟩]
def fA : Flt := ⟨[⟨0, 10, 1, [], Shf.zeroM⟩, ⟨10, 20, 4, [], Shf.manOf [[7]]⟩], [⟨1, 10, 20, 1, Tr.rootL [[7]]⟩]⟩
def aA : List Ans := [⟨0, 1, 0, 0, []⟩, ⟨0, 1, 0, 1, Tr.rootL [[7]]⟩, ⟨0, 1, 0, 1, Tr.rootL [[7]]⟩, ⟨0, 1, 0, 1, Tr.rootL [[7]]⟩]
theorem fine7 : Fine [[7]] := ⟨by decide, fun e he => by simp at he; subst he; decide⟩
namespace Fl
theorem runA : run (start wsA) lA = (fA, aA) := by
  have h1 : step (start wsA) ⟨1, 0, 12, [7], 0, 0, 0⟩ = (⟨[⟨0, 10, 1, [], Shf.zeroM⟩, ⟨10, 20, 1, [[7]], Shf.zeroM⟩], []⟩, ⟨0, 1, 0, 0, []⟩) := rfl
  have h2 : step ⟨[⟨0, 10, 1, [], Shf.zeroM⟩, ⟨10, 20, 1, [[7]], Shf.zeroM⟩], []⟩ ⟨2, 1, 0, [], 0, 0, 0⟩ = (⟨[⟨0, 10, 1, [], Shf.zeroM⟩, ⟨10, 20, 2, [[7]], Shf.zeroM⟩], [⟨1, 10, 20, 1, Tr.rootL [[7]]⟩]⟩, ⟨0, 1, 0, 1, Tr.rootL [[7]]⟩) := rfl
  have h3 : step ⟨[⟨0, 10, 1, [], Shf.zeroM⟩, ⟨10, 20, 2, [[7]], Shf.zeroM⟩], [⟨1, 10, 20, 1, Tr.rootL [[7]]⟩]⟩ ⟨3, 1, 0, [], 0, 0, 0⟩ = (⟨[⟨0, 10, 1, [], Shf.zeroM⟩, ⟨10, 20, 3, [[7]], Shf.manOf [[7]]⟩], [⟨1, 10, 20, 1, Tr.rootL [[7]]⟩]⟩, ⟨0, 1, 0, 1, Tr.rootL [[7]]⟩) := rfl
  have h4 : step ⟨[⟨0, 10, 1, [], Shf.zeroM⟩, ⟨10, 20, 3, [[7]], Shf.manOf [[7]]⟩], [⟨1, 10, 20, 1, Tr.rootL [[7]]⟩]⟩ ⟨4, 1, 0, [], 0, 0, 0⟩ = (fA, ⟨0, 1, 0, 1, Tr.rootL [[7]]⟩) := by
    show retire ⟨[⟨0, 10, 1, [], Shf.zeroM⟩, ⟨10, 20, 3, [[7]], Shf.manOf [[7]]⟩], [⟨1, 10, 20, 1, Tr.rootL [[7]]⟩]⟩ 1 ⟨10, 20, 3, [[7]], Shf.manOf [[7]]⟩ = _
    unfold retire
    simp only
    rw [Shf.verC_man fine7, if_pos rfl]
    rfl
  unfold lA run
  simp only [h1, run, h2, h3, h4]
  rfl
theorem wrongA : wrongW wsA = (0, 0) := by decide
theorem playA : play wsA lA = (fA, aA, (0, 0)) := by
  unfold play
  rw [wrongA, runA]
  rfl
theorem invA : Inv fA := by
  have h := (Inv.start (l := wsA) (by rw [wrongA])).run lA
  rw [runA] at h
  exact h
theorem entsA : entsC ⟨10, 20, 4, [], Shf.manOf [[7]]⟩ = (0, [[7]]) := by
  unfold entsC
  rw [if_pos rfl]
  simp only [Shf.verC_man fine7]
theorem showA : showC fA 1 0 = (0, shown fA.book 1 0 0 [[7]]) := by
  show (match row fA.book 1 with
    | none => (8, zeroS)
    | some r => if (entsC ⟨10, 20, 4, [], Shf.manOf [[7]]⟩).1 ≠ 0 then ((entsC ⟨10, 20, 4, [], Shf.manOf [[7]]⟩).1, zeroS)
        else if (0 : Int) < 0 ∨ ((entsC ⟨10, 20, 4, [], Shf.manOf [[7]]⟩).2.length : Int) ≤ 0 then (6, zeroS)
        else (0, shown fA.book 1 0 r (entsC ⟨10, 20, 4, [], Shf.manOf [[7]]⟩).2)) = _
  rw [entsA]
  rfl
theorem checkA : checkC (shown fA.book 1 0 0 [[7]]) fA.book.length (bookRoot fA.book) = true := by
  have h := check_shown invA (k := 1) (s := ⟨10, 20, 4, [], Shf.manOf [[7]]⟩) rfl (by decide) (r := 0) rfl (i := 0) (by rw [entsA]; decide)
  rw [entsA] at h
  exact h
end Fl
end Go.Proofs.Ytfdibjgmbdkbcaa

namespace Go.Proofs.Ytfdibjgmbdkbcaa
namespace Fl
def lastN (k : Int) (b : List Rec) : Int := b.foldl (fun n r => if r.sh = k then r.sz else n) 0
theorem lastN_snoc (k : Int) (b : List Rec) {j : Nat} (hj : j < b.length) : lastN k (b.take (j + 1)) = if b[j].sh = k then b[j].sz else lastN k (b.take j) := by
  unfold lastN
  rw [List.take_succ_eq_append_getElem hj, List.foldl_append]
  rfl
theorem lastN_gen {k z : Int} : ∀ (b : List Rec) (n : Int), (∀ r ∈ b, r.sh = k → r.sz = z) → ((∃ r ∈ b, r.sh = k) ∨ n = z) → b.foldl (fun n r => if r.sh = k then r.sz else n) n = z
  | [], n, _, h => by
    rcases h with ⟨r, hr, _⟩ | h
    · simp at hr
    · exact h
  | r :: b, n, h1, h2 => by
    rw [List.foldl_cons]
    refine lastN_gen b _ (fun r' hr' => h1 r' (List.mem_cons_of_mem _ hr')) ?_
    by_cases e : r.sh = k
    · rw [if_pos e]
      exact .inr (h1 r (List.mem_cons_self ..) e)
    · rw [if_neg e]
      rcases h2 with ⟨r', hr', e'⟩ | h2
      · rcases List.mem_cons.1 hr' with rfl | hr'
        · exact absurd e' e
        · exact .inl ⟨r', hr', e'⟩
      · exact .inr h2
theorem lastN_row {f : Flt} (h : Inv f) {k : Int} {r : Nat} (hr : r < f.book.length) (e : f.book[r].sh = k) : lastN k f.book = f.book[r].sz :=
  lastN_gen f.book 0 (fun r' hr' e' => by rw [h.uniq hr' (List.getElem_mem hr) (e'.trans e.symm)]) (.inl ⟨_, List.getElem_mem hr, e⟩)
theorem play_ok {ws : List (Int × Int)} {l : List Dob} {f : Flt} {la : List Ans} {b : Nat} (h : play ws l = (f, la, (0, b))) : Inv f ∧ f = (run (start ws) l).1 ∧ la = (run (start ws) l).2 ∧ (wrongW ws).1 = 0 ∧ l.length ≤ 120 := by
  unfold play at h
  split at h
  · rename_i h1
    injection h with _ h
    injection h with _ h
    rw [h] at h1
    exact absurd rfl h1
  · rename_i h1
    split at h
    · injection h with _ h
      injection h with _ h
      injection h with h
      cases h
    · rename_i h2
      injection h with e1 h
      injection h with e2 _
      have hw : (wrongW ws).1 = 0 := by simpa using h1
      exact ⟨by rw [← e1]; exact (Inv.start hw).run l, e1.symm, e2.symm, hw, by omega⟩
/-- what the law of the early asks -/
theorem early_none {f : Flt} {k : Int} (i : Int) (h : k < 0 ∨ (f.sh.length : Int) ≤ k) : (showC f k i).1 = 6 := by rw [showC_none i h]
theorem early_open {f : Flt} (h : Inv f) {k : Nat} {s : Shd} (hk : f.sh[k]? = some s) (h1 : s.st = 1) (i : Int) : (showC f k i).1 = 8 := by rw [showC_open h hk h1]
theorem early_last {f : Flt} (h : Inv f) {k : Nat} {s : Shd} (hk : f.sh[k]? = some s) (h1 : s.st ≠ 1) (i : Int) : (showC f k i).1 = if 0 ≤ i ∧ i < lastN k f.book then 0 else 6 := by
  have hst := (h.sh k s hk).st
  obtain ⟨r, hr, _, h3, h4⟩ := showC_frozen h hk (by omega) i
  rw [h4, lastN_row h hr h3]
  split <;> rfl
end Fl
end Go.Proofs.Ytfdibjgmbdkbcaa
