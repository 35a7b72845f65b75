/-
  THE PLAIN LAW of fleets: what each thing that is done makes of shards and of the book; no program. No conditions.
  THE PLAIN LAW of fleets, on: what holds, stays. No conditions.
  THE PLAIN LAWS of fleets: what came of the past stays; what is refused did not happen; shards know nothing of each other. No conditions.
  Plain law, no program: what clash.Stands tells. No conditions.
  THE PLAIN LAWS of what is shown of a fleet. No conditions.
  THE PLAIN LAW: how many entries a shard's row tells. No conditions.
  THE PLAIN LAWS of fleets: what was taken stays, what is retired stays, what is shown falsely has broken the digest. No conditions.
  THE PLAIN LAW: each entry that was taken is shown, if nothing was spoilt. No conditions.
  THE PLAIN LAW: what is retired is what it was, or two texts are told. No conditions.
  THE PLAIN LAW of years: what comes of entries that are taken, of a shard that is frozen, laid away and retired. No conditions.
  THE PLAIN LAWS of the whole: a byte that is turned; three years; steps; a full shard; borders. No conditions.
  THE PLAIN LAWS of the whole, on: steps one behind the other; a shard that is full. No conditions.
-/
import Derived.Test.YtnfaefgmekfloaaZBook
import Derived.Test.YtnfaefgmekfloaaZGf
import Derived.Test.YtnfaefgmekfloaaZShelfP
namespace Go.Proofs.Ytnfaefgmekfloaa

/-- a shard -/
structure Shd where
  fr : Int
  til : Int
  st : Int
  ents : List Bs
  man : Man
deriving DecidableEq
instance : Rp Shd := Rp.of fun s => (s.fr, s.til, s.st, s.ents, s.man)
/-- a fleet -/
structure Flt where
  sh : List Shd
  book : List Rec
deriving DecidableEq
instance : Rp Flt := Rp.of fun f => (f.sh, f.book)
/-- what is done -/
structure Dob where
  kind : Int
  n : Int
  time : Int
  entry : Bs
  seg : Int
  pos : Int
  turn : UInt8
deriving DecidableEq
instance : Rp Dob := Rp.of fun d => (d.kind, d.n, d.time, d.entry, d.seg, d.pos, d.turn)
/-- what comes of it -/
structure Ans where
  err : Nat
  sh : Int
  pl : Int
  sz : Int
  root : Bs
deriving DecidableEq
instance : Rp Ans := Rp.of fun a => ((a.err : Int), a.sh, a.pl, a.sz, a.root)

namespace Fl
def no (e : Nat) : Ans := ⟨e, 0, 0, 0, []⟩
def inW (t : Int) (s : Shd) : Bool := decide (s.fr ≤ t) && decide (t < s.til)
def submit (f : Flt) (d : Dob) : Flt × Ans :=
  if 200 < d.entry.length then (f, no 4) else
  match f.sh.findIdx? (inW d.time) with
  | none => (f, no 6)
  | some k => match f.sh[k]? with
    | none => (f, no 6)
    | some s => if s.st ≠ 1 then (f, no 8) else
      match s.ents.findIdx? (· == d.entry) with
      | some i => (f, ⟨0, k, i, 0, []⟩)
      | none => if s.ents.length = 100 then (f, no 5) else (⟨f.sh.set k { s with ents := s.ents ++ [d.entry] }, f.book⟩, ⟨0, k, s.ents.length, 0, []⟩)
def freeze (f : Flt) (k : Nat) (s : Shd) : Flt × Ans :=
  (⟨f.sh.set k { s with st := 2 }, f.book ++ [⟨k, s.fr, s.til, s.ents.length, Tr.rootL s.ents⟩]⟩, ⟨0, k, 0, s.ents.length, Tr.rootL s.ents⟩)
def lay (f : Flt) (k : Nat) (s : Shd) : Flt × Ans :=
  (⟨f.sh.set k { s with st := 3, man := Shf.manOf s.ents }, f.book⟩, ⟨0, k, 0, s.ents.length, Tr.rootL s.ents⟩)
/-- a shard's row in the book -/
def row (b : List Rec) (k : Int) : Option Nat := b.findIdx? fun r => r.sh == k
def rowR (b : List Rec) (k : Int) : Rec := match row b k with
  | some i => b.getD i Bk.zeroR
  | none => Bk.zeroR
def retire (f : Flt) (k : Nat) (s : Shd) : Flt × Ans :=
  if (Shf.verC s.man).1.1 = 0 then (⟨f.sh.set k { s with st := 4, ents := [] }, f.book⟩, ⟨0, k, 0, (rowR f.book k).sz, (rowR f.book k).root⟩) else (f, no (Shf.verC s.man).1.1)
/-- a byte is turned -/
def turned (b : Bs) (p : Nat) (x : UInt8) : Bs := b.set p (b.getD p 0 ^^^ x)
def spoilM (m : Man) (j p : Nat) (x : UInt8) : Man := { m with segs := m.segs.set j { m.segs.getD j ⟨0, 0, []⟩ with packed := turned (m.segs.getD j ⟨0, 0, []⟩).packed p x } }
def spoil (f : Flt) (k : Nat) (s : Shd) (d : Dob) : Flt × Ans :=
  if d.seg < 0 ∨ (s.man.segs.length : Int) ≤ d.seg then (f, no 6)
  else if d.pos < 0 ∨ ((s.man.segs.getD d.seg.toNat ⟨0, 0, []⟩).packed.length : Int) ≤ d.pos then (f, no 3)
  else (⟨f.sh.set k { s with man := spoilM s.man d.seg.toNat d.pos.toNat d.turn }, f.book⟩, ⟨0, k, 0, 0, []⟩)
def want (kind : Int) : Int := if kind = 2 then 1 else if kind = 3 then 2 else 3
def step (f : Flt) (d : Dob) : Flt × Ans :=
  if d.kind = 1 then submit f d
  else if d.kind < 2 ∨ 5 < d.kind then (f, no 1)
  else if d.n < 0 ∨ (f.sh.length : Int) ≤ d.n then (f, no 6)
  else match f.sh[d.n.toNat]? with
    | none => (f, no 6)
    | some s => if s.st ≠ want d.kind then (f, no 7)
      else if d.kind = 2 then freeze f d.n.toNat s
      else if d.kind = 3 then lay f d.n.toNat s
      else if d.kind = 4 then retire f d.n.toNat s
      else spoil f d.n.toNat s d
/-- one thing after the other -/
def run : Flt → List Dob → Flt × List Ans
  | f, [] => (f, [])
  | f, d :: l => ((run (step f d).1 l).1, (step f d).2 :: (run (step f d).1 l).2)
/-- what is wrong with windows -/
def wrongF : Int → List (Int × Int) → Nat → Nat × Nat
  | _, [], _ => (0, 0)
  | e, p :: l, i => if p.1 < 0 ∨ p.2 ≤ p.1 ∨ 1000000 < p.2 then (3, i) else if 0 < i ∧ p.1 < e then (7, i) else wrongF p.2 l (i + 1)
def wrongW (l : List (Int × Int)) : Nat × Nat := if 8 < l.length then (5, 0) else wrongF 0 l 0
def start (l : List (Int × Int)) : Flt := ⟨l.map fun p => ⟨p.1, p.2, 1, [], Shf.zeroM⟩, []⟩
/-- a play's fleet, its answers, and what is wrong -/
def play (ws : List (Int × Int)) (l : List Dob) : Flt × List Ans × (Nat × Nat) :=
  if (wrongW ws).1 ≠ 0 then (⟨[], []⟩, [], wrongW ws)
  else if 120 < l.length then (⟨[], []⟩, [], (5, 0))
  else ((run (start ws) l).1, (run (start ws) l).2, (0, 0))

/-- what holds of a shard -/
structure OkS (b : List Rec) (k : Nat) (s : Shd) : Prop where
  fine : Fine s.ents
  nodup : s.ents.Nodup
  win : 0 ≤ s.fr ∧ s.fr < s.til ∧ s.til ≤ 1000000
  st : 1 ≤ s.st ∧ s.st ≤ 4
  row : 2 ≤ s.st → ∃ r ∈ b, r.sh = (k : Int)
  gone : s.st = 4 → s.ents = [] ∧ (Shf.verC s.man).1.1 = 0
/-- what holds of a row -/
structure OkR (sh : List Shd) (r : Rec) : Prop where
  at_ : ∃ (k : Nat) (s : Shd), r.sh = (k : Int) ∧ sh[k]? = some s ∧ 2 ≤ s.st ∧ r.fr = s.fr ∧ r.to = s.til ∧ (s.st ≠ 4 → r.sz = s.ents.length ∧ r.root = Tr.rootL s.ents) ∧ (3 ≤ s.st → s.man.size = r.sz ∧ s.man.root = r.root)
  sz : 0 ≤ r.sz ∧ r.sz ≤ 100
  root : r.root.length = 32
structure Inv (f : Flt) : Prop where
  len : f.sh.length ≤ 8
  sh : ∀ (k : Nat) (s : Shd), f.sh[k]? = some s → OkS f.book k s
  book : ∀ r ∈ f.book, OkR f.sh r
  one : f.book.Pairwise fun a b => a.sh ≠ b.sh
  count : f.book.length = f.sh.countP fun s => decide (2 ≤ s.st)
theorem Inv.book_len {f : Flt} (h : Inv f) : f.book.length ≤ 8 := by
  rw [h.count]
  have := List.countP_le_length (p := fun s : Shd => decide (2 ≤ s.st)) (l := f.sh)
  have := h.len
  omega
/-- a shard turned to another of the same window -/
theorem Inv.set_ {f : Flt} (h : Inv f) {k : Nat} {s s' : Shd} (hk : f.sh[k]? = some s) (hs : OkS f.book k s') (hf : s'.fr = s.fr ∧ s'.til = s.til) (h2 : (2 ≤ s.st ↔ 2 ≤ s'.st))
    (hr : ∀ r ∈ f.book, r.sh = (k : Int) → (s'.st ≠ 4 → r.sz = s'.ents.length ∧ r.root = Tr.rootL s'.ents) ∧ (3 ≤ s'.st → s'.man.size = r.sz ∧ s'.man.root = r.root)) : Inv ⟨f.sh.set k s', f.book⟩ := by
  obtain ⟨hlt, hg⟩ := List.getElem?_eq_some_iff.1 hk
  refine ⟨by simpa using h.len, fun j t hj => ?_, fun r hrm => ?_, h.one, ?_⟩
  · rw [List.getElem?_set] at hj
    split at hj
    · rename_i e
      subst e
      first | (rw [if_pos hlt] at hj; injection hj with hj) | injection hj with hj
      subst hj
      exact hs
    · exact h.sh j t hj
  · obtain ⟨⟨j, t, e1, e2, e3, e4, e5, e6, e7⟩, hsz, hro⟩ := h.book r hrm
    refine ⟨?_, hsz, hro⟩
    by_cases hjk : k = j
    · subst hjk
      rw [hk] at e2
      injection e2 with e2
      subst e2
      exact ⟨k, s', e1, by rw [List.getElem?_set_self hlt], h2.1 e3, by rw [hf.1]; exact e4, by rw [hf.2]; exact e5, (hr r hrm e1).1, (hr r hrm e1).2⟩
    · exact ⟨j, t, e1, by rw [List.getElem?_set_ne hjk]; exact e2, e3, e4, e5, e6, e7⟩
  · rw [h.count, List.countP_set (by exact hlt)]
    have hc : decide (2 ≤ f.sh[k].st) = decide (2 ≤ s'.st) := by rw [hg]; exact decide_eq_decide.2 h2
    rw [hc]
    by_cases hp : decide (2 ≤ s'.st) = true
    · simp only [hp, if_true]
      have : 0 < f.sh.countP fun s => decide (2 ≤ s.st) := List.countP_pos_iff.2 ⟨f.sh[k], List.getElem_mem hlt, by rw [hc]; exact hp⟩
      omega
    · simp only [hp]; simp
end Fl
end Go.Proofs.Ytnfaefgmekfloaa

namespace Go.Proofs.Ytnfaefgmekfloaa
namespace Fl
theorem wrongF_ok : ∀ (l : List (Int × Int)) (e : Int) (i : Nat), (wrongF e l i).1 = 0 → ∀ p ∈ l, 0 ≤ p.1 ∧ p.1 < p.2 ∧ p.2 ≤ 1000000
  | [], _, _, _, p, hp => by simp at hp
  | q :: l, e, i, h, p, hp => by
    unfold wrongF at h
    split at h
    · cases h
    · rename_i h1
      split at h
      · cases h
      · rcases List.mem_cons.1 hp with rfl | hp
        · omega
        · exact wrongF_ok l _ _ h p hp
theorem wrongW_ok {l : List (Int × Int)} (h : (wrongW l).1 = 0) : l.length ≤ 8 ∧ ∀ p ∈ l, 0 ≤ p.1 ∧ p.1 < p.2 ∧ p.2 ≤ 1000000 := by
  unfold wrongW at h
  split at h
  · cases h
  · rename_i h1
    exact ⟨by omega, wrongF_ok l 0 0 h⟩
theorem Inv.start {l : List (Int × Int)} (h : (wrongW l).1 = 0) : Inv (start l) := by
  obtain ⟨h1, h2⟩ := wrongW_ok h
  refine ⟨by simp [Fl.start, h1], fun k s hk => ?_, fun r hr => by simp [Fl.start] at hr, List.Pairwise.nil, ?_⟩
  · unfold Fl.start at hk
    simp only [List.getElem?_map] at hk
    obtain ⟨p, hp, rfl⟩ := Option.map_eq_some_iff.1 hk
    have hm := h2 p (List.mem_of_getElem? hp)
    exact ⟨⟨by simp, by simp⟩, List.nodup_nil, hm, by simp, fun h => by simp at h, fun h => by simp at h⟩
  · unfold Fl.start
    simp only [List.countP_map]
    refine (List.countP_eq_zero.2 fun p _ => ?_).symm
    simp
theorem no_row {f : Flt} (h : Inv f) {k : Nat} {s : Shd} (hk : f.sh[k]? = some s) (h1 : s.st = 1) : ∀ r ∈ f.book, r.sh ≠ (k : Int) := by
  intro r hr e
  obtain ⟨⟨j, t, e1, e2, e3, _⟩, _, _⟩ := h.book r hr
  have : j = k := by omega
  subst this
  rw [hk] at e2
  injection e2 with e2
  subst e2
  omega
theorem Inv.submit {f : Flt} (h : Inv f) (d : Dob) : Inv (submit f d).1 := by
  unfold Fl.submit
  split
  · exact h
  · rename_i hl
    split
    · exact h
    · rename_i k hk
      split
      · exact h
      · rename_i s hs
        split
        · exact h
        · rename_i h1
          split
          · exact h
          · rename_i hn
            split
            · exact h
            · rename_i h100
              obtain ⟨o1, o2, o3, o4, o5, o6⟩ := h.sh k s hs
              have h1' : s.st = 1 := by simpa using h1
              refine h.set_ hs ⟨⟨?_, fun e he => ?_⟩, ?_, o3, o4, fun h2 => ?_, fun h4 => ?_⟩ ⟨rfl, rfl⟩ (by simp) (fun r hr e => absurd e (no_row h hs h1' r hr))
              · have h101 := o1.1
                have hx : (s.ents ++ [d.entry]).length = s.ents.length + 1 := by simp
                rw [hx]
                clear hn hk o5 o6
                omega
              · rcases List.mem_append.1 he with he | he
                · exact o1.2 e he
                · simp only [List.mem_singleton] at he; subst he; omega
              · rw [List.nodup_append]
                refine ⟨o2, by simp, fun a ha b hb e => ?_⟩
                simp only [List.mem_singleton] at hb
                subst hb e
                have := List.findIdx?_eq_none_iff.1 hn d.entry ha
                simp at this
              · have h2' : 2 ≤ s.st := h2; omega
              · have h4' : s.st = 4 := h4; omega
theorem Inv.freeze {f : Flt} (h : Inv f) {k : Nat} {s : Shd} (hk : f.sh[k]? = some s) (h1 : s.st = 1) : Inv (freeze f k s).1 := by
  obtain ⟨hlt, hg⟩ := List.getElem?_eq_some_iff.1 hk
  obtain ⟨o1, o2, o3, o4, o5, o6⟩ := h.sh k s hk
  have hno := no_row h hk h1
  unfold Fl.freeze
  refine ⟨by simpa using h.len, fun j t hj => ?_, fun r hr => ?_, ?_, ?_⟩
  · simp only at hj ⊢
    rw [List.getElem?_set] at hj
    split at hj
    · rename_i e
      subst e
      injection hj with hj
      subst hj
      exact ⟨o1, o2, o3, by simp, fun _ => ⟨_, List.mem_append_right _ (List.mem_singleton.2 rfl), rfl⟩, fun h4 => by simp at h4⟩
    · obtain ⟨p1, p2, p3, p4, p5, p6⟩ := h.sh j t hj
      exact ⟨p1, p2, p3, p4, fun h2 => by obtain ⟨r, hr, e⟩ := p5 h2; exact ⟨r, List.mem_append_left _ hr, e⟩, p6⟩
  · simp only at hr ⊢
    rcases List.mem_append.1 hr with hr | hr
    · obtain ⟨⟨j, t, e1, e2, e3, e4, e5, e6, e7⟩, hsz, hro⟩ := h.book r hr
      have hjk : k ≠ j := fun e => hno r hr (by rw [e1, e])
      exact ⟨⟨j, t, e1, by rw [List.getElem?_set_ne hjk]; exact e2, e3, e4, e5, e6, e7⟩, hsz, hro⟩
    · simp only [List.mem_singleton] at hr
      subst hr
      refine ⟨⟨k, _, rfl, List.getElem?_set_self hlt, by simp, rfl, rfl, fun _ => ⟨rfl, rfl⟩, fun h3 => by simp at h3⟩, ?_, Tr.length_rootL _⟩
      have := o1.1
      simp only
      omega
  · simp only
    rw [List.pairwise_append]
    refine ⟨h.one, List.pairwise_singleton _ _, fun a ha b hb => ?_⟩
    simp only [List.mem_singleton] at hb
    subst hb
    exact hno a ha
  · simp only [List.length_append, List.length_cons, List.length_nil]
    rw [h.count, List.countP_set (by exact hlt), hg]
    simp [h1]
theorem Inv.lay {f : Flt} (h : Inv f) {k : Nat} {s : Shd} (hk : f.sh[k]? = some s) (h1 : s.st = 2) : Inv (lay f k s).1 := by
  obtain ⟨o1, o2, o3, o4, o5, o6⟩ := h.sh k s hk
  unfold Fl.lay
  refine h.set_ hk ⟨o1, o2, o3, by simp, fun _ => o5 (by omega), fun h4 => by simp at h4⟩ ⟨rfl, rfl⟩ (by simp [h1]) (fun r hr e => ?_)
  obtain ⟨⟨j, t, e1, e2, e3, e4, e5, e6, e7⟩, _, _⟩ := h.book r hr
  have : j = k := by omega
  subst this
  rw [hk] at e2
  injection e2 with e2
  subst e2
  obtain ⟨g1, g2⟩ := e6 (by omega)
  exact ⟨fun _ => ⟨g1, g2⟩, fun _ => ⟨g1.symm, g2.symm⟩⟩
theorem Inv.retire {f : Flt} (h : Inv f) {k : Nat} {s : Shd} (hk : f.sh[k]? = some s) (h1 : s.st = 3) : Inv (retire f k s).1 := by
  obtain ⟨o1, o2, o3, o4, o5, o6⟩ := h.sh k s hk
  unfold Fl.retire
  split
  · rename_i hv
    refine h.set_ hk ⟨⟨by simp, by simp⟩, List.nodup_nil, o3, by simp, fun _ => o5 (by omega), fun _ => ⟨rfl, hv⟩⟩ ⟨rfl, rfl⟩ (by simp [h1]) (fun r hr e => ?_)
    obtain ⟨⟨j, t, e1, e2, e3, e4, e5, e6, e7⟩, _, _⟩ := h.book r hr
    have : j = k := by omega
    subst this
    rw [hk] at e2
    injection e2 with e2
    subst e2
    exact ⟨fun h4 => absurd rfl h4, fun _ => e7 (by omega)⟩
  · exact h
theorem Inv.spoil {f : Flt} (h : Inv f) {k : Nat} {s : Shd} (hk : f.sh[k]? = some s) (h1 : s.st = 3) (d : Dob) : Inv (spoil f k s d).1 := by
  obtain ⟨o1, o2, o3, o4, o5, o6⟩ := h.sh k s hk
  unfold Fl.spoil
  split
  · exact h
  · split
    · exact h
    · refine h.set_ hk ⟨o1, o2, o3, o4, o5, fun h4 => ?_⟩ ⟨rfl, rfl⟩ Iff.rfl (fun r hr e => ?_)
      · have h4' : s.st = 4 := h4; omega
      · obtain ⟨⟨j, t, e1, e2, e3, e4, e5, e6, e7⟩, _, _⟩ := h.book r hr
        have : j = k := by omega
        subst this
        rw [hk] at e2
        injection e2 with e2
        subst e2
        exact ⟨e6, e7⟩
theorem Inv.step {f : Flt} (h : Inv f) (d : Dob) : Inv (step f d).1 := by
  unfold Fl.step
  split
  · exact h.submit d
  · split
    · exact h
    · rename_i h1 hk
      split
      · exact h
      · split
        · exact h
        · rename_i s hs
          split
          · exact h
          · rename_i hw
            unfold want at hw
            split
            · rename_i h2
              rw [if_pos h2] at hw
              exact h.freeze hs (by omega)
            · rename_i h2
              rw [if_neg h2] at hw
              split
              · rename_i h3
                rw [if_pos h3] at hw
                exact h.lay hs (by omega)
              · rename_i h3
                rw [if_neg h3] at hw
                split
                · exact h.retire hs (by omega)
                · exact h.spoil hs (by omega) d
theorem Inv.run : ∀ {f : Flt} (_ : Inv f) (l : List Dob), Inv (run f l).1
  | _, h, [] => h
  | _, h, d :: l => Inv.run (h.step d) l
end Fl
end Go.Proofs.Ytnfaefgmekfloaa

namespace Go.Proofs.Ytnfaefgmekfloaa
namespace Fl
theorem length_run : ∀ (f : Flt) (l : List Dob), (run f l).2.length = l.length
  | _, [] => rfl
  | f, d :: l => by simp [run, length_run (step f d).1 l]
theorem run_append : ∀ (f : Flt) (l m : List Dob), run f (l ++ m) = ((run (run f l).1 m).1, (run f l).2 ++ (run (run f l).1 m).2)
  | f, [], m => by simp [run]
  | f, d :: l, m => by
    have := run_append (step f d).1 l m
    simp only [List.cons_append, run]
    rw [this]
theorem run_take (f : Flt) (l : List Dob) (n : Nat) : (run f (l.take n)).2 = (run f l).2.take n := by
  by_cases hn : n ≤ l.length
  · have h := run_append f (l.take n) (l.drop n)
    rw [List.take_append_drop] at h
    have hl : (run f (l.take n)).2.length = n := by rw [length_run, List.length_take]; omega
    generalize run f (l.take n) = r at *
    rw [h]
    simp only
    rw [List.take_append_of_le_length (by omega), List.take_of_length_le (by omega)]
  · rw [List.take_of_length_le (by omega), List.take_of_length_le (by rw [length_run]; omega)]
/-- what is refused did not happen -/
theorem step_err {f : Flt} {d : Dob} (h : (step f d).2.err ≠ 0) : (step f d).1 = f := by
  revert h
  unfold step submit freeze lay retire spoil
  repeat' split
  all_goals (intro h; first | rfl | exact absurd rfl h)
/-- those that were not refused -/
def good : List Dob → List Ans → List Dob
  | d :: l, a :: bs => if a.err = 0 then d :: good l bs else good l bs
  | _, _ => []
theorem run_good : ∀ (f : Flt) (l : List Dob), (run f (good l (run f l).2)).1 = (run f l).1 ∧ ∀ a ∈ (run f (good l (run f l).2)).2, a.err = 0
  | f, [] => by simp [good, run]
  | f, d :: l => by
    obtain ⟨h1, h2⟩ := run_good (step f d).1 l
    simp only [run, good]
    by_cases he : (step f d).2.err = 0
    · rw [if_pos he]
      simp only [run]
      refine ⟨h1, fun a ha => ?_⟩
      rcases List.mem_cons.1 ha with rfl | ha
      · exact he
      · exact h2 a ha
    · rw [if_neg he]
      have hs := step_err he
      rw [hs] at h1 h2 ⊢
      exact ⟨h1, h2⟩
theorem good_length : ∀ (l : List Dob) (bs : List Ans), (good l bs).length ≤ l.length
  | d :: l, a :: bs => by
    unfold good
    have := good_length l bs
    split <;> simp <;> omega
  | [], _ => by simp [good]
  | _ :: _, [] => by simp [good]
theorem good_snoc : ∀ (l : List Dob) (bs : List Ans) (d : Dob) (a : Ans), l.length = bs.length → good (l ++ [d]) (bs ++ [a]) = good l bs ++ if a.err = 0 then [d] else []
  | [], [], d, a, _ => by simp [good]
  | x :: l, y :: bs, d, a, h => by
    have ih := good_snoc l bs d a (by simpa using h)
    simp only [List.cons_append, good, ih]
    split <;> simp
  | [], _ :: _, _, _, h => by simp at h
  | _ :: _, [], _, _, h => by simp at h
end Fl
end Go.Proofs.Ytnfaefgmekfloaa

namespace Go.Proofs.Ytnfaefgmekfloaa

theorem getLastD_len {p : List Bs} (h : D32 p) : (p.getLastD []).length ≤ 32 := by
  rcases List.eq_nil_or_concat p with rfl | ⟨q, x, rfl⟩
  · simp
  · have := h x (by simp)
    simp [this]
theorem D32.dropLast {p : List Bs} (h : D32 p) : D32 p.dropLast := fun d hd => h d (List.dropLast_subset _ hd)
theorem clashOf_eq {x y : Bs} {q : Tr.PB} (h : Tr.clashOf x y = some q) : q = (x, y) := by
  unfold Tr.clashOf at h
  split at h
  · injection h with h; exact h.symm
  · cases h
theorem clashOf_again {x y : Bs} {q : Tr.PB} (h : Tr.clashOf x y = some q) : Tr.clashOf q.1 q.2 = some q := by
  have e := clashOf_eq h
  subst e; exact h
theorem clashOf_of {q : Tr.PB} (h : q.1 ≠ q.2 ∧ Sha.sha256 q.1 = Sha.sha256 q.2) : Tr.clashOf q.1 q.2 = some q := by
  unfold Tr.clashOf; rw [if_pos h]
theorem pairT_len (a b : Bs) : (Tr.pairT a b).length = a.length + b.length + 1 := by simp [Tr.pairT]
/-- the texts that are told are short -/
theorem down_lens (n : Nat) : ∀ (l : List Bs) (b : Bs) (i : Nat) (p : List Bs) (q : Tr.PB), l.length = n → (∀ x ∈ l, x.length ≤ 200) → b.length ≤ 200 → D32 p → (Tr.down l b i p).1 = some q → q.1.length ≤ 201 ∧ q.2.length ≤ 201 := by
  induction n using Nat.strongRecOn with
  | ind n ih =>
    intro l b i p q hl hx hb hp h
    have hg := getLastD_len hp
    by_cases h2 : 2 ≤ l.length
    · have g1 := Tr.split_lt h2
      have g0 := Tr.split_pos l.length
      by_cases hi : i < Tr.split l.length
      · rw [Tr.down_left h2 b p hi] at h
        rcases Tr.orElse_some h with h | h
        · exact ih (Tr.split l.length) (by omega) _ _ _ _ q (by rw [List.length_take]; omega) (fun x hxx => hx x (List.mem_of_mem_take hxx)) hb hp.dropLast h
        · rw [clashOf_eq h]
          dsimp only
          rw [pairT_len, pairT_len, Tr.length_rootL, Tr.length_rootL, Tr.length_down _ _ _ _ _ rfl]
          omega
      · rw [Tr.down_right h2 b p hi] at h
        rcases Tr.orElse_some h with h | h
        · exact ih (l.length - Tr.split l.length) (by omega) _ _ _ _ q (List.length_drop ..) (fun x hxx => hx x (List.mem_of_mem_drop hxx)) hb hp.dropLast h
        · rw [clashOf_eq h]
          dsimp only
          rw [pairT_len, pairT_len, Tr.length_rootL, Tr.length_rootL, Tr.length_down _ _ _ _ _ rfl]
          omega
    · rw [Tr.down_one h2] at h
      rw [clashOf_eq h]
      have h0 : (l.getD 0 []).length ≤ 200 := by
        cases l with
        | nil => simp
        | cons a t => exact hx a (by simp)
      show (0 :: l.getD 0 []).length ≤ 201 ∧ (0 :: b).length ≤ 201
      rw [List.length_cons, List.length_cons]
      omega

theorem standsS_yes {n : Int} {r b : Bs} {i : Int} {p : List Bs} (h : standsS n r b i p = true) : (1 ≤ n ∧ n ≤ 100 ∧ 0 ≤ i ∧ i < n ∧ b.length ≤ 200) ∧ D32 p ∧ Tr.up (Tr.leafH b) i.toNat n.toNat p = some r := by
  unfold standsS at h
  rw [Bool.and_eq_true, Bool.and_eq_true] at h
  exact ⟨of_decide_eq_true h.1, (allD_iff p).1 h.2.1, by simpa using h.2.2⟩
/-- what clash.Stands tells -/
noncomputable def clashS (ll : List Bs) (b : Bs) (i : Int) (p : List Bs) : Option Tr.PB :=
  open Classical in if Fine ll ∧ standsS (ll.length : Int) (Tr.root (ll.map Tr.leafH)) b i p = true ∧ ll[i.toNat]? ≠ some b then (Tr.down ll b i.toNat p).1 else none
theorem clashS_bad {ll : List Bs} {b : Bs} {i : Int} {p : List Bs} (h : ¬ (Fine ll ∧ standsS (ll.length : Int) (Tr.root (ll.map Tr.leafH)) b i p = true ∧ ll[i.toNat]? ≠ some b)) : clashS ll b i p = none := by
  unfold clashS; rw [if_neg h]
theorem clashS_ok {ll : List Bs} {b : Bs} {i : Int} {p : List Bs} (h : Fine ll ∧ standsS (ll.length : Int) (Tr.root (ll.map Tr.leafH)) b i p = true ∧ ll[i.toNat]? ≠ some b) : clashS ll b i p = (Tr.down ll b i.toNat p).1 := by
  unfold clashS; rw [if_pos h]
theorem clashS_some {ll : List Bs} {b : Bs} {i : Int} {p : List Bs} {q : Tr.PB} (h : clashS ll b i p = some q) : Tr.clashOf q.1 q.2 = some q ∧ q.1.length ≤ 201 ∧ q.2.length ≤ 201 := by
  unfold clashS at h
  split at h
  · rename_i hc
    obtain ⟨⟨_, _, _, _, hb⟩, hd, _⟩ := standsS_yes hc.2.1
    exact ⟨clashOf_of (Tr.down_some _ _ _ _ _ q rfl h), down_lens _ _ _ _ _ q rfl hc.1.2 hb hd h⟩
  · cases h
/-- where another leaf is shown, two texts are told -/
theorem clashS_there {ll : List Bs} {b : Bs} {i : Int} {p : List Bs} (h : Fine ll ∧ standsS (ll.length : Int) (Tr.root (ll.map Tr.leafH)) b i p = true ∧ ll[i.toNat]? ≠ some b) : (clashS ll b i p).isSome = true := by
  rw [clashS_ok h]
  obtain ⟨⟨h1, h2, h3, h4, hb⟩, hd, hu⟩ := standsS_yes h.2.1
  cases hn : (Tr.down ll b i.toNat p).1 with
  | some q => rfl
  | none =>
    have e1 : ((ll.length : Int)).toNat = ll.length := by omega
    rw [e1] at hu
    have e2 := Tr.down_up ll.length ll b i.toNat p _ rfl (by omega) (by omega) hu
    have hdp : p.length = Tr.depth i.toNat ll.length := by
      rcases Nat.decEq p.length (Tr.depth i.toNat ll.length) with hne | he
      · rw [Tr.up_length ll.length i.toNat _ p (by omega) hne] at hu; cases hu
      · exact he
    have e3 := Tr.down_none ll.length ll b i.toNat p rfl (by omega) (by omega) hdp hd hn e2
    refine absurd ?_ h.2.2
    rw [e3, List.getD_eq_getElem?_getD, List.getElem?_eq_getElem (by omega : i.toNat < ll.length)]
    rfl
theorem depth_of {ll : List Bs} {b : Bs} {i : Int} {p : List Bs} (h : standsS (ll.length : Int) (Tr.root (ll.map Tr.leafH)) b i p = true) : p.length = Tr.depth i.toNat ll.length := by
  obtain ⟨⟨h1, h2, h3, h4, hb⟩, hd, hu⟩ := standsS_yes h
  have e1 : ((ll.length : Int)).toNat = ll.length := by omega
  rw [e1] at hu
  rcases Nat.decEq p.length (Tr.depth i.toNat ll.length) with hne | he
  · rw [Tr.up_length ll.length i.toNat _ p (by omega) hne] at hu; cases hu
  · exact he
end Go.Proofs.Ytnfaefgmekfloaa

namespace Go.Proofs.Ytnfaefgmekfloaa

/-- an entry, shown under its shard's head, and that under the book's -/
structure Shw where
  entry : Bs
  place : Int
  shard : Int
  path : List Bs
  rcd : Rec
  row : Int
  bpath : List Bs
  hsz : Int
  hroot : Bs
deriving DecidableEq
instance : Rp Shw := Rp.of fun s => (s.entry, s.place, s.shard, s.path, s.rcd, s.row, s.bpath, (s.hsz, s.hroot))

namespace Fl
def entsC (s : Shd) : Nat × List Bs := if s.st = 4 then ((Shf.verC s.man).1.1, (Shf.verC s.man).2) else (0, s.ents)
def zeroS : Shw := ⟨[], 0, 0, [], Bk.zeroR, 0, [], 0, []⟩
def bookRoot (b : List Rec) : Bs := Tr.rootL (Bk.rows b)
def shown (b : List Rec) (k i : Nat) (r : Nat) (l : List Bs) : Shw :=
  ⟨l.getD i [], i, k, Tr.path (l.map Tr.leafH) i, b.getD r Bk.zeroR, r, Tr.path ((Bk.rows b).map Tr.leafH) r, b.length, bookRoot b⟩
/-- what shows an entry of a fleet of which all holds, or what is wrong -/
def showC (f : Flt) (k i : Int) : Nat × Shw :=
  if k < 0 ∨ (f.sh.length : Int) ≤ k then (6, zeroS)
  else match f.sh[k.toNat]? with
    | none => (6, zeroS)
    | some s => match row f.book k with
      | none => (8, zeroS)
      | some r => if (entsC s).1 ≠ 0 then ((entsC s).1, zeroS)
        else if i < 0 ∨ ((entsC s).2.length : Int) ≤ i then (6, zeroS)
        else (0, shown f.book k.toNat i.toNat r (entsC s).2)
/-- is what is shown so? -/
def checkC (s : Shw) (hsz : Int) (hroot : Bs) : Bool :=
  decide (Bk.wrongR s.rcd = 0) && decide (s.rcd.sh = s.shard) && decide (s.hsz = hsz) && decide (s.hroot = hroot) && standsS s.rcd.sz s.rcd.root s.entry s.place s.path && standsS hsz hroot (Bk.rowR s.rcd) s.row s.bpath

theorem OkR.wrong {sh : List Shd} {b : List Rec} {r : Rec} (h : OkR sh r) (hs : ∀ (k : Nat) (s : Shd), sh[k]? = some s → OkS b k s) (hl : sh.length ≤ 8) : Bk.wrongR r = 0 := by
  obtain ⟨⟨k, s, e1, e2, e3, e4, e5, e6, e7⟩, hsz, hro⟩ := h
  obtain ⟨hlt, _⟩ := List.getElem?_eq_some_iff.1 e2
  have w := (hs k s e2).win
  exact Bk.wrongR_ok.2 ⟨by omega, by omega, by omega, by omega, by omega, hsz.1, hsz.2, hro⟩
theorem Inv.fineB {f : Flt} (h : Inv f) : Bk.FineB f.book := ⟨h.book_len, fun r hr => (h.book r hr).wrong h.sh h.len⟩
/-- a row of a shard: its place, and what it says -/
theorem row_some {b : List Rec} {k : Int} {i : Nat} (h : row b k = some i) : ∃ hi : i < b.length, b[i].sh = k := by
  unfold row at h
  obtain ⟨hi, h1, _⟩ := List.findIdx?_eq_some_iff_getElem.1 h
  exact ⟨hi, by simpa using h1⟩
theorem row_none {b : List Rec} {k : Int} (h : row b k = none) : ∀ r ∈ b, r.sh ≠ k := by
  unfold row at h
  intro r hr e
  have := List.findIdx?_eq_none_iff.1 h r hr
  simp [e] at this
theorem Inv.uniq {f : Flt} (h : Inv f) {r r' : Rec} (hr : r ∈ f.book) (hr' : r' ∈ f.book) (e : r.sh = r'.sh) : r = r' := by
  obtain ⟨i, hi, rfl⟩ := List.getElem_of_mem hr
  obtain ⟨j, hj, rfl⟩ := List.getElem_of_mem hr'
  rcases Nat.lt_trichotomy i j with h1 | h1 | h1
  · exact absurd e (List.pairwise_iff_getElem.1 h.one i j hi hj h1)
  · subst h1; rfl
  · exact absurd e.symm (List.pairwise_iff_getElem.1 h.one j i hj hi h1)
/-- a shard that was frozen has its row, and its entries under the row's head -/
theorem Inv.frozen {f : Flt} (h : Inv f) {k : Nat} {s : Shd} (hk : f.sh[k]? = some s) (h2 : 2 ≤ s.st) : ∃ (r : Nat) (hr : r < f.book.length), row f.book k = some r ∧ f.book[r].sh = (k : Int) ∧ (entsC s).1 = 0 ∧
    Fine (entsC s).2 ∧ ((entsC s).2.length : Int) = f.book[r].sz ∧ Tr.rootL (entsC s).2 = f.book[r].root ∧ Bk.wrongR f.book[r] = 0 := by
  have o := h.sh k s hk
  obtain ⟨r, hr, e⟩ := o.row h2
  cases hrow : row f.book k with
  | none => exact absurd e (row_none hrow r hr)
  | some i =>
    obtain ⟨hi, hi2⟩ := row_some hrow
    have hm := List.getElem_mem hi
    have hok := h.book _ hm
    have hw := hok.wrong h.sh h.len
    obtain ⟨⟨j, t, e1, e2, e3, e4, e5, e6, e7⟩, hsz, hro⟩ := hok
    have : j = k := by omega
    subst this
    rw [hk] at e2
    injection e2 with e2
    subst e2
    refine ⟨i, hi, rfl, hi2, ?_⟩
    unfold entsC
    by_cases h4 : s.st = 4
    · rw [if_pos h4]
      obtain ⟨_, hv⟩ := o.gone h4
      obtain ⟨hs, _, hr', _, hl, hf⟩ := Shf.verC_ok hv
      obtain ⟨m1, m2⟩ := e7 (by omega)
      have := hs.1
      exact ⟨hv, hf, by show ((Shf.verC s.man).2.length : Int) = _; omega, by show Tr.rootL (Shf.verC s.man).2 = _; rw [hr', m2], hw⟩
    · rw [if_neg h4]
      obtain ⟨g1, g2⟩ := e6 h4
      exact ⟨rfl, o.fine, g1.symm, g2.symm, hw⟩
theorem showC_none {f : Flt} {k : Int} (i : Int) (h : k < 0 ∨ (f.sh.length : Int) ≤ k) : showC f k i = (6, zeroS) := by unfold showC; rw [if_pos h]
theorem showC_open {f : Flt} (h : Inv f) {k : Nat} {s : Shd} (hk : f.sh[k]? = some s) (h1 : s.st = 1) (i : Int) : showC f k i = (8, zeroS) := by
  obtain ⟨hlt, _⟩ := List.getElem?_eq_some_iff.1 hk
  unfold showC
  rw [if_neg (by omega), Int.toNat_natCast, hk]
  simp only
  cases hrow : row f.book k with
  | none => rfl
  | some r =>
    obtain ⟨hi, hi2⟩ := row_some hrow
    exact absurd hi2 (no_row h hk h1 _ (List.getElem_mem hi))
theorem showC_frozen {f : Flt} (h : Inv f) {k : Nat} {s : Shd} (hk : f.sh[k]? = some s) (h2 : 2 ≤ s.st) (i : Int) : ∃ (r : Nat) (hr : r < f.book.length), row f.book k = some r ∧ f.book[r].sh = (k : Int) ∧
    showC f k i = if 0 ≤ i ∧ i < f.book[r].sz then (0, shown f.book k i.toNat r (entsC s).2) else (6, zeroS) := by
  obtain ⟨r, hr, h3, h4, h5, h6, h7, h8, h9⟩ := h.frozen hk h2
  obtain ⟨hlt, _⟩ := List.getElem?_eq_some_iff.1 hk
  refine ⟨r, hr, h3, h4, ?_⟩
  unfold showC
  rw [if_neg (by omega), Int.toNat_natCast, hk]
  simp only [h3]
  rw [if_neg (by rw [h5]; simp)]
  by_cases hi : 0 ≤ i ∧ i < f.book[r].sz
  · rw [if_pos hi, if_neg (by omega)]
  · rw [if_neg hi, if_pos (by omega)]
/-- what is shown of a shard that was frozen is so -/
theorem check_shown {f : Flt} (h : Inv f) {k : Nat} {s : Shd} (hk : f.sh[k]? = some s) (h2 : 2 ≤ s.st) {r : Nat} (hr : row f.book k = some r) {i : Nat} (hi : i < (entsC s).2.length) :
    checkC (shown f.book k i r (entsC s).2) f.book.length (bookRoot f.book) = true := by
  obtain ⟨r', hr', h3, h4, h5, h6, h7, h8, h9⟩ := h.frozen hk h2
  rw [hr] at h3
  injection h3 with h3
  subst h3
  have hfb := h.fineB
  have hbr := Bk.rows_short hfb
  have hg : f.book.getD r Bk.zeroR = f.book[r] := by rw [List.getD_eq_getElem?_getD, List.getElem?_eq_getElem hr']; rfl
  have hge : (entsC s).2.getD i [] = (entsC s).2[i] := by rw [List.getD_eq_getElem?_getD, List.getElem?_eq_getElem hi]; rfl
  have s1 := standsS_path (entsC s).2 h6 i _ (List.getElem?_eq_getElem hi)
  have hrl : r < (Bk.rows f.book).length := by unfold Bk.rows; rw [List.length_map]; exact hr'
  have hlr : (Bk.rows f.book).length = f.book.length := by unfold Bk.rows; rw [List.length_map]
  have s2 := standsS_path (Bk.rows f.book) hbr r _ (List.getElem?_eq_getElem hrl)
  have hrr : (Bk.rows f.book)[r] = Bk.rowR f.book[r] := by simp [Bk.rows]
  rw [hrr, hlr] at s2
  rw [h7] at s1
  have h8' : Tr.root ((entsC s).2.map Tr.leafH) = f.book[r].root := h8
  rw [h8'] at s1
  unfold checkC shown
  simp only [hg, hge, h9, h4, s1]
  unfold bookRoot
  have s2' : standsS (↑f.book.length) (Tr.rootL (Bk.rows f.book)) (Bk.rowR f.book[r]) (↑r) (Tr.path (List.map Tr.leafH (Bk.rows f.book)) r) = true := s2
  simp [s2']
end Fl
end Go.Proofs.Ytnfaefgmekfloaa

namespace Go.Proofs.Ytnfaefgmekfloaa
namespace Fl
def lastN (k : Int) (b : List Rec) : Int := b.foldl (fun n r => if r.sh = k then r.sz else n) 0
theorem lastN_snoc (k : Int) (b : List Rec) {j : Nat} (hj : j < b.length) : lastN k (b.take (j + 1)) = if b[j].sh = k then b[j].sz else lastN k (b.take j) := by
  unfold lastN
  rw [List.take_succ_eq_append_getElem hj, List.foldl_append]
  rfl
theorem lastN_gen {k z : Int} : ∀ (b : List Rec) (n : Int), (∀ r ∈ b, r.sh = k → r.sz = z) → ((∃ r ∈ b, r.sh = k) ∨ n = z) → b.foldl (fun n r => if r.sh = k then r.sz else n) n = z
  | [], n, _, h => by
    rcases h with ⟨r, hr, _⟩ | h
    · simp at hr
    · exact h
  | r :: b, n, h1, h2 => by
    rw [List.foldl_cons]
    refine lastN_gen b _ (fun r' hr' => h1 r' (List.mem_cons_of_mem _ hr')) ?_
    by_cases e : r.sh = k
    · rw [if_pos e]
      exact .inr (h1 r (List.mem_cons_self ..) e)
    · rw [if_neg e]
      rcases h2 with ⟨r', hr', e'⟩ | h2
      · rcases List.mem_cons.1 hr' with rfl | hr'
        · exact absurd e' e
        · exact .inl ⟨r', hr', e'⟩
      · exact .inr h2
theorem lastN_row {f : Flt} (h : Inv f) {k : Int} {r : Nat} (hr : r < f.book.length) (e : f.book[r].sh = k) : lastN k f.book = f.book[r].sz :=
  lastN_gen f.book 0 (fun r' hr' e' => by rw [h.uniq hr' (List.getElem_mem hr) (e'.trans e.symm)]) (.inl ⟨_, List.getElem_mem hr, e⟩)
theorem play_ok {ws : List (Int × Int)} {l : List Dob} {f : Flt} {la : List Ans} {b : Nat} (h : play ws l = (f, la, (0, b))) : Inv f ∧ f = (run (start ws) l).1 ∧ la = (run (start ws) l).2 ∧ (wrongW ws).1 = 0 ∧ l.length ≤ 120 := by
  unfold play at h
  split at h
  · rename_i h1
    injection h with _ h
    injection h with _ h
    rw [h] at h1
    exact absurd rfl h1
  · rename_i h1
    split at h
    · injection h with _ h
      injection h with _ h
      injection h with h
      cases h
    · rename_i h2
      injection h with e1 h
      injection h with e2 _
      have hw : (wrongW ws).1 = 0 := by simpa using h1
      exact ⟨by rw [← e1]; exact (Inv.start hw).run l, e1.symm, e2.symm, hw, by omega⟩
/-- what the law of the early asks -/
theorem early_none {f : Flt} {k : Int} (i : Int) (h : k < 0 ∨ (f.sh.length : Int) ≤ k) : (showC f k i).1 = 6 := by rw [showC_none i h]
theorem early_open {f : Flt} (h : Inv f) {k : Nat} {s : Shd} (hk : f.sh[k]? = some s) (h1 : s.st = 1) (i : Int) : (showC f k i).1 = 8 := by rw [showC_open h hk h1]
theorem early_last {f : Flt} (h : Inv f) {k : Nat} {s : Shd} (hk : f.sh[k]? = some s) (h1 : s.st ≠ 1) (i : Int) : (showC f k i).1 = if 0 ≤ i ∧ i < lastN k f.book then 0 else 6 := by
  have hst := (h.sh k s hk).st
  obtain ⟨r, hr, _, h3, h4⟩ := showC_frozen h hk (by omega) i
  rw [h4, lastN_row h hr h3]
  split <;> rfl
end Fl
end Go.Proofs.Ytnfaefgmekfloaa

namespace Go.Proofs.Ytnfaefgmekfloaa
namespace Fl
/-- what was taken by each shard: nothing laid away was spoilt -/
def Gh (f : Flt) (gs : List (List Bs)) : Prop := gs.length = f.sh.length ∧ ∀ (k : Nat) (s : Shd) (g : List Bs), f.sh[k]? = some s → gs[k]? = some g → Fine g ∧ (s.st ≠ 4 → s.ents = g) ∧ (3 ≤ s.st → s.man = Shf.manOf g)
def Ext (gs gs' : List (List Bs)) : Prop := ∀ (k : Nat) (g : List Bs), gs[k]? = some g → ∃ r, gs'[k]? = some (g ++ r)
theorem Ext.refl (gs : List (List Bs)) : Ext gs gs := fun k g h => ⟨[], by simpa using h⟩
theorem Ext.trans {a b c : List (List Bs)} (h : Ext a b) (h' : Ext b c) : Ext a c := fun k g hg => by
  obtain ⟨r, hr⟩ := h k g hg
  obtain ⟨r', hr'⟩ := h' k _ hr
  exact ⟨r ++ r', by rw [hr', List.append_assoc]⟩
def Took (d : Dob) (a : Ans) (gs : List (List Bs)) : Prop := d.kind = 1 → a.err = 0 → ∃ k p : Nat, a.sh = k ∧ a.pl = p ∧ ∃ g, gs[k]? = some g ∧ g[p]? = some d.entry
theorem Took.ext {d : Dob} {a : Ans} {gs gs' : List (List Bs)} (h : Took d a gs) (he : Ext gs gs') : Took d a gs' := fun h1 h2 => by
  obtain ⟨k, p, e1, e2, g, hg, hp⟩ := h h1 h2
  obtain ⟨r, hr⟩ := he k g hg
  refine ⟨k, p, e1, e2, _, hr, ?_⟩
  obtain ⟨hlt, _⟩ := List.getElem?_eq_some_iff.1 hp
  rw [List.getElem?_append_left hlt]
  exact hp
theorem Gh.at_ {f : Flt} {gs : List (List Bs)} (h : Gh f gs) {k : Nat} {s : Shd} (hk : f.sh[k]? = some s) : ∃ g, gs[k]? = some g := by
  obtain ⟨hlt, _⟩ := List.getElem?_eq_some_iff.1 hk
  exact ⟨gs[k]'(by have := h.1; omega), List.getElem?_eq_getElem _⟩
/-- a shard's turn that keeps what it took -/
theorem Gh.set_ {f : Flt} {gs : List (List Bs)} (h : Gh f gs) {k : Nat} {s s' : Shd} {b : List Rec} (hk : f.sh[k]? = some s) (hs : ∀ g, gs[k]? = some g → (s'.st ≠ 4 → s'.ents = g) ∧ (3 ≤ s'.st → s'.man = Shf.manOf g)) : Gh ⟨f.sh.set k s', b⟩ gs := by
  obtain ⟨hlt, hg⟩ := List.getElem?_eq_some_iff.1 hk
  refine ⟨by simpa using h.1, fun j t g hj hgj => ?_⟩
  rw [List.getElem?_set] at hj
  split at hj
  · rename_i e
    subst e
    injection hj with hj
    subst hj
    exact ⟨(h.2 _ s g hk hgj).1, hs g hgj⟩
  · exact h.2 j t g hj hgj
theorem Gh.step {f : Flt} {gs : List (List Bs)} (h : Gh f gs) (_hI : Inv f) (d : Dob) (h5 : d.kind ≠ 5) : ∃ gs', Gh (step f d).1 gs' ∧ Ext gs gs' ∧ Took d (step f d).2 gs' := by
  unfold Fl.step
  by_cases h1 : d.kind = 1
  · rw [if_pos h1]
    unfold Fl.submit
    split
    · exact ⟨gs, h, Ext.refl _, fun _ he => by simp [no] at he⟩
    · rename_i h200
      split
      · exact ⟨gs, h, Ext.refl _, fun _ he => by simp [no] at he⟩
      · rename_i k hk
        split
        · exact ⟨gs, h, Ext.refl _, fun _ he => by simp [no] at he⟩
        · rename_i s hs
          obtain ⟨g, hg⟩ := h.at_ hs
          obtain ⟨g1, g2, g3⟩ := h.2 k s g hs hg
          split
          · exact ⟨gs, h, Ext.refl _, fun _ he => by simp [no] at he⟩
          · rename_i hst
            have hst' : s.st = 1 := by simpa using hst
            have hge := g2 (by omega)
            split
            · rename_i i hi
              refine ⟨gs, h, Ext.refl _, fun _ _ => ⟨k, i, rfl, rfl, g, hg, ?_⟩⟩
              obtain ⟨hlt, hb, _⟩ := List.findIdx?_eq_some_iff_getElem.1 hi
              rw [← hge, List.getElem?_eq_getElem hlt]
              simpa using hb
            · split
              · exact ⟨gs, h, Ext.refl _, fun _ he => by simp [no] at he⟩
              · rename_i h100
                obtain ⟨hlt, _⟩ := List.getElem?_eq_some_iff.1 hs
                have hltg : k < gs.length := by have := h.1; omega
                refine ⟨gs.set k (g ++ [d.entry]), ⟨by simpa using h.1, fun j t x hj hx => ?_⟩, fun j x hx => ?_, fun _ _ => ⟨k, s.ents.length, rfl, rfl, g ++ [d.entry], List.getElem?_set_self hltg, by rw [hge]; simp⟩⟩
                · rw [List.getElem?_set] at hj hx
                  split at hj
                  · rename_i e
                    subst e
                    rw [if_pos rfl, if_pos hltg] at hx
                    injection hj with hj
                    injection hx with hx
                    subst hj hx
                    refine ⟨⟨?_, fun e he => ?_⟩, fun _ => by rw [← hge], fun h3 => ?_⟩
                    · have h101 := g1.1
                      have hgl : g.length = s.ents.length := by rw [hge]
                      have hx : (g ++ [d.entry]).length = g.length + 1 := by simp
                      rw [hx]
                      clear hk
                      omega
                    · rcases List.mem_append.1 he with he | he
                      · exact g1.2 e he
                      · simp only [List.mem_singleton] at he; subst he; omega
                    · have h3' : 3 ≤ s.st := h3; omega
                  · rename_i e
                    rw [if_neg e] at hx
                    exact h.2 j t x hj hx
                · by_cases e : k = j
                  · subst e
                    rw [hg] at hx
                    injection hx with hx
                    subst hx
                    exact ⟨[d.entry], List.getElem?_set_self hltg⟩
                  · exact ⟨[], by rw [List.getElem?_set_ne e]; simpa using hx⟩
  · rw [if_neg h1]
    have ht : ∀ (a : Ans) (x : List (List Bs)), Took d a x := fun a x hk => absurd hk h1
    split
    · exact ⟨gs, h, Ext.refl _, ht _ _⟩
    · rename_i h25
      split
      · exact ⟨gs, h, Ext.refl _, ht _ _⟩
      · split
        · exact ⟨gs, h, Ext.refl _, ht _ _⟩
        · rename_i s hs
          split
          · exact ⟨gs, h, Ext.refl _, ht _ _⟩
          · rename_i hw
            unfold want at hw
            split
            · rename_i h2
              rw [if_pos h2] at hw
              refine ⟨gs, ?_, Ext.refl _, ht _ _⟩
              unfold freeze
              exact h.set_ hs fun g hg => ⟨fun _ => (h.2 _ s g hs hg).2.1 (by omega), fun h3 => by simp at h3⟩
            · rename_i h2
              rw [if_neg h2] at hw
              split
              · rename_i h3
                rw [if_pos h3] at hw
                refine ⟨gs, ?_, Ext.refl _, ht _ _⟩
                unfold lay
                exact h.set_ hs fun g hg => ⟨fun _ => (h.2 _ s g hs hg).2.1 (by omega), fun _ => by simp only; rw [(h.2 _ s g hs hg).2.1 (by omega)]⟩
              · rename_i h3
                rw [if_neg h3] at hw
                split
                · refine ⟨gs, ?_, Ext.refl _, ht _ _⟩
                  unfold retire
                  split
                  · exact h.set_ hs fun g hg => ⟨fun h4 => absurd rfl h4, fun _ => (h.2 _ s g hs hg).2.2 (by omega)⟩
                  · exact h
                · rename_i h4
                  omega
theorem Gh.run : ∀ {f : Flt} {gs : List (List Bs)} (_ : Gh f gs) (_ : Inv f) (l : List Dob), (∀ d ∈ l, d.kind ≠ 5) → ∃ gs', Gh (run f l).1 gs' ∧ Ext gs gs' ∧ ∀ (i : Nat) (d : Dob) (a : Ans), l[i]? = some d → (run f l).2[i]? = some a → Took d a gs'
  | f, gs, h, _, [], _ => ⟨gs, h, Ext.refl _, fun i d a hd => by simp at hd⟩
  | f, gs, h, hI, d :: l, h5 => by
    obtain ⟨gs1, g1, g2, g3⟩ := h.step hI d (h5 d (List.mem_cons_self ..))
    obtain ⟨gs2, k1, k2, k3⟩ := Gh.run g1 (hI.step d) l (fun x hx => h5 x (List.mem_cons_of_mem _ hx))
    refine ⟨gs2, k1, g2.trans k2, fun i x a hx ha => ?_⟩
    cases i with
    | zero =>
      simp only [List.getElem?_cons_zero, Option.some.injEq] at hx
      simp only [Fl.run, List.getElem?_cons_zero, Option.some.injEq] at ha
      subst hx ha
      exact g3.ext k2
    | succ i =>
      simp only [List.getElem?_cons_succ] at hx
      simp only [Fl.run, List.getElem?_cons_succ] at ha
      exact k3 i x a hx ha
theorem Gh.start (ws : List (Int × Int)) : Gh (start ws) (ws.map fun _ => []) := by
  refine ⟨by simp [Fl.start], fun k s g hk hg => ?_⟩
  unfold Fl.start at hk
  simp only [List.getElem?_map] at hk hg
  obtain ⟨p, _, rfl⟩ := Option.map_eq_some_iff.1 hk
  obtain ⟨q, _, rfl⟩ := Option.map_eq_some_iff.1 hg
  exact ⟨⟨by simp, by simp⟩, fun _ => rfl, fun h3 => by simp at h3⟩
theorem Gh.ents {f : Flt} {gs : List (List Bs)} (h : Gh f gs) {k : Nat} {s : Shd} {g : List Bs} (hk : f.sh[k]? = some s) (hg : gs[k]? = some g) : (entsC s).2 = g := by
  obtain ⟨g1, g2, g3⟩ := h.2 k s g hk hg
  unfold entsC
  by_cases h4 : s.st = 4
  · rw [if_pos h4, g3 (by omega), Shf.verC_man g1]
  · rw [if_neg h4]; exact g2 h4
/-- each entry that was taken is in its place, if nothing was spoilt -/
theorem taken_there {ws : List (Int × Int)} {l : List Dob} (hw : (wrongW ws).1 = 0) (h5 : ∀ d ∈ l, d.kind ≠ 5) {i : Nat} {d : Dob} {a : Ans} (hd : l[i]? = some d) (ha : (run (start ws) l).2[i]? = some a) (h1 : d.kind = 1) (h0 : a.err = 0) :
    ∃ (k p : Nat) (s : Shd), a.sh = k ∧ a.pl = p ∧ (run (start ws) l).1.sh[k]? = some s ∧ (entsC s).2[p]? = some d.entry := by
  obtain ⟨gs, g1, g2, g3⟩ := Gh.run (Gh.start ws) (Inv.start hw) l h5
  obtain ⟨k, p, e1, e2, g, hg, hp⟩ := g3 i d a hd ha h1 h0
  obtain ⟨hlt, _⟩ := List.getElem?_eq_some_iff.1 hg
  have hk := List.getElem?_eq_getElem (l := (run (start ws) l).1.sh) (i := k) (by have := g1.1; omega)
  exact ⟨k, p, _, e1, e2, hk, by rw [g1.ents hk hg]; exact hp⟩

/-- what is retired stays -/
theorem step_stay {f : Flt} {d : Dob} {k : Nat} {s : Shd} (hk : f.sh[k]? = some s) (h4 : s.st = 4) : (step f d).1.sh[k]? = some s := by
  have hset : ∀ (j : Nat) (t t' : Shd), f.sh[j]? = some t → t.st ≠ 4 → (f.sh.set j t')[k]? = some s := fun j t t' hj ht => by
    by_cases e : j = k
    · subst e
      rw [hk] at hj
      injection hj with hj
      subst hj
      exact absurd h4 ht
    · rw [List.getElem?_set_ne e]; exact hk
  unfold step
  split
  · unfold submit
    split
    · exact hk
    · split
      · exact hk
      · split
        · exact hk
        · rename_i t ht
          split
          · exact hk
          · rename_i hst
            have hst' : t.st = 1 := by simpa using hst
            split
            · exact hk
            · split
              · exact hk
              · exact hset _ t _ ht (by omega)
  · split
    · exact hk
    · split
      · exact hk
      · split
        · exact hk
        · rename_i t ht
          split
          · exact hk
          · rename_i hw
            have hne : t.st ≠ 4 := by unfold want at hw; split at hw <;> (try split at hw) <;> omega
            unfold freeze lay retire spoil
            repeat' split
            all_goals first | exact hk | exact hset _ t _ ht hne
theorem run_stay : ∀ {f : Flt} (l : List Dob) {k : Nat} {s : Shd} (_ : f.sh[k]? = some s) (_ : s.st = 4), (run f l).1.sh[k]? = some s
  | _, [], _, _, hk, _ => hk
  | _, d :: l, _, _, hk, h4 => run_stay l (step_stay (d := d) hk h4) h4
end Fl
end Go.Proofs.Ytnfaefgmekfloaa

namespace Go.Proofs.Ytnfaefgmekfloaa
namespace Fl
theorem play_bad {ws : List (Int × Int)} {l : List Dob} {f : Flt} {la : List Ans} {a b : Nat} (h : play ws l = (f, la, (a, b))) (ha : a ≠ 0) : la = [] := by
  unfold play at h
  split at h
  · injection h with _ h
    injection h with h _
    exact h.symm
  · split at h
    · injection h with _ h
      injection h with h _
      exact h.symm
    · injection h with _ h
      injection h with _ h
      injection h with h _
      exact absurd h.symm ha
theorem shown_taken {ws : List (Int × Int)} {l : List Dob} {f : Flt} {la : List Ans} {b : Nat} (h : play ws l = (f, la, (0, b))) (h5 : ∀ d ∈ l, d.kind ≠ 5) {i : Nat} {d : Dob} {a : Ans} (hd : l[i]? = some d) (ha : la[i]? = some a) (h1 : d.kind = 1) (h0 : a.err = 0) :
    ∃ (k p : Nat) (hk : k < f.sh.length), a.sh = (k : Int) ∧ a.pl = (p : Int) ∧ (f.sh[k].st ≠ 1 → ∃ s : Shw, showC f k p = (0, s) ∧ s.entry = d.entry ∧ checkC s f.book.length (bookRoot f.book) = true) := by
  obtain ⟨hI, e1, e2, hw, _⟩ := play_ok h
  rw [e2] at ha
  obtain ⟨k, p, s, a1, a2, hs, hp⟩ := taken_there hw h5 hd ha h1 h0
  rw [← e1] at hs
  obtain ⟨hlt, hg⟩ := List.getElem?_eq_some_iff.1 hs
  refine ⟨k, p, hlt, a1, a2, fun hst => ?_⟩
  rw [hg] at hst
  have hst4 := (hI.sh k s hs).st
  have h2 : 2 ≤ s.st := by omega
  obtain ⟨hpl, hpe⟩ := List.getElem?_eq_some_iff.1 hp
  obtain ⟨r, hr, h3, h4, h5', h6, h7, h8, h9⟩ := hI.frozen hs h2
  obtain ⟨r', hr', g3, g4, hsh⟩ := showC_frozen hI hs h2 (p : Int)
  rw [h3] at g3
  injection g3 with g3
  subst g3
  rw [if_pos (by omega), Int.toNat_natCast] at hsh
  refine ⟨_, hsh, ?_, check_shown hI hs h2 h3 hpl⟩
  unfold shown
  simp only [List.getD_eq_getElem?_getD, hp, Option.getD_some]
end Fl
end Go.Proofs.Ytnfaefgmekfloaa

namespace Go.Proofs.Ytnfaefgmekfloaa
theorem clashOf_two {q : Tr.PB} (h : Tr.clashOf q.1 q.2 = some q) : q.1 ≠ q.2 ∧ Sha.sha256 q.1 = Sha.sha256 q.2 := by
  unfold Tr.clashOf at h
  split at h
  · assumption
  · cases h
namespace Fl
theorem step_retired {g : Flt} {d : Dob} (h4 : d.kind = 4) (h0 : (step g d).2.err = 0) : ∃ (k : Nat) (s : Shd), d.n = (k : Int) ∧ g.sh[k]? = some s ∧ s.st = 3 ∧ (Shf.verC s.man).1.1 = 0 ∧ (step g d).1 = ⟨g.sh.set k { s with st := 4, ents := [] }, g.book⟩ := by
  unfold step at h0 ⊢
  rw [if_neg (by omega), if_neg (by omega)] at h0 ⊢
  by_cases hr : d.n < 0 ∨ (g.sh.length : Int) ≤ d.n
  · rw [if_pos hr] at h0
    simp [no] at h0
  rw [if_neg hr] at h0 ⊢
  obtain ⟨k, hk⟩ : ∃ k : Nat, d.n = (k : Int) := ⟨d.n.toNat, by omega⟩
  rw [hk] at h0 hr ⊢
  rw [Int.toNat_natCast] at h0 ⊢
  have hlt : k < g.sh.length := by omega
  have hs := List.getElem?_eq_getElem hlt
  rw [hs] at h0 ⊢
  simp only at h0 ⊢
  refine ⟨k, g.sh[k], rfl, hs, ?_⟩
  have hw : want d.kind = 3 := by unfold want; rw [if_neg (by omega), if_neg (by omega)]
  rw [hw] at h0 ⊢
  by_cases h3 : g.sh[k].st ≠ 3
  · rw [if_pos h3] at h0
    simp [no] at h0
  rw [if_neg h3, if_neg (by omega), if_neg (by omega), if_pos h4] at h0 ⊢
  unfold retire at h0 ⊢
  by_cases hv : (Shf.verC g.sh[k].man).1.1 = 0
  · rw [if_pos hv]
    exact ⟨by omega, hv, rfl⟩
  · rw [if_neg hv] at h0
    simp only [no] at h0
    exact absurd h0 hv
theorem run_at {f : Flt} {l : List Dob} {i : Nat} {d : Dob} (hd : l[i]? = some d) : (run f l).2[i]? = some (step (run f (l.take i)).1 d).2 ∧ (run f l).1 = (run (step (run f (l.take i)).1 d).1 (l.drop (i + 1))).1 := by
  obtain ⟨hlt, hg⟩ := List.getElem?_eq_some_iff.1 hd
  have he : l = l.take i ++ d :: l.drop (i + 1) := by rw [← hg, ← List.drop_eq_getElem_cons hlt, List.take_append_drop]
  have h := run_append f (l.take i) (d :: l.drop (i + 1))
  rw [← he] at h
  rw [h]
  simp only [run]
  refine ⟨?_, trivial⟩
  have hl : (run f (l.take i)).2.length = i := by rw [length_run, List.length_take]; omega
  rw [List.getElem?_append_right (by omega), hl]
  simp
/-- a shard that was retired: what it had, and what it shows -/
theorem keeps {ws : List (Int × Int)} {l : List Dob} {f g : Flt} {la lb : List Ans} {b a2 b2 : Nat} (h : play ws l = (f, la, (0, b))) {i : Nat} (h2 : play ws (l.take i) = (g, lb, (a2, b2))) {d : Dob} {a : Ans} (hd : l[i]? = some d) (ha : la[i]? = some a) (h4 : d.kind = 4) (h0 : a.err = 0) :
    ∃ (k : Nat) (hk : k < g.sh.length) (hk' : k < f.sh.length), d.n = (k : Int) ∧ f.sh[k].ents = [] ∧ ∀ (j : Nat) (hj : j < g.sh[k].ents.length), ∃ s : Shw, showC f k j = (0, s) ∧ (s.entry ≠ g.sh[k].ents[j] → ∃ q, clashS g.sh[k].ents s.entry j s.path = some q ∧ q.1 ≠ q.2 ∧ Sha.sha256 q.1 = Sha.sha256 q.2 ∧ q.1.length ≤ 201 ∧ q.2.length ≤ 201) := by
  obtain ⟨hI, e1, e2, hw, hl⟩ := play_ok h
  have hg : g = (run (start ws) (l.take i)).1 := by
    unfold play at h2
    rw [if_neg (by simpa using hw), if_neg (by rw [List.length_take]; omega)] at h2
    injection h2 with h2 _
    exact h2.symm
  obtain ⟨r1, r2⟩ := run_at (f := start ws) hd
  rw [← hg] at r1 r2
  rw [e2, r1] at ha
  injection ha with ha
  rw [← ha] at h0
  obtain ⟨k, s, hn, hs, h3, hv, hst⟩ := step_retired h4 h0
  obtain ⟨hlt, hge⟩ := List.getElem?_eq_some_iff.1 hs
  have hIg : Inv g := by rw [hg]; exact (Inv.start hw).run _
  have hfin : f.sh[k]? = some { s with st := 4, ents := [] } := by
    rw [e1, r2]
    exact run_stay _ (by rw [hst]; exact List.getElem?_set_self hlt) rfl
  obtain ⟨hlt', hge'⟩ := List.getElem?_eq_some_iff.1 hfin
  refine ⟨k, hlt, hlt', hn, by rw [hge'], fun j hj => ?_⟩
  have o := hIg.sh k s hs
  obtain ⟨r, hr, er⟩ := o.row (by omega)
  obtain ⟨⟨j', t, f1, f2, f3, f4, f5, f6, f7⟩, _, _⟩ := hIg.book r hr
  have : j' = k := by omega
  subst this
  rw [hs] at f2
  injection f2 with f2
  subst f2
  obtain ⟨g1, g2⟩ := f6 (by omega)
  obtain ⟨m1, m2⟩ := f7 (by omega)
  obtain ⟨_, _, v3, _, v5, v6⟩ := Shf.verC_ok hv
  have hvl : (Shf.verC s.man).2.length = s.ents.length := by omega
  have hvr : Tr.rootL (Shf.verC s.man).2 = Tr.rootL s.ents := by rw [v3, m2, g2]
  obtain ⟨q, hq, q3, q4, q5, q6, q7, q8, q9⟩ := hI.frozen hfin (show (2 : Int) ≤ 4 by decide)
  obtain ⟨q', hq', p3, p4, hsh⟩ := showC_frozen hI hfin (show (2 : Int) ≤ 4 by decide) (j : Int)
  rw [q3] at p3
  injection p3 with p3
  subst p3
  have hents : (entsC { s with st := 4, ents := [] }).2 = (Shf.verC s.man).2 := by unfold entsC; rw [if_pos rfl]
  rw [hents] at hsh q7
  rw [hge] at hj
  rw [if_pos (by omega), Int.toNat_natCast] at hsh
  refine ⟨_, hsh, fun hne => ?_⟩
  simp only [hge] at hne ⊢
  have hjv : j < (Shf.verC s.man).2.length := by omega
  have hat : (Shf.verC s.man).2.getD j [] = (Shf.verC s.man).2[j] := by rw [List.getD_eq_getElem?_getD, List.getElem?_eq_getElem hjv]; rfl
  have hstand := standsS_path (Shf.verC s.man).2 v6 j _ (List.getElem?_eq_getElem hjv)
  have hroot : Tr.root ((Shf.verC s.man).2.map Tr.leafH) = Tr.root (s.ents.map Tr.leafH) := hvr
  rw [hvl, hroot] at hstand
  have hth := clashS_there (ll := s.ents) (b := (Shf.verC s.man).2[j]) (i := (j : Int)) (p := Tr.path ((Shf.verC s.man).2.map Tr.leafH) j) ⟨o.fine, hstand, by
    rw [Int.toNat_natCast, List.getElem?_eq_getElem hj]
    intro hx
    injection hx with hx
    apply hne
    unfold shown
    simp only [hat]
    exact hx.symm⟩
  have hsh2 : (shown f.book j' j q (Shf.verC s.man).2).entry = (Shf.verC s.man).2[j] := hat
  have hsh3 : (shown f.book j' j q (Shf.verC s.man).2).path = Tr.path ((Shf.verC s.man).2.map Tr.leafH) j := rfl
  rw [hsh2, hsh3]
  cases hc : clashS s.ents (Shf.verC s.man).2[j] (j : Int) (Tr.path ((Shf.verC s.man).2.map Tr.leafH) j) with
  | none => rw [hc] at hth; cases hth
  | some x =>
    obtain ⟨c1, c2, c3⟩ := clashS_some hc
    obtain ⟨c4, c5⟩ := clashOf_two c1
    exact ⟨x, rfl, c4, c5, c2, c3⟩
end Fl
end Go.Proofs.Ytnfaefgmekfloaa

namespace Go.Proofs.Ytnfaefgmekfloaa
namespace Fl
def doD (kind n : Int) : Dob := ⟨kind, n, 0, [], 0, 0, 0⟩
def subD (t : Int) (e : Bs) : Dob := ⟨1, 0, t, e, 0, 0, 0⟩
def windowsL (n : Nat) : List (Int × Int) := (List.range n).map fun (k : Nat) => (10 * (k : Int), 10 * (k : Int) + 10)
def yearL (l : List Dob) (k : Int) (es : List Bs) (far : Nat) : List Dob := l ++ es.map (subD (10 * k + 5)) ++ (([2, 3, 4] : List Int).take far).map fun kind => doD kind k
theorem wrong_windows (n : Nat) (h : n ≤ 3) : wrongW (windowsL n) = (0, 0) := by
  match n, h with
  | 0, _ => decide
  | 1, _ => decide
  | 2, _ => decide
  | 3, _ => decide
theorem findIdx_set {p : Shd → Bool} : ∀ (l : List Shd) (k : Nat) (s s' : Shd), l[k]? = some s → p s' = p s → (l.set k s').findIdx? p = l.findIdx? p
  | [], _, _, _, h, _ => by simp at h
  | a :: l, 0, s, s', h, hp => by
    simp only [List.getElem?_cons_zero, Option.some.injEq] at h
    subst h
    simp only [List.set_cons_zero, List.findIdx?_cons, hp]
  | a :: l, k + 1, s, s', h, hp => by
    simp only [List.getElem?_cons_succ] at h
    simp only [List.set_cons_succ, List.findIdx?_cons, findIdx_set l k s s' h hp]
theorem step_submit (f : Flt) (t : Int) (e : Bs) : step f (subD t e) = submit f (subD t e) := by unfold step; exact if_pos rfl
/-- an entry that is new is taken -/
theorem submit_new {f : Flt} {k : Nat} {s : Shd} {t : Int} {e : Bs} (hk : f.sh[k]? = some s) (hst : s.st = 1) (hw : f.sh.findIdx? (inW t) = some k) (he : e ∉ s.ents) (hl : e.length ≤ 200) (hm : s.ents.length < 100) :
    submit f (subD t e) = (⟨f.sh.set k { s with ents := s.ents ++ [e] }, f.book⟩, ⟨0, k, s.ents.length, 0, []⟩) := by
  unfold submit subD
  rw [if_neg (by simp only; omega)]
  simp only [hw, hk]
  rw [if_neg (by rw [hst]; simp)]
  have hn : s.ents.findIdx? (· == e) = none := by
    rw [List.findIdx?_eq_none_iff]
    intro x hx
    rw [beq_eq_false_iff_ne]
    intro h
    subst h
    exact he hx
  simp only [hn]
  rw [if_neg (by omega)]
/-- entries that are unlike are taken one behind the other -/
theorem run_submits {t : Int} {k : Nat} : ∀ (es : List Bs) (f : Flt) (s : Shd), f.sh[k]? = some s → s.st = 1 → f.sh.findIdx? (inW t) = some k → (s.ents ++ es).Nodup → (∀ e ∈ es, e.length ≤ 200) → s.ents.length + es.length ≤ 100 →
    run f (es.map (subD t)) = (⟨f.sh.set k { s with ents := s.ents ++ es }, f.book⟩, (List.range es.length).map fun i => ⟨0, k, ((s.ents.length + i : Nat) : Int), 0, []⟩)
  | [], f, s, hk, _, _, _, _, _ => by
    obtain ⟨hlt, hg⟩ := List.getElem?_eq_some_iff.1 hk
    simp only [List.map_nil, run, List.append_nil, List.length_nil, List.range_zero]
    have : f.sh.set k s = f.sh := by rw [← hg]; exact List.set_getElem_self hlt
    rw [show ({ s with ents := s.ents } : Shd) = s from rfl, this]
  | e :: es, f, s, hk, hst, hw, hn, hl, hm => by
    obtain ⟨hlt, hg⟩ := List.getElem?_eq_some_iff.1 hk
    have hne : e ∉ s.ents := fun h => by
      rw [List.nodup_append] at hn
      exact hn.2.2 e h e (List.mem_cons_self ..) rfl
    have h1 := submit_new hk hst hw hne (hl e (List.mem_cons_self ..)) (by simp at hm; omega)
    have ih := run_submits (t := t) (k := k) es ⟨f.sh.set k { s with ents := s.ents ++ [e] }, f.book⟩ { s with ents := s.ents ++ [e] } (List.getElem?_set_self hlt) hst
      (by rw [← hw]; exact findIdx_set f.sh k s _ hk rfl) (by simpa using hn) (fun x hx => hl x (List.mem_cons_of_mem _ hx)) (by simp at hm ⊢; omega)
    rw [List.map_cons]
    simp only [run, step_submit, h1]
    rw [ih]
    simp only [List.set_set, List.append_assoc, List.singleton_append, List.length_cons, List.length_append, List.length_nil]
    refine Prod.ext rfl ?_
    simp only
    rw [List.range_succ_eq_map, List.map_cons, List.map_map]
    congr 1
    refine List.map_congr_left fun i _ => ?_
    simp only [Function.comp]
    congr 1
    omega
theorem step_freeze {f : Flt} {k : Nat} {s : Shd} (hk : f.sh[k]? = some s) (hst : s.st = 1) : step f (doD 2 k) = freeze f k s := by
  obtain ⟨hlt, hg⟩ := List.getElem?_eq_some_iff.1 hk
  simp [step, doD, want, hlt, Nat.not_le.2 hlt]
  rw [if_neg (by omega), hg, if_pos hst]
theorem step_lay {f : Flt} {k : Nat} {s : Shd} (hk : f.sh[k]? = some s) (hst : s.st = 2) : step f (doD 3 k) = lay f k s := by
  obtain ⟨hlt, hg⟩ := List.getElem?_eq_some_iff.1 hk
  simp [step, doD, want, hlt, Nat.not_le.2 hlt]
  rw [if_neg (by omega), hg, if_pos hst]
theorem step_retire {f : Flt} {k : Nat} {s : Shd} (hk : f.sh[k]? = some s) (hst : s.st = 3) : step f (doD 4 k) = retire f k s := by
  obtain ⟨hlt, hg⟩ := List.getElem?_eq_some_iff.1 hk
  simp [step, doD, want, hlt, Nat.not_le.2 hlt]
  rw [if_neg (by omega), hg, if_pos hst]
/-- what is asked of entries -/
def Unlike (es : List Bs) : Prop := es.Nodup ∧ (∀ e ∈ es, e.length ≤ 200) ∧ es.length ≤ 30
theorem Unlike.fine {es : List Bs} (h : Unlike es) : Fine es := ⟨by have := h.2.2; omega, h.2.1⟩
theorem rowR_last {b : List Rec} {r : Rec} (h : ∀ x ∈ b, x.sh ≠ r.sh) : rowR (b ++ [r]) r.sh = r := by
  have hr : row (b ++ [r]) r.sh = some b.length := by
    unfold row
    rw [List.findIdx?_append]
    have : b.findIdx? (fun x => x.sh == r.sh) = none := by
      rw [List.findIdx?_eq_none_iff]
      intro x hx
      rw [beq_eq_false_iff_ne]
      exact h x hx
    rw [this]
    simp
  unfold rowR
  rw [hr]
  simp
/-- one shard, its entries, frozen and laid away -/
def shd1 (a : List Bs) (st : Int) (ents : List Bs) (man : Man) : Flt := ⟨[⟨0, 10, st, ents, man⟩], [⟨0, 0, 10, a.length, Tr.rootL a⟩]⟩
def ansT (a : List Bs) : List Ans := (List.range a.length).map fun (i : Nat) => (⟨0, 0, (i : Int), 0, []⟩ : Ans)
def ansH (a : List Bs) : Ans := ⟨0, 0, 0, a.length, Tr.rootL a⟩
theorem start1 : start (windowsL 1) = ⟨[⟨0, 10, 1, [], Shf.zeroM⟩], []⟩ := rfl
theorem run_year2 {a : List Bs} (h : Unlike a) : run (start (windowsL 1)) (yearL [] 0 a 2) = (shd1 a 3 a (Shf.manOf a), ansT a ++ [ansH a, ansH a]) := by
  have h1 := run_submits (t := 5) (k := 0) a (start (windowsL 1)) ⟨0, 10, 1, [], Shf.zeroM⟩ rfl rfl rfl (by simpa using h.1) h.2.1 (by have := h.2.2; simp; omega)
  unfold yearL
  rw [List.nil_append, run_append]
  have e5 : (10 * (0 : Int) + 5) = 5 := by decide
  rw [e5, h1, start1]
  simp only [List.take, List.map_cons, List.map_nil, run, List.set_cons_zero, List.nil_append, List.length_nil, Nat.zero_add]
  have s1 := step_freeze (f := ⟨[⟨0, 10, 1, a, Shf.zeroM⟩], []⟩) (k := 0) rfl rfl
  have s2 := step_lay (f := ⟨[⟨0, 10, 2, a, Shf.zeroM⟩], [⟨0, 0, 10, a.length, Tr.rootL a⟩]⟩) (k := 0) rfl rfl
  have s1' : step ⟨[⟨0, 10, 1, a, Shf.zeroM⟩], []⟩ (doD 2 0) = (⟨[⟨0, 10, 2, a, Shf.zeroM⟩], [⟨0, 0, 10, a.length, Tr.rootL a⟩]⟩, ansH a) := s1
  have s2' : step ⟨[⟨0, 10, 2, a, Shf.zeroM⟩], [⟨0, 0, 10, a.length, Tr.rootL a⟩]⟩ (doD 3 0) = (shd1 a 3 a (Shf.manOf a), ansH a) := s2
  rw [s1']
  simp only [s2']
  rfl
theorem retire1 {a : List Bs} {m : Man} : step (shd1 a 3 a m) (doD 4 0) = if (Shf.verC m).1.1 = 0 then (shd1 a 4 [] m, ansH a) else (shd1 a 3 a m, no (Shf.verC m).1.1) := by
  have s3 := step_retire (f := shd1 a 3 a m) (k := 0) rfl rfl
  have s3' : step (shd1 a 3 a m) (doD 4 0) = retire (shd1 a 3 a m) 0 ⟨0, 10, 3, a, m⟩ := s3
  rw [s3']
  unfold retire
  rfl
theorem run_year3 {a : List Bs} (h : Unlike a) : run (start (windowsL 1)) (yearL [] 0 a 3) = (shd1 a 4 [] (Shf.manOf a), ansT a ++ [ansH a, ansH a, ansH a]) := by
  have e : yearL [] 0 a 3 = yearL [] 0 a 2 ++ [doD 4 0] := by simp [yearL]
  rw [e, run_append, run_year2 h]
  simp only [run]
  rw [retire1, Shf.verC_man h.fine, if_pos rfl]
  simp
end Fl
end Go.Proofs.Ytnfaefgmekfloaa

namespace Go.Proofs.Ytnfaefgmekfloaa
namespace Fl
/-! ### a byte is turned -/
def spoilD (seg pos : Int) (x : UInt8) : Dob := ⟨5, 0, 0, [], seg, pos, x⟩
theorem spoil1 {a : List Bs} (seg pos : Int) (x : UInt8) : ∃ (m : Man) (y : Ans), step (shd1 a 3 a (Shf.manOf a)) (spoilD seg pos x) = (shd1 a 3 a m, y) ∧ m.size = a.length := by
  have hs : step (shd1 a 3 a (Shf.manOf a)) (spoilD seg pos x) = spoil (shd1 a 3 a (Shf.manOf a)) 0 ⟨0, 10, 3, a, Shf.manOf a⟩ (spoilD seg pos x) := rfl
  rw [hs]
  unfold spoil
  split
  · exact ⟨_, _, rfl, rfl⟩
  · split
    · exact ⟨_, _, rfl, rfl⟩
    · exact ⟨spoilM (Shf.manOf a) (spoilD seg pos x).seg.toNat (spoilD seg pos x).pos.toNat (spoilD seg pos x).turn, _, rfl, rfl⟩
theorem run_spoilt {a : List Bs} (h : Unlike a) (seg pos : Int) (x : UInt8) : ∃ (m : Man) (y : Ans), m.size = a.length ∧
    run (start (windowsL 1)) (yearL [] 0 a 2 ++ [spoilD seg pos x, doD 4 0]) = ((if (Shf.verC m).1.1 = 0 then shd1 a 4 [] m else shd1 a 3 a m), ansT a ++ [ansH a, ansH a, y, if (Shf.verC m).1.1 = 0 then ansH a else no (Shf.verC m).1.1]) := by
  obtain ⟨m, y, hs, hm⟩ := spoil1 (a := a) seg pos x
  refine ⟨m, y, hm, ?_⟩
  rw [run_append, run_year2 h]
  simp only [run, hs, retire1]
  by_cases hv : (Shf.verC m).1.1 = 0
  · simp [hv]
  · simp [hv]
/-! ### three years -/
theorem yearL_app (l : List Dob) (k : Int) (es : List Bs) (far : Nat) : yearL l k es far = l ++ yearL [] k es far := by simp [yearL]
theorem year_run {f : Flt} {k : Nat} {s : Shd} (hk : f.sh[k]? = some s) (h1 : s.st = 1) (h0 : s.ents = []) (hw : f.sh.findIdx? (inW (10 * (k : Int) + 5)) = some k) (_hb : ∀ r ∈ f.book, r.sh ≠ (k : Int)) {es : List Bs} (hu : Unlike es) :
    (run f (yearL [] k es 1)).1 = ⟨f.sh.set k { s with st := 2, ents := es }, f.book ++ [⟨k, s.fr, s.til, es.length, Tr.rootL es⟩]⟩ ∧
    (run f (yearL [] k es 2)).1 = ⟨f.sh.set k { s with st := 3, ents := es, man := Shf.manOf es }, f.book ++ [⟨k, s.fr, s.til, es.length, Tr.rootL es⟩]⟩ ∧
    (run f (yearL [] k es 3)).1 = ⟨f.sh.set k { s with st := 4, ents := [], man := Shf.manOf es }, f.book ++ [⟨k, s.fr, s.til, es.length, Tr.rootL es⟩]⟩ := by
  obtain ⟨hlt, _⟩ := List.getElem?_eq_some_iff.1 hk
  have r0 := run_submits (t := 10 * (k : Int) + 5) es f s hk h1 hw (by rw [h0]; simpa using hu.1) hu.2.1 (by have := hu.2.2; rw [h0]; simp; omega)
  rw [h0, List.nil_append] at r0
  have s1 := step_freeze (f := ⟨f.sh.set k { s with ents := es }, f.book⟩) (k := k) (s := { s with ents := es }) (List.getElem?_set_self hlt) h1
  have s2 := step_lay (f := ⟨f.sh.set k { s with st := 2, ents := es }, f.book ++ [⟨k, s.fr, s.til, es.length, Tr.rootL es⟩]⟩) (k := k) (s := { s with st := 2, ents := es }) (List.getElem?_set_self hlt) rfl
  have s3 := step_retire (f := ⟨f.sh.set k { s with st := 3, ents := es, man := Shf.manOf es }, f.book ++ [⟨k, s.fr, s.til, es.length, Tr.rootL es⟩]⟩) (k := k) (s := { s with st := 3, ents := es, man := Shf.manOf es }) (List.getElem?_set_self hlt) rfl
  unfold freeze at s1
  unfold lay at s2
  unfold retire at s3
  rw [if_pos (by simp only [Shf.verC_man hu.fine])] at s3
  simp only [List.set_set] at s1 s2 s3
  refine ⟨?_, ?_, ?_⟩
  · simp only [yearL, List.nil_append, run_append, r0, List.take, List.map_cons, List.map_nil, run, s1]
  · simp only [yearL, List.nil_append, run_append, r0, List.take, List.map_cons, List.map_nil, run, s1, s2]
  · simp only [yearL, List.nil_append, run_append, r0, List.take, List.map_cons, List.map_nil, run, s1, s2, s3]
def yearsF (a b c : List Bs) : Flt := ⟨[⟨0, 10, 4, [], Shf.manOf a⟩, ⟨10, 20, 3, b, Shf.manOf b⟩, ⟨20, 30, 2, c, Shf.zeroM⟩], [⟨0, 0, 10, a.length, Tr.rootL a⟩, ⟨1, 10, 20, b.length, Tr.rootL b⟩, ⟨2, 20, 30, c.length, Tr.rootL c⟩]⟩
theorem run_years {a b c : List Bs} (ha : Unlike a) (hb : Unlike b) (hc : Unlike c) : (run (start (windowsL 3)) (yearL (yearL (yearL [] 0 a 3) 1 b 2) 2 c 1)).1 = yearsF a b c := by
  have e1 := (year_run (f := start (windowsL 3)) (k := 0) (s := ⟨0, 10, 1, [], Shf.zeroM⟩) rfl rfl rfl rfl (by simp [start]) ha).2.2
  have e2 := (year_run (f := ⟨[⟨0, 10, 4, [], Shf.manOf a⟩, ⟨10, 20, 1, [], Shf.zeroM⟩, ⟨20, 30, 1, [], Shf.zeroM⟩], [⟨0, 0, 10, a.length, Tr.rootL a⟩]⟩) (k := 1) (s := ⟨10, 20, 1, [], Shf.zeroM⟩) rfl rfl rfl rfl (by simp) hb).2.1
  have e3 := (year_run (f := ⟨[⟨0, 10, 4, [], Shf.manOf a⟩, ⟨10, 20, 3, b, Shf.manOf b⟩, ⟨20, 30, 1, [], Shf.zeroM⟩], [⟨0, 0, 10, a.length, Tr.rootL a⟩, ⟨1, 10, 20, b.length, Tr.rootL b⟩]⟩) (k := 2) (s := ⟨20, 30, 1, [], Shf.zeroM⟩) rfl rfl rfl rfl (by simp) hc).1
  have e1' : (run (start (windowsL 3)) (yearL [] 0 a 3)).1 = ⟨[⟨0, 10, 4, [], Shf.manOf a⟩, ⟨10, 20, 1, [], Shf.zeroM⟩, ⟨20, 30, 1, [], Shf.zeroM⟩], [⟨0, 0, 10, a.length, Tr.rootL a⟩]⟩ := e1
  rw [yearL_app (yearL (yearL [] 0 a 3) 1 b 2), yearL_app (yearL [] 0 a 3), run_append, run_append]
  simp only [e1']
  have e2' : (run ⟨[⟨0, 10, 4, [], Shf.manOf a⟩, ⟨10, 20, 1, [], Shf.zeroM⟩, ⟨20, 30, 1, [], Shf.zeroM⟩], [⟨0, 0, 10, a.length, Tr.rootL a⟩]⟩ (yearL [] 1 b 2)).1 = ⟨[⟨0, 10, 4, [], Shf.manOf a⟩, ⟨10, 20, 3, b, Shf.manOf b⟩, ⟨20, 30, 1, [], Shf.zeroM⟩], [⟨0, 0, 10, a.length, Tr.rootL a⟩, ⟨1, 10, 20, b.length, Tr.rootL b⟩]⟩ := e2
  simp only [e2']
  exact e3
/-- what a year's shard shows -/
theorem years_show {a b c : List Bs} (ha : Unlike a) (hb : Unlike b) (hc : Unlike c) (k : Nat) (l : List Bs) (hk : [a, b, c][k]? = some l) :
    (∀ (i : Nat) (hi : i < l.length), ∃ s : Shw, showC (yearsF a b c) k i = (0, s) ∧ s.entry = l[i] ∧ checkC s 3 (bookRoot (yearsF a b c).book) = true) ∧ showC (yearsF a b c) k l.length = (6, zeroS) := by
  have hI : Inv (yearsF a b c) := by rw [← run_years ha hb hc]; exact (Inv.start (by rw [wrong_windows 3 (by decide)])).run _
  obtain ⟨s, hs, h2, he⟩ : ∃ s : Shd, (yearsF a b c).sh[k]? = some s ∧ 2 ≤ s.st ∧ (entsC s).2 = l := by
    match k, hk with
    | 0, hk => injection hk with hk; subst hk; exact ⟨_, rfl, show (2 : Int) ≤ 4 by decide, by unfold entsC; rw [if_pos rfl]; show (Shf.verC (Shf.manOf a)).2 = a; rw [Shf.verC_man ha.fine]⟩
    | 1, hk => injection hk with hk; subst hk; exact ⟨_, rfl, show (2 : Int) ≤ 3 by decide, rfl⟩
    | 2, hk => injection hk with hk; subst hk; exact ⟨_, rfl, show (2 : Int) ≤ 2 by decide, rfl⟩
    | k + 3, hk => simp at hk
  obtain ⟨r, hr, h3, h4, h5, h6, h7, h8, h9⟩ := hI.frozen hs h2
  have hsh : ∀ i : Int, showC (yearsF a b c) k i = if 0 ≤ i ∧ i < (yearsF a b c).book[r].sz then (0, shown (yearsF a b c).book k i.toNat r (entsC s).2) else (6, zeroS) := fun i => by
    obtain ⟨r', hr', p3, p4, hsh⟩ := showC_frozen hI hs h2 i
    rw [h3] at p3
    injection p3 with p3
    subst p3
    exact hsh
  rw [he] at h7 hsh
  refine ⟨fun i hi => ⟨_, by rw [hsh, if_pos (by omega)], ?_, ?_⟩, by rw [hsh, if_neg (by omega)]⟩
  · show l.getD (i : Int).toNat [] = l[i]
    rw [Int.toNat_natCast, List.getD_eq_getElem?_getD, List.getElem?_eq_getElem hi]
    rfl
  · have := check_shown hI hs h2 h3 (i := i) (by rw [he]; exact hi)
    rw [he] at this
    rw [Int.toNat_natCast]
    exact this
/-! ### borders -/
theorem border {fr mi ga tt t : Int} (h1 : 0 ≤ fr) (h2 : fr < mi) (h3 : mi ≤ ga) (h4 : ga < tt) (h5 : tt ≤ 1000000) : wrongW [(fr, mi), (ga, tt)] = (0, 0) ∧
    ∃ a : Ans, (run (start [(fr, mi), (ga, tt)]) [subD t [1]]).2 = [a] ∧ (fr ≤ t → t < mi → a.err = 0 ∧ a.sh = 0) ∧ (¬ (fr ≤ t ∧ t < mi) → ga ≤ t → t < tt → a.err = 0 ∧ a.sh = 1) ∧ (¬ (fr ≤ t ∧ t < mi) → ¬ (ga ≤ t ∧ t < tt) → a.err = 6) := by
  refine ⟨?_, (submit (start [(fr, mi), (ga, tt)]) (subD t [1])).2, by simp only [run, step_submit], fun k1 k2 => ?_, fun k1 k2 k3 => ?_, fun k1 k2 => ?_⟩
  · unfold wrongW
    rw [if_neg (by simp)]
    simp only [wrongF]
    rw [if_neg (by omega), if_neg (by omega), if_neg (by omega), if_neg (by omega)]
  · have := submit_new (f := start [(fr, mi), (ga, tt)]) (k := 0) (s := ⟨fr, mi, 1, [], Shf.zeroM⟩) (t := t) (e := [1]) rfl rfl (by simp [start, inW, List.findIdx?_cons, k1, k2]) (by simp) (by decide) (show 0 < 100 by decide)
    rw [this]; exact ⟨rfl, rfl⟩
  · have hf : (decide (fr ≤ t) && decide (t < mi)) = false := by rw [← Bool.decide_and]; exact decide_eq_false k1
    have := submit_new (f := start [(fr, mi), (ga, tt)]) (k := 1) (s := ⟨ga, tt, 1, [], Shf.zeroM⟩) (t := t) (e := [1]) rfl rfl (by simp only [start, inW, List.map_cons, List.findIdx?_cons, hf]; simp [k2, k3]) (by simp) (by decide) (show 0 < 100 by decide)
    rw [this]; exact ⟨rfl, rfl⟩
  · have hf : (decide (fr ≤ t) && decide (t < mi)) = false := by rw [← Bool.decide_and]; exact decide_eq_false k1
    have hf2 : (decide (ga ≤ t) && decide (t < tt)) = false := by rw [← Bool.decide_and]; exact decide_eq_false k2
    unfold submit
    rw [if_neg (show ¬ 200 < (subD t [1]).entry.length by simp [subD])]
    have : (start [(fr, mi), (ga, tt)]).sh.findIdx? (inW t) = none := by simp [start, inW, List.findIdx?_cons, hf, hf2]
    simp only [subD, this]
    rfl
end Fl
end Go.Proofs.Ytnfaefgmekfloaa

namespace Go.Proofs.Ytnfaefgmekfloaa
namespace Fl
/-! ### steps -/
def nextS (st k : Int) : Int := if 2 ≤ k ∧ k ≤ 4 ∧ k = st + 1 then st + 1 else st
structure Stp (f : Flt) (st : Int) : Prop where
  one : ∃ s : Shd, f.sh = [s] ∧ s.st = st ∧ (st = 3 → s.man = Shf.manOf s.ents)
  inv : Inv f
theorem spoilM_zero {m : Man} {j p : Nat} (hj : j < m.segs.length) : spoilM m j p 0 = m := by
  have hg : m.segs.getD j ⟨0, 0, []⟩ = m.segs[j] := by rw [List.getD_eq_getElem?_getD, List.getElem?_eq_getElem hj]; rfl
  have ht : ∀ b : Bs, turned b p 0 = b := fun b => by
    unfold turned
    by_cases hp : p < b.length
    · have : b.getD p 0 = b[p] := by rw [List.getD_eq_getElem?_getD, List.getElem?_eq_getElem hp]; rfl
      rw [this, UInt8.xor_zero]
      exact List.set_getElem_self hp
    · exact List.set_eq_of_length_le (by omega)
  unfold spoilM
  rw [hg, ht]
  have : m.segs.set j { m.segs[j] with packed := m.segs[j].packed } = m.segs := List.set_getElem_self hj
  rw [this]
theorem steps_step {f : Flt} {st k : Int} (h : Stp f st) : Stp (step f (doD k 0)).1 (nextS st k) ∧ (2 ≤ k → k ≤ 4 → ((step f (doD k 0)).2.err = 0 ↔ k = st + 1)) := by
  obtain ⟨⟨s, hs, hst, hm⟩, hI⟩ := h
  have hI' := hI.step (doD k 0)
  have h0 : f.sh[0]? = some s := by rw [hs]; rfl
  have ok := hI.sh 0 s h0
  have hstb := ok.st
  have hl1 : f.sh.length = 1 := by rw [hs]; rfl
  by_cases k1 : k = 1
  · subst k1
    refine ⟨⟨?_, hI'⟩, fun h => by omega⟩
    have hn : nextS st 1 = st := by unfold nextS; rw [if_neg (by omega)]
    rw [hn]
    have e : step f (doD 1 0) = submit f (subD 0 []) := step_submit f 0 []
    rw [e]
    unfold submit
    split
    · exact ⟨s, hs, hst, hm⟩
    · split
      · exact ⟨s, hs, hst, hm⟩
      · rename_i i hi
        split
        · exact ⟨s, hs, hst, hm⟩
        · rename_i t ht
          obtain ⟨hlt, _⟩ := List.getElem?_eq_some_iff.1 ht
          have : i = 0 := by omega
          subst this
          rw [h0] at ht
          injection ht with ht
          subst ht
          split
          · exact ⟨s, hs, hst, hm⟩
          · rename_i h1
            split
            · exact ⟨s, hs, hst, hm⟩
            · split
              · exact ⟨s, hs, hst, hm⟩
              · refine ⟨{ s with ents := s.ents ++ [(subD 0 []).entry] }, by simp only [hs, List.set_cons_zero], hst, fun h3 => ?_⟩
                have h1' : s.st = 1 := by simpa using h1
                omega
  by_cases k2 : k = 2
  · subst k2
    by_cases h1 : st = 1
    · have e := step_freeze (f := f) (k := 0) h0 (by omega)
      have e' : step f (doD 2 0) = freeze f 0 s := e
      rw [e'] at hI' ⊢
      refine ⟨⟨⟨{ s with st := 2 }, by unfold freeze; simp only [hs, List.set_cons_zero], by unfold nextS; rw [if_pos ⟨by omega, by omega, by omega⟩]; show (2 : Int) = st + 1; omega, fun h => by unfold nextS at h; split at h <;> omega⟩, hI'⟩, fun _ _ => ⟨fun _ => by omega, fun _ => rfl⟩⟩
    · have e : step f (doD 2 0) = (f, no 7) := by
        unfold step doD
        rw [if_neg (show ¬ (2 : Int) = 1 by decide), if_neg (show ¬ ((2 : Int) < 2 ∨ 5 < (2 : Int)) by decide), if_neg (show ¬ ((0 : Int) < 0 ∨ (f.sh.length : Int) ≤ 0) by omega)]
        simp only [Int.toNat_zero, h0]
        rw [if_pos (show s.st ≠ want 2 by rw [show want 2 = 1 from rfl]; omega)]
      rw [e] at hI' ⊢
      refine ⟨⟨⟨s, hs, by unfold nextS; rw [if_neg (by omega)]; exact hst, fun h => hm (by unfold nextS at h; rw [if_neg (by omega)] at h; exact h)⟩, hI'⟩, fun _ _ => ⟨fun h => (by cases h), fun h => by omega⟩⟩
  by_cases k3 : k = 3
  · subst k3
    by_cases h1 : st = 2
    · have e := step_lay (f := f) (k := 0) h0 (by omega)
      have e' : step f (doD 3 0) = lay f 0 s := e
      rw [e'] at hI' ⊢
      refine ⟨⟨⟨{ s with st := 3, man := Shf.manOf s.ents }, by unfold lay; simp only [hs, List.set_cons_zero], by unfold nextS; rw [if_pos ⟨by omega, by omega, by omega⟩]; show (3 : Int) = st + 1; omega, fun _ => rfl⟩, hI'⟩, fun _ _ => ⟨fun _ => by omega, fun _ => rfl⟩⟩
    · have e : step f (doD 3 0) = (f, no 7) := by
        unfold step doD
        rw [if_neg (show ¬ (3 : Int) = 1 by decide), if_neg (show ¬ ((3 : Int) < 2 ∨ 5 < (3 : Int)) by decide), if_neg (show ¬ ((0 : Int) < 0 ∨ (f.sh.length : Int) ≤ 0) by omega)]
        simp only [Int.toNat_zero, h0]
        rw [if_pos (show s.st ≠ want 3 by rw [show want 3 = 2 from rfl]; omega)]
      rw [e] at hI' ⊢
      refine ⟨⟨⟨s, hs, by unfold nextS; rw [if_neg (by omega)]; exact hst, fun h => hm (by unfold nextS at h; rw [if_neg (by omega)] at h; exact h)⟩, hI'⟩, fun _ _ => ⟨fun h => (by cases h), fun h => by omega⟩⟩
  by_cases k4 : k = 4
  · subst k4
    by_cases h1 : st = 3
    · have e := step_retire (f := f) (k := 0) h0 (by omega)
      have e' : step f (doD 4 0) = retire f 0 s := e
      rw [e'] at hI' ⊢
      have hv : (Shf.verC s.man).1.1 = 0 := by rw [hm h1, Shf.verC_man ok.fine]
      unfold retire at hI' ⊢
      rw [if_pos hv] at hI' ⊢
      refine ⟨⟨⟨{ s with st := 4, ents := [] }, by simp only [hs, List.set_cons_zero], by unfold nextS; rw [if_pos ⟨by omega, by omega, by omega⟩]; show (4 : Int) = st + 1; omega, fun h => by unfold nextS at h; split at h <;> omega⟩, hI'⟩, fun _ _ => ⟨fun _ => by omega, fun _ => rfl⟩⟩
    · have e : step f (doD 4 0) = (f, no 7) := by
        unfold step doD
        rw [if_neg (show ¬ (4 : Int) = 1 by decide), if_neg (show ¬ ((4 : Int) < 2 ∨ 5 < (4 : Int)) by decide), if_neg (show ¬ ((0 : Int) < 0 ∨ (f.sh.length : Int) ≤ 0) by omega)]
        simp only [Int.toNat_zero, h0]
        rw [if_pos (show s.st ≠ want 4 by rw [show want 4 = 3 from rfl]; omega)]
      rw [e] at hI' ⊢
      refine ⟨⟨⟨s, hs, by unfold nextS; rw [if_neg (by omega)]; exact hst, fun h => hm (by unfold nextS at h; rw [if_neg (by omega)] at h; exact h)⟩, hI'⟩, fun _ _ => ⟨fun h => (by cases h), fun h => by omega⟩⟩
  have hn : nextS st k = st := by unfold nextS; rw [if_neg (by omega)]
  rw [hn]
  refine ⟨⟨?_, hI'⟩, fun h1 h2 => by omega⟩
  by_cases k5 : k = 5
  · subst k5
    unfold step doD
    rw [if_neg (show ¬ (5 : Int) = 1 by decide), if_neg (show ¬ ((5 : Int) < 2 ∨ 5 < (5 : Int)) by decide), if_neg (show ¬ ((0 : Int) < 0 ∨ (f.sh.length : Int) ≤ 0) by omega)]
    simp only [Int.toNat_zero, h0]
    split
    · exact ⟨s, hs, hst, hm⟩
    · unfold spoil
      split
      · exact ⟨s, hs, hst, hm⟩
      · split
        · exact ⟨s, hs, hst, hm⟩
        · rename_i hj _
          have hj' : (0 : Int).toNat < s.man.segs.length := by
            have h2 : ¬ ((0 : Int) < 0 ∨ (s.man.segs.length : Int) ≤ 0) := hj
            omega
          refine ⟨s, ?_, hst, hm⟩
          simp only
          rw [spoilM_zero hj']
          rw [hs]
          rfl
  · have e : step f (doD k 0) = (f, no 1) := by
      unfold step doD
      rw [if_neg (show ¬ k = 1 from k1), if_pos (show k < 2 ∨ 5 < k by omega)]
    rw [e]
    exact ⟨s, hs, hst, hm⟩
def doK (k : Int) : Dob := doD k 0
theorem steps_inv : ∀ (ks : List Int) {f : Flt} {st : Int}, Stp f st → Stp (run f (ks.map doK)).1 (ks.foldl nextS st)
  | [], _, _, h => h
  | _ :: ks, _, _, h => steps_inv ks (steps_step h).1
theorem steps_at (ks : List Int) {i : Nat} (hi : i < ks.length) : ∃ a : Ans, (run (start (windowsL 1)) (ks.map doK)).2[i]? = some a ∧ (2 ≤ ks[i] → ks[i] ≤ 4 → (a.err = 0 ↔ ks[i] = (ks.take i).foldl nextS 1 + 1)) := by
  have hd : (ks.map doK)[i]? = some (doK ks[i]) := by rw [List.getElem?_map, List.getElem?_eq_getElem hi]; rfl
  obtain ⟨r1, _⟩ := run_at (f := start (windowsL 1)) hd
  have hS : Stp (start (windowsL 1)) 1 := ⟨⟨_, rfl, rfl, fun h => by omega⟩, Inv.start (by rw [wrong_windows 1 (by decide)])⟩
  have h1 := steps_inv (ks.take i) hS
  rw [List.map_take] at h1
  exact ⟨_, r1, (steps_step h1).2⟩
theorem steps_next (ks : List Int) {i : Nat} (hi : i < ks.length) : (ks.take (i + 1)).foldl nextS 1 = nextS ((ks.take i).foldl nextS 1) ks[i] := by
  rw [List.take_succ_eq_append_getElem hi, List.foldl_append]
  rfl
/-! ### full -/
def entF (i : Nat) : Bs := [UInt8.ofNat i, UInt8.ofNat (i / 7)]
theorem entF_inj {i j : Nat} (hi : i < 200) (hj : j < 200) (h : entF i = entF j) : i = j := by
  unfold entF at h
  injection h with h _
  have h2 := congrArg UInt8.toNat h
  simp only [UInt8.toNat_ofNat'] at h2
  omega
def fullF (c : Nat) : Flt := ⟨[⟨0, 10, 1, (List.range c).map entF, Shf.zeroM⟩], []⟩
def fullL (n : Nat) : List Dob := (List.range n).map fun i => subD 5 (entF i)
theorem full_step {c i : Nat} (h : c = min i 100) (hi : i < 200) : step (fullF c) (subD 5 (entF i)) = (fullF (min (i + 1) 100), if i < 100 then ⟨0, 0, (i : Int), 0, []⟩ else no 5) := by
  have hne : entF i ∉ (List.range c).map entF := by
    intro hm
    obtain ⟨j, hj, he⟩ := List.mem_map.1 hm
    rw [List.mem_range] at hj
    have := entF_inj (by omega) hi he
    omega
  rw [step_submit]
  by_cases h1 : i < 100
  · rw [if_pos h1]
    have := submit_new (f := fullF c) (k := 0) (s := ⟨0, 10, 1, (List.range c).map entF, Shf.zeroM⟩) (t := 5) (e := entF i) rfl rfl rfl hne (by simp [entF]) (by simp; omega)
    rw [this]
    have hci : c = i := by omega
    subst hci
    rw [show min (c + 1) 100 = c + 1 by omega]
    unfold fullF
    simp [List.range_succ]
  · rw [if_neg h1]
    have hc : c = 100 := by omega
    subst hc
    rw [show min (i + 1) 100 = 100 by omega]
    unfold submit
    rw [if_neg (show ¬ 200 < (subD 5 (entF i)).entry.length by simp [subD, entF])]
    have hw : (fullF 100).sh.findIdx? (inW (subD 5 (entF i)).time) = some 0 := rfl
    simp only [hw]
    have hg : (fullF 100).sh[0]? = some ⟨0, 10, 1, (List.range 100).map entF, Shf.zeroM⟩ := rfl
    simp only [hg]
    have hn : ((List.range 100).map entF).findIdx? (· == (subD 5 (entF i)).entry) = none := by
      rw [List.findIdx?_eq_none_iff]
      intro x hx
      rw [beq_eq_false_iff_ne]
      intro e
      rw [e] at hx
      exact hne hx
    simp only [hn]
    rw [if_neg (by simp), if_pos (by simp)]
theorem full_state : ∀ n, n ≤ 110 → (run (start (windowsL 1)) (fullL n)).1 = fullF (min n 100)
  | 0, _ => rfl
  | n + 1, h => by
    have ih := full_state n (by omega)
    have e : fullL (n + 1) = fullL n ++ [subD 5 (entF n)] := by simp [fullL, List.range_succ]
    rw [e, run_append, ih]
    simp only [run]
    rw [full_step rfl (by omega)]
theorem full_take {n i : Nat} (h : i ≤ n) : (fullL n).take i = fullL i := by
  unfold fullL
  rw [← List.map_take, List.take_range, Nat.min_eq_left h]
theorem full_at {n again i : Nat} (hn : n ≤ 110) (hi : i < n) : ∃ a : Ans, (run (start (windowsL 1)) (fullL n ++ [subD 5 (entF again)])).2[i]? = some a ∧ (a.err = 0 ↔ i < 100) := by
  have hl : (fullL n).length = n := by simp [fullL]
  have hd : (fullL n ++ [subD 5 (entF again)])[i]? = some (subD 5 (entF i)) := by
    rw [List.getElem?_append_left (by omega)]
    unfold fullL
    rw [List.getElem?_map, List.getElem?_range hi]
    rfl
  obtain ⟨r1, _⟩ := run_at (f := start (windowsL 1)) hd
  rw [List.take_append_of_le_length (by omega), full_take (by omega), full_state i (by omega), full_step rfl (by omega)] at r1
  refine ⟨_, r1, ?_⟩
  simp only
  split
  · rename_i h
    simp [h]
  · rename_i h
    simp [h, no]
theorem full_again {n again : Nat} (hn : n ≤ 110) (ha : again < n) : ∃ a : Ans, (run (start (windowsL 1)) (fullL n ++ [subD 5 (entF again)])).2[n]? = some a ∧ (again < 100 → a.err = 0 ∧ a.pl = again) ∧ (¬ again < 100 → a.err = 5) := by
  have hl : (fullL n).length = n := by simp [fullL]
  have hd : (fullL n ++ [subD 5 (entF again)])[n]? = some (subD 5 (entF again)) := by
    rw [List.getElem?_append_right (by omega), hl]
    simp
  obtain ⟨r1, _⟩ := run_at (f := start (windowsL 1)) hd
  rw [List.take_append_of_le_length (by omega), full_take (Nat.le_refl n), full_state n hn] at r1
  refine ⟨_, r1, fun h => ?_, fun h => ?_⟩
  · rw [step_submit]
    unfold submit
    rw [if_neg (show ¬ 200 < (subD 5 (entF again)).entry.length by simp [subD, entF])]
    have hw : (fullF (min n 100)).sh.findIdx? (inW (subD 5 (entF again)).time) = some 0 := rfl
    simp only [hw]
    have hg : (fullF (min n 100)).sh[0]? = some ⟨0, 10, 1, (List.range (min n 100)).map entF, Shf.zeroM⟩ := rfl
    simp only [hg]
    have hf : ((List.range (min n 100)).map entF).findIdx? (· == (subD 5 (entF again)).entry) = some again := by
      rw [List.findIdx?_eq_some_iff_getElem]
      refine ⟨by simp; omega, by simp [subD], fun j hj => ?_⟩
      simp only [List.getElem_map, List.getElem_range, subD]
      rw [Bool.not_eq_true, beq_eq_false_iff_ne]
      intro e
      have := entF_inj (by omega) (by omega) e
      omega
    simp only [hf]
    rw [if_neg (by simp)]
    exact ⟨rfl, rfl⟩
  · have h2 : min n 100 = 100 := by omega
    rw [h2, full_step (c := 100) (i := again) (by omega) (by omega), if_neg h]
    rfl
end Fl
end Go.Proofs.Ytnfaefgmekfloaa
