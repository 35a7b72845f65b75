/-
  THE PLAIN LAW of unpacking as yearref4 does it: token by token; it comes to the same as pack.Unpack's way. No program, no conditions.
-/
import Derived.Test.YtfdibjgmbdkbcaaZGe
namespace Go.Proofs.Ytfdibjgmbdkbcaa
namespace Pk

/-- what comes of a state of pack.Unpack at the end -/
def fin (size : Nat) (s : St) : Option Bs :=
  if s.ok = false ∨ s.bs ≠ [] then none
  else match text s.l with
    | .inl out => if out.length = size then some out else none
    | .inr _ => none
/-- a token of the reference: rest, and what there is then -/
def tok1 (fl : Nat) (bs out : Bs) : Option (Bs × Bs) :=
  if fl % 2 = 0 then
    match bs with
    | [] => none
    | c :: bs => some (bs, out ++ [c])
  else
    match bs with
    | c :: d :: bs => if out.length < (c.toNat * 256 + d.toNat) % 1024 + 1 then none else some (bs, copyN out ((c.toNat * 256 + d.toNat) % 1024 + 1) ((c.toNat * 256 + d.toNat) / 1024 + 3))
    | _ => none
/-- flags -/
def hd1 (fl left : Nat) (bs : Bs) : Option (Nat × Nat × Bs) :=
  if left = 0 then
    match bs with
    | [] => none
    | c :: bs => some (c.toNat, 8, bs)
  else some (fl, left, bs)
def endU (size fl : Nat) (bs out : Bs) : Option Bs := if bs = [] ∧ out.length = size ∧ fl = 0 then some out else none
def rfU (size : Nat) : Nat → Nat → Nat → Bs → Bs → Option Bs
  | 0, fl, _, bs, out => endU size fl bs out
  | f + 1, fl, left, bs, out =>
    if out.length < size then
      match hd1 fl left bs with
      | none => none
      | some (fl, left, bs) =>
        match tok1 fl bs out with
        | none => none
        | some (bs, out) => rfU size f (fl / 2) (left - 1) bs out
    else endU size fl bs out
/-- what yearref4.Unpack answers -/
def unpackR (b : Bs) : Nat × Bs :=
  match b with
  | c :: d :: bs =>
    if 4000 < c.toNat * 256 + d.toNat then (4, [])
    else match rfU (c.toNat * 256 + d.toNat) (c.toNat * 256 + d.toNat) 0 0 bs [] with
      | some out => (0, out)
      | none => (2, [])
  | _ => (2, [])

theorem rfU_end {size f fl left : Nat} {bs out : Bs} (h : size ≤ out.length) : rfU size f fl left bs out = endU size fl bs out := by
  cases f with
  | zero => rfl
  | succ f => rw [rfU, if_neg (by omega)]
theorem rfU_go {size f fl left : Nat} {bs out : Bs} (h : out.length < size) : rfU size (f + 1) fl left bs out = match hd1 fl left bs with
      | none => none
      | some (fl, left, bs) =>
        match tok1 fl bs out with
        | none => none
        | some (bs, out) => rfU size f (fl / 2) (left - 1) bs out := by rw [rfU, if_pos h]

theorem one_false (bs : Bs) : (one bs false).2.2 = false := by cases bs <;> rfl
theorem readT_ok (flag : Bool) (s : St) (h : s.ok = false) : (readT flag s).ok = false := by
  cases flag
  · rw [readT_lit]; simp [h, one_false]
  · rw [readT_cp]; simp [h, one_false]
theorem grpR_ok (size : Nat) : ∀ k fl s, s.ok = false → (grpR size k fl s).ok = false
  | 0, _, _, h => h
  | k + 1, fl, s, h => by
    unfold grpR
    split
    · simp [h]
    · exact grpR_ok size k _ _ (readT_ok _ _ h)
theorem readT_l (flag : Bool) (s : St) : ∃ t, (readT flag s).l = s.l ++ [t] := by
  cases flag
  · rw [readT_lit]; exact ⟨_, rfl⟩
  · rw [readT_cp]; exact ⟨_, rfl⟩
theorem grpR_l (size : Nat) : ∀ k fl s, ∃ x, (grpR size k fl s).l = s.l ++ x
  | 0, _, s => ⟨[], (List.append_nil _).symm⟩
  | k + 1, fl, s => by
    unfold grpR
    split
    · exact ⟨[], (List.append_nil _).symm⟩
    · obtain ⟨t, ht⟩ := readT_l (fl % 2 == 1) s
      obtain ⟨x, hx⟩ := grpR_l size k (fl / 2) (readT (fl % 2 == 1) s)
      exact ⟨t :: x, by rw [hx, ht, List.append_assoc]; rfl⟩
theorem unR_l (size : Nat) : ∀ f s, ∃ x, (unR size f s).l = s.l ++ x
  | 0, s => ⟨[], (List.append_nil _).symm⟩
  | f + 1, s => by
    unfold unR
    split
    · obtain ⟨x, hx⟩ := grpR_l size 8 (one s.bs s.ok).1 ⟨(one s.bs s.ok).2.1, (one s.bs s.ok).2.2, s.l, s.n⟩
      obtain ⟨y, hy⟩ := unR_l size f (grpR size 8 (one s.bs s.ok).1 ⟨(one s.bs s.ok).2.1, (one s.bs s.ok).2.2, s.l, s.n⟩)
      exact ⟨x ++ y, by rw [hy, hx, List.append_assoc]⟩
    · exact ⟨[], (List.append_nil _).symm⟩
theorem fin_dead (size f k fl : Nat) (s : St) (h : s.ok = false) : fin size (unR size f (grpR size k fl s)) = none := by
  have h1 := grpR_ok size k fl s h
  rw [unR_stop (by rw [h1]; simp)]
  unfold fin
  rw [if_pos (Or.inl h1)]
theorem fin_bad (size f k fl : Nat) (s : St) (e : Nat × Nat) (h : text s.l = .inr e) : fin size (unR size f (grpR size k fl s)) = none := by
  obtain ⟨x, hx⟩ := grpR_l size k fl s
  obtain ⟨y, hy⟩ := unR_l size f (grpR size k fl s)
  have ht : text (unR size f (grpR size k fl s)).l = .inr e := by
    rw [hy, hx, List.append_assoc]
    unfold text at h ⊢
    rw [textF_append, h]
  unfold fin
  rw [ht]
  split <;> rfl
theorem copyN_len (out : Bs) (back : Nat) : ∀ k, (copyN out back k).length = out.length + k
  | 0 => rfl
  | k + 1 => by unfold copyN; rw [List.length_append, copyN_len out back k]; simp; omega
theorem text_snoc {l : List Tok} {out : Bs} (h : text l = .inl out) (t : Tok) : text (l ++ [t]) = if bad t out.length = 0 then .inl (more out t) else .inr (bad t out.length, l.length) := by
  unfold text at h ⊢
  rw [textF_append, h]
  show textF [t] (0 + l.length) out = _
  rw [textF_cons, Nat.zero_add]
  split <;> rfl
/-- a token's step is one of both -/
theorem tok_step (size f F k fl : Nat) (s : St) (out : Bs) (hs : size ≤ 4000) (hok : s.ok = true) (ht : text s.l = .inl out) (hn : out.length = s.n) (hlt : s.n < size)
    (ih : ∀ (s' : St) (out' : Bs), s'.ok = true → text s'.l = .inl out' → out'.length = s'.n → s.n + 1 ≤ s'.n → fin size (unR size f (grpR size k (fl / 2) s')) = rfU size F (fl / 2) k s'.bs out') :
    fin size (unR size f (grpR size (k + 1) fl s)) = match tok1 fl s.bs out with
        | none => none
        | some (bs, out) => rfU size F (fl / 2) k bs out := by
  obtain ⟨bs, ok, l, n⟩ := s
  simp only at hok ht hn hlt ih
  subst hok
  rw [grpR_go (by simp only; omega)]
  unfold tok1
  by_cases he : fl % 2 = 0
  · rw [if_pos he, show (fl % 2 == 1) = false by rw [he]; rfl]
    rw [readT_lit]
    cases bs with
    | nil => exact fin_dead _ _ _ _ _ rfl
    | cons c bs =>
      have hb : bad (lit c) out.length = 0 := by
        unfold bad lit
        rw [if_neg (by simp), if_neg (by simp), if_neg (by simp only; omega)]
      have h := text_snoc ht (lit c)
      rw [if_pos hb] at h
      have hc : UInt8.ofNat c.toNat = c := UInt8.ofNat_toNat
      refine ih ⟨bs, true, l ++ [lit (UInt8.ofNat c.toNat)], n + 1⟩ (out ++ [c]) rfl ?_ (by simp [hn]) (Nat.le_refl _)
      simp only
      rw [hc, h]
      rfl
  · rw [if_neg he, show (fl % 2 == 1) = true by rw [show fl % 2 = 1 by omega]; rfl]
    rw [readT_cp]
    rcases bs with _ | ⟨c, _ | ⟨d, bs⟩⟩
    · exact fin_dead _ _ _ _ _ rfl
    · exact fin_dead _ _ _ _ _ rfl
    · have hcl := c.toNat_lt
      have hdl := d.toNat_lt
      simp only [one]
      generalize hx : c.toNat * 256 + d.toNat = x
      have hx1 : x < 65536 := by omega
      clear hx hcl hdl
      have h := text_snoc ht (tokOf x)
      by_cases hf : out.length < x % 1024 + 1
      · rw [if_pos hf]
        have hb : bad (tokOf x) out.length = 7 := by
          unfold bad tokOf cp
          rw [if_neg (by simp only; omega), if_pos (by simp only; omega)]
        rw [hb] at h
        exact fin_bad _ _ _ _ _ (7, l.length) h
      · rw [if_neg hf]
        have hm : more out (tokOf x) = copyN out (x % 1024 + 1) (x / 1024 + 3) := by
          unfold more tokOf cp
          rw [if_neg (by simp only; omega)]
          rfl
        by_cases h4 : 4000 < out.length + (x / 1024 + 3)
        · have hb : bad (tokOf x) out.length = 4 := by
            unfold bad tokOf cp
            rw [if_neg (by simp only; omega), if_neg (by simp only; omega), if_pos (by simp only; omega)]
          rw [hb] at h
          simp only
          rw [rfU_end (by rw [copyN_len]; omega)]
          unfold endU
          rw [if_neg (by rw [copyN_len]; omega)]
          exact fin_bad _ _ _ _ _ (4, l.length) h
        · have hb : bad (tokOf x) out.length = 0 := by
            unfold bad tokOf cp
            rw [if_neg (by simp only; omega), if_neg (by simp only; omega), if_neg (by simp only; omega)]
          rw [if_pos hb, hm] at h
          exact ih ⟨bs, true, l ++ [tokOf x], n + (x / 1024 + 3)⟩ _ rfl h (by rw [copyN_len, hn]) (by simp only; omega)

theorem unR_rfU (size : Nat) (hs : size ≤ 4000) : ∀ (F f k fl : Nat) (s : St) (out : Bs), s.ok = true → text s.l = .inl out → out.length = s.n → size - s.n ≤ F → size - s.n ≤ f → fl < 2 ^ k →
    fin size (unR size f (grpR size k fl s)) = rfU size F fl k s.bs out := by
  intro F
  induction F with
  | zero =>
    intro f k fl s out hok ht hn hF hf hfl
    have hle : size ≤ s.n := by omega
    rw [rfU_end (by omega)]
    obtain ⟨bs, ok, l, n⟩ := s
    simp only at *
    subst hok
    cases k with
    | zero =>
      rw [grpR, unR_stop (by simp only; omega)]
      unfold fin endU
      simp only [ht]
      have h0 : fl = 0 := by omega
      subst h0
      by_cases h1 : bs = []
      · subst h1; simp
      · rw [if_pos (Or.inr h1), if_neg (fun h => h1 h.1)]
    | succ k =>
      rw [grpR_stop hle, unR_stop (by simp only; omega)]
      unfold fin endU
      simp only [ht]
      by_cases h0 : fl = 0
      · subst h0
        by_cases h1 : bs = []
        · subst h1; simp
        · rw [if_pos (Or.inr h1), if_neg (fun h => h1 h.1)]
      · have e : (true && fl == 0) = false := by simp [h0]
        rw [if_pos (Or.inl e), if_neg (fun h => h0 h.2.2)]
  | succ F ih =>
    intro f k fl s out hok ht hn hF hf hfl
    by_cases hlt : s.n < size
    · rw [rfU_go (by omega)]
      cases k with
      | zero =>
        obtain ⟨f, rfl⟩ : ∃ g, f = g + 1 := ⟨f - 1, by omega⟩
        rw [grpR, unR_go ⟨hlt, hok⟩]
        obtain ⟨bs, ok, l, n⟩ := s
        simp only at *
        subst hok
        unfold hd1
        rw [if_pos rfl]
        cases bs with
        | nil => exact fin_dead _ _ _ _ _ rfl
        | cons c bs =>
          have hc := c.toNat_lt
          exact tok_step size f F 7 c.toNat ⟨bs, true, l, n⟩ out hs rfl ht hn hlt (fun s' out' h1 h2 h3 h4 => ih f 7 (c.toNat / 2) s' out' h1 h2 h3 (by simp only at h4; omega) (by simp only at h4; omega) (by omega))
      | succ k =>
        unfold hd1
        rw [if_neg (by omega)]
        exact tok_step size f F k fl s out hs hok ht hn hlt (fun s' out' h1 h2 h3 h4 => ih f k (fl / 2) s' out' h1 h2 h3 (by omega) (by omega) (by rw [Nat.pow_succ] at hfl; omega))
    · have h := ih f k fl s out hok ht hn (by omega) hf hfl
      rw [h, rfU_end (by omega), rfU_end (by omega)]

/-- both ways of unpacking are one -/
theorem unpack_ref (b : Bs) : unpackR b = unpack b := by
  rcases b with _ | ⟨c, _ | ⟨d, bs⟩⟩
  · rfl
  · rfl
  · unfold unpackR unpack
    have hst : start (c :: d :: bs) = ⟨bs, true, [], 0⟩ := rfl
    have hsz : sizeOf (c :: d :: bs) = c.toNat * 256 + d.toNat := rfl
    rw [hst, hsz]
    simp only
    generalize c.toNat * 256 + d.toNat = size
    rw [if_neg (show ¬ (true = false) by simp)]
    by_cases h4 : 4000 < size
    · rw [if_pos h4, if_pos h4]
    · rw [if_neg h4, if_neg h4]
      have h := unR_rfU size (by omega) size size 0 0 ⟨bs, true, [], 0⟩ [] rfl rfl rfl (by simp) (by simp) (by decide)
      rw [grpR] at h
      simp only at h
      rw [← h]
      unfold fin
      generalize unR size size ⟨bs, true, [], 0⟩ = s
      by_cases hb : s.ok = false ∨ s.bs ≠ []
      · rw [if_pos hb, if_pos hb]
      · rw [if_neg hb, if_neg hb]
        cases text s.l with
        | inl o => by_cases ho : o.length = size <;> simp [ho]
        | inr e => rfl
end Pk
end Go.Proofs.Ytfdibjgmbdkbcaa
