/-
  Plain law, no program: tokens, texts, packing and unpacking as the walks of pack and yearref4 come to them. No conditions.
  THE PLAIN LAWS of packing, no program: what is packed is unpacked; how long it is; tokens of a beginning; texts one behind the other. No conditions.
  THE PLAIN LAW of unpacking, as the walk comes to it, no program; and bits of integers. No conditions.
  A group of tokens grows by one; a flag is set in a byte; plain. No conditions.
-/
import Derived.Laws.BitsAllLaws
import Derived.Laws.BitsLemmas
import Derived.IntWalk
import Derived.Test.YtfdibjgmbdkbcaaZGa
namespace Go.Proofs.Ytfdibjgmbdkbcaa
namespace Pk

structure Tok where
  len : Int
  back : Int
  byte : UInt8
deriving DecidableEq

def lit (c : UInt8) : Tok := ⟨0, 0, c⟩
def cp (n back : Nat) : Tok := ⟨n, back, 0⟩

/-- how long a stretch is that stood 'back' ahead: f more may come, n have -/
def mgo (b : Bs) (pos back : Nat) : Nat → Nat → Nat
  | 0, n => n
  | f + 1, n => if pos + n < b.length ∧ b.getD (pos + n) 0 = b.getD (pos + n - back) 0 then mgo b pos back f (n + 1) else n
def mlen (b : Bs) (pos back : Nat) : Nat := mgo b pos back 66 0
/-- the longest of those 1 to j back, the nearest first: its length, and how far -/
def best (b : Bs) (pos : Nat) : Nat → Nat × Nat
  | 0 => (0, 0)
  | j + 1 => if (best b pos j).1 < mlen b pos (j + 1) then (mlen b pos (j + 1), j + 1) else best b pos j
def longest (b : Bs) (pos : Nat) : Nat × Nat := best b pos (min pos 1024)
def tokAt (b : Bs) (pos : Nat) : Tok := if (longest b pos).1 < 3 then lit (b.getD pos 0) else cp (longest b pos).1 (longest b pos).2
def stepAt (b : Bs) (pos : Nat) : Nat := if (longest b pos).1 < 3 then 1 else (longest b pos).1
/-- the tokens from a place on, f of them at most -/
def toksF (b : Bs) : Nat → Nat → List Tok
  | 0, _ => []
  | f + 1, pos => if pos < b.length then tokAt b pos :: toksF b f (pos + stepAt b pos) else []
def toks (b : Bs) : List Tok := toksF b b.length 0

/-- so many bytes more, each from 'back' ahead -/
def copyN (out : Bs) (back : Nat) : Nat → Bs
  | 0 => out
  | k + 1 => copyN out back k ++ [(copyN out back k).getD ((copyN out back k).length - back) 0]
/-- what is wrong with a token behind so many bytes: 0: nothing -/
def bad (t : Tok) (n : Nat) : Nat :=
  if t.len ≠ 0 ∧ (t.len < 3 ∨ 66 < t.len ∨ t.back < 1 ∨ 1024 < t.back) then 3
  else if t.len ≠ 0 ∧ (n : Int) < t.back then 7
  else if 4000 < (n : Int) + max t.len 1 then 4
  else 0
def more (out : Bs) (t : Tok) : Bs := if t.len = 0 then out ++ [t.byte] else copyN out t.back.toNat t.len.toNat
/-- tokens' text behind what is there; or what is wrong, and where -/
def textF : List Tok → Nat → Bs → Sum Bs (Nat × Nat)
  | [], _, out => .inl out
  | t :: l, i, out => if bad t out.length = 0 then textF l (i + 1) (more out t) else .inr (bad t out.length, i)
def text (l : List Tok) : Sum Bs (Nat × Nat) := textF l 0 []

/-! packing -/
def flags : List Tok → Nat
  | [] => 0
  | t :: l => (if t.len = 0 then 0 else 1) + 2 * flags l
def wordOf (t : Tok) : Nat := 1024 * (t.len - 3).toNat + (t.back - 1).toNat
def body (t : Tok) : Bs := if t.len = 0 then [t.byte] else [UInt8.ofNat (wordOf t / 256), UInt8.ofNat (wordOf t)]
def grp (g : List Tok) : Bs := UInt8.ofNat (flags g) :: g.flatMap body
/-- groups of eight, f of them at most -/
def grps : Nat → List Tok → Bs
  | 0, _ => []
  | f + 1, l => if l = [] then [] else grp (l.take 8) ++ grps f (l.drop 8)
def size2 (n : Nat) : Bs := [UInt8.ofNat (n / 256), UInt8.ofNat n]
def write (l : List Tok) (n : Nat) : Bs := size2 n ++ grps l.length l
def pack (b : Bs) : Bs := write (toks b) b.length

end Pk
end Go.Proofs.Ytfdibjgmbdkbcaa

namespace Go.Proofs.Ytfdibjgmbdkbcaa
namespace Pk

theorem flags_cons (t : Tok) (l : List Tok) : flags (t :: l) = (if t.len = 0 then 0 else 1) + 2 * flags l := rfl
theorem toksF_succ (b : Bs) (f pos : Nat) : toksF b (f + 1) pos = if pos < b.length then tokAt b pos :: toksF b f (pos + stepAt b pos) else [] := rfl
theorem textF_cons (t : Tok) (l : List Tok) (i : Nat) (out : Bs) : textF (t :: l) i out = if bad t out.length = 0 then textF l (i + 1) (more out t) else .inr (bad t out.length, i) := rfl

/-! ### the longest stretch -/
theorem mgo_spec (b : Bs) (pos back : Nat) : ∀ f n, (∀ k, k < n → pos + k < b.length ∧ b.getD (pos + k) 0 = b.getD (pos + k - back) 0) →
    n ≤ mgo b pos back f n ∧ mgo b pos back f n ≤ n + f ∧ (∀ k, k < mgo b pos back f n → pos + k < b.length ∧ b.getD (pos + k) 0 = b.getD (pos + k - back) 0) ∧
    (mgo b pos back f n < n + f → ¬ (pos + mgo b pos back f n < b.length ∧ b.getD (pos + mgo b pos back f n) 0 = b.getD (pos + mgo b pos back f n - back) 0))
  | 0, n, h => by simp [mgo]; exact h
  | f + 1, n, h => by
    unfold mgo
    split
    · rename_i hc
      obtain ⟨h1, h2, h3, h4⟩ := mgo_spec b pos back f (n + 1) (fun k hk => by
        rcases Nat.lt_or_ge k n with hlt | hge
        · exact h k hlt
        · have : k = n := by omega
          subst this; exact hc)
      exact ⟨by omega, by omega, h3, fun hlt => h4 (by omega)⟩
    · rename_i hc
      exact ⟨Nat.le_refl _, by omega, h, fun _ => hc⟩
theorem mlen_le (b : Bs) (pos back : Nat) : mlen b pos back ≤ 66 := by
  have := (mgo_spec b pos back 66 0 (fun k hk => absurd hk (by omega))).2.1
  unfold mlen; omega
theorem mlen_at (b : Bs) (pos back k : Nat) (hk : k < mlen b pos back) : pos + k < b.length ∧ b.getD (pos + k) 0 = b.getD (pos + k - back) 0 :=
  (mgo_spec b pos back 66 0 (fun k hk => absurd hk (by omega))).2.2.1 k hk
/-- it is the one number that is so -/
theorem mlen_of {b : Bs} {pos back n : Nat} (hn : n ≤ 66) (h : ∀ k, k < n → pos + k < b.length ∧ b.getD (pos + k) 0 = b.getD (pos + k - back) 0)
    (hx : n < 66 → ¬ (pos + n < b.length ∧ b.getD (pos + n) 0 = b.getD (pos + n - back) 0)) : mlen b pos back = n := by
  obtain ⟨_, h2, h3, h4⟩ := mgo_spec b pos back 66 0 (fun k hk => absurd hk (by omega))
  unfold mlen
  rcases Nat.lt_trichotomy (mgo b pos back 66 0) n with hlt | he | hgt
  · exact absurd (h _ hlt) (h4 (by omega))
  · exact he
  · exact absurd (h3 n hgt) (hx (by omega))
theorem best_spec (b : Bs) (pos : Nat) : ∀ j, (∀ i, 1 ≤ i → i ≤ j → mlen b pos i ≤ (best b pos j).1) ∧
    ((best b pos j).1 = 0 ∨ (1 ≤ (best b pos j).2 ∧ (best b pos j).2 ≤ j ∧ mlen b pos (best b pos j).2 = (best b pos j).1))
  | 0 => ⟨fun i h1 h2 => by omega, .inl rfl⟩
  | j + 1 => by
    obtain ⟨h1, h2⟩ := best_spec b pos j
    unfold best
    split
    · rename_i hc
      refine ⟨fun i hi hij => ?_, .inr ⟨by simp, by simp, rfl⟩⟩
      rcases Nat.lt_or_ge i (j + 1) with hlt | hge
      · have := h1 i hi (by omega); simp; omega
      · have : i = j + 1 := by omega
        subst this; simp
    · rename_i hc
      refine ⟨fun i hi hij => ?_, ?_⟩
      · rcases Nat.lt_or_ge i (j + 1) with hlt | hge
        · exact h1 i hi (by omega)
        · have : i = j + 1 := by omega
          subst this; omega
      · rcases h2 with h | ⟨ha, hb, hc⟩
        · exact .inl h
        · exact .inr ⟨ha, by omega, hc⟩
theorem best_le (b : Bs) (pos j : Nat) : (best b pos j).1 ≤ 66 := by
  rcases (best_spec b pos j).2 with h | ⟨_, _, h⟩
  · omega
  · have := mlen_le b pos (best b pos j).2; omega
theorem best_congr {b b' : Bs} {pos : Nat} : ∀ j, (∀ i, 1 ≤ i → i ≤ j → mlen b pos i = mlen b' pos i) → best b pos j = best b' pos j
  | 0, _ => rfl
  | j + 1, h => by
    unfold best
    rw [best_congr j (fun i h1 h2 => h i h1 (by omega)), h (j + 1) (by omega) (by omega)]
theorem longest_le (b : Bs) (pos : Nat) : (longest b pos).1 ≤ 66 := best_le _ _ _
theorem longest_spec (b : Bs) (pos : Nat) (h : 0 < (longest b pos).1) : 1 ≤ (longest b pos).2 ∧ (longest b pos).2 ≤ pos ∧ (longest b pos).2 ≤ 1024 ∧ mlen b pos (longest b pos).2 = (longest b pos).1 := by
  rcases (best_spec b pos (min pos 1024)).2 with h0 | ⟨h1, h2, h3⟩
  · unfold longest at h; omega
  · unfold longest; exact ⟨h1, by omega, by omega, h3⟩

/-! ### tokens -/
/-- a token as texts have them -/
def Okt (t : Tok) : Prop := (∃ c, t = lit c) ∨ ∃ n back : Nat, t = cp n back ∧ 3 ≤ n ∧ n ≤ 66 ∧ 1 ≤ back ∧ back ≤ 1024
def wt (t : Tok) : Nat := max t.len.toNat 1
def wts (l : List Tok) : Nat := (l.map wt).sum
theorem wts_nil : wts [] = 0 := rfl
theorem wts_cons (t : Tok) (l : List Tok) : wts (t :: l) = wt t + wts l := by simp [wts]
theorem wts_append (l m : List Tok) : wts (l ++ m) = wts l + wts m := by simp [wts]
theorem wt_pos (t : Tok) : 1 ≤ wt t := by unfold wt; omega
theorem wts_len : ∀ l : List Tok, l.length ≤ wts l
  | [] => by simp [wts]
  | t :: l => by have := wts_len l; have := wt_pos t; rw [wts_cons, List.length_cons]; omega
theorem step_pos (b : Bs) (pos : Nat) : 1 ≤ stepAt b pos := by unfold stepAt; split <;> omega
theorem tokAt_ok (b : Bs) (pos : Nat) : Okt (tokAt b pos) ∧ wt (tokAt b pos) = stepAt b pos := by
  unfold tokAt stepAt
  split
  · exact ⟨.inl ⟨_, rfl⟩, by simp [wt, lit]⟩
  · rename_i h
    have h2 := longest_spec b pos (by omega)
    exact ⟨.inr ⟨_, _, rfl, by omega, longest_le b pos, h2.1, h2.2.2.1⟩, by simp [wt, cp]; omega⟩
theorem step_in (b : Bs) (pos : Nat) (hp : pos < b.length) : pos + stepAt b pos ≤ b.length := by
  unfold stepAt
  split
  · omega
  · rename_i h
    have h2 := longest_spec b pos (by omega)
    have h3 := mlen_at b pos (longest b pos).2 ((longest b pos).1 - 1) (by omega)
    omega
theorem toksF_fuel (b : Bs) : ∀ f g pos, b.length - pos ≤ f → b.length - pos ≤ g → toksF b f pos = toksF b g pos
  | 0, 0, _, _, _ => rfl
  | 0, g + 1, pos, h, _ => by unfold toksF; rw [if_neg (by omega)]
  | f + 1, 0, pos, _, h => by unfold toksF; rw [if_neg (by omega)]
  | f + 1, g + 1, pos, h1, h2 => by
    unfold toksF
    have := step_pos b pos
    split
    · rw [toksF_fuel b f g _ (by omega) (by omega)]
    · rfl
theorem toksF_ok (b : Bs) : ∀ f pos, ∀ t ∈ toksF b f pos, Okt t
  | 0, _ => by simp [toksF]
  | f + 1, pos => by
    unfold toksF
    split
    · intro t ht
      rcases List.mem_cons.1 ht with rfl | ht
      · exact (tokAt_ok b pos).1
      · exact toksF_ok b f _ t ht
    · simp
theorem toksF_wts (b : Bs) : ∀ f pos, pos ≤ b.length → b.length - pos ≤ f → wts (toksF b f pos) = b.length - pos
  | 0, pos, _, h => by simp [toksF, wts]; omega
  | f + 1, pos, hp, h => by
    unfold toksF
    split
    · rename_i hlt
      have h1 := step_in b pos hlt
      have h2 := step_pos b pos
      rw [wts_cons, (tokAt_ok b pos).2, toksF_wts b f _ h1 (by omega)]
      omega
    · simp [wts]; omega
theorem toks_wts (b : Bs) : wts (toks b) = b.length := by unfold toks; rw [toksF_wts b _ 0 (by omega) (by omega)]; omega
theorem toks_len (b : Bs) : (toks b).length ≤ b.length := by have := wts_len (toks b); rw [toks_wts] at this; exact this

/-! ### a text comes back from its tokens -/
theorem getD_take {b : Bs} {n i : Nat} (h : i < n) : (b.take n).getD i 0 = b.getD i 0 := by
  rw [List.getD_eq_getElem?_getD, List.getD_eq_getElem?_getD, List.getElem?_take_of_lt h]
theorem take_snoc {b : Bs} {n : Nat} (h : n < b.length) : b.take (n + 1) = b.take n ++ [b.getD n 0] := by
  rw [List.take_succ_eq_append_getElem h, List.getD_eq_getElem?_getD, List.getElem?_eq_getElem h]; rfl
theorem copy_back {b : Bs} {pos back n : Nat} (h : ∀ k, k < n → pos + k < b.length ∧ b.getD (pos + k) 0 = b.getD (pos + k - back) 0) (hb : 1 ≤ back) (hp : back ≤ pos) :
    ∀ k, k ≤ n → copyN (b.take pos) back k = b.take (pos + k)
  | 0, _ => rfl
  | k + 1, hk => by
    have ih := copy_back h hb hp k (by omega)
    obtain ⟨h1, h2⟩ := h k (by omega)
    unfold copyN
    rw [ih, ← Nat.add_assoc, take_snoc h1, List.length_take, Nat.min_eq_left (by omega), getD_take (by omega), h2]
theorem more_tok (b : Bs) (pos : Nat) (hp : pos < b.length) : more (b.take pos) (tokAt b pos) = b.take (pos + stepAt b pos) := by
  unfold more tokAt stepAt
  split
  · rw [if_pos (show (lit (b.getD pos 0)).len = 0 from rfl), take_snoc hp]; rfl
  · rename_i h
    obtain ⟨h1, h2, h3, h4⟩ := longest_spec b pos (by omega)
    rw [if_neg (by simp [cp]; omega)]
    show copyN _ ((longest b pos).2 : Int).toNat ((longest b pos).1 : Int).toNat = _
    rw [Int.toNat_natCast, Int.toNat_natCast]
    exact copy_back (n := (longest b pos).1) (fun k hk => mlen_at b pos _ k (by omega)) h1 h2 _ (Nat.le_refl _)
theorem bad_tok (b : Bs) (pos : Nat) (hp : pos < b.length) (hb : b.length ≤ 4000) : bad (tokAt b pos) pos = 0 := by
  have hs := step_in b pos hp
  unfold stepAt at hs
  unfold bad tokAt
  split
  · rename_i h
    rw [if_pos h] at hs
    have hlen : (lit (b.getD pos 0)).len = 0 := rfl
    rw [if_neg (fun hc => hc.1 hlen), if_neg (fun hc => hc.1 hlen), if_neg (by rw [hlen]; omega)]
  · rename_i h
    rw [if_neg h] at hs
    obtain ⟨h1, h2, h3, h4⟩ := longest_spec b pos (by omega)
    have h5 := longest_le b pos
    have hl1 : (cp (longest b pos).1 (longest b pos).2).len = ((longest b pos).1 : Int) := rfl
    have hl2 : (cp (longest b pos).1 (longest b pos).2).back = ((longest b pos).2 : Int) := rfl
    rw [if_neg (by rw [hl1, hl2]; omega), if_neg (by rw [hl1, hl2]; omega), if_neg (by rw [hl1]; omega)]
theorem textF_toks (b : Bs) (hb : b.length ≤ 4000) : ∀ f pos i, pos ≤ b.length → b.length - pos ≤ f → textF (toksF b f pos) i (b.take pos) = .inl b
  | 0, pos, i, hp, h => by simp only [toksF, textF]; rw [List.take_of_length_le (by omega)]
  | f + 1, pos, i, hp, h => by
    unfold toksF
    split
    · rename_i hlt
      have h1 := step_in b pos hlt
      have h2 := step_pos b pos
      have hl : (b.take pos).length = pos := by rw [List.length_take]; omega
      unfold textF
      rw [hl, bad_tok b pos hlt hb, if_pos rfl, more_tok b pos hlt]
      exact textF_toks b hb f _ _ h1 (by omega)
    · simp only [textF]; rw [List.take_of_length_le (by omega)]
theorem text_toks (b : Bs) (hb : b.length ≤ 4000) : text (toks b) = .inl b := textF_toks b hb _ 0 0 (by omega) (by omega)

/-! ### unpacking -/
structure St where
  bs : Bs
  ok : Bool
  l : List Tok
  n : Nat
/-- a byte more -/
def one (bs : Bs) (ok : Bool) : Nat × Bs × Bool := match bs with | [] => (0, [], false) | c :: bs => (c.toNat, bs, ok)
def tokOf (v : Nat) : Tok := cp (v / 1024 + 3) (v % 1024 + 1)
/-- a token more -/
def readT (flag : Bool) (s : St) : St :=
  let (c, bs, ok) := one s.bs s.ok
  if flag then
    let (d, bs', ok') := one bs ok
    ⟨bs', ok', s.l ++ [tokOf (c * 256 + d)], s.n + ((c * 256 + d) / 1024 + 3)⟩
  else ⟨bs, ok, s.l ++ [lit (UInt8.ofNat c)], s.n + 1⟩
/-- a group's tokens: k more -/
def grpR (size : Nat) : Nat → Nat → St → St
  | 0, _, s => s
  | k + 1, fl, s => if size ≤ s.n then ⟨s.bs, s.ok && fl == 0, s.l, s.n⟩ else grpR size k (fl / 2) (readT (fl % 2 == 1) s)
def unR (size : Nat) : Nat → St → St
  | 0, s => s
  | f + 1, s => if s.n < size ∧ s.ok = true then unR size f (grpR size 8 (one s.bs s.ok).1 ⟨(one s.bs s.ok).2.1, (one s.bs s.ok).2.2, s.l, s.n⟩) else s
def start (b : Bs) : St := let (_, bs, ok) := one b true; let (_, bs', ok') := one bs ok; ⟨bs', ok', [], 0⟩
def sizeOf (b : Bs) : Nat := let (c, bs, ok) := one b true; c * 256 + (one bs ok).1
/-- what bytes unpack to, or what is wrong -/
def unpack (b : Bs) : Nat × Bs :=
  if (start b).ok = false then (2, [])
  else if 4000 < sizeOf b then (4, [])
  else if (unR (sizeOf b) (sizeOf b) (start b)).ok = false ∨ (unR (sizeOf b) (sizeOf b) (start b)).bs ≠ [] then (2, [])
  else match text (unR (sizeOf b) (sizeOf b) (start b)).l with
    | .inl out => if out.length = sizeOf b then (0, out) else (2, [])
    | .inr _ => (2, [])

theorem wordOf_lt {t : Tok} (h : Okt t) : wordOf t < 65536 := by
  rcases h with ⟨c, rfl⟩ | ⟨n, back, rfl, h1, h2, h3, h4⟩
  · simp [wordOf, lit]
  · simp only [wordOf, cp]; omega
theorem readT_body {t : Tok} (h : Okt t) (rest : Bs) (acc : List Tok) (n : Nat) : readT (decide (t.len ≠ 0)) ⟨body t ++ rest, true, acc, n⟩ = ⟨rest, true, acc ++ [t], n + wt t⟩ := by
  have hw := wordOf_lt h
  rcases h with ⟨c, rfl⟩ | ⟨m, back, rfl, h1, h2, h3, h4⟩
  · simp [readT, body, lit, one, wt]
  · have hm : ((m : Int) = 0) = False := by simp; omega
    have e1 : (UInt8.ofNat (wordOf (cp m back) / 256)).toNat = wordOf (cp m back) / 256 := by rw [UInt8.toNat_ofNat']; omega
    have e2 : (UInt8.ofNat (wordOf (cp m back))).toNat = wordOf (cp m back) % 256 := by rw [UInt8.toNat_ofNat']
    have e3 : wordOf (cp m back) / 256 * 256 + wordOf (cp m back) % 256 = wordOf (cp m back) := by omega
    have e4 : wordOf (cp m back) = 1024 * (m - 3) + (back - 1) := by simp only [wordOf, cp]; omega
    have e5 : tokOf (wordOf (cp m back)) = cp m back := by
      rw [e4]; unfold tokOf cp
      rw [show (1024 * (m - 3) + (back - 1)) / 1024 + 3 = m by omega, show (1024 * (m - 3) + (back - 1)) % 1024 + 1 = back by omega]
    have e6 : wordOf (cp m back) / 1024 + 3 = m := by omega
    have e7 : wt (cp m back) = m := by simp [wt, cp]; omega
    have hd : decide ((cp m back).len ≠ 0) = true := by simp [cp]; omega
    have hb : body (cp m back) = [UInt8.ofNat (wordOf (cp m back) / 256), UInt8.ofNat (wordOf (cp m back))] := by
      unfold body; rw [if_neg (by simp [cp]; omega)]
    rw [hd, hb]
    simp only [readT, one, List.cons_append, List.nil_append, if_true, e1, e2, e3, e5, e6, e7]
theorem flags_lt : ∀ g : List Tok, flags g < 2 ^ g.length
  | [] => by simp [flags]
  | t :: g => by
    have := flags_lt g
    rw [flags_cons]
    rw [List.length_cons, Nat.pow_succ]
    split <;> omega
theorem grpR_read (size : Nat) (rest : Bs) : ∀ (g : List Tok) (k : Nat) (acc : List Tok) (n : Nat), g.length ≤ k → (∀ t ∈ g, Okt t) → n + wts g ≤ size → (g.length < k → n + wts g = size) →
    grpR size k (flags g) ⟨g.flatMap body ++ rest, true, acc, n⟩ = ⟨rest, true, acc ++ g, n + wts g⟩
  | [], 0, acc, n, _, _, _, _ => by simp [grpR, wts]
  | [], k + 1, acc, n, _, _, _, he => by
    have := he (by simp)
    rw [wts_nil] at this
    unfold grpR
    rw [if_pos (by show size ≤ n; omega)]
    simp [flags, wts]
  | t :: g, 0, _, _, h, _, _, _ => by simp at h
  | t :: g, k + 1, acc, n, h, hok, hle, he => by
    rw [wts_cons] at hle he
    have hp := wt_pos t
    unfold grpR
    rw [if_neg (by show ¬ size ≤ n; omega)]
    have hfl : (flags (t :: g) % 2 == 1) = decide (t.len ≠ 0) := by
      rw [flags_cons]
      by_cases h0 : t.len = 0
      · simp [h0]
      · simp [h0] <;> omega
    have hfd : flags (t :: g) / 2 = flags g := by
      rw [flags_cons]
      split <;> omega
    rw [hfl, hfd, List.flatMap_cons, List.append_assoc, readT_body (hok t (List.mem_cons_self ..)),
      grpR_read size rest g k (acc ++ [t]) (n + wt t) (by simp at h; omega) (fun x hx => hok x (List.mem_cons_of_mem _ hx)) (by omega) (fun hl => by have := he (by simp; omega); omega)]
    rw [wts_cons, List.append_assoc, Nat.add_assoc]
    rfl
theorem grps_nil : ∀ f, grps f [] = []
  | 0 => rfl
  | f + 1 => by simp [grps]
theorem unR_read (size : Nat) : ∀ (f fuel : Nat) (l acc : List Tok) (n : Nat), l.length ≤ f → size - n ≤ fuel → (∀ t ∈ l, Okt t) → n + wts l = size →
    unR size fuel ⟨grps f l, true, acc, n⟩ = ⟨[], true, acc ++ l, size⟩
  | f, fuel, [], acc, n, _, _, _, he => by
    rw [wts_nil] at he
    have he' : n = size := by omega
    subst he'
    rw [grps_nil]
    cases fuel with
    | zero => simp [unR]
    | succ fuel => unfold unR; rw [if_neg (by simp)]; simp
  | 0, _, t :: l, _, _, h, _, _, _ => by simp at h
  | f + 1, 0, t :: l, acc, n, _, h, _, he => by rw [wts_cons] at he; have := wt_pos t; omega
  | f + 1, fuel + 1, t :: l, acc, n, hf, hs, hok, he => by
    have hp := wt_pos t
    have hn : n < size := by rw [wts_cons] at he; omega
    have htd : (t :: l).take 8 ++ (t :: l).drop 8 = t :: l := List.take_append_drop 8 (t :: l)
    have hw : wts ((t :: l).take 8) + wts ((t :: l).drop 8) = wts (t :: l) := by rw [← wts_append, htd]
    have hl8 : ((t :: l).take 8).length ≤ 8 := by rw [List.length_take]; omega
    have hfl := flags_lt ((t :: l).take 8)
    have hfl2 : flags ((t :: l).take 8) < 256 := Nat.lt_of_lt_of_le hfl (Nat.pow_le_pow_right (by omega) hl8)
    have hg1 : 1 ≤ wts ((t :: l).take 8) := by rw [List.take_succ_cons, wts_cons]; omega
    unfold unR
    rw [if_pos ⟨hn, rfl⟩]
    have hgr : grps (f + 1) (t :: l) = UInt8.ofNat (flags ((t :: l).take 8)) :: (((t :: l).take 8).flatMap body ++ grps f ((t :: l).drop 8)) := by
      rw [grps, if_neg (by simp)]; rfl
    rw [hgr]
    simp only [one]
    rw [show (UInt8.ofNat (flags ((t :: l).take 8))).toNat = flags ((t :: l).take 8) by rw [UInt8.toNat_ofNat']; omega]
    rw [grpR_read size _ _ 8 acc n hl8 (fun x hx => hok x (List.mem_of_mem_take hx)) (by omega) (fun hlt => ?_)]
    · rw [unR_read size f fuel ((t :: l).drop 8) _ _ (by rw [List.length_drop]; simp at hf ⊢; omega) (by omega) (fun x hx => hok x (List.mem_of_mem_drop hx)) (by omega)]
      rw [List.append_assoc, htd]
    · have : (t :: l).drop 8 = [] := by
        rw [List.length_take] at hlt
        exact List.drop_of_length_le (by omega)
      rw [this, wts_nil] at hw
      omega
/-- what is packed is unpacked -/
theorem unpack_pack (b : Bs) (hb : b.length ≤ 4000) : unpack (pack b) = (0, b) := by
  have hs : sizeOf (pack b) = b.length := by
    simp only [sizeOf, pack, write, size2, List.cons_append, List.nil_append, one]
    rw [UInt8.toNat_ofNat', UInt8.toNat_ofNat']
    omega
  have hst : start (pack b) = ⟨grps (toks b).length (toks b), true, [], 0⟩ := rfl
  have hu := unR_read b.length (toks b).length b.length (toks b) [] 0 (Nat.le_refl _) (by omega) (toksF_ok b _ 0) (by rw [toks_wts]; omega)
  unfold unpack
  rw [hs, hst, if_neg (by simp), if_neg (by omega), hu, if_neg (by simp)]
  simp only [List.nil_append, text_toks b hb, if_true]

/-! ### how long -/
theorem body_le {t : Tok} (h : Okt t) : (body t).length ≤ wt t := by
  rcases h with ⟨c, rfl⟩ | ⟨n, back, rfl, h1, h2, h3, h4⟩
  · simp [body, lit, wt]
  · unfold body; rw [if_neg (by simp [cp]; omega)]; simp [wt, cp]; omega
def bodies (l : List Tok) : Nat := (l.flatMap body).length
theorem bodies_cons (t : Tok) (l : List Tok) : bodies (t :: l) = (body t).length + bodies l := by simp [bodies]
theorem bodies_append (l m : List Tok) : bodies (l ++ m) = bodies l + bodies m := by simp [bodies]
theorem bodies_le : ∀ l : List Tok, (∀ t ∈ l, Okt t) → bodies l ≤ wts l
  | [], _ => by simp [bodies]
  | t :: l, h => by
    have := bodies_le l (fun x hx => h x (List.mem_cons_of_mem _ hx))
    have := body_le (h t (List.mem_cons_self ..))
    rw [bodies_cons, wts_cons]; omega
theorem length_grps : ∀ (f : Nat) (l : List Tok), l.length ≤ f → (grps f l).length = (l.length + 7) / 8 + bodies l
  | f, [], _ => by rw [grps_nil]; simp [bodies]
  | 0, t :: l, h => by simp at h
  | f + 1, t :: l, h => by
    have htd : (t :: l).take 8 ++ (t :: l).drop 8 = t :: l := List.take_append_drop 8 (t :: l)
    have hw : bodies ((t :: l).take 8) + bodies ((t :: l).drop 8) = bodies (t :: l) := by rw [← bodies_append, htd]
    have ih := length_grps f ((t :: l).drop 8) (by rw [List.length_drop]; simp at h ⊢; omega)
    rw [grps, if_neg (by simp), List.length_append, ih, List.length_drop]
    have : (grp ((t :: l).take 8)).length = 1 + bodies ((t :: l).take 8) := by simp [grp, bodies]; omega
    rw [this, ← hw]
    simp only [List.length_cons]
    omega
theorem length_pack (b : Bs) : (pack b).length = 2 + ((toks b).length + 7) / 8 + bodies (toks b) := by
  unfold pack write
  rw [List.length_append, length_grps _ _ (Nat.le_refl _)]
  simp [size2]; omega
theorem pack_le (b : Bs) : (pack b).length ≤ 2 + b.length + (b.length + 7) / 8 := by
  have h1 := toks_len b
  have h2 := bodies_le (toks b) (toksF_ok b _ 0)
  rw [toks_wts] at h2
  rw [length_pack]
  omega
theorem rep_getD (n : Nat) (c : UInt8) (i : Nat) : (List.replicate n c).getD i 0 = if i < n then c else 0 := by
  rw [List.getD_eq_getElem?_getD, List.getElem?_replicate]
  split <;> rfl
theorem rep_mlen (n : Nat) (c : UInt8) (pos back : Nat) (hb : 1 ≤ back) (hp : back ≤ pos) : mlen (List.replicate n c) pos back = min 66 (n - pos) := by
  refine mlen_of (by omega) (fun k hk => ?_) (fun hk => ?_)
  · rw [List.length_replicate, rep_getD, rep_getD, if_pos (by omega), if_pos (by omega)]
    exact ⟨by omega, rfl⟩
  · rw [List.length_replicate]; omega
theorem rep_best (n : Nat) (c : UInt8) (pos : Nat) : ∀ j, 1 ≤ j → j ≤ pos → 0 < n - pos → best (List.replicate n c) pos j = (min 66 (n - pos), 1)
  | 0, h, _, _ => by omega
  | j + 1, _, hp, hn => by
    unfold best
    rw [rep_mlen n c pos (j + 1) (by omega) hp]
    rcases Nat.eq_zero_or_pos j with h0 | h0
    · subst h0
      rw [if_pos (by simp only [best]; omega)]
    · rw [rep_best n c pos j h0 (by omega) hn, if_neg (by simp)]
theorem rep_longest (n : Nat) (c : UInt8) (pos : Nat) (h1 : 1 ≤ pos) (h2 : pos < n) : longest (List.replicate n c) pos = (min 66 (n - pos), 1) := rep_best n c pos _ (by omega) (by omega) (by omega)
theorem rep_toks (n : Nat) (c : UInt8) : ∀ f pos, 1 ≤ pos → pos ≤ n → n - pos ≤ f →
    (toksF (List.replicate n c) f pos).length ≤ (n - pos) / 66 + 2 ∧ bodies (toksF (List.replicate n c) f pos) ≤ 2 * ((n - pos) / 66) + 2 ∧
    (n - pos < 3 → (toksF (List.replicate n c) f pos).length ≤ n - pos ∧ bodies (toksF (List.replicate n c) f pos) ≤ n - pos)
  | 0, pos, _, _, h => by simp [toksF, bodies]
  | f + 1, pos, h1, h2, h => by
    unfold toksF
    rw [List.length_replicate]
    split
    · rename_i hlt
      have hL := rep_longest n c pos h1 hlt
      have ht : tokAt (List.replicate n c) pos = if n - pos < 3 then lit ((List.replicate n c).getD pos 0) else cp (min 66 (n - pos)) 1 := by
        unfold tokAt; rw [hL]; simp only; split <;> (split <;> first | rfl | omega)
      have hs : stepAt (List.replicate n c) pos = if n - pos < 3 then 1 else min 66 (n - pos) := by
        unfold stepAt; rw [hL]; simp only; split <;> (split <;> first | rfl | omega)
      rw [List.length_cons, bodies_cons, ht, hs]
      by_cases h3 : n - pos < 3
      · rw [if_pos h3, if_pos h3]
        obtain ⟨_, _, i3⟩ := rep_toks n c f (pos + 1) (by omega) (by omega) (by omega)
        obtain ⟨i1, i2⟩ := i3 (by omega)
        have hb : (body (lit ((List.replicate n c).getD pos 0))).length = 1 := rfl
        rw [hb]
        omega
      · rw [if_neg h3, if_neg h3]
        have hb : (body (cp (min 66 (n - pos)) 1)).length = 2 := by unfold body; rw [if_neg (by simp [cp]; omega)]; rfl
        rw [hb]
        obtain ⟨i1, i2, i3⟩ := rep_toks n c f (pos + min 66 (n - pos)) (by omega) (by omega) (by omega)
        by_cases h66 : n - pos < 66
        · obtain ⟨i4, i5⟩ := i3 (by omega)
          omega
        · have e : n - (pos + min 66 (n - pos)) = n - pos - 66 := by omega
          rw [e] at i1 i2 i3
          omega
    · simp [bodies]
theorem pack_rep (n : Nat) (c : UInt8) : (pack (List.replicate n c)).length ≤ 6 + n / 25 := by
  rw [length_pack]
  unfold toks
  rw [List.length_replicate]
  cases n with
  | zero => simp [toksF, bodies]
  | succ n =>
    unfold toksF
    rw [List.length_replicate, if_pos (by omega)]
    have hL : longest (List.replicate (n + 1) c) 0 = (0, 0) := rfl
    have ht : tokAt (List.replicate (n + 1) c) 0 = lit ((List.replicate (n + 1) c).getD 0 0) := by unfold tokAt; rw [hL]; rfl
    have hs : stepAt (List.replicate (n + 1) c) 0 = 1 := by unfold stepAt; rw [hL]; rfl
    rw [ht, hs, List.length_cons, bodies_cons]
    obtain ⟨i1, i2, i3⟩ := rep_toks (n + 1) c n (0 + 1) (by omega) (by omega) (by omega)
    have hb : (body (lit ((List.replicate (n + 1) c).getD 0 0))).length = 1 := rfl
    rw [hb]
    rw [show n + 1 - (0 + 1) = n by omega] at i1 i2 i3
    by_cases h3 : n < 3
    · obtain ⟨i4, i5⟩ := i3 h3
      omega
    · omega

/-! ### tokens of a beginning -/
theorem mlen_take (b : Bs) (pos back at_ : Nat) (ha : at_ ≤ b.length) (h1 : back ≤ pos) : mlen (b.take at_) pos back = min (mlen b pos back) (at_ - pos) := by
  have hl : (b.take at_).length = at_ := by rw [List.length_take]; omega
  refine mlen_of (by have := mlen_le b pos back; omega) (fun k hk => ?_) (fun hk => ?_)
  · have h := mlen_at b pos back k (by omega)
    rw [hl, getD_take (by omega), getD_take (by omega)]
    exact ⟨by omega, h.2⟩
  · rw [hl]
    rintro ⟨h2, h3⟩
    have hmin : min (mlen b pos back) (at_ - pos) = mlen b pos back := by omega
    rw [hmin] at h2 h3 hk
    rw [getD_take (by omega), getD_take (by omega)] at h3
    have hspec := (mgo_spec b pos back 66 0 (fun k hk => absurd hk (by omega))).2.2.2
    exact hspec (by unfold mlen at hk; omega) ⟨by unfold mlen at h2; omega, h3⟩
theorem tok_take (b : Bs) (pos at_ : Nat) (ha : at_ ≤ b.length) (hs : pos + stepAt b pos ≤ at_) : tokAt (b.take at_) pos = tokAt b pos ∧ stepAt (b.take at_) pos = stepAt b pos := by
  have hs1 := step_pos b pos
  have hm : ∀ i, 1 ≤ i → i ≤ min pos 1024 → mlen (b.take at_) pos i = min (mlen b pos i) (at_ - pos) := fun i h1 h2 => mlen_take b pos i at_ ha (by omega)
  have hbl : (best b pos (min pos 1024)).1 = (longest b pos).1 := rfl
  have hle : ∀ i, 1 ≤ i → i ≤ min pos 1024 → mlen b pos i ≤ (longest b pos).1 := (best_spec b pos (min pos 1024)).1
  by_cases h3 : (longest b pos).1 < 3
  · have hL : (longest (b.take at_) pos).1 < 3 := by
      rcases Nat.eq_zero_or_pos (longest (b.take at_) pos).1 with h0 | h0
      · omega
      · obtain ⟨g1, g2, g3, g4⟩ := longest_spec (b.take at_) pos h0
        rw [hm _ g1 (by omega)] at g4
        have := hle _ g1 (by omega : (longest (b.take at_) pos).2 ≤ min pos 1024)
        omega
    unfold tokAt stepAt
    rw [if_pos h3, if_pos h3, if_pos hL, if_pos hL]
    unfold stepAt at hs
    rw [if_pos h3] at hs
    rw [getD_take (by omega)]
    exact ⟨rfl, rfl⟩
  · unfold stepAt at hs
    rw [if_neg h3] at hs
    have he : longest (b.take at_) pos = longest b pos := by
      unfold longest
      refine best_congr _ fun i h1 h2 => ?_
      rw [hm i h1 h2]
      have := hle i h1 h2
      omega
    unfold tokAt stepAt
    rw [he, if_neg h3, if_neg h3]
    exact ⟨rfl, rfl⟩
theorem toksF_take (b : Bs) (at_ : Nat) (ha : at_ ≤ b.length) : ∀ (n f g pos : Nat), b.length - pos ≤ f → at_ - pos ≤ g → pos ≤ at_ → n ≤ (toksF b f pos).length → pos + wts ((toksF b f pos).take n) = at_ →
    toksF (b.take at_) g pos = (toksF b f pos).take n
  | 0, f, g, pos, _, _, hp, _, he => by
    simp [wts] at he
    subst he
    cases g with
    | zero => simp [toksF]
    | succ g => unfold toksF; rw [if_neg (by rw [List.length_take]; omega)]; simp
  | n + 1, 0, g, pos, _, _, _, hn, _ => by simp [toksF] at hn
  | n + 1, f + 1, g, pos, hf, hg, hp, hn, he => by
    rw [toksF_succ] at hn he ⊢
    by_cases hlt : pos < b.length
    · rw [if_pos hlt] at hn he ⊢
      rw [List.take_succ_cons, wts_cons, (tokAt_ok b pos).2] at he
      have h1 := step_pos b pos
      obtain ⟨e1, e2⟩ := tok_take b pos at_ ha (by omega)
      cases g with
      | zero => omega
      | succ g =>
        rw [toksF_succ, if_pos (by rw [List.length_take]; omega), e1, e2, List.take_succ_cons]
        rw [toksF_take b at_ ha n f g (pos + stepAt b pos) (by omega) (by omega) (by omega) (by simp at hn; omega) (by omega)]
    · rw [if_neg hlt] at hn
      simp at hn
theorem toks_take (b : Bs) (n : Nat) (hn : n ≤ (toks b).length) : wts ((toks b).take n) ≤ b.length ∧ toks (b.take (wts ((toks b).take n))) = (toks b).take n := by
  have h1 : wts ((toks b).take n) + wts ((toks b).drop n) = wts (toks b) := by rw [← wts_append, List.take_append_drop]
  rw [toks_wts] at h1
  have ha : wts ((toks b).take n) ≤ b.length := by omega
  refine ⟨ha, ?_⟩
  have hl : (b.take (wts ((toks b).take n))).length = wts ((toks b).take n) := by rw [List.length_take]; omega
  have h2 := toksF_take b _ ha n b.length (wts ((toks b).take n)) 0 (by omega) (by omega) (by omega) hn (by rw [Nat.zero_add]; rfl)
  show toksF _ (b.take (wts ((toks b).take n))).length 0 = _
  rw [hl]
  exact h2

/-! ### texts one behind the other -/
theorem textF_append : ∀ (l m : List Tok) (i : Nat) (out : Bs), textF (l ++ m) i out = match textF l i out with | .inl o => textF m (i + l.length) o | .inr e => .inr e
  | [], m, i, out => by simp [textF]
  | t :: l, m, i, out => by
    rw [List.cons_append, textF_cons, textF_cons]
    split
    · rw [textF_append l m (i + 1)]
      rw [List.length_cons, show i + 1 + l.length = i + (l.length + 1) by omega]
    · rfl
theorem textF_at : ∀ (l : List Tok) (i : Nat) (out : Bs) (e : Nat × Nat), textF l i out = .inr e → i ≤ e.2 ∧ e.1 ≠ 0
  | [], _, _, _, h => by simp [textF] at h
  | t :: l, i, out, e, h => by
    unfold textF at h
    split at h
    · have := textF_at l (i + 1) _ e h; omega
    · rename_i hb
      injection h with h
      subst h
      exact ⟨Nat.le_refl _, hb⟩
theorem copyN_pre (out : Bs) (back : Nat) : ∀ k, out <+: copyN out back k
  | 0 => List.prefix_rfl
  | k + 1 => by
    unfold copyN
    exact (copyN_pre out back k).trans (List.prefix_append _ _)
theorem more_pre (out : Bs) (t : Tok) : out <+: more out t := by
  unfold more
  split
  · exact List.prefix_append _ _
  · exact copyN_pre _ _ _
theorem textF_pre : ∀ (l : List Tok) (i : Nat) (out o : Bs), textF l i out = .inl o → out <+: o
  | [], _, _, _, h => by simp [textF] at h; subst h; exact List.prefix_rfl
  | t :: l, i, out, o, h => by
    unfold textF at h
    split at h
    · exact (more_pre out t).trans (textF_pre l (i + 1) _ o h)
    · cases h
theorem textF_le : ∀ (l : List Tok) (i : Nat) (out o : Bs), out.length ≤ 4000 → textF l i out = .inl o → o.length ≤ 4000
  | [], _, _, _, h0, h => by simp [textF] at h; subst h; exact h0
  | t :: l, i, out, o, h0, h => by
    unfold textF at h
    split at h
    · rename_i hb
      refine textF_le l (i + 1) _ o ?_ h
      have hc : ∀ k, (copyN out t.back.toNat k).length = out.length + k := by
        intro k; induction k with
        | zero => rfl
        | succ k ih => unfold copyN; rw [List.length_append, ih]; simp; omega
      unfold bad at hb
      unfold more
      split at hb
      · cases hb
      split at hb
      · cases hb
      split at hb
      · cases hb
      split
      · rw [List.length_append, List.length_singleton]; omega
      · rw [hc]; omega
    · cases h
end Pk
end Go.Proofs.Ytfdibjgmbdkbcaa

namespace Go.Proofs.Ytfdibjgmbdkbcaa
open Go.RowKit

theorem or_nat_ (x y : Nat) (h : y < 256) : (x * 256) ||| y = x * 256 + y := by
  have := Nat.shiftLeft_add_eq_or_of_lt (i := 8) (b := y) h x
  rw [Nat.shiftLeft_eq] at this
  exact this.symm
theorem or_i64_ (x y : Nat) (hx : x < 281474976710656) (hy : y < 256) : bits .or .i64 ((x : Int) * 256) (y : Int) = ((x * 256 + y : Nat) : Int) := by
  show IntKind.i64.wrap ((BitVec.ofInt 64 ((x : Int) * 256) ||| BitVec.ofInt 64 (y : Int)).toNat : Int) = _
  have e : ((x : Int) * 256) = ((x * 256 : Nat) : Int) := by omega
  rw [e, BitVec.ofInt_natCast, BitVec.ofInt_natCast, BitVec.toNat_or, BitVec.toNat_ofNat, BitVec.toNat_ofNat, Nat.mod_eq_of_lt (by omega), Nat.mod_eq_of_lt (by omega), or_nat_ x _ (by omega)]
  exact IntWalk.i64_in _ (by omega)
theorem and_i64_ (x k : Nat) (hx : x < 281474976710656) (hk : k < 62) : bits .and .i64 (x : Int) (((2 ^ k - 1 : Nat) : Int)) = ((x % 2 ^ k : Nat) : Int) := by
  have hp : 2 ^ k < 2 ^ 62 := Nat.pow_lt_pow_right (by omega) hk
  have hp1 : 0 < 2 ^ k := Nat.pow_pos (by omega)
  have hm : x % 2 ^ k ≤ x := Nat.mod_le _ _
  show IntKind.i64.wrap ((BitVec.ofInt 64 (x : Int) &&& BitVec.ofInt 64 (((2 ^ k - 1 : Nat) : Int))).toNat : Int) = _
  rw [BitVec.ofInt_natCast, BitVec.ofInt_natCast, BitVec.toNat_and, BitVec.toNat_ofNat, BitVec.toNat_ofNat, Nat.mod_eq_of_lt (by omega), Nat.mod_eq_of_lt (by omega), Nat.and_two_pow_sub_one_eq_mod]
  exact IntWalk.i64_in _ (by omega)
theorem and_one_ (x : Nat) (hx : x < 281474976710656) : bits .and .i64 (x : Int) 1 = ((x % 2 : Nat) : Int) := by
  have := and_i64_ x 1 hx (by omega)
  exact this
theorem and_1023_ (x : Nat) (hx : x < 281474976710656) : bits .and .i64 (x : Int) 1023 = ((x % 1024 : Nat) : Int) := by
  have := and_i64_ x 10 hx (by omega)
  exact this
namespace Pk
theorem one_fst (bs : Bs) (ok : Bool) : (one bs ok).1 < 256 := by
  cases bs with
  | nil => simp [one]
  | cons c bs => exact c.toNat_lt
theorem readT_n (flag : Bool) (s : St) : s.n + 1 ≤ (readT flag s).n := by
  unfold readT
  cases flag
  · simp
  · simp only [if_true]; omega
theorem grpR_n (size : Nat) : ∀ k fl s, s.n ≤ (grpR size k fl s).n
  | 0, _, s => Nat.le_refl _
  | k + 1, fl, s => by
    unfold grpR
    split
    · exact Nat.le_refl _
    · have := readT_n (fl % 2 == 1) s
      have := grpR_n size k (fl / 2) (readT (fl % 2 == 1) s)
      omega
theorem grpR_n1 (size k fl : Nat) (s : St) (h : s.n < size) : s.n + 1 ≤ (grpR size (k + 1) fl s).n := by
  unfold grpR
  rw [if_neg (by omega)]
  have := readT_n (fl % 2 == 1) s
  have := grpR_n size k (fl / 2) (readT (fl % 2 == 1) s)
  omega
theorem readT_lit (s : St) : readT false s = ⟨(one s.bs s.ok).2.1, (one s.bs s.ok).2.2, s.l ++ [lit (UInt8.ofNat (one s.bs s.ok).1)], s.n + 1⟩ := rfl
theorem readT_cp (s : St) : readT true s = ⟨(one (one s.bs s.ok).2.1 (one s.bs s.ok).2.2).2.1, (one (one s.bs s.ok).2.1 (one s.bs s.ok).2.2).2.2, s.l ++ [tokOf ((one s.bs s.ok).1 * 256 + (one (one s.bs s.ok).2.1 (one s.bs s.ok).2.2).1)],
    s.n + (((one s.bs s.ok).1 * 256 + (one (one s.bs s.ok).2.1 (one s.bs s.ok).2.2).1) / 1024 + 3)⟩ := rfl
theorem unR_stop {size f : Nat} {s : St} (h : ¬ (s.n < size ∧ s.ok = true)) : unR size f s = s := by
  cases f with
  | zero => rfl
  | succ f => unfold unR; rw [if_neg h]
theorem unR_go {size f : Nat} {s : St} (h : s.n < size ∧ s.ok = true) : unR size (f + 1) s = unR size f (grpR size 8 (one s.bs s.ok).1 ⟨(one s.bs s.ok).2.1, (one s.bs s.ok).2.2, s.l, s.n⟩) := by
  rw [unR, if_pos h]
theorem grpR_stop {size k fl : Nat} {s : St} (h : size ≤ s.n) : grpR size (k + 1) fl s = ⟨s.bs, s.ok && fl == 0, s.l, s.n⟩ := by rw [grpR, if_pos h]
theorem grpR_go {size k fl : Nat} {s : St} (h : ¬ size ≤ s.n) : grpR size (k + 1) fl s = grpR size k (fl / 2) (readT (fl % 2 == 1) s) := by rw [grpR, if_neg h]
end Pk
end Go.Proofs.Ytfdibjgmbdkbcaa

namespace Go.Proofs.Ytfdibjgmbdkbcaa
open Go.RowKit
namespace Pk
theorem flags_snoc (t : Tok) : ∀ l : List Tok, flags (l ++ [t]) = flags l + (if t.len = 0 then 0 else 2 ^ l.length)
  | [] => by rw [List.nil_append, flags_cons]; simp [flags]
  | a :: l => by
    rw [List.cons_append, flags_cons, flags_cons, flags_snoc t l, List.length_cons, Nat.pow_succ]
    split <;> split <;> omega
theorem grp_snoc (t : Tok) (l : List Tok) : grp (l ++ [t]) = UInt8.ofNat (flags l + (if t.len = 0 then 0 else 2 ^ l.length)) :: (l.flatMap body ++ body t) := by
  unfold grp
  rw [flags_snoc, List.flatMap_append]
  simp
theorem grp_lit {t : Tok} (h : t.len = 0) (l : List Tok) : grp (l ++ [t]) = grp l ++ [t.byte] := by
  rw [grp_snoc, if_pos h]
  unfold grp body
  rw [if_pos h]
  simp
theorem body_len (t : Tok) : (body t).length ≤ 2 := by unfold body; split <;> simp
theorem flat_len : ∀ l : List Tok, (l.flatMap body).length ≤ 2 * l.length
  | [] => by simp
  | t :: l => by have := flat_len l; have := body_len t; rw [List.flatMap_cons, List.length_append, List.length_cons]; omega
theorem grp_len (l : List Tok) : (grp l).length ≤ 1 + 2 * l.length := by have := flat_len l; unfold grp; rw [List.length_cons]; omega
/-- what stands when these eights are over -/
def outs (n : Nat) (T : List Tok) (pre : List Nat) : Bs := size2 n ++ pre.flatMap fun k => grp ((T.drop (8 * k)).take 8)
theorem outs_nil (n : Nat) (T : List Tok) : outs n T [] = size2 n := by simp [outs]
theorem outs_snoc (n : Nat) (T : List Tok) (pre : List Nat) (k : Nat) : outs n T (pre ++ [k]) = outs n T pre ++ grp ((T.drop (8 * k)).take 8) := by simp [outs]
theorem flatg_len (T : List Tok) : ∀ pre : List Nat, (pre.flatMap fun k => grp ((T.drop (8 * k)).take 8)).length ≤ 17 * pre.length
  | [] => by simp
  | k :: pre => by
    have := flatg_len T pre
    have := grp_len ((T.drop (8 * k)).take 8)
    have : ((T.drop (8 * k)).take 8).length ≤ 8 := by rw [List.length_take]; omega
    rw [List.flatMap_cons, List.length_append, List.length_cons]; omega
theorem outs_len (n : Nat) (T : List Tok) (pre : List Nat) : (outs n T pre).length ≤ 2 + 17 * pre.length := by
  have := flatg_len T pre
  unfold outs size2
  rw [List.length_append]
  simpa using this
theorem grps_outs : ∀ (f : Nat) (T : List Tok), T.length ≤ f → grps f T = (List.range ((T.length + 7) / 8)).flatMap fun k => grp ((T.drop (8 * k)).take 8)
  | 0, T, h => by
    have : T = [] := List.eq_nil_of_length_eq_zero (by omega)
    subst this
    simp [grps]
  | f + 1, T, h => by
    unfold grps
    split
    · rename_i h0; subst h0; simp
    · rename_i h0
      have hpos : 0 < T.length := List.length_pos_iff.2 h0
      rw [grps_outs f (T.drop 8) (by rw [List.length_drop]; omega)]
      have e : (T.length + 7) / 8 = ((T.drop 8).length + 7) / 8 + 1 := by rw [List.length_drop]; omega
      rw [e, List.range_succ_eq_map, List.flatMap_cons, List.flatMap_map]
      congr 1
      refine congrArg (fun g => List.flatMap g _) (funext fun k => ?_)
      rw [List.drop_drop, Nat.mul_succ, Nat.add_comm]
theorem pack_outs (b : Bs) : pack b = outs b.length (toks b) (List.range (((toks b).length + 7) / 8)) := by
  unfold pack write outs
  rw [grps_outs _ _ (Nat.le_refl _)]
/-- a flag is set -/
theorem flag_set (fl j : Nat) (h : fl < 2 ^ j) (hj : j < 8) : bits .or .u8 (((UInt8.ofNat fl).toNat : Nat) : Int) (IntKind.u8.wrap (2 ^ j)) = (((UInt8.ofNat (fl + 2 ^ j)).toNat : Nat) : Int) := by
  have h8 : 2 ^ j ≤ 2 ^ 7 := Nat.pow_le_pow_right (by omega) (by omega)
  have e1 : (UInt8.ofNat fl).toNat = fl := by rw [UInt8.toNat_ofNat']; omega
  have e2 : (UInt8.ofNat (fl + 2 ^ j)).toNat = fl + 2 ^ j := by rw [UInt8.toNat_ofNat']; omega
  have e3 : IntKind.u8.wrap (2 ^ j) = ((2 ^ j : Nat) : Int) := by
    rw [IntKind.wrap_u8']
    have : ((2 : Int) ^ j) = ((2 ^ j : Nat) : Int) := by push_cast; rfl
    omega
  rw [e1, e2, e3, u8_or_nat _ _ (by omega) (by omega), Nat.or_comm]
  have := Nat.shiftLeft_add_eq_or_of_lt h 1
  rw [Nat.shiftLeft_eq, Nat.one_mul] at this
  rw [← this, Nat.add_comm]
/-- a copy's word -/
theorem word_of (n back : Nat) (h1 : 3 ≤ n) (h2 : n ≤ 66) (h3 : 1 ≤ back) (h4 : back ≤ 1024) : wordOf (cp n back) = 1024 * (n - 3) + (back - 1) := by
  unfold wordOf cp
  simp only
  omega
theorem or_1024 (x y : Nat) (hx : x < 100) (hy : y < 1024) : bits .or .i64 ((x : Int) * 1024) (y : Int) = ((1024 * x + y : Nat) : Int) := by
  show IntKind.i64.wrap ((BitVec.ofInt 64 ((x : Int) * 1024) ||| BitVec.ofInt 64 (y : Int)).toNat : Int) = _
  have e : ((x : Int) * 1024) = ((x * 1024 : Nat) : Int) := by omega
  have e2 : x * 1024 ||| y = 1024 * x + y := by
    have := Nat.shiftLeft_add_eq_or_of_lt (i := 10) (b := y) hy x
    rw [Nat.shiftLeft_eq] at this
    rw [← this]; omega
  rw [e, BitVec.ofInt_natCast, BitVec.ofInt_natCast, BitVec.toNat_or, BitVec.toNat_ofNat, BitVec.toNat_ofNat, Nat.mod_eq_of_lt (by omega), Nat.mod_eq_of_lt (by omega), e2]
  exact IntWalk.i64_in _ (by omega)
end Pk
end Go.Proofs.Ytfdibjgmbdkbcaa
