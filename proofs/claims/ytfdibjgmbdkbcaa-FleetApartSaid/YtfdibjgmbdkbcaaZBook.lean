/-
  THE PLAIN LAW of records: their bytes, and the record of bytes; no program. No conditions.
-/
import Derived.Test.YtfdibjgmbdkbcaaZRepr
namespace Go.Proofs.Ytfdibjgmbdkbcaa

/-- a record of a shard in the book -/
structure Rec where
  sh : Int
  fr : Int
  to : Int
  sz : Int
  root : Bs
deriving DecidableEq
instance : Rp Rec := Rp.of fun r => (r.sh, r.fr, r.to, r.sz, r.root)

namespace Bk
/-- what is wrong with a record -/
def wrongR (r : Rec) : Nat := if r.sh < 0 ∨ 8 ≤ r.sh ∨ r.fr < 0 ∨ r.to ≤ r.fr ∨ 1000000 < r.to ∨ r.sz < 0 ∨ 100 < r.sz then 3 else if r.root.length ≠ 32 then 2 else 0
/-- a number's bytes, the greatest first -/
def be : Nat → Nat → Bs
  | 0, _ => []
  | k + 1, n => UInt8.ofNat (n / 256 ^ k) :: be k n
/-- bytes' number -/
def numF (a : Nat) (l : Bs) : Nat := l.foldl (fun n c => n * 256 + c.toNat) a
def num (l : Bs) : Nat := numF 0 l
theorem length_be : ∀ k n, (be k n).length = k
  | 0, _ => rfl
  | k + 1, n => by simp [be, length_be k n]
theorem numF_be : ∀ k n a, numF a (be k n) = a * 256 ^ k + n % 256 ^ k
  | 0, n, a => by simp [be, numF, Nat.mod_one]
  | k + 1, n, a => by
    have ih := numF_be k n (a * 256 + (UInt8.ofNat (n / 256 ^ k)).toNat)
    show numF _ (be k n) = _
    have h1 : n % (256 ^ k * 256) = n % 256 ^ k + 256 ^ k * (n / 256 ^ k % 256) := Nat.mod_mul
    have e : (256 : Nat) ^ (k + 1) = 256 ^ k * 256 := Nat.pow_succ ..
    rw [ih, UInt8.toNat_ofNat', show (2 : Nat) ^ 8 = 256 from rfl, e, h1, Nat.add_mul, Nat.mul_assoc a 256, Nat.mul_comm 256 (256 ^ k), Nat.mul_comm (n / 256 ^ k % 256)]
    omega
theorem num_be {k n : Nat} (h : n < 256 ^ k) : num (be k n) = n := by unfold num; rw [numF_be, Nat.mod_eq_of_lt h]; omega
theorem numF_add : ∀ (l : Bs) a, numF a l = a * 256 ^ l.length + num l
  | [], a => by simp [numF, num]
  | c :: l, a => by
    have h1 := numF_add l (a * 256 + c.toNat)
    have h2 := numF_add l c.toNat
    show numF (a * 256 + c.toNat) l = _ + numF (0 * 256 + c.toNat) l
    rw [Nat.zero_mul, Nat.zero_add, h1, h2, List.length_cons, Nat.pow_succ, Nat.add_mul, Nat.mul_assoc, Nat.mul_comm 256, Nat.add_assoc]
theorem num_lt : ∀ l : Bs, num l < 256 ^ l.length
  | [] => by simp [num, numF]
  | c :: l => by
    have h2 := numF_add l c.toNat
    have ih := num_lt l
    have hc : c.toNat < 256 := c.toNat_lt
    show numF (0 * 256 + c.toNat) l < _
    rw [Nat.zero_mul, Nat.zero_add, h2, List.length_cons, Nat.pow_succ]
    have : (c.toNat + 1) * 256 ^ l.length ≤ 256 * 256 ^ l.length := Nat.mul_le_mul_right _ (by omega)
    rw [Nat.add_mul, Nat.one_mul, Nat.mul_comm 256] at this
    omega
theorem be_mod : ∀ k a b, be k (a * 256 ^ k + b) = be k b
  | 0, _, _ => rfl
  | k + 1, a, b => by
    unfold be
    have e : a * 256 ^ (k + 1) + b = (a * 256) * 256 ^ k + b := by rw [Nat.pow_succ, Nat.mul_comm (256 ^ k), Nat.mul_assoc]
    rw [e, be_mod k (a * 256) b]
    congr 1
    have hp : 0 < 256 ^ k := Nat.pow_pos (by omega)
    rw [Nat.mul_comm, Nat.mul_add_div hp]
    apply UInt8.toNat_inj.1
    rw [UInt8.toNat_ofNat', UInt8.toNat_ofNat']
    omega
theorem be_num : ∀ l : Bs, be l.length (num l) = l
  | [] => rfl
  | c :: l => by
    have h2 := numF_add l c.toNat
    have hn : num (c :: l) = c.toNat * 256 ^ l.length + num l := by
      show numF (0 * 256 + c.toNat) l = _
      rw [Nat.zero_mul, Nat.zero_add, h2]
    rw [hn, List.length_cons, be, be_mod, be_num l]
    congr 1
    have hp : 0 < 256 ^ l.length := Nat.pow_pos (by omega)
    rw [Nat.mul_comm, Nat.mul_add_div hp, Nat.div_eq_of_lt (num_lt l), Nat.add_zero]
    apply UInt8.toNat_inj.1
    rw [UInt8.toNat_ofNat']
    have := c.toNat_lt
    omega

/-- a record's bytes -/
def rowR (r : Rec) : Bs := be 1 r.sh.toNat ++ (be 3 r.fr.toNat ++ (be 3 r.to.toNat ++ (be 1 r.sz.toNat ++ r.root)))
/-- what bytes say -/
def readR (b : Bs) : Rec := ⟨num (b.take 1), num ((b.drop 1).take 3), num ((b.drop 4).take 3), num ((b.drop 7).take 1), b.drop 8⟩
def zeroR : Rec := ⟨0, 0, 0, 0, []⟩
def wrongP (b : Bs) : Nat := if b.length ≠ 40 then 2 else wrongR (readR b)
def parseR (b : Bs) : Rec := if wrongP b = 0 then readR b else zeroR

theorem wrongR_ok {r : Rec} : wrongR r = 0 ↔ (0 ≤ r.sh ∧ r.sh < 8 ∧ 0 ≤ r.fr ∧ r.fr < r.to ∧ r.to ≤ 1000000 ∧ 0 ≤ r.sz ∧ r.sz ≤ 100 ∧ r.root.length = 32) := by
  unfold wrongR
  split
  · simp; omega
  · split
    · simp; omega
    · simp; omega
theorem wrongR_le (r : Rec) : wrongR r ≤ 3 := by unfold wrongR; split <;> (try split) <;> omega
theorem length_rowR {r : Rec} (h : wrongR r = 0) : (rowR r).length = 40 := by
  have := (wrongR_ok.1 h).2.2.2.2.2.2.2
  simp [rowR, length_be]; omega
theorem read_row {r : Rec} (h : wrongR r = 0) : readR (rowR r) = r := by
  obtain ⟨h1, h2, h3, h4, h5, h6, h7, h8⟩ := wrongR_ok.1 h
  have l1 := length_be 1 r.sh.toNat
  have l2 := length_be 3 r.fr.toNat
  have l3 := length_be 3 r.to.toNat
  have l4 := length_be 1 r.sz.toNat
  unfold readR rowR
  have e1 : ((be 1 r.sh.toNat ++ (be 3 r.fr.toNat ++ (be 3 r.to.toNat ++ (be 1 r.sz.toNat ++ r.root)))).take 1) = be 1 r.sh.toNat := by
    rw [List.take_append_of_le_length (by omega), List.take_of_length_le (by omega)]
  have d1 : ((be 1 r.sh.toNat ++ (be 3 r.fr.toNat ++ (be 3 r.to.toNat ++ (be 1 r.sz.toNat ++ r.root)))).drop 1) = be 3 r.fr.toNat ++ (be 3 r.to.toNat ++ (be 1 r.sz.toNat ++ r.root)) := by
    rw [List.drop_append_of_le_length (by omega), List.drop_of_length_le (by omega), List.nil_append]
  have d4 : ((be 1 r.sh.toNat ++ (be 3 r.fr.toNat ++ (be 3 r.to.toNat ++ (be 1 r.sz.toNat ++ r.root)))).drop 4) = be 3 r.to.toNat ++ (be 1 r.sz.toNat ++ r.root) := by
    rw [show 4 = 1 + 3 from rfl, ← List.drop_drop, d1, List.drop_append_of_le_length (by omega), List.drop_of_length_le (by omega), List.nil_append]
  have d7 : ((be 1 r.sh.toNat ++ (be 3 r.fr.toNat ++ (be 3 r.to.toNat ++ (be 1 r.sz.toNat ++ r.root)))).drop 7) = be 1 r.sz.toNat ++ r.root := by
    rw [show 7 = 4 + 3 from rfl, ← List.drop_drop, d4, List.drop_append_of_le_length (by omega), List.drop_of_length_le (by omega), List.nil_append]
  have d8 : ((be 1 r.sh.toNat ++ (be 3 r.fr.toNat ++ (be 3 r.to.toNat ++ (be 1 r.sz.toNat ++ r.root)))).drop 8) = r.root := by
    rw [show 8 = 7 + 1 from rfl, ← List.drop_drop, d7, List.drop_append_of_le_length (by omega), List.drop_of_length_le (by omega), List.nil_append]
  rw [e1, d1, d4, d7, d8]
  rw [List.take_append_of_le_length (by omega), List.take_of_length_le (by omega), List.take_append_of_le_length (by omega), List.take_of_length_le (by omega), List.take_append_of_le_length (by omega), List.take_of_length_le (by omega)]
  rw [num_be (by omega), num_be (by omega), num_be (by omega), num_be (by omega)]
  cases r
  simp only [Rec.mk.injEq, and_true] at *
  omega
theorem row_read {b : Bs} (h : b.length = 40) : rowR (readR b) = b := by
  unfold rowR readR
  simp only [Int.toNat_natCast]
  have e1 := be_num (b.take 1)
  have e2 := be_num ((b.drop 1).take 3)
  have e3 := be_num ((b.drop 4).take 3)
  have e4 := be_num ((b.drop 7).take 1)
  rw [List.length_take] at e1
  rw [List.length_take, List.length_drop] at e2 e3 e4
  rw [show min 1 b.length = 1 by omega] at e1
  rw [show min 3 (b.length - 1) = 3 by omega] at e2
  rw [show min 3 (b.length - 4) = 3 by omega] at e3
  rw [show min 1 (b.length - 7) = 1 by omega] at e4
  rw [e1, e2, e3, e4]
  have t7 := List.take_append_drop 1 (b.drop 7)
  have t4 := List.take_append_drop 3 (b.drop 4)
  have t1 := List.take_append_drop 3 (b.drop 1)
  rw [List.drop_drop] at t7 t4 t1
  rw [t7, t4, t1, List.take_append_drop]
theorem parse_row {r : Rec} (h : wrongR r = 0) : wrongP (rowR r) = 0 ∧ parseR (rowR r) = r := by
  have h1 : wrongP (rowR r) = 0 := by unfold wrongP; rw [if_neg (by rw [length_rowR h]; simp), read_row h, h]
  exact ⟨h1, by unfold parseR; rw [if_pos h1, read_row h]⟩
theorem row_parse {b : Bs} (h : wrongP b = 0) : wrongR (parseR b) = 0 ∧ rowR (parseR b) = b := by
  unfold parseR
  rw [if_pos h]
  unfold wrongP at h
  split at h
  · cases h
  · exact ⟨h, row_read (by omega)⟩

/-- the first record that is wrong -/
def rowsF : List Rec → Nat → Nat × Nat
  | [], _ => (0, 0)
  | r :: l, i => if wrongR r ≠ 0 then (wrongR r, i) else rowsF l (i + 1)
def wrongB (l : List Rec) : Nat × Nat := if 8 < l.length then (5, 0) else rowsF l 0
theorem rowsF_ok : ∀ (l : List Rec) (i : Nat), (rowsF l i).1 = 0 ↔ ∀ r ∈ l, wrongR r = 0
  | [], _ => by simp [rowsF]
  | r :: l, i => by
    have ih := rowsF_ok l (i + 1)
    unfold rowsF
    by_cases h : wrongR r = 0
    · rw [if_neg (by simpa using h), ih]; simp [h]
    · rw [if_pos h]; simp [h]
theorem rowsF_zero : ∀ (l : List Rec) (i : Nat), (rowsF l i).1 = 0 → rowsF l i = (0, 0)
  | [], _, _ => rfl
  | r :: l, i, h => by
    unfold rowsF at h ⊢
    split at h
    · rename_i hn; exact absurd h hn
    · rename_i hn; rw [if_neg hn]; exact rowsF_zero l (i + 1) h
theorem rowsF_le : ∀ (l : List Rec) (i : Nat), (rowsF l i).1 ≤ 5
  | [], _ => by simp [rowsF]
  | r :: l, i => by
    unfold rowsF
    split
    · have := wrongR_le r; simp; omega
    · exact rowsF_le l (i + 1)
/-- nothing is wrong with a book -/
def FineB (l : List Rec) : Prop := l.length ≤ 8 ∧ ∀ r ∈ l, wrongR r = 0
theorem wrongB_ok (l : List Rec) : (wrongB l).1 = 0 ↔ FineB l := by
  unfold wrongB FineB
  by_cases h : 8 < l.length
  · rw [if_pos h]; simp; omega
  · rw [if_neg h, rowsF_ok]; exact ⟨fun g => ⟨by omega, g⟩, fun g => g.2⟩
theorem wrongB_zero (l : List Rec) (h : (wrongB l).1 = 0) : wrongB l = (0, 0) := by
  unfold wrongB at h ⊢
  split at h
  · simp at h
  · rename_i hn; rw [if_neg hn]; exact rowsF_zero _ _ h
/-- a book's leaves -/
def rows (l : List Rec) : List Bs := l.map rowR
theorem rows_short {l : List Rec} (h : FineB l) : (rows l).length ≤ 100 ∧ ∀ b ∈ rows l, b.length ≤ 200 := by
  refine ⟨by unfold rows; rw [List.length_map]; have := h.1; omega, fun b hb => ?_⟩
  obtain ⟨r, hr, rfl⟩ := List.mem_map.1 hb
  rw [length_rowR (h.2 r hr)]
  omega
end Bk
end Go.Proofs.Ytfdibjgmbdkbcaa
