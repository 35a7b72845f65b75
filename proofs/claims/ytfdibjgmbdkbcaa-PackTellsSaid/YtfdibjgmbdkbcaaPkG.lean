/-
  A group of tokens grows by one; a flag is set in a byte; plain. No conditions.
-/
import Derived.Test.YtfdibjgmbdkbcaaPkU
namespace Go.Proofs.Ytfdibjgmbdkbcaa
open Go.RowKit
namespace Pk
theorem flags_snoc (t : Tok) : ∀ l : List Tok, flags (l ++ [t]) = flags l + (if t.len = 0 then 0 else 2 ^ l.length)
  | [] => by rw [List.nil_append, flags_cons]; simp [flags]
  | a :: l => by
    rw [List.cons_append, flags_cons, flags_cons, flags_snoc t l, List.length_cons, Nat.pow_succ]
    split <;> split <;> omega
theorem grp_snoc (t : Tok) (l : List Tok) : grp (l ++ [t]) = UInt8.ofNat (flags l + (if t.len = 0 then 0 else 2 ^ l.length)) :: (l.flatMap body ++ body t) := by
  unfold grp
  rw [flags_snoc, List.flatMap_append]
  simp
theorem grp_lit {t : Tok} (h : t.len = 0) (l : List Tok) : grp (l ++ [t]) = grp l ++ [t.byte] := by
  rw [grp_snoc, if_pos h]
  unfold grp body
  rw [if_pos h]
  simp
theorem body_len (t : Tok) : (body t).length ≤ 2 := by unfold body; split <;> simp
theorem flat_len : ∀ l : List Tok, (l.flatMap body).length ≤ 2 * l.length
  | [] => by simp
  | t :: l => by have := flat_len l; have := body_len t; rw [List.flatMap_cons, List.length_append, List.length_cons]; omega
theorem grp_len (l : List Tok) : (grp l).length ≤ 1 + 2 * l.length := by have := flat_len l; unfold grp; rw [List.length_cons]; omega
/-- what stands when these eights are over -/
def outs (n : Nat) (T : List Tok) (pre : List Nat) : Bs := size2 n ++ pre.flatMap fun k => grp ((T.drop (8 * k)).take 8)
theorem outs_nil (n : Nat) (T : List Tok) : outs n T [] = size2 n := by simp [outs]
theorem outs_snoc (n : Nat) (T : List Tok) (pre : List Nat) (k : Nat) : outs n T (pre ++ [k]) = outs n T pre ++ grp ((T.drop (8 * k)).take 8) := by simp [outs]
theorem flatg_len (T : List Tok) : ∀ pre : List Nat, (pre.flatMap fun k => grp ((T.drop (8 * k)).take 8)).length ≤ 17 * pre.length
  | [] => by simp
  | k :: pre => by
    have := flatg_len T pre
    have := grp_len ((T.drop (8 * k)).take 8)
    have : ((T.drop (8 * k)).take 8).length ≤ 8 := by rw [List.length_take]; omega
    rw [List.flatMap_cons, List.length_append, List.length_cons]; omega
theorem outs_len (n : Nat) (T : List Tok) (pre : List Nat) : (outs n T pre).length ≤ 2 + 17 * pre.length := by
  have := flatg_len T pre
  unfold outs size2
  rw [List.length_append]
  simpa using this
theorem grps_outs : ∀ (f : Nat) (T : List Tok), T.length ≤ f → grps f T = (List.range ((T.length + 7) / 8)).flatMap fun k => grp ((T.drop (8 * k)).take 8)
  | 0, T, h => by
    have : T = [] := List.eq_nil_of_length_eq_zero (by omega)
    subst this
    simp [grps]
  | f + 1, T, h => by
    unfold grps
    split
    · rename_i h0; subst h0; simp
    · rename_i h0
      have hpos : 0 < T.length := List.length_pos_iff.2 h0
      rw [grps_outs f (T.drop 8) (by rw [List.length_drop]; omega)]
      have e : (T.length + 7) / 8 = ((T.drop 8).length + 7) / 8 + 1 := by rw [List.length_drop]; omega
      rw [e, List.range_succ_eq_map, List.flatMap_cons, List.flatMap_map]
      congr 1
      refine congrArg (fun g => List.flatMap g _) (funext fun k => ?_)
      rw [List.drop_drop, Nat.mul_succ, Nat.add_comm]
theorem pack_outs (b : Bs) : pack b = outs b.length (toks b) (List.range (((toks b).length + 7) / 8)) := by
  unfold pack write outs
  rw [grps_outs _ _ (Nat.le_refl _)]
/-- a flag is set -/
theorem flag_set (fl j : Nat) (h : fl < 2 ^ j) (hj : j < 8) : bits .or .u8 (((UInt8.ofNat fl).toNat : Nat) : Int) (IntKind.u8.wrap (2 ^ j)) = (((UInt8.ofNat (fl + 2 ^ j)).toNat : Nat) : Int) := by
  have h8 : 2 ^ j ≤ 2 ^ 7 := Nat.pow_le_pow_right (by omega) (by omega)
  have e1 : (UInt8.ofNat fl).toNat = fl := by rw [UInt8.toNat_ofNat']; omega
  have e2 : (UInt8.ofNat (fl + 2 ^ j)).toNat = fl + 2 ^ j := by rw [UInt8.toNat_ofNat']; omega
  have e3 : IntKind.u8.wrap (2 ^ j) = ((2 ^ j : Nat) : Int) := by
    rw [IntKind.wrap_u8']
    have : ((2 : Int) ^ j) = ((2 ^ j : Nat) : Int) := by push_cast; rfl
    omega
  rw [e1, e2, e3, u8_or_nat _ _ (by omega) (by omega), Nat.or_comm]
  have := Nat.shiftLeft_add_eq_or_of_lt h 1
  rw [Nat.shiftLeft_eq, Nat.one_mul] at this
  rw [← this, Nat.add_comm]
/-- a copy's word -/
theorem word_of (n back : Nat) (h1 : 3 ≤ n) (h2 : n ≤ 66) (h3 : 1 ≤ back) (h4 : back ≤ 1024) : wordOf (cp n back) = 1024 * (n - 3) + (back - 1) := by
  unfold wordOf cp
  simp only
  omega
theorem or_1024 (x y : Nat) (hx : x < 100) (hy : y < 1024) : bits .or .i64 ((x : Int) * 1024) (y : Int) = ((1024 * x + y : Nat) : Int) := by
  show IntKind.i64.wrap ((BitVec.ofInt 64 ((x : Int) * 1024) ||| BitVec.ofInt 64 (y : Int)).toNat : Int) = _
  have e : ((x : Int) * 1024) = ((x * 1024 : Nat) : Int) := by omega
  have e2 : x * 1024 ||| y = 1024 * x + y := by
    have := Nat.shiftLeft_add_eq_or_of_lt (i := 10) (b := y) hy x
    rw [Nat.shiftLeft_eq] at this
    rw [← this]; omega
  rw [e, BitVec.ofInt_natCast, BitVec.ofInt_natCast, BitVec.toNat_or, BitVec.toNat_ofNat, BitVec.toNat_ofNat, Nat.mod_eq_of_lt (by omega), Nat.mod_eq_of_lt (by omega), e2]
  exact IntWalk.i64_in _ (by omega)
end Pk
end Go.Proofs.Ytfdibjgmbdkbcaa
