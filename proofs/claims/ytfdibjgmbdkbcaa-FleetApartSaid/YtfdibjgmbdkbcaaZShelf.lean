/-
  Entries laid one behind the other, and taken again; plain. No conditions.
-/
import Derived.Test.YtfdibjgmbdkbcaaZGa
namespace Go.Proofs.Ytfdibjgmbdkbcaa
namespace Shf
def lay1 (e : Bs) : Bs := UInt8.ofNat e.length :: e
def lay (l : List Bs) : Bs := l.flatMap lay1
def take : Nat → Bs → Option (List Bs × Bs)
  | 0, b => some ([], b)
  | n + 1, b => match b with
    | [] => none
    | k :: r => if 200 < k.toNat ∨ r.length < k.toNat then none else (take n (r.drop k.toNat)).map fun p => (r.take k.toNat :: p.1, p.2)
/-- so many entries, and nothing behind them -/
def taken (b : Bs) (n : Nat) : Option (List Bs) := match take n b with
  | some (l, []) => some l
  | _ => none
theorem lay_snoc (l : List Bs) (e : Bs) : lay (l ++ [e]) = lay l ++ lay1 e := by simp [lay]
theorem lay_len : ∀ l : List Bs, (∀ e ∈ l, e.length ≤ 200) → (lay l).length ≤ 201 * l.length
  | [], _ => by simp [lay]
  | e :: l, h => by
    have h1 := lay_len l (fun x hx => h x (List.mem_cons_of_mem _ hx))
    have h2 := h e (List.mem_cons_self ..)
    unfold lay at h1 ⊢
    rw [List.flatMap_cons, List.length_append, List.length_cons]
    unfold lay1 at h1 ⊢
    rw [List.length_cons]
    omega
/-- what was laid is taken -/
theorem take_lay : ∀ (l : List Bs) (r : Bs), (∀ e ∈ l, e.length ≤ 200) → take l.length (lay l ++ r) = some (l, r)
  | [], r, _ => by simp [take, lay]
  | e :: l, r, h => by
    have h2 := h e (List.mem_cons_self ..)
    have hk : (UInt8.ofNat e.length).toNat = e.length := by rw [UInt8.toNat_ofNat']; omega
    have hb : lay (e :: l) ++ r = UInt8.ofNat e.length :: (e ++ (lay l ++ r)) := by
      simp [lay, lay1]
    rw [List.length_cons, hb]
    unfold take
    simp only [hk]
    rw [if_neg (by rw [List.length_append]; omega), List.drop_left, List.take_left, take_lay l r (fun x hx => h x (List.mem_cons_of_mem _ hx))]
    rfl
theorem taken_lay (l : List Bs) (h : ∀ e ∈ l, e.length ≤ 200) : taken (lay l) l.length = some l := by
  have := take_lay l [] h
  rw [List.append_nil] at this
  unfold taken
  rw [this]
end Shf
end Go.Proofs.Ytfdibjgmbdkbcaa
