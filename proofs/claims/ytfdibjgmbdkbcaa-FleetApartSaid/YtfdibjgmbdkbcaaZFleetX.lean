/-
  A map of four numbers, made in whatever order, and asked. No conditions.
-/
import Derived.Maps.OwnOps
import Derived.Test.YtfdibjgmbdkbcaaZStep
import Derived.Test.YtfdibjgmbdkbcaaZGq
namespace Go.Proofs.Ytfdibjgmbdkbcaa
open Go.RowKit Go.Lib Go.Maps

theorem law_int : Keyed Try.prog 3 := int_keyed Try.underlying3
theorem zero_int (w : World) : (zeroValue 3).run Try.prog w = .ok (.int .i64 0) w := by kernel_rfl
abbrev ni (n : Int) : DataW Unit := .lit (.int .i64 n)
def Dm (a b c d : Bool) : DataW Unit := .map ((if a then [(.int .i64 2, ni 1)] else []) ++ ((if b then [(.int .i64 3, ni 2)] else []) ++ ((if c then [(.int .i64 4, ni 3)] else []) ++ (if d then [(.int .i64 5, ni 3)] else []))))
theorem put_a (b c d : Bool) : (Dm false b c d).put (.int .i64 2) (ni 1) = Dm true b c d := by cases b <;> cases c <;> cases d <;> rfl
theorem put_b (a c d : Bool) : (Dm a false c d).put (.int .i64 3) (ni 2) = Dm a true c d := by cases a <;> cases c <;> cases d <;> rfl
theorem put_c (a b d : Bool) : (Dm a b false d).put (.int .i64 4) (ni 3) = Dm a b true d := by cases a <;> cases b <;> cases d <;> rfl
theorem put_d (a b c : Bool) : (Dm a b c false).put (.int .i64 5) (ni 3) = Dm a b c true := by cases a <;> cases b <;> cases c <;> rfl
/-- the map's block, and what lies ahead of it -/
def MapT (w0 : World) (g : Nat) (a b c d : Bool) (z : World) : Prop := z.ownsMap Try.prog 3 (plainElem Try.prog 3) g (a.toNat + b.toNat + c.toNat + d.toNat) (Dm a b c d) ∧ Below g w0 z
theorem MapT.made (w : World) : MapT w w.heap.size false false false false (w.alloc (.map #[] 0)) := ⟨World.ownsMap_made w _ _ _, (Below.refl _ _).alloc (Nat.le_refl _) _⟩
section
variable {o : Oper} {act : Act} {K : Act → World → Prop} {Q : Exit → Act → World → Prop} {w w0 : World} {g : Nat}
set_option maxRecDepth 100000 in
theorem ins_wp {n : Nat} {D D' : DataW Unit} (m : Operand) (x y : Int) (hop : o.op = .insert 108 m (.const (.int .i64 x)) (.const (.int .i64 y))) (hd : o.dst = none) (hm : act.eval m = .map (some g)) (hx : (Lit.int .i64 x).wf = true) (hy : (Lit.int .i64 y).wf = true)
    (hown : w.ownsMap Try.prog 3 (plainElem Try.prog 3) g n D) (hn : n < maxLen) (hD : D.put (.int .i64 x) (ni y) = D') (hb : Below g w0 w) (hK : ∀ w', w'.ownsMap Try.prog 3 (plainElem Try.prog 3) g (n + 1) D' → Below g w0 w' → K act w') : Oper.wp Try.prog o act w K Q := by
  obtain ⟨w', hrun, h1, h2⟩ := hown.update law_int Try.underlying108 hn (keyOf_int_mk Try.underlying3 hx) (plainElem_int Try.underlying3 hy)
  unfold Oper.wp
  have e1 : act.eval (.const (.int .i64 x)) = .int .i64 x := rfl
  have e2 : act.eval (.const (.int .i64 y)) = .int .i64 y := rfl
  have ep : act.put o.dst undef = act := by rw [hd]; rfl
  simp [execOp, hop, hm, e1, e2, hrun, Result.andThen]
  show K (act.put o.dst undef) w'
  rw [ep]
  exact hK w' (by rw [← hD]; exact h1) (hb.grown h2 (Nat.le_of_lt hown.lt) (fun b hb => by injection hb with hb; omega))
set_option maxRecDepth 100000 in
theorem look_wp {n : Nat} {D : DataW Unit} (m x : Operand) (a b : Int) (hop : o.op = .lookup 108 m x false) (hm : act.eval m = .map (some g)) (hx : act.eval x = .int .i64 a) (ha : (Lit.int .i64 a).wf = true)
    (hown : w.ownsMap Try.prog 3 (plainElem Try.prog 3) g n D) (hD : D.atKey (.int .i64 a) (ni 0) = ni b) (hK : K (act.put o.dst (.int .i64 b)) w) : Oper.wp Try.prog o act w K Q := by
  obtain ⟨c, hrun, hat, _⟩ := hown.lookup_int law_int Try.underlying108 Try.underlying3 (zero_int w) (keyOf_int_mk Try.underlying3 ha)
  have hc : c = b := by
    have h : ni b = ni c := hD.symm.trans hat
    injection h with h
    injection h with _ h
    exact h.symm
  subst hc
  unfold Oper.wp
  simp [execOp, hop, hm, hx, hrun, Result.andThen]
  exact hK
end
end Go.Proofs.Ytfdibjgmbdkbcaa
