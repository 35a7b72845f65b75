/-
  What the walks of tree tell, in the forms that callers want. No conditions.
-/
import Derived.Test.YtfdibjgmbdkbcaaTreeI
namespace Go.Proofs.Ytfdibjgmbdkbcaa
open Go.RowKit Go.Lib

def f0 : Value := .agg #[.int .i64 0, .int .i64 0]
theorem Root_fine (w : World) (F : Nat → Prop) (v : Value) (ll : List Bs) (hl : BList w F v ll) (hf : Fine ll) :
    Calls Try.prog 40 #[v] w fun e w' => ∃ rv, e = .returned (.tuple #[rv, .agg #[.int .i64 0, .int .i64 0]]) ∧ OwnB w' w.heap.size rv (Tr.root (ll.map Tr.leafH)) ∧ Below w.heap.size w w' := by
  refine (Root_any w F v ll hl).mono ?_
  rintro e w' ⟨rv, rfl, h1, _, hx⟩
  exact ⟨rv, by rw [wrongS_zero ll ((wrongS_ok ll).2 hf)]; rfl, h1 hf, hx⟩
theorem Root_bad (w : World) (F : Nat → Prop) (v : Value) (ll : List Bs) (hl : BList w F v ll) (hf : ¬ Fine ll) :
    Calls Try.prog 40 #[v] w fun e w' => ∃ a b : Nat, e = .returned (.tuple #[.slice none 0 0, .agg #[.int .i64 (a : Int), .int .i64 (b : Int)]]) ∧ wrongS ll = (a, b) ∧ ((a : Int) != 0) = true ∧ Below w.heap.size w w' := by
  refine (Root_any w F v ll hl).mono ?_
  rintro e w' ⟨rv, rfl, _, h2, hx⟩
  refine ⟨(wrongS ll).1, (wrongS ll).2, by rw [h2 hf]; rfl, rfl, ?_, hx⟩
  rw [bne_iff_ne]
  intro h
  exact hf ((wrongS_ok ll).1 (by omega))
theorem Path_fine (w : World) (F : Nat → Prop) (v : Value) (ll : List Bs) (z : Int) (hl : BList w F v ll) (hf : Fine ll) (h0 : 0 ≤ z) (h1 : z < ll.length) :
    Calls Try.prog 41 #[v, .int .i64 z] w fun e w' => ∃ rv, e = .returned (.tuple #[rv, .agg #[.int .i64 0, .int .i64 0]]) ∧ OwnL w' w.heap.size rv (Tr.path (ll.map Tr.leafH) z.toNat) ∧ Below w.heap.size w w' := by
  have hp : pathF ll z = (0, 0) := by unfold pathF; rw [if_neg (by rw [(wrongS_ok ll).2 hf]; simp), if_pos ⟨h0, h1⟩]
  refine (Path_any w F v ll z hl).mono ?_
  rintro e w' ⟨rv, rfl, h1, _, hx⟩
  exact ⟨rv, by rw [hp]; rfl, h1 (by rw [hp]), hx⟩
theorem Path_none (w : World) (F : Nat → Prop) (v : Value) (ll : List Bs) (z : Int) (hl : BList w F v ll) (hf : Fine ll) (h0 : ¬ (0 ≤ z ∧ z < ll.length)) :
    Calls Try.prog 41 #[v, .int .i64 z] w fun e w' => e = .returned (.tuple #[.slice none 0 0, .agg #[.int .i64 6, .int .i64 0]]) ∧ Below w.heap.size w w' := by
  have hp : pathF ll z = (6, 0) := by unfold pathF; rw [if_neg (by rw [(wrongS_ok ll).2 hf]; simp), if_neg h0]
  refine (Path_any w F v ll z hl).mono ?_
  rintro e w' ⟨rv, rfl, _, h2, hx⟩
  exact ⟨by rw [hp, h2 (by rw [hp]; simp)]; rfl, hx⟩
theorem Path_bad (w : World) (F : Nat → Prop) (v : Value) (ll : List Bs) (z : Int) (hl : BList w F v ll) (hf : ¬ Fine ll) :
    Calls Try.prog 41 #[v, .int .i64 z] w fun e w' => ∃ a b : Nat, e = .returned (.tuple #[.slice none 0 0, .agg #[.int .i64 (a : Int), .int .i64 (b : Int)]]) ∧ wrongS ll = (a, b) ∧ ((a : Int) != 0) = true ∧ Below w.heap.size w w' := by
  have hw : (wrongS ll).1 ≠ 0 := fun h => hf ((wrongS_ok ll).1 h)
  have hp : pathF ll z = wrongS ll := by unfold pathF; rw [if_pos hw]
  refine (Path_any w F v ll z hl).mono ?_
  rintro e w' ⟨rv, rfl, _, h2, hx⟩
  exact ⟨(wrongS ll).1, (wrongS ll).2, by rw [hp, h2 (by rw [hp]; exact hw)]; rfl, rfl, by rw [bne_iff_ne]; omega, hx⟩
theorem Grows_fine (w : World) (F : Nat → Prop) (v : Value) (ll : List Bs) (z : Int) (hl : BList w F v ll) (hf : Fine ll) (h0 : 1 ≤ z) (h1 : z ≤ ll.length) :
    Calls Try.prog 42 #[v, .int .i64 z] w fun e w' => ∃ rv, e = .returned (.tuple #[rv, .agg #[.int .i64 0, .int .i64 0]]) ∧ OwnL w' w.heap.size rv (Tr.grows (ll.map Tr.leafH) z.toNat true) ∧ Below w.heap.size w w' := by
  have hp : growsF ll z = (0, 0) := by unfold growsF; rw [if_neg (by rw [(wrongS_ok ll).2 hf]; simp), if_pos ⟨h0, h1⟩]
  refine (Grows_any w F v ll z hl).mono ?_
  rintro e w' ⟨rv, rfl, h1, _, hx⟩
  exact ⟨rv, by rw [hp]; rfl, h1 (by rw [hp]), hx⟩
theorem Grows_none (w : World) (F : Nat → Prop) (v : Value) (ll : List Bs) (z : Int) (hl : BList w F v ll) (hf : Fine ll) (h0 : ¬ (1 ≤ z ∧ z ≤ ll.length)) :
    Calls Try.prog 42 #[v, .int .i64 z] w fun e w' => e = .returned (.tuple #[.slice none 0 0, .agg #[.int .i64 3, .int .i64 0]]) ∧ Below w.heap.size w w' := by
  have hp : growsF ll z = (3, 0) := by unfold growsF; rw [if_neg (by rw [(wrongS_ok ll).2 hf]; simp), if_neg h0]
  refine (Grows_any w F v ll z hl).mono ?_
  rintro e w' ⟨rv, rfl, _, h2, hx⟩
  exact ⟨by rw [hp, h2 (by rw [hp]; simp)]; rfl, hx⟩
theorem Grows_bad (w : World) (F : Nat → Prop) (v : Value) (ll : List Bs) (z : Int) (hl : BList w F v ll) (hf : ¬ Fine ll) :
    Calls Try.prog 42 #[v, .int .i64 z] w fun e w' => ∃ a b : Nat, e = .returned (.tuple #[.slice none 0 0, .agg #[.int .i64 (a : Int), .int .i64 (b : Int)]]) ∧ wrongS ll = (a, b) ∧ ((a : Int) != 0) = true ∧ Below w.heap.size w w' := by
  have hw : (wrongS ll).1 ≠ 0 := fun h => hf ((wrongS_ok ll).1 h)
  have hp : growsF ll z = wrongS ll := by unfold growsF; rw [if_pos hw]
  refine (Grows_any w F v ll z hl).mono ?_
  rintro e w' ⟨rv, rfl, _, h2, hx⟩
  exact ⟨(wrongS ll).1, (wrongS ll).2, by rw [hp, h2 (by rw [hp]; exact hw)]; rfl, rfl, by rw [bne_iff_ne]; omega, hx⟩

/-! all are digests -/
def D32 (l : List Bs) : Prop := ∀ d ∈ l, d.length = 32
theorem d32_leaves (ll : List Bs) : D32 (ll.map Tr.leafH) := fun d hd => by obtain ⟨x, _, rfl⟩ := List.mem_map.1 hd; exact Tr.length_leafH x
theorem D32.take {l : List Bs} (h : D32 l) (k : Nat) : D32 (l.take k) := fun d hd => h d (List.mem_of_mem_take hd)
theorem D32.drop {l : List Bs} (h : D32 l) (k : Nat) : D32 (l.drop k) := fun d hd => h d (List.mem_of_mem_drop hd)
theorem D32.snoc {l : List Bs} {x : Bs} (h : D32 l) (hx : x.length = 32) : D32 (l ++ [x]) := fun d hd => by
  rcases List.mem_append.1 hd with h1 | h1
  · exact h d h1
  · have : d = x := by simpa using h1
    subst this; exact hx
theorem D32.allD {l : List Bs} (h : D32 l) : allD l = true := (allD_iff l).2 h
theorem d32_path (n : Nat) : ∀ (l : List Bs) (i : Nat), l.length = n → D32 l → D32 (Tr.path l i) := by
  induction n using Nat.strongRecOn with
  | ind n ih =>
    intro l i hl hd
    by_cases h2 : 2 ≤ l.length
    · have g1 := Tr.split_lt h2
      have g0 := Tr.split_pos l.length
      by_cases hi : i < Tr.split l.length
      · rw [Tr.path_left h2 hi]
        exact (ih (Tr.split l.length) (by omega) _ i (by rw [List.length_take]; omega) (hd.take _)).snoc (Tr.length_root _ (hd.drop _))
      · rw [Tr.path_right h2 hi]
        exact (ih (l.length - Tr.split l.length) (by omega) _ _ (List.length_drop ..) (hd.drop _)).snoc (Tr.length_root _ (hd.take _))
    · rw [Tr.path_small h2]; intro d hd; cases hd
theorem d32_grows (n : Nat) : ∀ (l : List Bs) (m : Nat) (b : Bool), l.length = n → D32 l → D32 (Tr.grows l m b) := by
  induction n using Nat.strongRecOn with
  | ind n ih =>
    intro l m b hl hd
    by_cases hm : m < l.length ∧ 2 ≤ l.length
    · have g1 := Tr.split_lt hm.2
      have g0 := Tr.split_pos l.length
      by_cases hk : m ≤ Tr.split l.length
      · rw [Tr.grows_left hm.1 hm.2 hk]
        exact (ih (Tr.split l.length) (by omega) _ _ _ (by rw [List.length_take]; omega) (hd.take _)).snoc (Tr.length_root _ (hd.drop _))
      · rw [Tr.grows_right hm.1 hm.2 hk]
        exact (ih (l.length - Tr.split l.length) (by omega) _ _ _ (List.length_drop ..) (hd.drop _)).snoc (Tr.length_root _ (hd.take _))
    · rw [Tr.grows, dif_neg hm]
      split
      · intro d hd; cases hd
      · intro d hd'
        have : d = Tr.root l := by simpa using hd'
        subst this; exact Tr.length_root _ hd

/-- what stands there is shown -/
theorem standsS_path (ll : List Bs) (hf : Fine ll) (i : Nat) (b : Bs) (hb : ll[i]? = some b) : standsS (ll.length : Int) (Tr.root (ll.map Tr.leafH)) b (i : Int) (Tr.path (ll.map Tr.leafH) i) = true := by
  have hi : i < ll.length := by
    rcases Nat.lt_or_ge i ll.length with h | h
    · exact h
    · rw [List.getElem?_eq_none h] at hb; cases hb
  have hbl : b.length ≤ 200 := hf.2 b (List.mem_of_getElem? hb)
  have hn := hf.1
  unfold standsS
  rw [decide_eq_true ⟨by omega, by omega, by omega, by omega, hbl⟩, (d32_path _ _ i rfl (d32_leaves ll)).allD]
  have hu := Tr.up_path ll.length (ll.map Tr.leafH) i (by simp) hi
  have e : (ll.map Tr.leafH).getD i Tr.nilH = Tr.leafH b := by
    rw [List.getD_eq_getElem?_getD, List.getElem?_map, hb]; rfl
  rw [e] at hu
  simp only [Int.toNat_natCast, hu]
  simp
theorem grewS_grows (ll : List Bs) (hf : Fine ll) (m : Nat) (h1 : 1 ≤ m) (hm : m ≤ ll.length) :
    grewS (m : Int) (Tr.root ((ll.take m).map Tr.leafH)) (ll.length : Int) (Tr.root (ll.map Tr.leafH)) (Tr.grows (ll.map Tr.leafH) m true) = true := by
  have hn := hf.1
  unfold grewS
  rw [decide_eq_true ⟨by omega, by omega, by omega⟩, (d32_grows _ _ m true rfl (d32_leaves ll)).allD, decide_eq_true (Tr.length_root _ (d32_leaves (ll.take m)))]
  have ht := Tr.two_grows ll.length (ll.map Tr.leafH) m true (Tr.root ((ll.take m).map Tr.leafH)) (by simp) h1 hm (fun _ => by rw [List.map_take])
  simp only [Int.toNat_natCast]
  rw [ht, List.map_take]
  simp
theorem Fine.take {ll : List Bs} (h : Fine ll) (k : Nat) : Fine (ll.take k) := ⟨by rw [List.length_take]; have := h.1; omega, fun b hb => h.2 b (List.mem_of_mem_take hb)⟩
end Go.Proofs.Ytfdibjgmbdkbcaa
