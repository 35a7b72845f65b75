/-
  THE WALKS of yearlaw1.hex and alive. Conditions: the digits are few.
-/
import Derived.Test.YtjablgkebpmmhaaSum
import Derived.Test.YtjablgkebpmmhaaSame
import Derived.Laws.IdiomStrings
import Derived.Lib.Strings
namespace Go.Proofs.Ytjablgkebpmmhaa
open Go.RowKit

def hexD (n c : UInt8) : UInt8 := if 97 ≤ c then 16 * n + c - 97 + 10 else 16 * n + c - 48
/-- the bytes of the first j pairs of digits -/
def hexTo (l : Bs) : Nat → Bs
  | 0 => []
  | j + 1 => hexTo l j ++ [hexD (hexD 0 (l.getD (2 * j) 0)) (l.getD (2 * j + 1) 0)]
theorem length_hexTo (l : Bs) (j : Nat) : (hexTo l j).length = j := by
  induction j with
  | zero => rfl
  | succ j ih => simp [hexTo, ih]

theorem hexD_hi (n c : UInt8) (h : (97 : Int) ≤ (c.toNat : Int)) : ((16 * (n.toNat : Int) + (c.toNat : Int) - 97) % 256 + 10) % 256 = ((hexD n c).toNat : Int) := by
  unfold hexD
  rw [if_pos (by rw [UInt8.le_iff_toNat_le]; show 97 ≤ c.toNat; omega)]
  have hn := n.toNat_lt
  have hc := c.toNat_lt
  rw [UInt8.toNat_add, UInt8.toNat_sub, UInt8.toNat_add, UInt8.toNat_mul, show UInt8.toNat 97 = 97 from rfl, show UInt8.toNat 16 = 16 from rfl, show UInt8.toNat 10 = 10 from rfl]
  omega
theorem hexD_lo (n c : UInt8) (h : (c.toNat : Int) < 97) : (16 * (n.toNat : Int) + (c.toNat : Int) - 48) % 256 = ((hexD n c).toNat : Int) := by
  unfold hexD
  rw [if_neg (by rw [UInt8.le_iff_toNat_le]; show ¬ 97 ≤ c.toNat; omega)]
  have hn := n.toNat_lt
  have hc := c.toNat_lt
  rw [UInt8.toNat_sub, UInt8.toNat_add, UInt8.toNat_mul, show UInt8.toNat 48 = 48 from rfl, show UInt8.toNat 16 = 16 from rfl]
  omega

theorem conv_bytes (w : World) (s : ByteArray) (l : Bs) (hl : s.data.toList = l) (hm : l.length ≤ 65536) :
    ∃ A c w', (convert 9 24 (.string s)).run Try.prog w = .ok (.slice A l.length c) w' ∧ Bytes w' (fun k => w.heap.size ≤ k) (.slice A l.length c) l ∧ Below w.heap.size w w' := by
  have hsz : s.size = l.length := by rw [← hl]; rfl
  have hrun := run_bytes_of_string (P := Try.prog) w 9 24 5 s Try.underlying9 Try.underlying24 Try.underlying5
  have hcap := grownCap_ge w s.size 0 5
  have hcm := grownCap_le_maxLen w s.size 0 5 (by simp only [maxLen]; omega)
  have hat := fun j hj => bytesRow_at s (grownCap w s.size 0 5) j hj
  generalize grownCap w s.size 0 5 = cap at *
  generalize hrow : bytesRow s cap = row at *
  rw [hsz] at hrun
  refine ⟨_, _, _, hrun, ?_, ((Below.refl _ w).drew).alloc (Nat.le_refl _) _⟩
  refine ⟨_, _, rfl, by omega, hcm, by simp, fun _ => ⟨w.heap.size, 0, rfl, Nat.le_refl _, by simp, fun j u hu => ?_⟩⟩
  rw [Nat.zero_add]
  have hj : j < l.length := by
    rcases Nat.lt_or_ge j l.length with h | h
    · exact h
    · rw [List.getElem?_eq_none (by simpa using h)] at hu; cases hu
  have hjs : j < s.data.size := by rw [show s.data.size = s.size from rfl, hsz]; exact hj
  have h1 : (w.drew.alloc (.cells row 5 (row.size, row.size + 1))).cell? ⟨w.heap.size, j, none⟩ = row[j]? := World.cell?_alloc_mark w.drew row 5 _ j
  rw [h1, hat j hjs]
  rw [List.getElem?_map, List.getElem?_eq_getElem hj] at hu
  have h2 : s.data[j] = l[j] := by subst hl; rfl
  rw [h2]
  exact hu

def hexPre (x y : UInt8) : Nat → UInt8
  | 0 => 0
  | 1 => hexD 0 x
  | _ => hexD (hexD 0 x) y

set_option maxRecDepth 100000 in
set_option maxHeartbeats 1000000 in
theorem hex_any (w : World) (s : ByteArray) (l : Bs) (hsl : s.data.toList = l) (hs : s.size ≤ 65536) :
    Calls Try.prog 17 #[.string s] w fun e w' => ∃ v, e = .returned v ∧ OwnB w' w.heap.size v (hexTo l (s.size / 2)) ∧ Below w.heap.size w w' := by
  obtain ⟨i0, hi, hz0, hz1, hz2⟩ := info_parts info_u8
  have hsz : s.size = l.length := by rw [← hsl]; rfl
  have HSL := Lib.hid hsl
  have HSZ := Lib.hid hsz
  clear hsl hsz
  go_enter Try.func17, Try.ntmps17
  go_wp2_with fail
  go_loopg [3, 4] (s.size / 2) (fun k v i wr => ∃ j : Nat, j + k = s.size / 2 ∧ i = .int .i64 (2 * (j : Int)) ∧ Own wr w.heap.size 5 1 v j ((hexTo l j).map bv) ∧ Below w.heap.size w wr)
  case atStart => exact ⟨0, by omega, rfl, Own.nil_ _ _ _ _, Below.refl _ _⟩
  case round =>
    obtain ⟨j, hk, rfl, hown, hx⟩ := hrel
    obtain ⟨A1, c1, hv1, hac1, hcm1⟩ := hown.shape
    subst hv1
    generalize gk = gk0 at *
    by_cases hlt : 2 * j + 1 < s.size
    · have hltB : 2 * (j : Int) + 1 < (s.size : Int) := by omega
      have hext : (s.extract (2 * j) (2 * j + 2)).data.toList = [l.getD (2 * j) 0, l.getD (2 * j + 1) 0] := by
        have h1 : 2 * j < l.length := by have := HSZ.out; omega
        have h2 : 2 * j + 1 < l.length := by have := HSZ.out; omega
        rw [Lib.extract_data, HSL.out, show 2 * j + 2 - 2 * j = 2 by omega, List.drop_eq_getElem_cons h1, List.drop_eq_getElem_cons h2]
        rw [List.getD_eq_getElem?_getD, List.getD_eq_getElem?_getD, List.getElem?_eq_getElem h1, List.getElem?_eq_getElem h2]
        rfl
      obtain ⟨A2, c2, w2, hconv, hby, hx2⟩ := conv_bytes wr _ _ hext (by simp)
      have hnx : hexTo l (j + 1) = hexTo l j ++ [hexD (hexD 0 (l.getD (2 * j) 0)) (l.getD (2 * j + 1) 0)] := rfl
      have hoc : (.string (s.extract (2 * j) (2 * j + 2)) : Value) = .string (s.extract (2 * j) (2 * j + 2)) := rfl
      generalize l.getD (2 * j) 0 = x at *
      generalize l.getD (2 * j + 1) 0 = y at *
      have hown2 := hown.below hx2
      have hx3 : Below w.heap.size w w2 := hx.trans (hx2.mono hx.size)
      have HNX := Lib.hid hnx
      obtain ⟨_, _, hvv, _, _, _, hcells⟩ := hby
      injection hvv with e1 e2 e3
      subst e1 e3
      obtain ⟨b, off, rfl, _, _, hc⟩ := hcells (by simp)
      have hc0 := hc 0 (bv x) rfl
      have hc1 := hc 1 (bv y) rfl
      unfold bv at hc0 hc1
      clear hnx hoc hcells hc hext
      simp only [List.length_cons, List.length_nil] at hconv
      go_wp2_with fail
      go_loopg [5, 22] 2 (fun k n i wr => ∃ t : Nat, t + k = 2 ∧ i = .int .i64 (t : Int) ∧ n = .int .u8 (hexPre x y t).toNat ∧ wr = w2)
      case atStart => exact ⟨0, rfl, rfl, rfl, rfl⟩
      case round =>
        obtain ⟨t, ht, rfl, rfl, rfl⟩ := hrel
        by_cases htl : t < 2
        · have htB : (t : Int) < 2 := by omega
          obtain ⟨z, hz, hpre⟩ : ∃ z : UInt8, wr.cell? ⟨b, off + t, none⟩ = some (.int .u8 z.toNat) ∧ hexPre x y (t + 1) = hexD (hexPre x y t) z := by
            rcases t with _ | _ | t
            · exact ⟨x, hc0, rfl⟩
            · exact ⟨y, hc1, rfl⟩
            · omega
          have hzb : (z.toNat : Int) < 256 := by have := z.toNat_lt; omega
          generalize hexPre x y t = m at *
          have hmb : (m.toNat : Int) < 256 := by have := m.toNat_lt; omega
          have HP := Lib.hid hpre
          clear hpre hc0 hc1
          by_cases h97 : (97 : Int) ≤ (z.toNat : Int)
          · go_wp2_with fail
            go_roundg (gk - 1)
            case measure => omega
            case rel => exact ⟨t + 1, by omega, by go_num, congrArg (Value.int .u8) (by rw [HP.out]; exact hexD_hi m z h97), rfl⟩
          · have h97B : decide ((97 : Int) ≤ (z.toNat : Int)) = false := by simp; omega
            go_wp2_with fail
            go_roundg (gk - 1)
            case measure => omega
            case rel => exact ⟨t + 1, by omega, by go_num, congrArg (Value.int .u8) (by rw [HP.out]; exact hexD_lo m z h97), rfl⟩
        · have htB : decide ((t : Int) < 2) = false := by simp; omega
          have ht2 : t = 2 := by omega
          subst ht2
          have hsrc := SlAt.new wr 5 [.int .u8 ((hexPre x y 2).toNat : Int)] 1 rfl (by decide)
          have hownA := hown2.alloc (.cells #[.int .u8 ((hexPre x y 2).toNat : Int)] 5)
          have hxA := hx3.alloc hx3.size (.cells #[.int .u8 ((hexPre x y 2).toNat : Int)] 5)
          go_wp2_with (at_builtin
                       refine wpList_append_Own _ rfl (.tmp 40) (.tmp 42) 24 rfl w.heap.size 5 i0 _ 1 1 Try.underlying24 hi hz0 hz1 hz2 rfl (by omega) _ _ _ rfl hownA _ _ _ _ rfl hsrc (by simp [Value.oneCell']) (by simp only [maxLen]; omega) (by omega) (by simp; have := hx3.size; omega) ?_
                       intro v1 w3 hown1 hgr1 hat1
                       have hx4 : Below w.heap.size w w3 := hxA.grown hgr1 hxA.size (fun k hk => (hownA.lt k hk).1))
          go_roundg (gk0 - 1)
          case measure => omega
          case rel =>
            refine ⟨j + 1, by omega, congrArg (Value.int .i64) (by omega), ?_, hx4⟩
            rw [HNX.out, List.map_append]
            exact hown1
    · have hltB : decide (2 * (j : Int) + 1 < (s.size : Int)) = false := by simp; omega
      have hj : j = s.size / 2 := by omega
      have hfin : OwnB wr w.heap.size (.slice A1 j c1) (hexTo l (s.size / 2)) := by
        unfold OwnB
        rw [length_hexTo, ← hj]
        exact hown
      have HF := Lib.hid hfin
      clear hfin hj
      go_wp2_with fail
      go_ret
      exact ⟨_, rfl, HF.out, hx⟩

set_option maxRecDepth 100000 in
theorem sum_abc : Sha.sha256 [97, 98, 99] = hexTo [98, 97, 55, 56, 49, 54, 98, 102, 56, 102, 48, 49, 99, 102, 101, 97, 52, 49, 52, 49, 52, 48, 100, 101, 53, 100, 97, 101, 50, 50, 50, 51, 98, 48, 48, 51, 54, 49, 97, 51, 57, 54, 49, 55, 55, 97, 57, 99, 98, 52, 49, 48, 102, 102, 54, 49, 102, 50, 48, 48, 49, 53, 97, 100] 32 := by decide +kernel
end Go.Proofs.Ytjablgkebpmmhaa
