/-
  THE WALKS of yearlaw1.alive, ShaParts, ShaAgain. Conditions: what comes in is read as bytes.
-/
import Derived.Test.YtjablgkebpmmhaaHex
import Derived.Lib.SlBytesConst
import Derived.Test.YtjablgkebpmmhaaMem2
namespace Go.Proofs.Ytjablgkebpmmhaa
open Go.RowKit

theorem Bytes.const (w : World) (e : TypeId) (fr : Nat × Nat) (l : Bs) (n : Nat) (hn : l.length = n) (hm : n ≤ maxLen) (cs : Array Value) (hcs : cs = (l.map bv).toArray) :
    Bytes (w.alloc (.cells cs e fr)) (fun k => w.heap.size ≤ k) (.slice (some ⟨w.heap.size, 0, none⟩) n n) l := by
  subst hn hcs
  refine ⟨_, _, rfl, Nat.le_refl _, hm, by simp, fun _ => ⟨w.heap.size, 0, rfl, Nat.le_refl _, by simp, fun j u hu => ?_⟩⟩
  rw [Nat.zero_add, World.cell?_alloc_mark, List.getElem?_toArray]
  exact hu

set_option maxRecDepth 100000 in
set_option maxHeartbeats 1000000 in
theorem alive1 (w : World) : Calls Try.prog 13 #[] w fun e w' => e = .returned (.bool true) ∧ Below w.heap.size w w' := by
  have kc := fun (w : World) (C : Array Value) (n c : Nat) => Lib.run_convert_bytes_const (P := Try.prog) w 24 5 C n c Try.underlying24 Try.underlying5
  go_enter Try.func13, Try.ntmps13
  go_wp2_with fail
  refine (sum_any _ _ _ [97, 98, 99] (Bytes.const w 5 (3, 4) [97, 98, 99] 3 rfl (by decide) _ rfl) (by decide)).mono ?_
  rintro e w1 ⟨v1, rfl, hown1, hx1⟩
  have hxa : Below w.heap.size w w1 := ((Below.refl _ w).alloc (Nat.le_refl _) _).trans (hx1.mono (by simp))
  clear hx1
  go_wp2_with fail
  refine (hex_any w1 _ _ rfl (by decide)).mono ?_
  rintro e w2 ⟨v2, rfl, hown2, hx2⟩
  have hb1 := hown1.bytes.below hx2
  have hxb := hxa.trans (hx2.mono hxa.size)
  go_wp2_with fail
  refine (same_any w2 _ _ v1 v2 _ _ hb1 hown2.bytes).mono ?_
  rintro e w3 ⟨rfl, n, rfl⟩
  go_wp2_with fail
  go_ret
  exact ⟨congrArg (fun b => Ending.returned (.bool b)) (by rw [beq_iff_eq]; exact sum_abc), below_drewN hxb n⟩

set_option maxRecDepth 100000 in
set_option maxHeartbeats 1000000 in
theorem shaParts_walk (w : World) (F : Nat → Prop) (v : Value) (ll : List Bs) (hl : BList w F v ll) :
    Calls Try.prog 3 #[v] w fun e w' => e = .returned (.bool true) ∧ Below w.heap.size w w' := by
  obtain ⟨i0, hi, hz0, hz1, hz2⟩ := info_parts info_u8
  obtain ⟨A, c, hv⟩ := hl.form
  subst hv
  have hn63 : ll.length ≤ 9223372036854775807 := by
    obtain ⟨vs, ⟨A', c', hv, h1, h2, _⟩, _⟩ := hl
    unfold maxLen at h2
    omega
  go_enter Try.func3, Try.ntmps3
  go_wp2_with fail
  refine (alive1 w).mono ?_
  rintro e w1 ⟨rfl, hx1⟩
  go_wp2_with fail
  go_loopg [3, 10] ll.length (fun k v i wr => ∃ (j : Nat) (all : Bs), j + k = ll.length ∧ Hid (all = (ll.take j).flatten) ∧ i = .int .i64 (j : Int) ∧ OwnB wr w.heap.size v all ∧ all.length ≤ 1048576 ∧ Below w.heap.size w wr)
  case atStart => exact ⟨0, [], by omega, Lib.hid rfl, rfl, Own.nil_ _ _ _ _, by simp, hx1⟩
  case round =>
    clear hx1
    obtain ⟨j, all, hj, HALL, rfl, hown, hle, hx⟩ := hrel
    obtain ⟨A1, c1, hv1, hac1, hcm1⟩ := Own.shape hown
    subst hv1
    unfold maxLen at hcm1
    by_cases hlt : j < ll.length
    · obtain ⟨b, off, u, hA, hc, _, hb, hub⟩ := hl.at_ hlt
      subst hA
      obtain ⟨A2, c2, hv2, hac2, hcm2⟩ := hub.form'
      subst hv2
      unfold maxLen at hcm2
      have hc' := (hx.cell (p := ⟨b, off + j, none⟩) hb).trans hc
      have hltB : (j : Int) < (ll.length : Int) := by omega
      have hub' : Bytes wr (fun k => k < w.heap.size) _ ll[j] := ((hub.weak (F' := fun k => k < w.heap.size) (fun k hk _ => hk))).below_of hx (fun _ h => h)
      have hs := flatten_take_succ ll j ll[j] (List.getElem?_eq_getElem hlt)
      have HS := Lib.hid hs
      clear hs hc
      generalize ll[j] = x at *
      by_cases hbig : 1048576 - (all.length : Int) < (x.length : Int)
      · go_wp2_with fail
        go_ret
        exact ⟨rfl, hx⟩
      · have hbigB : decide (1048576 - (all.length : Int) < (x.length : Int)) = false := by simp; omega
        unfold OwnB at hown
        go_wp2_with (at_builtin
                     refine wpList_append_Own _ rfl (.tmp 20) (.tmp 21) 24 rfl w.heap.size 5 i0 _ 1 1 Try.underlying24 hi hz0 hz1 hz2 rfl (by omega) _ _ _ rfl hown _ _ _ _ rfl hub' (map_oneCell x) (by simp only [maxLen]; omega) (by omega) hx.size ?_
                     intro v1 w2 hown1 hgr1 hat1
                     have hx2 : Below w.heap.size w w2 := hx.grown hgr1 hx.size (fun k hk => (hown.lt k hk).1))
        go_roundg (gk - 1)
        case measure => omega
        case rel =>
          refine ⟨j + 1, all ++ x, by omega, Lib.hid (by rw [HS.out, HALL.out]), by go_num, ?_, by rw [List.length_append]; omega, hx2⟩
          unfold OwnB
          rw [List.map_append, List.length_append]
          exact hown1
    · have hltB : decide ((j : Int) < (ll.length : Int)) = false := by simp; omega
      have hall : all = ll.flatten := by rw [HALL.out, List.take_of_length_le (by omega)]
      have hl' : BList wr (fun k => k < w.heap.size) (.slice A ll.length c) ll :=
        (hl.weak (F' := fun k => k < w.heap.size) (fun k hk _ => hk)).map_ fun v n xs h => h.below_of hx (fun _ h => h)
      have hlen : ll.flatten.length ≤ 140737488355200 := by rw [← hall]; omega
      have HA := Lib.hid hall
      have HL := Lib.hid hlen
      clear hall hlen
      go_wp2_with fail
      refine (parts_any wr _ _ ll hl' HL.out).mono ?_
      rintro e w2 ⟨v2, rfl, hown2, hx2⟩
      have hxa := hx.trans (hx2.mono hx.size)
      have hb1 := hown.bytes.below hx2
      go_wp2_with fail
      refine (sum_any w2 _ _ all hb1 (by omega)).mono ?_
      rintro e w3 ⟨v3, rfl, hown3, hx3⟩
      have hxb := hxa.trans (hx3.mono hxa.size)
      have hb2 := hown2.bytes.below hx3
      go_wp2_with fail
      refine (same_any w3 _ _ v2 v3 _ _ hb2 hown3.bytes).mono ?_
      rintro e w4 ⟨rfl, n, rfl⟩
      go_wp2_with fail
      go_ret
      exact ⟨congrArg (fun b => Ending.returned (.bool b)) (by rw [beq_iff_eq, HA.out]), below_drewN hxb n⟩

set_option maxRecDepth 100000 in
set_option maxHeartbeats 1000000 in
theorem shaAgain_walk (w : World) (F : Nat → Prop) (v : Value) (l : Bs) (hl : Bytes w F v l) (hlen : l.length ≤ 140737488355200) :
    Calls Try.prog 5 #[v] w fun e w' => e = .returned (.bool true) ∧ Below w.heap.size w w' := by
  obtain ⟨i0, hi, hz0, hz1, hz2⟩ := info_parts info_u8
  obtain ⟨A, c, hv⟩ := hl.form
  subst hv
  have hl0 : Bytes w (fun k => k < w.heap.size) (.slice A l.length c) l := hl.weak fun k hk _ => hk
  have hd := Sha.length_sha256 l
  generalize hdd : Sha.sha256 l = d at *
  have HDD := Lib.hid hdd
  have hd32 : (32 : Nat) = d.length := hd.symm
  have HD := Lib.hid hd
  clear hdd hd
  go_enter Try.func5, Try.ntmps5
  go_wp2_with fail
  refine (alive1 w).mono ?_
  rintro e w1 ⟨rfl, hx1⟩
  have hl1 := hl0.below_of hx1 (fun _ h => h)
  go_wp2_with fail
  refine (sum_any w1 _ _ l hl1 hlen).mono ?_
  rintro e w2 ⟨v2, rfl, hown2, hx2⟩
  have hxa := hx1.trans (hx2.mono hx1.size)
  rw [HDD.out] at hown2
  unfold OwnB at hown2
  rw [HD.out] at hown2
  obtain ⟨gx, off, cx, hv2, hgx, hgx2, hcx, hcx2, _⟩ := hown2.form (by decide)
  subst hv2
  unfold maxLen at hcx2
  have hxb := hxa.alloc hxa.size (.cells #[] 5)
  have hownY : Own (w2.alloc (.cells #[] 5)) w2.heap.size 5 1 (.slice (some ⟨w2.heap.size, 0, none⟩) 0 0) 0 [] := Own.new w2 _ _ [] 0 rfl (by decide) (Nat.le_refl _)
  have hown2' := hown2.alloc (.cells #[] 5)
  have hsrc := hown2'.slAt (F := fun _ => True) (fun _ _ => trivial)
  clear hd32
  go_wp2_with (at_builtin
               refine wpList_append_Own _ rfl (.tmp 10) (.tmp 11) 24 rfl w2.heap.size 5 i0 _ 1 1 Try.underlying24 hi hz0 hz1 hz2 rfl (by omega) _ _ _ rfl hownY _ _ _ _ rfl hsrc (map_oneCell d) (by decide) (by omega) (by simp) ?_
               intro v3 w3 hown3 hgr3 hat3
               have hx3 : Below w.heap.size w w3 := hxb.grown hgr3 hxb.size (fun k hk => Nat.le_trans hxa.size (hownY.lt k hk).1)
               have hown2b := hown2'.keep (w' := w3) (fun k hk hlt _ => hgr3.block k hlt (fun e => by
                 have h1 : gx = k := by simpa [Value.ownBlock] using hk
                 have h2 := (hownY.lt k e.symm).1
                 omega))
               obtain ⟨A3, c3, hv3, hac3, hcm3⟩ := hown3.shape
               subst hv3)
  have hwy : Own w3 w2.heap.size 5 1 (.slice A3 32 c3) 32 (d.map bv) := hown3
  clear hown3 hgr3 hat3 hsrc hown2 hown2' hownY
  go_loopg [15] 32 (fun k i wr => ∃ (j : Nat) (x : Bs), j + k = 32 ∧ i = .int .i64 (j : Int) ∧ Hid (x.length = 32) ∧ Own wr w1.heap.size 5 1 (.slice (some ⟨gx, off, none⟩) 32 cx) 32 (x.map bv) ∧ Own wr w2.heap.size 5 1 (.slice A3 32 c3) 32 (d.map bv) ∧ Below w.heap.size w wr)
  case atStart => exact ⟨0, d, rfl, rfl, HD, hown2b, hwy, hx3⟩
  case round =>
    clear hown2b hwy hx3
    obtain ⟨j, x, hj, rfl, HX, hox, hoy, hx⟩ := hrel
    by_cases hlt : j < 32
    · have hltB : (j : Int) < 32 := by omega
      have hjx : j < x.length := by rw [HX.out]; exact hlt
      obtain ⟨hc, hf⟩ := hox.at_ (j := j) (u := bv x[j]) (by rw [List.getElem?_map, List.getElem?_eq_getElem hjx]; rfl)
      unfold bv at hc
      have hset := hox.set_ j (.int .u8 ((((x[j]).toNat : Int) + 1) % 256))
      have hoy2 := hoy.setCell (p := ⟨gx, off + j, none⟩) (fun e => by have := (hoy.lt gx e).1; omega) (.int .u8 ((((x[j]).toNat : Int) + 1) % 256))
      have hx2' := hx.setCell (p := ⟨gx, off + j, none⟩) (Nat.le_trans hx1.size hgx) (.int .u8 ((((x[j]).toNat : Int) + 1) % 256))
      have hval : (.int .u8 ((((x[j]).toNat : Int) + 1) % 256) : Value) = bv (x[j] + 1) := by
        unfold bv
        rw [UInt8.toNat_add, show UInt8.toNat 1 = 1 from rfl]
        congr 1
      have hxs : (x.map bv).set j (.int .u8 ((((x[j]).toNat : Int) + 1) % 256)) = (x.set j (x[j] + 1)).map bv := by rw [hval, List.map_set]
      rw [hxs] at hset
      have hxb : ((x[j]).toNat : Int) < 256 := by have := (x[j]).toNat_lt; omega
      generalize x[j] = xj at *
      have hlx : Hid ((x.set j (xj + 1)).length = 32) := Lib.hid (by rw [List.length_set]; exact HX.out)
      clear hval hxs hjx
      go_wp2_with fail
      go_roundg (gk - 1)
      case measure => omega
      case rel => exact ⟨j + 1, _, by omega, by go_num, hlx, hset, hoy2, hx2'⟩
    · have hltB : decide ((j : Int) < 32) = false := by simp; omega
      have hl3 := hl0.below_of hx (fun _ h => h)
      go_wp2_with fail
      refine (sum_any wr _ _ l hl3 hlen).mono ?_
      rintro e w4 ⟨v4, rfl, hown4, hx4⟩
      rw [HDD.out] at hown4
      have hxc := hx.trans (hx4.mono hx.size)
      have hby : Bytes wr (fun _ => True) (.slice A3 32 c3) d := by
        have h := hoy.slAt (F := fun _ => True) (fun _ _ => trivial)
        unfold Bytes
        rw [HD.out]
        exact h
      have hby2 := hby.below hx4
      go_wp2_with fail
      refine (same_any w4 _ _ v4 _ _ _ hown4.bytes hby2).mono ?_
      rintro e w5 ⟨rfl, n, rfl⟩
      go_wp2_with fail
      go_ret
      exact ⟨rfl, below_drewN hxc n⟩
end Go.Proofs.Ytjablgkebpmmhaa
