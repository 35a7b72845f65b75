/-
  Cells of answers, of what is shown, of what is done, in slices. Conditions: what is read.
-/
import Derived.Test.YtnfaefgmekfloaaZRepr
import Derived.Test.YtnfaefgmekfloaaZGp
import Derived.Test.YtnfaefgmekfloaaZFleetP
import Derived.Test.YtnfaefgmekfloaaZFleetK
namespace Go.Proofs.Ytnfaefgmekfloaa
open Go.RowKit Go.Lib
/-- an answer in a slice of answers: its cells -/
theorem ans_at {w : World} {F : Nat → Prop} {v : Value} {l : List Ans} (h : RdL w F v l) {j : Nat} (hj : j < l.length) : ∃ b off c u, v = .slice (some ⟨b, off, none⟩) l.length c ∧ F b ∧ b < w.heap.size ∧
    w.cell? ⟨b, off + j * 5, none⟩ = some (.int .i64 (l[j].err : Int)) ∧ w.cell? ⟨b, off + j * 5 + 1, none⟩ = some (.int .i64 l[j].sh) ∧ w.cell? ⟨b, off + j * 5 + 2, none⟩ = some (.int .i64 l[j].pl) ∧ w.cell? ⟨b, off + j * 5 + 3, none⟩ = some (.int .i64 l[j].sz) ∧
    w.cell? ⟨b, off + j * 5 + 4, none⟩ = some u ∧ Bytes w F u l[j].root := by
  obtain ⟨b, off, c, hv, hF, hb, ecs, hr, hc⟩ := h.at_ hj
  obtain ⟨c1, c1', rfl, h1, c2, c2', rfl, h2, c3, c3', rfl, h3, c4, c5, rfl, h4, u, h5', h5⟩ := hr
  have e1 : c1 = [.int .i64 (l[j].err : Int)] := h1
  have e2 : c2 = [.int .i64 l[j].sh] := h2
  have e3 : c3 = [.int .i64 l[j].pl] := h3
  have e4 : c4 = [.int .i64 l[j].sz] := h4
  subst e1 e2 e3 e4 h5'
  exact ⟨b, off, c, u, hv, hF, hb, hc 0 _ rfl, hc 1 _ rfl, hc 2 _ rfl, hc 3 _ rfl, hc 4 _ rfl, rdL_bytes.1 h5⟩
/-- what is shown: its cells -/
theorem shw_open {w : World} {F : Nat → Prop} {cs : List Value} {s : Shw} (hrd : Rp.rd w F cs s) : ∃ AE cE AP cP AR cR AB cB AH cH, cs = [.slice AE s.entry.length cE, .int .i64 s.place, .int .i64 s.shard, .slice AP s.path.length cP, .int .i64 s.rcd.sh, .int .i64 s.rcd.fr, .int .i64 s.rcd.to, .int .i64 s.rcd.sz, .slice AR s.rcd.root.length cR, .int .i64 s.row, .slice AB s.bpath.length cB, .int .i64 s.hsz, .slice AH s.hroot.length cH] ∧
    Bytes w F (.slice AE s.entry.length cE) s.entry ∧ BList w F (.slice AP s.path.length cP) s.path ∧ Bytes w F (.slice AR s.rcd.root.length cR) s.rcd.root ∧ BList w F (.slice AB s.bpath.length cB) s.bpath ∧ Bytes w F (.slice AH s.hroot.length cH) s.hroot := by
  obtain ⟨c1, c1', rfl, ⟨ev, h1', h1⟩, c2, c2', rfl, h2, c3, c3', rfl, h3, c4, c4', rfl, ⟨pv, h4', h4⟩, c5, c5', rfl, ⟨r1, r1', rfl, e1, r2, r2', rfl, e2, r3, r3', rfl, e3, r4, r5, rfl, e4, rv, e5', e5⟩, c6, c6', rfl, h6, c7, c8, rfl, ⟨bpv, h7', h7⟩, k1, k2, rfl, h8, hv2, h9', h9⟩ := hrd
  have e2' : c2 = [.int .i64 s.place] := h2
  have e3' : c3 = [.int .i64 s.shard] := h3
  have f1' : r1 = [.int .i64 s.rcd.sh] := e1
  have f2' : r2 = [.int .i64 s.rcd.fr] := e2
  have f3' : r3 = [.int .i64 s.rcd.to] := e3
  have f4' : r4 = [.int .i64 s.rcd.sz] := e4
  have e6' : c6 = [.int .i64 s.row] := h6
  have e8' : k1 = [.int .i64 s.hsz] := h8
  subst h1' e2' e3' h4' f1' f2' f3' f4' e5' e6' h7' e8' h9'
  have b1 := rdL_bytes.1 h1
  have b4 := rdL_blist.1 h4
  have b5 := rdL_bytes.1 e5
  have b7 := rdL_blist.1 h7
  have b9 := rdL_bytes.1 h9
  obtain ⟨AE, cE, rfl⟩ := b1.form
  obtain ⟨AP, cP, rfl, _, _, _⟩ := b4.shape
  obtain ⟨AR, cR, rfl⟩ := b5.form
  obtain ⟨AB, cB, rfl, _, _, _⟩ := b7.shape
  obtain ⟨AH, cH, rfl⟩ := b9.form
  exact ⟨AE, cE, AP, cP, AR, cR, AB, cB, AH, cH, rfl, b1, b4, b5, b7, b9⟩
theorem dob_rd {w : World} {F : Nat → Prop} (d : Dob) {v : Value} (h : Bytes w F v d.entry) : Rp.rd w F [.int .i64 d.kind, .int .i64 d.n, .int .i64 d.time, v, .int .i64 d.seg, .int .i64 d.pos, bv d.turn] d :=
  ⟨[_], [_, _, _, _, _, _], rfl, rfl, [_], [_, _, _, _, _], rfl, rfl, [_], [_, _, _, _], rfl, rfl, [_], [_, _, _], rfl, ⟨_, rfl, rdL_bytes.2 h⟩, [_], [_, _], rfl, rfl, [_], [_], rfl, rfl, rfl⟩

/-- what is done, in a slice: its cells -/
theorem dob_at {w : World} {F : Nat → Prop} {v : Value} {l : List Dob} (h : RdL w F v l) {j : Nat} (hj : j < l.length) : ∃ b off c A k, v = .slice (some ⟨b, off, none⟩) l.length c ∧ F b ∧ b < w.heap.size ∧
    w.cell? ⟨b, off + j * 7, none⟩ = some (.int .i64 l[j].kind) ∧ w.cell? ⟨b, off + j * 7 + 1, none⟩ = some (.int .i64 l[j].n) ∧ w.cell? ⟨b, off + j * 7 + 2, none⟩ = some (.int .i64 l[j].time) ∧ w.cell? ⟨b, off + j * 7 + 3, none⟩ = some (.slice A l[j].entry.length k) ∧
    w.cell? ⟨b, off + j * 7 + 4, none⟩ = some (.int .i64 l[j].seg) ∧ w.cell? ⟨b, off + j * 7 + 5, none⟩ = some (.int .i64 l[j].pos) ∧ w.cell? ⟨b, off + j * 7 + 6, none⟩ = some (bv l[j].turn) ∧ Bytes w F (.slice A l[j].entry.length k) l[j].entry := by
  obtain ⟨b, off, c, hv, hF, hb, ecs, hr, hc⟩ := h.at_ hj
  obtain ⟨c1, c1', rfl, h1, c2, c2', rfl, h2, c3, c3', rfl, h3, c4, c4', rfl, ⟨u, h4', h4⟩, c5, c5', rfl, h5, c6, c7, rfl, h6, h7⟩ := hr
  have e1 : c1 = [.int .i64 l[j].kind] := h1
  have e2 : c2 = [.int .i64 l[j].n] := h2
  have e3 : c3 = [.int .i64 l[j].time] := h3
  have e5 : c5 = [.int .i64 l[j].seg] := h5
  have e6 : c6 = [.int .i64 l[j].pos] := h6
  have e7 : c7 = [bv l[j].turn] := h7
  subst e1 e2 e3 h4' e5 e6 e7
  have hbt := rdL_bytes.1 h4
  obtain ⟨A, k, rfl⟩ := hbt.form
  exact ⟨b, off, c, A, k, hv, hF, hb, hc 0 _ rfl, hc 1 _ rfl, hc 2 _ rfl, hc 3 _ rfl, hc 4 _ rfl, hc 5 _ rfl, hc 6 _ rfl, hbt⟩
theorem info_dob : (Try.prog.info? 29).map (fun i => (i.zero, i.size, i.bytes)) = some (some (.agg #[.int .i64 0, .int .i64 0, .int .i64 0, .slice none 0 0, .int .i64 0, .int .i64 0, .int .u8 0]), 7, 72) := by kernel_rfl
theorem dobs_snoc {wr w' : World} {B c n : Nat} {e : TypeId} {L : List Dob} {xs : List Value} {d : Dob} {A : Option Addr} {v' : Value} (h2 : ∀ (i : Nat) (a : Dob), L[i]? = some a → ∃ ecs, Rp.rd wr (fun b => b < B) ecs a ∧ ∀ j u, ecs[j]? = some u → xs[i * Rp.sz Dob + j]? = some u)
    (hx : xs.length = L.length * 7) (hb : Below B wr w') (hd : Bytes wr (fun b => b < B) (.slice A n c) d.entry) (hown : Own w' B e 7 v' (L.length + 1) (xs ++ [.int .i64 d.kind, .int .i64 d.n, .int .i64 d.time, .slice A n c, .int .i64 d.seg, .int .i64 d.pos, bv d.turn])) :
    OwnR w' B e (fun b => b < B) v' (L ++ [d]) :=
  OwnR.snoc (fun i a ha => by obtain ⟨ecs, he, hj⟩ := h2 i a ha; exact ⟨ecs, Rp.below_of he hb (fun _ h => h), hj⟩) hx (dob_rd d (SlAt.below_of hd hb (fun _ h => h))) hown
end Go.Proofs.Ytnfaefgmekfloaa
