/-
  Plain law, no program: SHA-256 as the walks of sha and yearref1 come to it. No conditions.
-/
namespace Go.Proofs.Ytfdibjgmbdkbcaa
abbrev Bs := List UInt8
namespace Sha

structure V8 where
  a : UInt32
  b : UInt32
  c : UInt32
  d : UInt32
  e : UInt32
  f : UInt32
  g : UInt32
  h : UInt32

def V8.toList (v : V8) : List UInt32 := [v.a, v.b, v.c, v.d, v.e, v.f, v.g, v.h]

/-- turned right by n (1 to 31) -/
def rotr (x : UInt32) (n : UInt32) : UInt32 := (x <<< (32 - n)) ||| (x >>> n)

def Kc : List UInt32 := [
  1116352408, 1899447441, 3049323471, 3921009573, 961987163, 1508970993,
  2453635748, 2870763221, 3624381080, 310598401, 607225278, 1426881987,
  1925078388, 2162078206, 2614888103, 3248222580, 3835390401, 4022224774,
  264347078, 604807628, 770255983, 1249150122, 1555081692, 1996064986,
  2554220882, 2821834349, 2952996808, 3210313671, 3336571891, 3584528711,
  113926993, 338241895, 666307205, 773529912, 1294757372, 1396182291,
  1695183700, 1986661051, 2177026350, 2456956037, 2730485921, 2820302411,
  3259730800, 3345764771, 3516065817, 3600352804, 4094571909, 275423344,
  430227734, 506948616, 659060556, 883997877, 958139571, 1322822218,
  1537002063, 1747873779, 1955562222, 2024104815, 2227730452, 2361852424,
  2428436474, 2756734187, 3204031479, 3329325298]

def H0 : V8 := ⟨1779033703, 3144134277, 1013904242, 2773480762, 1359893119, 2600822924, 528734635, 1541459225⟩

def word (p q r s : UInt8) : UInt32 := (p.toUInt32 <<< 24) ||| (q.toUInt32 <<< 16) ||| (r.toUInt32 <<< 8) ||| s.toUInt32
/-- word i of a block -/
def wordAt (b : Bs) (i : Nat) : UInt32 := word (b.getD (4 * i) 0) (b.getD (4 * i + 1) 0) (b.getD (4 * i + 2) 0) (b.getD (4 * i + 3) 0)

def sig0 (x : UInt32) : UInt32 := rotr x 7 ^^^ rotr x 18 ^^^ (x >>> 3)
def sig1 (x : UInt32) : UInt32 := rotr x 17 ^^^ rotr x 19 ^^^ (x >>> 10)
def Sig0 (x : UInt32) : UInt32 := rotr x 2 ^^^ rotr x 13 ^^^ rotr x 22
def Sig1 (x : UInt32) : UInt32 := rotr x 6 ^^^ rotr x 11 ^^^ rotr x 25

def nextW (b : Bs) (l : List UInt32) : UInt32 :=
  if l.length < 16 then wordAt b l.length
  else l.getD (l.length - 16) 0 + l.getD (l.length - 7) 0 + sig0 (l.getD (l.length - 15) 0) + sig1 (l.getD (l.length - 2) 0)
/-- the first n words of a block's schedule -/
def sched (b : Bs) : Nat → List UInt32
  | 0 => []
  | n + 1 => sched b n ++ [nextW b (sched b n)]

def t1 (v : V8) (k w : UInt32) : UInt32 := v.h + Sig1 v.e + ((v.e &&& v.f) ^^^ (~~~v.e &&& v.g)) + k + w
def t2 (v : V8) : UInt32 := Sig0 v.a + ((v.a &&& v.b) ^^^ (v.a &&& v.c) ^^^ (v.b &&& v.c))
def round (v : V8) (k w : UInt32) : V8 := ⟨t1 v k w + t2 v, v.a, v.b, v.c, v.d + t1 v k w, v.e, v.f, v.g⟩
/-- the first n rounds -/
def rounds (ws : List UInt32) (v : V8) : Nat → V8
  | 0 => v
  | n + 1 => round (rounds ws v n) (Kc.getD n 0) (ws.getD n 0)

def V8.plus (v x : V8) : V8 := ⟨v.a + x.a, v.b + x.b, v.c + x.c, v.d + x.d, v.e + x.e, v.f + x.f, v.g + x.g, v.h + x.h⟩
def compress (v : V8) (b : Bs) : V8 := v.plus (rounds (sched b 64) v 64)

def blk (m : Bs) (k : Nat) : Bs := (m.drop (64 * k)).take 64
/-- the eight words behind the first k blocks -/
def hAt (m : Bs) : Nat → V8
  | 0 => H0
  | k + 1 => compress (hAt m k) (blk m k)

def be32 (x : UInt32) : Bs := [(x >>> 24).toUInt8, (x >>> 16).toUInt8, (x >>> 8).toUInt8, x.toUInt8]
def be64 (n : UInt64) : Bs := [(n >>> 56).toUInt8, (n >>> 48).toUInt8, (n >>> 40).toUInt8, (n >>> 32).toUInt8, (n >>> 24).toUInt8, (n >>> 16).toUInt8, (n >>> 8).toUInt8, n.toUInt8]
/-- how many noughts -/
def noughts (n : Nat) : Nat := (119 - n % 64) % 64
def padding (n : Nat) : Bs := 128 :: List.replicate (noughts n) 0 ++ be64 (8 * UInt64.ofNat n)
def padded (m : Bs) : Bs := m ++ padding m.length
def out8 (v : V8) : Bs := be32 v.a ++ be32 v.b ++ be32 v.c ++ be32 v.d ++ be32 v.e ++ be32 v.f ++ be32 v.g ++ be32 v.h
def sha256 (m : Bs) : Bs := out8 (hAt (padded m) ((padded m).length / 64))

/-! laws -/
theorem length_sched (b : Bs) (n : Nat) : (sched b n).length = n := by
  induction n with
  | zero => rfl
  | succ n ih => simp [sched, ih]

theorem length_be32 (x : UInt32) : (be32 x).length = 4 := rfl
theorem length_out8 (v : V8) : (out8 v).length = 32 := rfl
theorem length_sha256 (m : Bs) : (sha256 m).length = 32 := rfl

theorem length_padding (n : Nat) : (padding n).length = 9 + noughts n := by simp [padding, be64]; omega
theorem length_padded (m : Bs) : (padded m).length % 64 = 0 := by
  simp only [padded, List.length_append, length_padding, noughts]; omega

theorem blk_append (m r : Bs) (k : Nat) (h : 64 * (k + 1) ≤ m.length) : blk (m ++ r) k = blk m k := by
  unfold blk
  rw [List.drop_append_of_le_length (by omega), List.take_append_of_le_length (by rw [List.length_drop]; omega)]

theorem hAt_append (m r : Bs) (k : Nat) (h : 64 * k ≤ m.length) : hAt (m ++ r) k = hAt m k := by
  induction k with
  | zero => rfl
  | succ k ih => rw [hAt, hAt, ih (by omega), blk_append m r k h]

end Sha
end Go.Proofs.Ytfdibjgmbdkbcaa
