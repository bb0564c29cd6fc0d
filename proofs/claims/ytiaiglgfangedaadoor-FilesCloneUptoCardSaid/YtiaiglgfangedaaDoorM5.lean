/- SHA-256, as mathematics: words, the rounds, a block taken in, the sum of bytes. -/
import Derived.Test.YtiaiglgfangedaaDoorM1
set_option linter.unusedVariables false
set_option linter.unusedSimpArgs false
set_option linter.unusedSectionVars false
namespace Go.Isk
abbrev Wd := UInt32
def shlN (x : UInt32) (n : Nat) : UInt32 := UInt32.ofNat (x.toNat * 2 ^ n)
def shrN (x : UInt32) (n : Nat) : UInt32 := UInt32.ofNat (x.toNat / 2 ^ n)
def b2w (c : UInt8) : UInt32 := UInt32.ofNat c.toNat
def rotr (x : UInt32) (n : Nat) : UInt32 := shlN x (32 - n) ||| shrN x n
def shaK : List UInt32 := [
  0x428a2f98, 0x71374491, 0xb5c0fbcf, 0xe9b5dba5, 0x3956c25b, 0x59f111f1, 0x923f82a4, 0xab1c5ed5,
  0xd807aa98, 0x12835b01, 0x243185be, 0x550c7dc3, 0x72be5d74, 0x80deb1fe, 0x9bdc06a7, 0xc19bf174,
  0xe49b69c1, 0xefbe4786, 0x0fc19dc6, 0x240ca1cc, 0x2de92c6f, 0x4a7484aa, 0x5cb0a9dc, 0x76f988da,
  0x983e5152, 0xa831c66d, 0xb00327c8, 0xbf597fc7, 0xc6e00bf3, 0xd5a79147, 0x06ca6351, 0x14292967,
  0x27b70a85, 0x2e1b2138, 0x4d2c6dfc, 0x53380d13, 0x650a7354, 0x766a0abb, 0x81c2c92e, 0x92722c85,
  0xa2bfe8a1, 0xa81a664b, 0xc24b8b70, 0xc76c51a3, 0xd192e819, 0xd6990624, 0xf40e3585, 0x106aa070,
  0x19a4c116, 0x1e376c08, 0x2748774c, 0x34b0bcb5, 0x391c0cb3, 0x4ed8aa4a, 0x5b9cca4f, 0x682e6ff3,
  0x748f82ee, 0x78a5636f, 0x84c87814, 0x8cc70208, 0x90befffa, 0xa4506ceb, 0xbef9a3f7, 0xc67178f2]
def shaH0 : List UInt32 := [0x6a09e667, 0xbb67ae85, 0x3c6ef372, 0xa54ff53a, 0x510e527f, 0x9b05688c, 0x1f83d9ab, 0x5be0cd19]
def lowS (x : UInt32) : UInt32 := rotr x 7 ^^^ rotr x 18 ^^^ shrN x 3
def highS (x : UInt32) : UInt32 := rotr x 17 ^^^ rotr x 19 ^^^ shrN x 10
/-- four bytes as a word -/
def be32 (m : Bytes) (i : Nat) : UInt32 := shlN (b2w (m.getD i 0)) 24 ||| shlN (b2w (m.getD (i + 1) 0)) 16 ||| shlN (b2w (m.getD (i + 2) 0)) 8 ||| b2w (m.getD (i + 3) 0)
/-- the schedule's words -/
def schW (m : Bytes) (t : Nat) : UInt32 :=
  if t < 16 then be32 m (4 * t) else schW m (t - 16) + lowS (schW m (t - 15)) + schW m (t - 7) + highS (schW m (t - 2))
termination_by t
decreasing_by all_goals omega
structure S8 where
  a : UInt32
  c : UInt32
  d : UInt32
  e : UInt32
  f : UInt32
  g : UInt32
  h : UInt32
  i : UInt32
def S8.list (s : S8) : List UInt32 := [s.a, s.c, s.d, s.e, s.f, s.g, s.h, s.i]
def oneW (s : S8) (k w : UInt32) : UInt32 := s.i + (rotr s.f 6 ^^^ rotr s.f 11 ^^^ rotr s.f 25) + (s.f &&& s.g ^^^ (4294967295 ^^^ s.f) &&& s.h) + k + w
def twoW (s : S8) : UInt32 := (rotr s.a 2 ^^^ rotr s.a 13 ^^^ rotr s.a 22) + (s.a &&& s.c ^^^ s.a &&& s.d ^^^ s.c &&& s.d)
def rnd (s : S8) (k w : UInt32) : S8 := ⟨oneW s k w + twoW s, s.a, s.c, s.d, s.e + oneW s k w, s.f, s.g, s.h⟩
/-- the first t rounds -/
def rnds (m : Bytes) (s : S8) : Nat → S8
  | 0 => s
  | t + 1 => rnd (rnds m s t) (shaK.getD t 0) (schW m t)
def S8.add (s t : S8) : S8 := ⟨s.a + t.a, s.c + t.c, s.d + t.d, s.e + t.e, s.f + t.f, s.g + t.g, s.h + t.h, s.i + t.i⟩
/-- a block taken in -/
def mixB (s : S8) (m : Bytes) : S8 := s.add (rnds m s 64)
/-- blocks taken in, n of them -/
def mixN (s : S8) (m : Bytes) : Nat → S8
  | 0 => s
  | n + 1 => mixB (mixN s m n) ((m.drop (64 * n)).take 64)
def s0 : S8 := ⟨0x6a09e667, 0xbb67ae85, 0x3c6ef372, 0xa54ff53a, 0x510e527f, 0x9b05688c, 0x1f83d9ab, 0x5be0cd19⟩
/-- how many bytes of noughts stand behind the 128 -/
def padZ (n : Nat) : Nat := (119 - n % 64) % 64
/-- the i-th byte from below -/
def byN (n i : Nat) : UInt8 := UInt8.ofNat (n / 2 ^ (8 * i))
def be64 (n : Nat) : Bytes := [byN n 7, byN n 6, byN n 5, byN n 4, byN n 3, byN n 2, byN n 1, byN n 0]
def padB (b : Bytes) : Bytes := b ++ 128 :: List.replicate (padZ b.length) 0 ++ be64 (b.length * 8)
def outW (x : UInt32) : Bytes := [byN x.toNat 3, byN x.toNat 2, byN x.toNat 1, byN x.toNat 0]
def outS (s : S8) : Bytes := (s.list.map outW).flatten
def shaB (b : Bytes) : Bytes := outS (mixN s0 (padB b) ((b.length + 72) / 64))
def leafB (b : Bytes) : Bytes := shaB (0 :: b)
def nodeB (a c : Bytes) : Bytes := shaB (1 :: (a ++ c))
/-- the schedule's first words, and noughts -/
def schL (m : Bytes) (i : Nat) : List UInt32 := (List.range i).map (schW m) ++ List.replicate (64 - i) 0
def addL (s q : S8) (i : Nat) : List UInt32 := (s.add q).list.take i ++ s.list.drop i
/-- the last block or two: what is left of the bytes, 128, noughts, how many bits -/
def tailL (r : Bytes) (size : Nat) (n : Nat) : Bytes := r ++ 128 :: List.replicate (size - r.length - 9) 0 ++ be64 n
/-- .. while its last eight bytes are laid, i of them -/
def tailI (r : Bytes) (size n i : Nat) : Bytes := r ++ 128 :: List.replicate (size - r.length - 1 - i) 0 ++ (be64 n).drop (8 - i) ++ List.replicate (128 - size) 0
/-- the bytes of a state, some of them laid -/
def outI (s : S8) (i : Nat) : Bytes := (outS s).take i ++ List.replicate (32 - i) 0
end Go.Isk
