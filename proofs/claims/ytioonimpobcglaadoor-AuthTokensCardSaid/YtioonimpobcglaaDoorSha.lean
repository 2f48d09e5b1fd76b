/- The compression of a block in plain words: rotations, the schedule of words, the rounds; and the table of constants. Plain: no program in sight. No condition. -/
import Derived.Test.YtioonimpobcglaaDoorLib
set_option linter.unusedSimpArgs false
set_option linter.unusedVariables false
namespace Go.Proofs.YtioonimpobcglaaDoor

/-- A word rotated right by n bits (n from 1 to 31). -/
def rotr (x : UInt32) (n : Nat) : UInt32 := UInt32.ofNat (x.toNat / 2 ^ n + x.toNat % 2 ^ n * 2 ^ (32 - n))

/-- Some rotations of a word, combined. -/
def mixS (ns : List Nat) (x : UInt32) : UInt32 := ns.foldl (fun out n => out ^^^ rotr x n) 0

/-- Word i of a block. -/
def wordB (b : List UInt8) (i : Nat) : UInt32 := UInt32.ofNat (val ((b.drop (4 * i)).take 4))

/-- The word behind those words. -/
def nextW (ws : List UInt32) (i : Nat) : UInt32 :=
  ws.getD (i - 16) 0 + (mixS [7, 18] (ws.getD (i - 15) 0) ^^^ (ws.getD (i - 15) 0 >>> 3)) + ws.getD (i - 7) 0 + (mixS [17, 19] (ws.getD (i - 2) 0) ^^^ (ws.getD (i - 2) 0 >>> 10))

/-- The first k words of a block's schedule. -/
def schedW (b : List UInt8) : Nat → List UInt32
  | 0 => []
  | k + 1 => schedW b k ++ [if k < 16 then wordB b k else nextW (schedW b k) k]

theorem schedW_length (b : List UInt8) (k : Nat) : (schedW b k).length = k := by
  induction k with
  | zero => rfl
  | succ k ih => simp [schedW, ih]

/-- The words are the same, however many follow. -/
theorem schedW_getD (b : List UInt8) (j k m : Nat) (hj : j < k) (hk : k ≤ m) : (schedW b m).getD j 0 = (schedW b k).getD j 0 := by
  induction m with
  | zero => omega
  | succ m ih =>
    by_cases h : k = m + 1
    · subst h; rfl
    · rw [← ih (by omega)]
      simp only [schedW, List.getD]
      rw [List.getElem?_append_left (by rw [schedW_length]; omega)]

theorem schedW_last (b : List UInt8) (k : Nat) : (schedW b (k + 1)).getD k 0 = if k < 16 then wordB b k else nextW (schedW b k) k := by
  simp only [schedW, List.getD]
  rw [List.getElem?_append_right (by rw [schedW_length]; omega), schedW_length]
  simp

/-- Eight words. -/
structure St where
  a : UInt32
  b : UInt32
  c : UInt32
  d : UInt32
  e : UInt32
  f : UInt32
  g : UInt32
  h : UInt32

def St.list (s : St) : List UInt32 := [s.a, s.b, s.c, s.d, s.e, s.f, s.g, s.h]

def St.of (l : List UInt32) : St := ⟨l.getD 0 0, l.getD 1 0, l.getD 2 0, l.getD 3 0, l.getD 4 0, l.getD 5 0, l.getD 6 0, l.getD 7 0⟩

theorem St.of_list (s : St) : St.of s.list = s := rfl

theorem St.list_of (l : List UInt32) (h : l.length = 8) : (St.of l).list = l := by
  match l, h with
  | [_, _, _, _, _, _, _, _], _ => rfl

def tA (v : St) (k w : UInt32) : UInt32 := v.h + mixS [6, 11, 25] v.e + ((v.e &&& v.f) ^^^ (~~~v.e &&& v.g)) + k + w
def tB (v : St) : UInt32 := mixS [2, 13, 22] v.a + ((v.a &&& v.b) ^^^ (v.a &&& v.c) ^^^ (v.b &&& v.c))

/-- A round. -/
def stepR (v : St) (k w : UInt32) : St := ⟨tA v k w + tB v, v.a, v.b, v.c, v.d + tA v k w, v.e, v.f, v.g⟩

def kTab : List UInt32 := [
  0x428a2f98, 0x71374491, 0xb5c0fbcf, 0xe9b5dba5, 0x3956c25b, 0x59f111f1, 0x923f82a4, 0xab1c5ed5,
  0xd807aa98, 0x12835b01, 0x243185be, 0x550c7dc3, 0x72be5d74, 0x80deb1fe, 0x9bdc06a7, 0xc19bf174,
  0xe49b69c1, 0xefbe4786, 0x0fc19dc6, 0x240ca1cc, 0x2de92c6f, 0x4a7484aa, 0x5cb0a9dc, 0x76f988da,
  0x983e5152, 0xa831c66d, 0xb00327c8, 0xbf597fc7, 0xc6e00bf3, 0xd5a79147, 0x06ca6351, 0x14292967,
  0x27b70a85, 0x2e1b2138, 0x4d2c6dfc, 0x53380d13, 0x650a7354, 0x766a0abb, 0x81c2c92e, 0x92722c85,
  0xa2bfe8a1, 0xa81a664b, 0xc24b8b70, 0xc76c51a3, 0xd192e819, 0xd6990624, 0xf40e3585, 0x106aa070,
  0x19a4c116, 0x1e376c08, 0x2748774c, 0x34b0bcb5, 0x391c0cb3, 0x4ed8aa4a, 0x5b9cca4f, 0x682e6ff3,
  0x748f82ee, 0x78a5636f, 0x84c87814, 0x8cc70208, 0x90befffa, 0xa4506ceb, 0xbef9a3f7, 0xc67178f2]

/-- The state after i rounds with these words. -/
def roundsR (ws : List UInt32) (v : St) : Nat → St
  | 0 => v
  | i + 1 => stepR (roundsR ws v i) (kTab.getD i 0) (ws.getD i 0)

def addS (x y : St) : St := ⟨x.a + y.a, x.b + y.b, x.c + y.c, x.d + y.d, x.e + y.e, x.f + y.f, x.g + y.g, x.h + y.h⟩

/-- The state after a block. -/
def compS (s : St) (b : List UInt8) : St := addS s (roundsR (schedW b 64) s 64)

/-- A word as a value. -/
def U32 (x : UInt32) : Value := .int .u32 (x.toNat : Int)

def startS : St := ⟨0x6a09e667, 0xbb67ae85, 0x3c6ef372, 0xa54ff53a, 0x510e527f, 0x9b05688c, 0x1f83d9ab, 0x5be0cd19⟩

/-- The state after the first n blocks of some bytes. -/
def absS (s : St) (b : List UInt8) : Nat → St
  | 0 => s
  | n + 1 => compS (absS s b n) ((b.drop (64 * n)).take 64)

/-- The bytes behind n bytes, before the last block. -/
def padB (n : Nat) : List UInt8 := 128 :: List.replicate ((119 - n % 64) % 64) 0 ++ numB' (8 * n)
  where numB' (m : Nat) : List UInt8 := [UInt8.ofNat (m / 256 ^ 7), UInt8.ofNat (m / 256 ^ 6), UInt8.ofNat (m / 256 ^ 5), UInt8.ofNat (m / 256 ^ 4), UInt8.ofNat (m / 256 ^ 3), UInt8.ofNat (m / 256 ^ 2), UInt8.ofNat (m / 256), UInt8.ofNat m]

def outW (x : UInt32) : List UInt8 := [UInt8.ofNat (x.toNat / 16777216), UInt8.ofNat (x.toNat / 65536), UInt8.ofNat (x.toNat / 256), UInt8.ofNat x.toNat]

def outS (s : St) : List UInt8 := s.list.flatMap outW

def shaB (b : List UInt8) : List UInt8 := outS (absS startS (b ++ padB b.length) ((b.length + 72) / 64))

set_option maxRecDepth 100000 in
theorem sha_abc : shaB [97, 98, 99] = [0xba, 0x78, 0x16, 0xbf, 0x8f, 0x01, 0xcf, 0xea, 0x41, 0x41, 0x40, 0xde, 0x5d, 0xae, 0x22, 0x23, 0xb0, 0x03, 0x61, 0xa3, 0x96, 0x17, 0x7a, 0x9c, 0xb4, 0x10, 0xff, 0x61, 0xf2, 0x00, 0x15, 0xad] := by decide +kernel
end Go.Proofs.YtioonimpobcglaaDoor
