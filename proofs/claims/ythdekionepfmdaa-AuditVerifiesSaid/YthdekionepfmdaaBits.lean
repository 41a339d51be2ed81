/- Words of 64 bits and bytes: what the model's operations on whole numbers come to. Plain theorems. -/
import Derived.Test.YthdekionepfmdaaMix
import Derived.Laws.BitsAllLaws
set_option linter.unusedVariables false
set_option linter.unusedSimpArgs false
namespace Go.Proofs.Ythdekionepfmdaa
open Go.RowKit

theorem u64_lt (x : UInt64) : x.toNat < 18446744073709551616 := x.toNat_lt
/-! The operations under names of their own, into which the walk's simp does not look. -/
def xorU (a b : UInt64) : UInt64 := a ^^^ b
def orU (a b : UInt64) : UInt64 := a ||| b
def addU (a b : UInt64) : UInt64 := a + b
def subU (a b : UInt64) : UInt64 := a - b
def shlU (a : UInt64) (s : Nat) : UInt64 := a <<< UInt64.ofNat s
def shrU (a : UInt64) (s : Nat) : UInt64 := a >>> UInt64.ofNat s
def ofB (b : UInt8) : UInt64 := b.toUInt64
def toB (a : UInt64) : UInt8 := a.toUInt8
def xorB (a b : UInt8) : UInt8 := a ^^^ b
theorem bx64 (a b : UInt64) : bits BinOp.xor IntKind.u64 (a.toNat : Int) (b.toNat : Int) = ((xorU a b).toNat : Int) := by
  rw [u64_xor_nat _ _ (u64_lt a) (u64_lt b), xorU, UInt64.toNat_xor]
theorem bo64 (a b : UInt64) : bits BinOp.or IntKind.u64 (a.toNat : Int) (b.toNat : Int) = ((orU a b).toNat : Int) := by
  rw [u64_or_nat _ _ (u64_lt a) (u64_lt b), orU, UInt64.toNat_or]
theorem bo64b (a : UInt64) (b : UInt8) : bits BinOp.or IntKind.u64 (a.toNat : Int) (b.toNat : Int) = ((orU a (ofB b)).toNat : Int) := by
  have h : (b.toNat : Int) = ((ofB b).toNat : Int) := by rw [ofB, UInt8.toNat_toUInt64]
  rw [h, bo64]
theorem w64_8 (b : UInt8) : IntKind.u64.wrap (b.toNat : Int) = ((ofB b).toNat : Int) := by
  have h : b.toNat < 256 := b.toNat_lt
  rw [IntKind.wrap_u64, ofB, UInt8.toNat_toUInt64]; omega
theorem wa64 (a b : UInt64) : IntKind.u64.wrap ((a.toNat : Int) + (b.toNat : Int)) = ((addU a b).toNat : Int) := by
  rw [IntKind.wrap_u64, addU, UInt64.toNat_add]; omega
theorem ws64 (a b : UInt64) : IntKind.u64.wrap ((a.toNat : Int) - (b.toNat : Int)) = ((subU a b).toNat : Int) := by
  have ha := u64_lt a
  have hb := u64_lt b
  rw [IntKind.wrap_u64, subU, UInt64.toNat_sub]; omega
theorem shl64 (a : UInt64) (s : Nat) (hs : s < 64) : IntKind.u64.wrap ((a.toNat : Int) * 2 ^ s) = ((shlU a s).toNat : Int) := by
  rw [IntKind.wrap_u64, shlU, UInt64.toNat_shiftLeft]
  have h1 : (UInt64.ofNat s).toNat % 64 = s := by rw [UInt64.toNat_ofNat']; omega
  rw [h1, Nat.shiftLeft_eq]
  have : ((a.toNat * 2 ^ s : Nat) : Int) = (a.toNat : Int) * 2 ^ s := by rw [Int.natCast_mul, Int.natCast_pow]; rfl
  rw [← this]
  omega
theorem shr64 (a : UInt64) (s : Nat) (hs : s < 64) : (a.toNat : Int) / 2 ^ s = ((shrU a s).toNat : Int) := by
  rw [shrU, UInt64.toNat_shiftRight]
  have h1 : (UInt64.ofNat s).toNat % 64 = s := by rw [UInt64.toNat_ofNat']; omega
  rw [h1, Nat.shiftRight_eq_div_pow]
  have : ((2 ^ s : Nat) : Int) = 2 ^ s := by rw [Int.natCast_pow]; rfl
  rw [← this]
  rfl
theorem w8_64 (a : UInt64) : IntKind.u8.wrap (a.toNat : Int) = ((toB a).toNat : Int) := by
  rw [IntKind.wrap_u8, toB, UInt64.toNat_toUInt8]; omega
theorem bx8 (a b : UInt8) : bits BinOp.xor IntKind.u8 (a.toNat : Int) (b.toNat : Int) = ((xorB a b).toNat : Int) := by
  have ha : a.toNat < 256 := a.toNat_lt
  have hb : b.toNat < 256 := b.toNat_lt
  rw [u8_xor_nat _ _ ha hb, xorB, UInt8.toNat_xor]

/-! ### The cipher, plainly -/
def rotl (x : UInt64) (n : Nat) : UInt64 := orU (shlU x n) (shrU x (64 - n))
def roundX (p : UInt64 × UInt64) (k : UInt64) : UInt64 := xorU (addU (rotl p.1 56) p.2) k
def roundF (p : UInt64 × UInt64) (k : UInt64) : UInt64 × UInt64 := (roundX p k, xorU (rotl p.2 3) (roundX p k))
def backY (p : UInt64 × UInt64) : UInt64 := rotl (xorU p.1 p.2) 61
def backF (p : UInt64 × UInt64) (k : UInt64) : UInt64 × UInt64 := (rotl (subU (xorU p.1 k) (backY p)) 8, backY p)
def wordL (l : List UInt8) : UInt64 := l.foldl (fun n b => orU (shlU n 8) (ofB b)) 0
def wordsK (k : Key) : UInt64 × UInt64 := (wordL (k.toList.take 8), wordL (k.toList.drop 8))
def bytes8 (x : UInt64) : List UInt8 := (List.range 8).map fun i => toB (shrU x (56 - 8 * i))
def blockK (p : UInt64 × UInt64) : Key := ⟨(bytes8 p.1 ++ bytes8 p.2).toArray, by simp [bytes8]⟩
/-- The state of the key schedule after i rounds: its second word is the round key. -/
def keyAt (k : Key) : Nat → UInt64 × UInt64
  | 0 => wordsK k
  | i + 1 => roundF (keyAt k i) (UInt64.ofNat i)
def keyList (k : Key) : List UInt64 := (List.range 32).map fun i => (keyAt k i).2
def encryptK (k b : Key) : Key := blockK ((keyList k).foldl roundF (wordsK b))
def decryptK (k b : Key) : Key := blockK ((keyList k).reverse.foldl backF (wordsK b))
def blockOfK (tag : UInt8) (counter n : UInt64) : Key := blockK (orU (shlU (ofB tag) 56) counter, n)
def deriveK (k : Key) (tag : UInt8) (n : UInt64) : Key := encryptK k (blockOfK tag 0 n)
def xorK (a b : Key) : Key := Vector.ofFn fun i => xorB a[i] b[i]
abbrev pairC (p : UInt64 × UInt64) : Array Value := #[.int .u64 p.1.toNat, .int .u64 p.2.toNat]
abbrev pairV (p : UInt64 × UInt64) : Value := .agg #[.int .u64 p.1.toNat, .int .u64 p.2.toNat]
end Go.Proofs.Ythdekionepfmdaa
