/- The split of a list: bits.Len, split, the reference's Split. -/
import Derived.Test.YthdekionepfmdaaDgc
set_option linter.unusedVariables false
set_option linter.unusedSimpArgs false
set_option maxRecDepth 8000
namespace Go.Proofs.Ythdekionepfmdaa
open Go.RowKit

/-- How many binary digits a number has. -/
def lenN (n : Nat) : Nat := if n = 0 then 0 else Nat.log2 n + 1
def tab8 : ByteArray := ⟨((List.range 256).map fun x => UInt8.ofNat (lenN x)).toArray⟩
theorem lenN_le : ∀ n, n < 256 → lenN n ≤ 8 := by
  have h : (List.range 256).all (fun n => decide (lenN n ≤ 8)) = true := by decide +kernel
  intro n hn
  exact of_decide_eq_true (List.all_eq_true.1 h n (List.mem_range.2 hn))
theorem tab8_at (n : Nat) (hn : n < 256) : tab8[n]? = some (UInt8.ofNat (lenN n)) := by
  have h : (List.range 256).all (fun n => decide (tab8[n]? = some (UInt8.ofNat (lenN n)))) = true := by decide +kernel
  exact of_decide_eq_true (List.all_eq_true.1 h n (List.mem_range.2 hn))
section
variable {P : Program} {ops : Array Oper} {rest : List Oper} {a : Act} {Q : Exit → Act → World → Prop} {W : World} {dst : Option Tmp} {tt : TypeId} {ps : String} {af : Array Edge}
theorem wl_tab (t : TypeId) (x i : Operand) (s : ByteArray) (k : IntKind) (n : Nat) (ht : P.underlying t = some .string) (hx : a.eval x = .string s) (hs : s = tab8) (hi : a.eval i = .int k (n : Int)) (hn : n < 256)
    (h : wpList P ops Q rest (a.put dst (.int .u8 (lenN n : Nat))) W) : wpList P ops Q (Oper.mk dst (.index t x i) tt ps af none :: rest) a W := by
  subst hs
  have hb : (UInt8.ofNat (lenN n)).toNat = lenN n := by rw [UInt8.toNat_ofNat']; have := lenN_le n hn; omega
  refine wpList_plain rfl fun K hK => ?_
  unfold Oper.wp execOp
  simp only [Instr.index, hx, hi, asIntOf, Sem.run_bind, Sem.run_pure, Result.andThen_ok, run_underlying ht, Int.toNat_natCast, tab8_at n hn, hb, if_pos (show (0 : Int) ≤ (n : Int) by omega)]
  exact hK _ _ h
end

set_option maxHeartbeats 400000 in
theorem len64_c (x : Nat) (hx : x < 256) (w : World) :
    Calls Try.prog 152 #[.int .u64 (x : Int)] w fun e w' => e = .returned (.int .i64 (lenN x : Nat)) ∧ Mem w w' [] := by
  have HM := Mem.start w
  have h1 : ¬ (4294967296 : Int) ≤ (x : Int) := by omega
  have h2 : ¬ (65536 : Int) ≤ (x : Int) := by omega
  have h3 : ¬ (256 : Int) ≤ (x : Int) := by omega
  have h4 : (x : Int) % 256 = (x : Int) := by omega
  have h5 := lenN_le x hx
  have h6 : IntKind.i64.wrap ((lenN x : Nat) : Int) = ((lenN x : Nat) : Int) := by rw [IntKind.wrap_i64]; omega
  go_enter Try.func152, Try.ntmps152
  go_wp2_with (first
    | ((with_reducible refine s_ 22 ?_); go_must ((refine wl_tab (dst := some 22) _ _ _ _ _ x Try.underlying9 rfl (by kernel_rfl) rfl hx ?_))))
  refine ret1 rfl (res_tmp rfl) rfl ?_
  exact ⟨rfl, HM⟩

set_option maxHeartbeats 400000 in
theorem len_c (x : Nat) (hx : x < 256) (w : World) :
    Calls Try.prog 132 #[.int .u64 (x : Int)] w fun e w' => e = .returned (.int .i64 (lenN x : Nat)) ∧ Mem w w' [] := by
  have HM := Mem.start w
  go_enter Try.func132, Try.ntmps132
  go_wp2_with (first
    | (go_at_call 152; go_must (((with_reducible refine (len64_c _ hx _).mono ?_)); rintro e W ⟨rfl, HM'⟩; replace HM := HM.keep HM'.below; clear HM')))
  refine ret1 rfl (res_tmp rfl) rfl ?_
  exact ⟨rfl, HM⟩

/-- The greatest power of two below n. -/
def splitN (n : Nat) : Nat := 2 ^ (lenN (n - 1) - 1)
theorem splitN_facts : ∀ n, 2 ≤ n → n ≤ 256 → 1 ≤ lenN (n - 1) ∧ lenN (n - 1) ≤ 8 ∧ 1 ≤ splitN n ∧ splitN n < n ∧ n ≤ 2 * splitN n := by
  have h : (List.range 257).all (fun n => decide (2 ≤ n → 1 ≤ lenN (n - 1) ∧ lenN (n - 1) ≤ 8 ∧ 1 ≤ splitN n ∧ splitN n < n ∧ n ≤ 2 * splitN n)) = true := by decide +kernel
  intro n h2 hn
  exact of_decide_eq_true (List.all_eq_true.1 h n (List.mem_range.2 (by omega))) h2
theorem splitN_uniq : ∀ n, n ≤ 256 → ∀ j, j < 9 → 2 ^ j < n → n ≤ 2 * 2 ^ j → 2 ^ j = splitN n := by
  have h : (List.range 257).all (fun n => (List.range 9).all fun j => decide (2 ^ j < n → n ≤ 2 * 2 ^ j → 2 ^ j = splitN n)) = true := by decide +kernel
  intro n hn j hj
  exact of_decide_eq_true (List.all_eq_true.1 (List.all_eq_true.1 h n (List.mem_range.2 (by omega))) j (List.mem_range.2 hj))

set_option maxHeartbeats 400000 in
theorem split_c (n : Nat) (h2 : 2 ≤ n) (hn : n ≤ 256) (w : World) :
    Calls Try.prog 72 #[.int .i64 (n : Int)] w fun e w' => e = .returned (.int .i64 (splitN n : Nat)) ∧ Mem w w' [] := by
  have HM := Mem.start w
  obtain ⟨hf1, hf2, hf3, hf4, hf5⟩ := splitN_facts n h2 hn
  have h1 : IntKind.i64.wrap ((n : Int) - 1) = (n : Int) - 1 := by rw [IntKind.wrap_i64]; omega
  have h3 : ((n : Int) - 1) % 18446744073709551616 = (n : Int) - 1 := by omega
  have h4 : ((n - 1 : Nat) : Int) = (n : Int) - 1 := by omega
  have hL : ∀ W, Calls Try.prog 132 #[.int .u64 ((n : Int) - 1)] W fun e w' => e = .returned (.int .i64 (lenN (n - 1) : Nat)) ∧ Mem W w' [] := by
    intro W
    have := len_c (n - 1) (by omega) W
    rwa [h4] at this
  have h5 : IntKind.i64.wrap (((lenN (n - 1) : Nat) : Int) - 1) = ((lenN (n - 1) : Nat) : Int) - 1 := by rw [IntKind.wrap_i64]; omega
  have h6 : 0 ≤ ((lenN (n - 1) : Nat) : Int) - 1 := by omega
  have h7 : (((lenN (n - 1) : Nat) : Int) - 1).toNat = lenN (n - 1) - 1 := by omega
  have h8 : IntKind.i64.wrap ((2 : Int) ^ (lenN (n - 1) - 1)) = ((splitN n : Nat) : Int) := by
    have e : (2 : Int) ^ (lenN (n - 1) - 1) = ((splitN n : Nat) : Int) := by rw [splitN, Int.natCast_pow]; rfl
    rw [e, IntKind.wrap_i64]; omega
  clear h4
  go_enter Try.func72, Try.ntmps72
  go_wp2_with (first
    | (go_at_call 132; go_must (((with_reducible refine (hL _).mono ?_)); rintro e W ⟨rfl, HM'⟩; replace HM := HM.keep HM'.below; clear HM')))
  refine ret1 rfl (res_tmp rfl) rfl ?_
  exact ⟨rfl, HM⟩

/-- m is the power of two with the exponent j: kept shut, for the walk would write 2 ^ j for m. -/
def Pow2 (m j : Nat) : Prop := m = 2 ^ j
def SplitIs (m n : Nat) : Prop := m = splitN n

set_option maxHeartbeats 400000 in
theorem rsplit_c (n : Nat) (h2 : 2 ≤ n) (hn : n ≤ 256) (w : World) :
    Calls Try.prog 127 #[.int .i64 (n : Int)] w fun e w' => e = .returned (.int .i64 (splitN n : Nat)) ∧ Mem w w' [] := by
  have HM := Mem.start w
  go_enter Try.func127, Try.ntmps127
  go_wp2_with (fail)
  go_loopw [3] (fun k wr => ∃ (j m : Nat), Pow2 m j ∧ j < 9 ∧ m < n ∧ k = .int .i64 (m : Int) ∧ Mem w wr [])
    (fun k _ => 600 - (intOf k).toNat)
  case atStart => exact ⟨0, 1, rfl, by omega, by omega, rfl, HM⟩
  case round =>
    clear HM
    obtain ⟨j, m, hm, hj, hmn, rfl, HM⟩ := hrel
    have hm0 : 0 < m := by rw [show m = 2 ^ j from hm]; exact Nat.pos_of_ne_zero (by simp)
    have h1 : IntKind.i64.wrap (2 * (m : Int)) = 2 * (m : Int) := by rw [IntKind.wrap_i64]; omega
    by_cases hlt : 2 * m < n
    · have hb : 2 * (m : Int) < (n : Int) := by omega
      go_wp2_with (fail)
      go_roundw
      case rel =>
        have h9 : j + 1 < 9 := by
          rcases Nat.lt_or_ge j 8 with h | h
          · omega
          · have h10 : 2 ^ 8 ≤ 2 ^ j := Nat.pow_le_pow_right (by decide) h
            rw [← show m = 2 ^ j from hm] at h10
            omega
        exact ⟨j + 1, 2 * m, by rw [Pow2, show m = 2 ^ j from hm, Nat.pow_succ, Nat.mul_comm], h9, by omega, by go_num, HM⟩
      case measure => simp [intOf]; omega
    · have hb : ¬ 2 * (m : Int) < (n : Int) := by omega
      have hu : SplitIs m n := by
        have hm' : m = 2 ^ j := hm
        have := splitN_uniq n hn j hj (by rw [← hm']; omega) (by rw [← hm']; omega)
        rw [SplitIs, hm']; exact this
      clear hm
      go_wp2_with (fail)
      refine ret1 rfl (res_tmp rfl) rfl ?_
      exact ⟨by rw [← show m = splitN n from hu]; rfl, HM⟩
end Go.Proofs.Ythdekionepfmdaa
