/- The plain notions: keys, bytes, and how they lie in memory. -/
import Derived.Test.YthdekionepfmdaaLawB
import Derived.Test.YthdekionepfmdaaTy
import Derived.Test.YthdekionepfmdaaProg
set_option linter.unusedVariables false
set_option linter.unusedSimpArgs false
namespace Go.Proofs.Ythdekionepfmdaa
open Go.RowKit

abbrev Key := Vector UInt8 16
def encB (b : UInt8) : List Value := [.int .u8 b.toNat]
theorem encB_len (b : UInt8) : (encB b).length = 1 := rfl
theorem encB_one (b : UInt8) : ∀ u ∈ encB b, u.oneCell' = true := by
  intro u hu; simp only [encB, List.mem_singleton] at hu; subst hu; rfl
def encK (k : Key) : List Value := k.toList.flatMap encB
def kc (k : Key) : Array Value := (encK k).toArray
theorem encK_len (k : Key) : (encK k).length = 16 := by rw [encK, flatMap_length encB_len]; simp
theorem encK_one (k : Key) : ∀ u ∈ encK k, u.oneCell' = true := by
  intro u hu; obtain ⟨x, _, hx⟩ := List.mem_flatMap.1 hu; exact encB_one x u hx
theorem kc_size (k : Key) : (kc k).size = 16 := by simp [kc, encK_len]
theorem kc_toList (k : Key) : (kc k).toList = encK k := by simp [kc]
theorem kc_one (k : Key) : (kc k).all (·.oneCell') = true := all_oneCell_toArray (encK_one k)
def zeroKey : Key := Vector.replicate 16 0
theorem kc_zero : (Value.agg #[.int .u8 0, .int .u8 0, .int .u8 0, .int .u8 0, .int .u8 0, .int .u8 0, .int .u8 0, .int .u8 0, .int .u8 0, .int .u8 0, .int .u8 0, .int .u8 0, .int .u8 0, .int .u8 0, .int .u8 0, .int .u8 0]).cells = kc zeroKey := by rfl
theorem encK_inj {a b : Key} (h : encK a = encK b) : a = b := by
  have : ∀ l m : List UInt8, l.flatMap encB = m.flatMap encB → l = m := by
    intro l
    induction l with
    | nil => intro m h; cases m with
      | nil => rfl
      | cons x m => simp [encB] at h
    | cons x l ih => intro m h; cases m with
      | nil => simp [encB] at h
      | cons y m =>
        simp only [List.flatMap_cons, encB, List.cons_append, List.nil_append, List.cons.injEq, Value.int.injEq, true_and] at h
        have h1 : x = y := UInt8.toNat_inj.1 (by omega)
        rw [h1, ih m h.2]
  exact Vector.toList_inj.1 (this _ _ h)
theorem kc_inj {a b : Key} (h : kc a = kc b) : a = b := encK_inj (by simpa [kc] using h)

end Go.Proofs.Ythdekionepfmdaa
