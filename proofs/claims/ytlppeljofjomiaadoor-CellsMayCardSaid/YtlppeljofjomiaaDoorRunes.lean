/- Plain laws on the model's own conversions: the characters of a text as a slice of runes; the text of runes. No condition. -/
import Derived.Test.YtlppeljofjomiaaDoorPlain
import Derived.Laws.Cover4
import Derived.Laws.IdiomStrings
namespace Go.Proofs.YtlppeljofjomiaaDoor.Pl
open Go Go.Lib

def runesI (l : List UInt8) : List Int := (runesD l).map fun (r : Nat) => (r : Int)
theorem runesFrom_eq (s : ByteArray) : ∀ (bound i : Nat) (acc : Array Value), s.size ≤ i + bound →
    Conv.runesFrom s bound i acc = acc ++ ((runesI (s.data.toList.drop i)).map (Value.int .i32)).toArray
  | 0, i, acc, h => by
    have h0 : s.data.toList.drop i = [] := List.drop_eq_nil_of_le (by rw [← Lib.size_eq]; omega)
    rw [h0]
    simp [Conv.runesFrom, runesI, runesD_nil]
  | bound + 1, i, acc, h => by
    unfold Conv.runesFrom
    by_cases hi : i < s.size
    · have hw := width_pos s i
      have hne : s.data.toList.drop i ≠ [] := by
        intro h0
        have h1 := congrArg List.length h0
        rw [List.length_drop, ← Lib.size_eq, List.length_nil] at h1
        omega
      simp only [hi, if_true]
      rw [runesFrom_eq s bound _ _ (by omega)]
      unfold runesI
      rw [runesD_step _ hne, decodeL_drop, List.drop_drop]
      simp
    · have h0 : s.data.toList.drop i = [] := List.drop_eq_nil_of_le (by rw [← Lib.size_eq]; omega)
      simp only [hi, if_false]
      rw [h0]
      simp [runesI, runesD_nil]
theorem runesAll_eq (s : ByteArray) : Conv.runesFrom s s.size 0 #[] = ((runesI s.data.toList).map (Value.int .i32)).toArray := by
  rw [runesFrom_eq s s.size 0 #[] (by omega), List.drop_zero]
  simp
theorem runesI_le : ∀ (n : Nat) (l : List UInt8), l.length ≤ n → (runesI l).length ≤ l.length
  | 0, l, hn => by
    have : l = [] := List.eq_nil_of_length_eq_zero (by omega)
    subst this
    simp [runesI, runesD_nil]
  | n + 1, l, hn => by
    by_cases hne : l = []
    · subst hne; simp [runesI, runesD_nil]
    · have hw := decodeL_width l
      have hl : 0 < l.length := List.length_pos_iff.2 hne
      have ih := runesI_le n (l.drop (decodeL l).2) (by rw [List.length_drop]; omega)
      unfold runesI at ih ⊢
      rw [runesD_step l hne, List.map_cons, List.length_cons]
      rw [List.length_drop] at ih
      omega
theorem allMay_runes (l : List UInt8) : allMay l = (runesI l).all mayZ := by
  unfold allMay runesI
  rw [List.all_map]
  simp only [Function.comp_def]

/-- A rune's bytes, as the conversion lays them. -/
theorem encode_eq (r : Int) : (Utf8.encode r).data.toList = encodeRune r := by
  unfold Utf8.encode encodeRune
  by_cases hv : Utf8.valid r = true
  · have hv2 : (0 ≤ r ∧ r < 55296) ∨ (57344 ≤ r ∧ r ≤ 1114111) := by
      unfold Utf8.valid at hv
      simpa [Bool.or_eq_true, Bool.and_eq_true, decide_eq_true_eq] using hv
    obtain ⟨n, rfl⟩ := Int.eq_ofNat_of_zero_le (show 0 ≤ r by omega)
    simp only [hv, if_true, Int.toNat_natCast]
    by_cases h1 : n < 128
    · rw [encodeRuneZ_one (by omega) (by omega), if_pos h1]; simp
    · rw [if_neg h1]
      by_cases h2 : n < 2048
      · rw [encodeRuneZ_two (by omega) (by omega), if_pos h2]
        simp only [List.map_cons, List.map_nil]
        rw [show ((192 : Int) + (n : Int) / 64).toNat = 192 + n / 64 by omega, show ((128 : Int) + (n : Int) % 64).toNat = 128 + n % 64 by omega]
      · rw [if_neg h2]
        by_cases h3 : n < 65536
        · rw [encodeRuneZ_three (by omega), if_pos h3]
          simp only [List.map_cons, List.map_nil]
          rw [show ((224 : Int) + (n : Int) / 4096).toNat = 224 + n / 4096 by omega, show ((128 : Int) + (n : Int) / 64 % 64).toNat = 128 + n / 64 % 64 by omega, show ((128 : Int) + (n : Int) % 64).toNat = 128 + n % 64 by omega]
        · rw [encodeRuneZ_four (by omega) (by omega), if_neg h3]
          simp only [List.map_cons, List.map_nil]
          rw [show ((240 : Int) + (n : Int) / 262144).toNat = 240 + n / 262144 by omega, show ((128 : Int) + (n : Int) / 4096 % 64).toNat = 128 + n / 4096 % 64 by omega, show ((128 : Int) + (n : Int) / 64 % 64).toNat = 128 + n / 64 % 64 by omega, show ((128 : Int) + (n : Int) % 64).toNat = 128 + n % 64 by omega]

  · have hv3 : Utf8.valid r = false := by simpa using hv
    have hv2 : ¬ ((0 ≤ r ∧ r < 55296) ∨ (57344 ≤ r ∧ r ≤ 1114111)) := by
      intro h
      apply hv
      unfold Utf8.valid
      simpa [Bool.or_eq_true, Bool.and_eq_true, decide_eq_true_eq] using h
    rw [encodeRuneZ_bad (by omega)]
    rw [hv3]
    simp only [Bool.false_eq_true, if_false]
    rfl

/-- The text of runes. -/
def textL (rs : List Int) : List UInt8 := rs.flatMap encodeRune
theorem runesBytes_go : ∀ (ns : List Int) (s : ByteArray), (ns.foldl (fun r n => r ++ Utf8.encode n) s).data.toList = s.data.toList ++ textL ns
  | [], s => by simp [textL]
  | n :: ns, s => by
    rw [List.foldl_cons, runesBytes_go ns]
    simp [textL, encode_eq]
theorem runesBytes_eq (ns : List Int) : (runesBytes ns).data.toList = textL ns := by
  unfold runesBytes
  rw [runesBytes_go]
  rfl
theorem text_runes (l : List UInt8) : textL (runesI l) = encAll (runesD l) := by
  unfold textL runesI encAll
  rw [List.flatMap_map]
theorem valid_text (l : List UInt8) : validD l = (textL (runesI l) == l) := by
  rw [text_runes, Bool.eq_iff_iff, valid_iff l.length l (Nat.le_refl _), beq_iff_eq]
end Go.Proofs.YtlppeljofjomiaaDoor.Pl
