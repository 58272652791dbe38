/-
  Plain laws, with no program in sight: a text's characters (as a range over a string tells them), that a text is UTF-8 just if its
  characters' own bytes are the text, what a name, a value, a target is, over lists of bytes. No condition.
-/
import Derived.Lib.MapLaws
import Derived.Lib.ValidLaws
import Derived.Lib.IndexBytes
import Derived.Lib.IndexMore
namespace Go.Proofs.YtlppeljofjomiaaDoor.Pl
open Go Go.Lib

/-- A text's characters. -/
def runesF : Nat → List UInt8 → List Nat
  | 0, _ => []
  | n + 1, l => if l = [] then [] else (decodeL l).1 :: runesF n (l.drop (decodeL l).2)
def runesD (l : List UInt8) : List Nat := runesF l.length l

theorem runesF_nil : ∀ n, runesF n [] = []
  | 0 => rfl
  | _ + 1 => by simp [runesF]
theorem runesF_fuel : ∀ (n m : Nat) (l : List UInt8), l.length ≤ n → l.length ≤ m → runesF n l = runesF m l
  | 0, m, l, hn, _ => by
    have : l = [] := List.eq_nil_of_length_eq_zero (by omega)
    subst this
    rw [runesF_nil, runesF_nil]
  | n + 1, 0, l, _, hm => by
    have : l = [] := List.eq_nil_of_length_eq_zero (by omega)
    subst this
    rw [runesF_nil, runesF_nil]
  | n + 1, m + 1, l, hn, hm => by
    unfold runesF
    by_cases hne : l = []
    · simp [hne]
    · have hw := decodeL_width l
      have hl : 0 < l.length := List.length_pos_iff.2 hne
      rw [if_neg hne, if_neg hne, runesF_fuel n m (l.drop (decodeL l).2) (by rw [List.length_drop]; omega) (by rw [List.length_drop]; omega)]
theorem runesD_nil : runesD [] = [] := rfl
theorem runesD_step (l : List UInt8) (hne : l ≠ []) : runesD l = (decodeL l).1 :: runesD (l.drop (decodeL l).2) := by
  have hl : 0 < l.length := List.length_pos_iff.2 hne
  have hw := decodeL_width l
  obtain ⟨n, hn⟩ : ∃ n, l.length = n + 1 := ⟨l.length - 1, by omega⟩
  unfold runesD
  rw [hn]
  show (if l = [] then [] else _) = _
  rw [if_neg hne, runesF_fuel n (l.drop (decodeL l).2).length _ (by rw [List.length_drop]; omega) (Nat.le_refl _)]

/-- What the characters' own bytes are. -/
def encAll (rs : List Nat) : List UInt8 := rs.flatMap fun (r : Nat) => encodeRune (r : Int)
theorem encAll_cons (r : Nat) (rs : List Nat) : encAll (r :: rs) = encodeRune (r : Int) ++ encAll rs := by simp [encAll]
theorem enc_bad : (encodeRune ((65533 : Nat) : Int)).length = 3 := by decide

theorem enc_len : ∀ (n : Nat) (l : List UInt8), l.length ≤ n → l.length ≤ (encAll (runesD l)).length
  | 0, l, hn => by omega
  | n + 1, l, hn => by
    by_cases hne : l = []
    · subst hne; simp [runesD_nil, encAll]
    · have hw := decodeL_width l
      have hle := decodeL_le l hne
      have hl : 0 < l.length := List.length_pos_iff.2 hne
      have ih := enc_len n (l.drop (decodeL l).2) (by rw [List.length_drop]; omega)
      rw [List.length_drop] at ih
      rw [runesD_step l hne, encAll_cons, List.length_append]
      by_cases hv : (decodeL l).1 = 65533 ∧ (decodeL l).2 = 1
      · rw [hv.1, enc_bad]; omega
      · rw [encode_decode l hne hv, List.length_take]; omega

/-- A text is UTF-8 just if its characters' own bytes are the text. -/
theorem valid_iff : ∀ (n : Nat) (l : List UInt8), l.length ≤ n → (validD l = true ↔ encAll (runesD l) = l)
  | 0, l, hn => by
    have : l = [] := List.eq_nil_of_length_eq_zero (by omega)
    subst this
    simp [validD_nil, runesD_nil, encAll]
  | n + 1, l, hn => by
    by_cases hne : l = []
    · subst hne; simp [validD_nil, runesD_nil, encAll]
    · have hw := decodeL_width l
      have hle := decodeL_le l hne
      have hl : 0 < l.length := List.length_pos_iff.2 hne
      have ih := valid_iff n (l.drop (decodeL l).2) (by rw [List.length_drop]; omega)
      rw [runesD_step l hne, encAll_cons, validD_step l hne]
      by_cases hv : (decodeL l).1 = 65533 ∧ (decodeL l).2 = 1
      · rw [if_pos hv]
        refine ⟨fun h => (by cases h), fun h => ?_⟩
        have h2 := congrArg List.length h
        rw [List.length_append, hv.1, enc_bad] at h2
        have h3 := enc_len _ (l.drop (decodeL l).2) (Nat.le_refl _)
        rw [List.length_drop] at h3
        omega
      · rw [if_neg hv, ih, encode_decode l hne hv]
        constructor
        · intro h; rw [h, List.take_append_drop]
        · intro h
          have h2 : l.take (decodeL l).2 ++ encAll (runesD (l.drop (decodeL l).2)) = l.take (decodeL l).2 ++ l.drop (decodeL l).2 := by rw [h, List.take_append_drop]
          exact List.append_cancel_left h2

/-! ### classes -/
def classZ (c : Int) : Int :=
  if ¬ ((0 ≤ c ∧ c < 55296) ∨ (57343 < c ∧ c ≤ 1114111)) then 0
  else if c < 32 ∨ c = 127 then 1
  else if c = 32 ∨ c = 160 then 2
  else if c = 65533 then 5
  else if (97 ≤ c ∧ c ≤ 122) ∨ (65 ≤ c ∧ c ≤ 90) ∨ 128 ≤ c then 3
  else if 48 ≤ c ∧ c ≤ 57 then 4
  else 5
def mayZ (c : Int) : Bool := decide (1 < classZ c)

/-! ### names, values, targets -/
def okByte (b : UInt8) : Bool := decide ((97 ≤ b.toNat ∧ b.toNat ≤ 122) ∨ (48 ≤ b.toNat ∧ b.toNat ≤ 57) ∨ b.toNat = 45)
def lowByte (b : UInt8) : Bool := decide (97 ≤ b.toNat ∧ b.toNat ≤ 122)
def nameB (l : List UInt8) : Bool := decide (1 ≤ l.length ∧ l.length ≤ 16) && lowByte (l.getD 0 0) && l.all okByte
def allMay (l : List UInt8) : Bool := (runesD l).all fun r => mayZ (r : Int)
def valueB (l : List UInt8) : Bool := allMay l && decide (l.length ≤ 200) && validD l

theorem allMay_nil : allMay [] = true := rfl
theorem allMay_step (l : List UInt8) (hne : l ≠ []) : allMay l = (mayZ ((decodeL l).1 : Int) && allMay (l.drop (decodeL l).2)) := by
  unfold allMay
  rw [runesD_step l hne, List.all_cons]

/-- A character is made little, if it is a great letter. -/
def lowZ (c : Int) : Int := if 65 ≤ c ∧ c ≤ 90 then c + 32 else c
def lowB (b : UInt8) : UInt8 := if 65 ≤ b.toNat ∧ b.toNat ≤ 90 then b + 32 else b
def jsL : List UInt8 := [106, 97, 118, 97, 115, 99, 114, 105, 112, 116]

theorem enc_high (r : Nat) (h : 128 ≤ r) : ∃ b t, encodeRune (r : Int) = b :: t ∧ 128 ≤ b.toNat := by
  unfold encodeRune encodeRuneZ
  rw [if_neg (by omega)]
  split
  · refine ⟨_, _, rfl, ?_⟩
    have h2 : ((192 + (r : Int) / 64).toNat) < 256 := by omega
    simp only [Nat.toUInt8, UInt8.toNat_ofNat']
    omega
  · split
    · refine ⟨_, _, rfl, ?_⟩
      have h2 : ((224 + (r : Int) / 4096).toNat) < 256 := by omega
      simp only [Nat.toUInt8, UInt8.toNat_ofNat']
      omega
    · split
      · refine ⟨_, _, rfl, ?_⟩
        have h2 : ((240 + (r : Int) / 262144).toNat) < 256 := by omega
        simp only [Nat.toUInt8, UInt8.toNat_ofNat']
        omega
      · exact ⟨_, _, rfl, by decide⟩
theorem lowB_small (b : UInt8) (h : b.toNat < 128) : encodeRune (lowZ (b.toNat : Int)) = [lowB b] := by
  unfold lowZ lowB
  split
  · rename_i hc
    rw [if_pos (by omega)]
    unfold encodeRune
    rw [encodeRuneZ_one (by omega) (by omega)]
    simp only [List.map_cons, List.map_nil]
    have h32 : (32 : UInt8).toNat = 32 := rfl
    have h2 : ((b.toNat : Int) + 32).toNat.toUInt8 = b + 32 := by
      apply UInt8.toNat_inj.1
      simp only [Nat.toUInt8, UInt8.toNat_ofNat', UInt8.toNat_add]
      omega
    rw [h2]
  · rename_i hc
    rw [if_neg (by omega)]
    unfold encodeRune
    rw [encodeRuneZ_one (by omega) (by omega)]
    simp
theorem lowB_lt (b : UInt8) (h : 128 ≤ b.toNat) : 128 ≤ (lowB b).toNat := by
  unfold lowB
  rw [if_neg (by omega)]
  exact h
/-- A head byte from 128 on tells a character from 128 on. -/
theorem decodeL_high (b : UInt8) (t : List UInt8) (h : 128 ≤ b.toNat) : 128 ≤ (decodeL (b :: t)).1 := by
  rw [decodeL_N]
  have k0 := b.toNat_lt
  have h0 : ((b :: t).getD 0 0).toNat = b.toNat := rfl
  rcases decodeN_shape (b :: t).length ((b :: t).getD 0 0).toNat ((b :: t).getD 1 0).toNat ((b :: t).getD 2 0).toNat ((b :: t).getD 3 0).toNat with ⟨c, e⟩ | ⟨c1, c2, c3, cv, e⟩ | ⟨c1, c2, c3, c4, cv, cs, e⟩ | ⟨c1, c2, c3, c4, c5, cv, cw, e⟩ | e
  · omega
  all_goals (rw [e]; dsimp only; omega)
/-- What is mapped to letters without great ones is these just if its bytes are, one by one. -/
theorem map_low : ∀ (t l : List UInt8), (∀ b ∈ t, b.toNat < 128) → (mapD lowZ l = t ↔ l.map lowB = t)
  | t, [], _ => by simp [mapD_nil]
  | t, b :: l, ht => by
    rw [mapD_step lowZ (b :: l) (by simp)]
    by_cases hb : b.toNat < 128
    · rw [decodeL_ascii b l hb]
      have h0 : 0 ≤ lowZ ((b.toNat, 1).1 : Int) := by show 0 ≤ lowZ (b.toNat : Int); unfold lowZ; split <;> omega
      rw [if_pos h0, lowB_small b hb]
      show [lowB b] ++ mapD lowZ l = t ↔ lowB b :: l.map lowB = t
      cases t with
      | nil => simp
      | cons c t =>
        have ih := map_low t l (fun x hx => ht x (by simp [hx]))
        simp only [List.cons_append, List.nil_append, List.cons.injEq]
        rw [ih]
    · have hb' : 128 ≤ b.toNat := by omega
      have hh := decodeL_high b l hb'
      have hz : lowZ ((decodeL (b :: l)).1 : Int) = ((decodeL (b :: l)).1 : Int) := by unfold lowZ; rw [if_neg (by omega)]
      rw [hz, if_pos (by omega)]
      obtain ⟨c, u, hc, hc2⟩ := enc_high _ hh
      rw [hc]
      constructor
      · intro h
        have := ht c (by rw [← h]; simp)
        omega
      · intro h
        have h1 := ht (lowB b) (by rw [← h]; simp)
        have := lowB_lt b hb'
        omega

/-- A target: a value, that is not empty, with no blank at its ends; and ahead of its first colon no "javascript". -/
def headB (l : List UInt8) : List UInt8 := l.takeWhile fun b => b != 58
def targetB (l : List UInt8) : Bool := valueB l && (!l.isEmpty && (l.getD 0 0 != 32) && (l.getD (l.length - 1) 0 != 32)) && !((headB l).map lowB == jsL)

theorem index_colon : ∀ l : List UInt8, index l [58] = if (headB l).length = l.length then -1 else ((headB l).length : Int)
  | [] => by simp [index, headB]
  | b :: l => by
    have ih := index_colon l
    unfold index
    by_cases hb : b = 58
    · subst hb
      simp [headB, List.isPrefixOf]
    · have h1 : (List.isPrefixOf [58] (b :: l)) = false := by simp [List.isPrefixOf]; exact fun h => hb h.symm
      have h2 : headB (b :: l) = b :: headB l := by simp [headB, hb]
      rw [h1, ih, h2]
      simp only [Bool.false_eq_true, if_false, List.length_cons, Nat.add_right_cancel_iff]
      by_cases hc : (headB l).length = l.length
      · simp [hc]
      · rw [if_neg hc, if_neg hc]
        have hn : (((headB l).length : Int) == -1) = false := by rw [beq_eq_false_iff_ne]; omega
        rw [hn]
        simp only [Bool.false_eq_true, if_false]
        omega
theorem headB_take : ∀ l : List UInt8, headB l = l.take (headB l).length
  | [] => by simp [headB]
  | b :: l => by
    by_cases hb : b = 58
    · subst hb; simp [headB]
    · have h2 : headB (b :: l) = b :: headB l := by simp [headB, hb]
      rw [h2, List.length_cons, List.take_succ_cons, ← headB_take l]
theorem headB_le (l : List UInt8) : (headB l).length ≤ l.length := by
  rw [headB_take l, List.length_take]; omega
/-- What stands ahead of the first colon, as strings.Cut tells it. -/
theorem cut_head (l : List UInt8) : (cut l [58]).1 = headB l := by
  unfold cut
  rw [index_colon]
  have h := headB_take l
  by_cases hc : (headB l).length = l.length
  · rw [if_pos hc, if_neg (by omega)]
    rw [hc, List.take_length] at h
    exact h.symm
  · rw [if_neg hc, if_pos (by omega), Int.toNat_natCast]
    exact h.symm
theorem js_small : ∀ b ∈ jsL, b.toNat < 128 := by decide
theorem script_eq (l : List UInt8) : (mapD lowZ (cut l [58]).1 == jsL) = ((headB l).map lowB == jsL) := by
  rw [cut_head, Bool.eq_iff_iff, beq_iff_eq, beq_iff_eq]
  exact map_low jsL (headB l) js_small
end Go.Proofs.YtlppeljofjomiaaDoor.Pl
