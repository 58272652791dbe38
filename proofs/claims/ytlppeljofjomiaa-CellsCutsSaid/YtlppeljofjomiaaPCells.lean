/- Plain laws of what the functions of the cells tell (their '.f'), with no program in sight: Of, Text, Same, the reference's Class, May, Clean, Of, and the examples (awake). The conditions stand in each. -/
import Derived.Test.YtlppeljofjomiaaXx1
import Derived.Test.YtlppeljofjomiaaXx2
import Derived.Test.YtlppeljofjomiaaXx3
import Derived.Lib.QuoteLoop
namespace Go.Proofs.Ytlppeljofjomiaa.Pure
open Go Go.Lib Go.RowKit Go.Proofs.Ytlppeljofjomiaa.X Go.Proofs.YtlppeljofjomiaaW.PrintWords Go.Proofs.YtlppeljofjomiaaW.PrintLast
open Go.Proofs.YtlppeljofjomiaaDoor.Pl

/-! ### steps -/
theorem wrap64_id (n : Int) (h1 : -9223372036854775808 ≤ n) (h2 : n < 9223372036854775808) : wrap64 n = n := by unfold wrap64; omega
theorem wrap64_succ (i : Nat) (h : i < 4611686018427387904) : wrap64 ((i : Int) + 1) = ((i + 1 : Nat) : Int) := by unfold wrap64; omega
theorem Ev.pos {α : Type} {c : Prop} [Decidable c] {f g : Nat → Option α} {r : α} (h : c) (k : Ev f r) : Ev (fun n => if c then f n else g n) r := by
  simp only [if_pos h]; exact k
theorem Ev.neg {α : Type} {c : Prop} [Decidable c] {f g : Nat → Option α} {r : α} (h : ¬ c) (k : Ev g r) : Ev (fun n => if c then f n else g n) r := by
  simp only [if_neg h]; exact k
theorem Ev.have_ {α β : Type} {a : Option α} {v : α} {f : Nat → α → Option β} {r : β} (h : a = some v) (k : Ev (fun n => f n v) r) : Ev (fun n => a.bind (f n)) r := by
  subst h; exact k
theorem Ev.ret {α : Type} {v r : α} (h : v = r) : Ev (fun _ => some v) r := by subst h; exact Ev.now _
theorem Ev.cast {α : Type} {f : Nat → Option α} {v r : α} (k : Ev f v) (h : v = r) : Ev f r := by subst h; exact k
theorem rdI_at (l : List Int) (i : Nat) (h : i < l.length) : rd l (i : Int) = l[i] := by
  unfold rd
  rw [Int.toNat_natCast]
  simp [List.getD, List.getElem?_eq_getElem h]
theorem rd40_at (l : List S40) (i : Nat) (h : i < l.length) : rd_T40 l (i : Int) = l[i] := by
  unfold rd_T40
  rw [Int.toNat_natCast]
  simp [List.getD, List.getElem?_eq_getElem h]
theorem toList_inj {a b : ByteArray} : a.toList = b.toList ↔ a = b := by
  rw [ByteArray.toList_eq, ByteArray.toList_eq]
  constructor
  · intro h
    cases a; cases b
    congr
    exact Array.toList_inj.1 h
  · intro h; rw [h]
theorem drop_cons {α : Type} (l : List α) (i : Nat) (h : i < l.length) : l.drop i = l[i] :: l.drop (i + 1) := List.drop_eq_getElem_cons h

/-! ### characters -/
theorem rune_class (l : List UInt8) : classZ ((decodeL l).1 : Int) ≠ 0 := by
  have h := decodeN_valid l.length (l.getD 0 0).toNat (l.getD 1 0).toNat (l.getD 2 0).toNat (l.getD 3 0).toNat (UInt8.toNat_lt _)
  rw [← decodeL_N] at h
  unfold classZ
  rw [if_neg (by omega)]
  repeat' split
  all_goals decide
theorem runes_class : ∀ (n : Nat) (l : List UInt8), l.length ≤ n → ∀ c ∈ runesI l, classZ c ≠ 0
  | 0, l, hn, c, hc => by
    have : l = [] := List.eq_nil_of_length_eq_zero (by omega)
    subst this
    simp [runesI, runesD_nil] at hc
  | n + 1, l, hn, c, hc => by
    by_cases hne : l = []
    · subst hne
      simp [runesI, runesD_nil] at hc
    · have hw := decodeL_width l
      have hl : 0 < l.length := List.length_pos_iff.2 hne
      unfold runesI at hc
      rw [runesD_step l hne, List.map_cons, List.mem_cons] at hc
      rcases hc with rfl | hc
      · exact rune_class l
      · exact runes_class n (l.drop (decodeL l).2) (by rw [List.length_drop]; omega) c hc
theorem clean_le (l : List UInt8) : (cleanI l).length ≤ l.length := Nat.le_trans (List.length_filterMap_le _ _) (runesI_le l.length l (Nat.le_refl _))

theorem class_j3 (c : Int) (b : Bool) : quillworkref01_Class.j3 1 c b = some (if b = true then 3 else if 48 ≤ c ∧ c ≤ 57 then 4 else 5) := by
  simp only [quillworkref01_Class.j3]
  cases b
  · by_cases h1 : c ≥ 48
    · by_cases h2 : c ≤ 57
      · simp [h1, h2]
      · simp [h1, h2]
    · simp [h1]
  · rfl
theorem class_j2 (c : Int) (b : Bool) : quillworkref01_Class.j2 2 c b = some (if b = true then 2 else if (97 ≤ c ∧ c ≤ 122) ∨ (65 ≤ c ∧ c ≤ 90) ∨ (128 ≤ c ∧ c ≠ 65533) then 3 else if 48 ≤ c ∧ c ≤ 57 then 4 else 5) := by
  simp only [quillworkref01_Class.j2, class_j3]
  cases b
  · simp only [Bool.false_eq_true, if_false]
    repeat' split
    all_goals first | rfl | (exfalso; simp_all; done) | (exfalso; simp_all; omega)
  · rfl
theorem class_j1 (c : Int) (b : Bool) : quillworkref01_Class.j1 3 c b = some (if b = true then 1 else if c = 32 ∨ c = 160 then 2 else if (97 ≤ c ∧ c ≤ 122) ∨ (65 ≤ c ∧ c ≤ 90) ∨ (128 ≤ c ∧ c ≠ 65533) then 3 else if 48 ≤ c ∧ c ≤ 57 then 4 else 5) := by
  simp only [quillworkref01_Class.j1, class_j2]
  cases b
  · simp only [Bool.false_eq_true, if_false]
    by_cases h : c = 32
    · simp [h]
    · rw [if_neg h]
      by_cases h2 : c = 160
      · simp [h2]
      · rw [if_neg (show ¬ (c == 160) = true by simpa using h2), if_neg (show ¬ (c = 32 ∨ c = 160) by omega)]
  · rfl
theorem class_f (c : Int) : quillworkref01_Class.f 4 c = some (classZ c) := by
  have key : ∀ b : Bool, quillworkref01_Class.j0 4 c b = some (if b = true then 0 else if c < 32 ∨ c = 127 then 1 else if c = 32 ∨ c = 160 then 2 else if (97 ≤ c ∧ c ≤ 122) ∨ (65 ≤ c ∧ c ≤ 90) ∨ (128 ≤ c ∧ c ≠ 65533) then 3 else if 48 ≤ c ∧ c ≤ 57 then 4 else 5) := by
    intro b
    simp only [quillworkref01_Class.j0, class_j1]
    cases b
    · simp only [Bool.false_eq_true, if_false]
      by_cases h : c < 32
      · simp [h]
      · rw [if_neg h]
        by_cases h2 : c = 127
        · simp [h2]
        · rw [if_neg (show ¬ (c == 127) = true by simpa using h2), if_neg (show ¬ (c < 32 ∨ c = 127) by omega)]
    · rfl
  unfold quillworkref01_Class.f
  simp only [key]
  unfold classZ
  by_cases h1 : c < 0
  · rw [if_pos h1, if_pos (show ¬ ((0 ≤ c ∧ c < 55296) ∨ (57343 < c ∧ c ≤ 1114111)) by omega)]; rfl
  · rw [if_neg h1]
    by_cases h2 : c > 1114111
    · rw [if_pos h2, if_pos (show ¬ ((0 ≤ c ∧ c < 55296) ∨ (57343 < c ∧ c ≤ 1114111)) by omega)]; rfl
    · rw [if_neg h2]
      have fin : ((0 ≤ c ∧ c < 55296) ∨ (57343 < c ∧ c ≤ 1114111)) → (if c < 32 ∨ c = 127 then (1 : Int) else if c = 32 ∨ c = 160 then 2 else if (97 ≤ c ∧ c ≤ 122) ∨ (65 ≤ c ∧ c ≤ 90) ∨ (128 ≤ c ∧ c ≠ 65533) then 3 else if 48 ≤ c ∧ c ≤ 57 then 4 else 5) = (if ¬ ((0 ≤ c ∧ c < 55296) ∨ (57343 < c ∧ c ≤ 1114111)) then 0 else if c < 32 ∨ c = 127 then 1 else if c = 32 ∨ c = 160 then 2 else if c = 65533 then 5 else if (97 ≤ c ∧ c ≤ 122) ∨ (65 ≤ c ∧ c ≤ 90) ∨ 128 ≤ c then 3 else if 48 ≤ c ∧ c ≤ 57 then 4 else 5) := by
        intro hv
        rw [if_neg (show ¬ ¬ ((0 ≤ c ∧ c < 55296) ∨ (57343 < c ∧ c ≤ 1114111)) by omega)]
        by_cases e : c = 65533
        · subst e; decide
        · rw [if_neg e]
          repeat' split
          all_goals first | rfl | omega
      by_cases h3 : c ≥ 55296
      · rw [if_pos h3]
        by_cases h4 : c ≤ 57343
        · rw [if_pos (by simpa using h4), if_pos (show ¬ ((0 ≤ c ∧ c < 55296) ∨ (57343 < c ∧ c ≤ 1114111)) by omega)]
        · rw [if_neg (by simpa using h4), fin (by omega)]
      · rw [if_neg h3, if_neg (by simp), fin (by omega)]
theorem refmay_ev (c : Int) : Ev (fun k => quillworkref01_May.f k c) (mayZ c) := by
  refine Ev.of (fun _ => quillworkref01_May.mono _ _) (k := 4) ?_
  show (quillworkref01_Class.f 4 c).bind _ = _
  rw [class_f]
  rfl
theorem plainZ_of (c : Int) (h0 : classZ c ≠ 0) : plainZ c = if c = 9 ∨ c = 12 ∨ c = 13 then some 32 else if mayZ c = true ∨ c = 10 then some c else none := by
  unfold plainZ plainP
  by_cases h1 : c = 9 ∨ c = 12 ∨ c = 13
  · rw [if_pos h1, if_pos h1]; rfl
  · rw [if_neg h1, if_neg h1]
    by_cases h2 : c = 10
    · rw [if_pos h2, if_pos (Or.inr h2)]; rfl
    · rw [if_neg h2]
      have hge : 0 ≤ classZ c := by unfold classZ; (repeat' split) <;> decide
      unfold mayZ
      by_cases h3 : classZ c = 1
      · rw [if_neg (by simp [h3]), if_neg (by simp [h3, h2])]
      · rw [if_pos (by simpa using h3), if_pos (Or.inl (decide_eq_true (by omega)))]

/-! ### the reference's Clean -/
theorem refclean_l (cs : List Int) (hc : ∀ c ∈ cs, classZ c ≠ 0) (hl : cs.length < 35184372088832) :
    ∀ (m i : Nat) (out : List Int), m + i = cs.length → out.length ≤ i → Ev (fun k => quillworkref01_Clean.l0 k out cs i) (out ++ (cs.drop i).filterMap plainZ)
  | 0, i, out, hm, ho => by
    refine Ev.step (fun k => by rw [quillworkref01_Clean.l0]) ?_
    refine Ev.neg (by omega) (Ev.ret ?_)
    rw [List.drop_eq_nil_of_le (by omega)]
    simp
  | m + 1, i, out, hm, ho => by
    have hi : i < cs.length := by omega
    have h0 := hc cs[i] (List.getElem_mem hi)
    have hp := plainZ_of cs[i] h0
    rw [drop_cons cs i hi]
    have next : ∀ (out2 : List Int), out2.length ≤ i + 1 → Ev (fun k => quillworkref01_Clean.l0 k out2 cs (wrap64 ((i : Int) + 1))) (out2 ++ (cs.drop (i + 1)).filterMap plainZ) := by
      intro out2 h2
      rw [wrap64_succ i (by omega)]
      exact refclean_l cs hc hl m (i + 1) out2 (by omega) h2
    have hT : cs[i] = 9 ∨ cs[i] = 12 ∨ cs[i] = 13 → Ev (fun k => quillworkref01_Clean.j1 k out cs i cs[i] true) (out ++ (cs[i] :: cs.drop (i + 1)).filterMap plainZ) := by
      intro h1
      rw [List.filterMap_cons, hp, if_pos h1]
      refine Ev.step (fun k => by rw [quillworkref01_Clean.j1]) ?_
      refine Ev.pos rfl (Ev.bind (refmay_ev 32) (Ev.pos (by decide) (Ev.pos (by omega) ?_)))
      refine Ev.cast (next (out ++ [32]) (by rw [List.length_append, List.length_singleton]; omega)) ?_
      rw [List.append_assoc]
      rfl
    have hF : ¬ (cs[i] = 9 ∨ cs[i] = 12 ∨ cs[i] = 13) → Ev (fun k => quillworkref01_Clean.j1 k out cs i cs[i] false) (out ++ (cs[i] :: cs.drop (i + 1)).filterMap plainZ) := by
      intro h1
      rw [List.filterMap_cons, hp, if_neg h1]
      refine Ev.step (fun k => by rw [quillworkref01_Clean.j1]) ?_
      refine Ev.neg (by simp) (Ev.bind (refmay_ev cs[i]) ?_)
      by_cases h2 : mayZ cs[i] = true
      · rw [if_pos (Or.inl h2)]
        refine Ev.pos h2 (Ev.pos (by omega) ?_)
        refine Ev.cast (next (out ++ [cs[i]]) (by rw [List.length_append, List.length_singleton]; omega)) ?_
        rw [List.append_assoc]
        rfl
      · refine Ev.neg h2 ?_
        by_cases h3 : cs[i] = 10
        · rw [if_pos (Or.inr h3)]
          refine Ev.pos h3 (Ev.pos (by omega) ?_)
          refine Ev.cast (next (out ++ [cs[i]]) (by rw [List.length_append, List.length_singleton]; omega)) ?_
          rw [List.append_assoc]
          rfl
        · rw [if_neg (by simp [h2, h3])]
          exact Ev.neg h3 (next out (by omega))
    refine Ev.step (fun k => by rw [quillworkref01_Clean.l0]) ?_
    refine Ev.pos (by omega) (Ev.pos (by omega) ?_)
    rw [rdI_at cs i hi]
    by_cases h9 : cs[i] = 9
    · exact Ev.pos h9 (hT (Or.inl h9))
    · refine Ev.neg h9 ?_
      by_cases h12 : cs[i] = 12
      · exact Ev.pos h12 (hT (Or.inr (Or.inl h12)))
      · refine Ev.neg h12 ?_
        by_cases h13 : cs[i] = 13
        · rw [show (cs[i] == 13) = true by simpa using h13]
          exact hT (Or.inr (Or.inr h13))
        · rw [show (cs[i] == 13) = false by simpa using h13]
          exact hF (by omega)
theorem refclean_ev (s : ByteArray) (hs : s.size ≤ 10000) : Ev (fun k => quillworkref01_Clean.f k s) (cleanI s.data.toList) := by
  unfold quillworkref01_Clean.f
  have hle := runesI_le s.data.toList.length s.data.toList (Nat.le_refl _)
  rw [← Lib.size_eq] at hle
  refine Ev.have_ (v := runesI s.data.toList) (by unfold quillworkref01_Runes.f; rw [if_pos (by omega)]) ?_
  refine Ev.cast (refclean_l (runesI s.data.toList) (runes_class _ _ (Nat.le_refl _)) (by omega) (runesI s.data.toList).length 0 [] (by omega) (by simp)) ?_
  rw [List.drop_zero, List.nil_append]
  rfl

/-! ### Of -/
def ofR (b : Int) (h : ByteArray) (cs : List Int) : List S40 := cs.map fun c => ⟨c, b, h⟩
theorem ofR_drop (b : Int) (h : ByteArray) (cs : List Int) (i : Nat) (hi : i < cs.length) (out : List S40) : (out ++ [(⟨cs[i], b, h⟩ : S40)]) ++ ofR b h (cs.drop (i + 1)) = out ++ ofR b h (cs.drop i) := by
  rw [drop_cons cs i hi, List.append_assoc]
  rfl
theorem of_l (b : Int) (h : ByteArray) (cs : List Int) (hc : cs.length < 4398046511104) :
    ∀ (m i : Nat) (out : List S40), m + i = cs.length → out.length = i → Ev (fun k => cells_Of.l0 k b h out cs (cs.length : Int) i) (out ++ ofR b h (cs.drop i))
  | 0, i, out, hm, ho => by
    refine Ev.step (fun k => by rw [cells_Of.l0]) ?_
    refine Ev.neg (by omega) (Ev.ret ?_)
    rw [List.drop_eq_nil_of_le (by omega)]
    simp [ofR]
  | m + 1, i, out, hm, ho => by
    have hi : i < cs.length := by omega
    refine Ev.step (fun k => by rw [cells_Of.l0]) ?_
    refine Ev.pos (by omega) (Ev.pos (by omega) (Ev.pos (by omega) (Ev.pos (by omega) ?_)))
    rw [rdI_at cs i hi, wrap64_succ i (by omega), ← ofR_drop b h cs i hi out]
    exact of_l b h cs hc m (i + 1) _ (by omega) (by simp [ho])
theorem of_ev (s : ByteArray) (b : Int) (h : ByteArray) (hs : s.size ≤ 10000) : Ev (fun k => cells_Of.f k s b h) (ofR b h (cleanI s.data.toList)) := by
  unfold cells_Of.f
  have hle := clean_le s.data.toList
  rw [← Lib.size_eq] at hle
  refine Ev.have_ (v := cleanI s.data.toList) (by unfold chars_Clean.f; rw [if_pos (by omega)]) ?_
  exact of_l b h (cleanI s.data.toList) (by omega) (cleanI s.data.toList).length 0 [] (by omega) rfl
theorem refof_l (b : Int) (h : ByteArray) (cs : List Int) (hc : cs.length < 4398046511104) :
    ∀ (m i : Nat) (out : List S40), m + i = cs.length → out.length = i → Ev (fun k => quillworkref05_Of.l0 k b h cs out i) (out ++ ofR b h (cs.drop i))
  | 0, i, out, hm, ho => by
    refine Ev.step (fun k => by rw [quillworkref05_Of.l0]) ?_
    refine Ev.neg (by omega) (Ev.ret ?_)
    rw [List.drop_eq_nil_of_le (by omega)]
    simp [ofR]
  | m + 1, i, out, hm, ho => by
    have hi : i < cs.length := by omega
    refine Ev.step (fun k => by rw [quillworkref05_Of.l0]) ?_
    refine Ev.pos (by omega) (Ev.pos (by omega) (Ev.pos (by omega) ?_))
    rw [rdI_at cs i hi, wrap64_succ i (by omega), ← ofR_drop b h cs i hi out]
    exact refof_l b h cs hc m (i + 1) _ (by omega) (by simp [ho])
theorem refof_ev (s : ByteArray) (b : Int) (h : ByteArray) (hs : s.size ≤ 10000) : Ev (fun k => quillworkref05_Of.f k s b h) (ofR b h (cleanI s.data.toList)) := by
  unfold quillworkref05_Of.f
  have hle := clean_le s.data.toList
  rw [← Lib.size_eq] at hle
  refine Ev.bind (refclean_ev s hs) ?_
  exact refof_l b h (cleanI s.data.toList) (by omega) (cleanI s.data.toList).length 0 [] (by omega) rfl

/-! ### Same -/
theorem same_l (l m : List S40) (hl : l.length = m.length) (h62 : l.length < 4611686018427387904) :
    ∀ (n i : Nat), n + i = l.length → Ev (fun k => quillworkref05_Same.l0 k l m i) (decide (l.drop i = m.drop i))
  | 0, i, hm => by
    refine Ev.step (fun k => by rw [quillworkref05_Same.l0]) ?_
    refine Ev.neg (by omega) (Ev.ret ?_)
    rw [List.drop_eq_nil_of_le (by omega), List.drop_eq_nil_of_le (by omega)]
    rfl
  | n + 1, i, hm => by
    have hi : i < l.length := by omega
    have hj : i < m.length := by omega
    refine Ev.step (fun k => by rw [quillworkref05_Same.l0]) ?_
    refine Ev.pos (by omega) (Ev.pos (by omega) (Ev.pos (by omega) ?_))
    rw [rd40_at l i hi, rd40_at m i hj, drop_cons l i hi, drop_cons m i hj]
    have no : l[i] ≠ m[i] → decide (l[i] :: l.drop (i + 1) = m[i] :: m.drop (i + 1)) = false := fun h => decide_eq_false (fun e => h (List.cons.inj e).1)
    by_cases h0 : l[i].f0 = m[i].f0
    · refine Ev.pos h0 ?_
      by_cases h1 : l[i].f1 = m[i].f1
      · refine Ev.pos h1 ?_
        by_cases h2 : l[i].f2.toList = m[i].f2.toList
        · refine Ev.pos h2 ?_
          have he : l[i] = m[i] := by
            have h3 := toList_inj.1 h2
            cases hx : l[i]; cases hy : m[i]
            rw [hx, hy] at h0 h1 h3
            simp only at h0 h1 h3
            rw [h0, h1, h3]
          rw [wrap64_succ i (by omega)]
          refine Ev.cast (same_l l m hl h62 n (i + 1) (by omega)) ?_
          rw [he]
          exact decide_eq_decide.2 ⟨fun h => by rw [h], fun h => (List.cons.inj h).2⟩
        · exact Ev.neg h2 (Ev.ret (no (fun e => h2 (by rw [e]))).symm)
      · exact Ev.neg h1 (Ev.ret (no (fun e => h1 (by rw [e]))).symm)
    · exact Ev.neg h0 (Ev.ret (no (fun e => h0 (by rw [e]))).symm)
theorem same_ev (l m : List S40) (h62 : l.length < 4611686018427387904) : Ev (fun k => quillworkref05_Same.f k l m) (decide (l = m)) := by
  unfold quillworkref05_Same.f
  by_cases hl : l.length = m.length
  · refine Ev.pos (by omega) ?_
    have h := same_l l m hl h62 l.length 0 (by omega)
    rw [List.drop_zero, List.drop_zero] at h
    exact h
  · exact Ev.neg (by omega) (Ev.ret (decide_eq_false (fun e => hl (by rw [e]))).symm)

/-! ### Text -/
theorem celltext_l (l : List S40) (hc : l.length < 35184372088832) :
    ∀ (m i : Nat) (out : List Int), m + i = l.length → out.length = i → Ev (fun k => cells_Text.l0 k out l (l.length : Int) i) (runesBytes (out ++ (l.drop i).map (·.f0)))
  | 0, i, out, hm, ho => by
    refine Ev.step (fun k => by rw [cells_Text.l0]) ?_
    refine Ev.neg (by omega) (Ev.have_ (v := runesBytes out) rfl (Ev.ret ?_))
    rw [List.drop_eq_nil_of_le (by omega)]
    simp
  | m + 1, i, out, hm, ho => by
    have hi : i < l.length := by omega
    refine Ev.step (fun k => by rw [cells_Text.l0]) ?_
    refine Ev.pos (by omega) (Ev.pos (by omega) (Ev.pos (by omega) (Ev.pos (by omega) ?_)))
    rw [rd40_at l i hi, wrap64_succ i (by omega), drop_cons l i hi, List.map_cons]
    refine Ev.cast (celltext_l l hc m (i + 1) (out ++ [l[i].f0]) (by omega) (by simp [ho])) ?_
    rw [List.append_assoc]
    rfl
theorem celltext_ev (l : List S40) (hc : l.length < 35184372088832) : Ev (fun k => cells_Text.f k l) (runesBytes (l.map (·.f0))) := by
  unfold cells_Text.f
  have h := celltext_l l hc l.length 0 [] (by omega) rfl
  rw [List.drop_zero, List.nil_append] at h
  exact h

/-! ### awake -/
theorem clean_an : cleanI [97, 195, 177] = [97, 241] := by decide +kernel
theorem text_an : textL [97, 241] = [97, 195, 177] := by decide +kernel
theorem awake_ev : Ev quillworklaw05_awake.f true := by
  have e1 := of_ev ⟨#[97, 195, 177]⟩ 1 ⟨#[]⟩ (by decide)
  have e0 : ofR 1 ⟨#[]⟩ (cleanI (⟨#[97, 195, 177]⟩ : ByteArray).data.toList) = two 1 := by
    show ofR 1 ⟨#[]⟩ (cleanI [97, 195, 177]) = _
    rw [clean_an]
    rfl
  rw [e0] at e1
  show Ev (fun k => quillworklaw05_awake.f k) true
  unfold quillworklaw05_awake.f
  refine Ev.bind e1 (Ev.have_ (v := (two 2, 0)) (by rfl) (Ev.have_ (v := []) rfl (Ev.pos (by decide) (Ev.have_ (v := two 1) rfl (Ev.pos (by decide) ?_)))))
  refine Ev.have_ (v := [⟨0, 2, 1, ⟨#[]⟩, 0⟩, ⟨2, 3, 0, ⟨#[]⟩, 1⟩]) (by rfl) (Ev.have_ (v := ([], 1)) (by rfl) (Ev.have_ (v := (1, 3)) (by rfl) (Ev.pos (by decide) ?_)))
  refine Ev.bind (celltext_ev (two 1) (by decide)) (Ev.pos ?_ ?_)
  · rw [ByteArray.toList_eq, runesBytes_eq]
    exact text_an
  · refine Ev.pos rfl (Ev.pos (by decide) (Ev.pos (by rfl) (Ev.pos (by rfl) (Ev.pos (by decide) (Ev.pos (by rfl) (Ev.pos rfl (Ev.pos rfl ?_)))))))
    exact Ev.ret (by rfl)

/-! ### the statement -/
theorem cellsOf_ev (s : ByteArray) (b : Int) (h : ByteArray) : Ev (fun k => quillworklaw05_CellsOf.f k s b h) true := by
  have hT : Ev (fun k => quillworklaw05_CellsOf.j0 k s b h true) true := by
    refine Ev.step (fun k => by rw [quillworklaw05_CellsOf.j0]) ?_
    exact Ev.pos rfl (Ev.bind awake_ev (Ev.now _))
  unfold quillworklaw05_CellsOf.f
  by_cases h1 : (s.size : Int) > 10000
  · exact Ev.pos h1 hT
  · refine Ev.neg h1 ?_
    by_cases h2 : (h.size : Int) > 1000
    · rw [decide_eq_true h2]; exact hT
    · rw [decide_eq_false h2]
      have hle := clean_le s.data.toList
      rw [← Lib.size_eq] at hle
      refine Ev.step (fun k => by rw [quillworklaw05_CellsOf.j0]) ?_
      refine Ev.neg (by simp) (Ev.bind (of_ev s b h (by omega)) (Ev.bind (refof_ev s b h (by omega)) (Ev.bind (same_ev _ _ ?_) (Ev.pos (by simp) (Ev.bind awake_ev (Ev.now _))))))
      unfold ofR
      rw [List.length_map]
      omega
theorem CellsOf (s : ByteArray) (b : Int) (h : ByteArray) : ∃ k, quillworklaw05_CellsOf.f k s b h = some true := (cellsOf_ev s b h).rounds
end Go.Proofs.Ytlppeljofjomiaa.Pure
