/- Plain laws of rows of attributes: where the first attribute of a name stands (findI), what putR, getR, dropR do to it. No program in sight, no condition. -/
import Derived.Test.YtlppeljofjomiaaDoorPBase
namespace Go.Proofs.YtlppeljofjomiaaDoor.Pure
open Go.RowKit Go.Proofs.YtlppeljofjomiaaDoor.X Go.Proofs.YtlppeljofjomiaaDoorW.PrintWords Go.Proofs.YtlppeljofjomiaaDoorW.PrintLast
open Go.Proofs.YtlppeljofjomiaaDoor.Pl

theorem Ev.ite {α : Type} {c : Prop} [Decidable c] {f g : Nat → Option α} {r : α} (h : c → Ev f r) (k : ¬ c → Ev g r) : Ev (fun n => if c then f n else g n) r := by
  by_cases hc : c
  · exact Ev.pos hc (h hc)
  · exact Ev.neg hc (k hc)
theorem findFrom_spec (p : S27 → Bool) (l : List S27) : ∀ (m i : Nat), m + i = l.length →
    (findFrom p l m i = -1 ∧ ∀ j, i ≤ j → j < l.length → p (rd_T27 l j) = false) ∨ (∃ j : Nat, i ≤ j ∧ j < l.length ∧ findFrom p l m i = j ∧ p (rd_T27 l j) = true ∧ ∀ q : Nat, i ≤ q → q < j → p (rd_T27 l q) = false)
  | 0, i, hm => .inl ⟨rfl, fun j h1 h2 => by omega⟩
  | m + 1, i, hm => by
    unfold findFrom
    by_cases hp : p (rd_T27 l i) = true
    · rw [if_pos hp]
      exact .inr ⟨i, Nat.le_refl _, by omega, rfl, hp, fun q h1 h2 => by omega⟩
    · rw [if_neg hp]
      rw [Bool.not_eq_true] at hp
      rcases findFrom_spec p l m (i + 1) (by omega) with ⟨h1, h2⟩ | ⟨j, h1, h2, h3, h4, h5⟩
      · refine .inl ⟨h1, fun j h3 h4 => ?_⟩
        by_cases hj : j = i
        · rw [hj]; exact hp
        · exact h2 j (by omega) h4
      · refine .inr ⟨j, by omega, h2, h3, h4, fun q h6 h7 => ?_⟩
        by_cases hj : q = i
        · rw [hj]; exact hp
        · exact h5 q (by omega) h7
theorem findI_spec (p : S27 → Bool) (l : List S27) :
    (findI p l = -1 ∧ ∀ j : Nat, j < l.length → p (rd_T27 l j) = false) ∨ (∃ j : Nat, j < l.length ∧ findI p l = j ∧ p (rd_T27 l j) = true ∧ ∀ q : Nat, q < j → p (rd_T27 l q) = false) := by
  rcases findFrom_spec p l l.length 0 (by omega) with ⟨h1, h2⟩ | ⟨j, _, h2, h3, h4, h5⟩
  · exact .inl ⟨h1, fun j h => h2 j (by omega) h⟩
  · exact .inr ⟨j, h2, h3, h4, fun q h => h5 q (by omega) h⟩
theorem findI_none (p : S27 → Bool) (l : List S27) (h : ∀ j : Nat, j < l.length → p (rd_T27 l j) = false) : findI p l = -1 := by
  rcases findI_spec p l with ⟨h1, _⟩ | ⟨j, h1, _, h3, _⟩
  · exact h1
  · rw [h j h1] at h3; cases h3
theorem findI_some (p : S27 → Bool) (l : List S27) (j : Nat) (hj : j < l.length) (h : p (rd_T27 l j) = true) (h2 : ∀ q : Nat, q < j → p (rd_T27 l q) = false) : findI p l = j := by
  rcases findI_spec p l with ⟨_, h1⟩ | ⟨i, h3, h4, h5, h6⟩
  · rw [h1 j hj] at h; cases h
  · rw [h4]
    rcases Nat.lt_trichotomy i j with hlt | rfl | hlt
    · rw [h2 i hlt] at h5; cases h5
    · rfl
    · rw [h6 j hlt] at h; cases h
theorem isName_iff (n : ByteArray) (a : S27) : isName n a = true ↔ a.f0 = n := by
  unfold isName
  rw [beq_iff_eq, toList_inj]
theorem isName_self (a : S27) : isName a.f0 a = true := (isName_iff _ _).2 rfl
/-- Rows of the same names find the same. -/
theorem findI_names (n : ByteArray) (l m : List S27) (hl : l.length = m.length) (h : ∀ j : Nat, j < l.length → (rd_T27 l j).f0 = (rd_T27 m j).f0) : findI (isName n) l = findI (isName n) m := by
  have e : ∀ j : Nat, j < l.length → isName n (rd_T27 l j) = isName n (rd_T27 m j) := fun j hj => by unfold isName; rw [h j hj]
  rcases findI_spec (isName n) l with ⟨h1, h2⟩ | ⟨j, h1, h2, h3, h4⟩
  · rw [h1, findI_none]
    intro j hj
    rw [← e j (by omega)]
    exact h2 j (by omega)
  · rw [h2, findI_some (isName n) m j (by omega)]
    · rw [← e j h1]; exact h3
    · intro q hq
      rw [← e q (by omega)]
      exact h4 q hq
/-- The first of an attribute's own name stands at its place or before it. -/
theorem findI_own (l : List S27) (i : Nat) (hi : i < l.length) : 0 ≤ findI (isName (rd_T27 l i).f0) l ∧ findI (isName (rd_T27 l i).f0) l ≤ i := by
  rcases findI_spec (isName (rd_T27 l i).f0) l with ⟨_, h2⟩ | ⟨j, h1, h2, h3, h4⟩
  · have := h2 i hi
    rw [isName_self] at this
    cases this
  · rw [h2]
    refine ⟨by omega, ?_⟩
    rcases Nat.lt_or_ge i j with h | h
    · have := h4 i h
      rw [isName_self] at this
      cases this
    · omega

theorem rd_set (l : List S27) (i j : Nat) (x : S27) (hj : j < l.length) : rd_T27 (l.set i x) (j : Int) = if i = j then x else rd_T27 l (j : Int) := by
  rw [rd_at _ j (by simpa using hj), rd_at l j hj, List.getElem_set]
theorem rd_app (l : List S27) (x : S27) (j : Nat) (hj : j < l.length) : rd_T27 (l ++ [x]) (j : Int) = rd_T27 l (j : Int) := by
  rw [rd_at _ j (by simp; omega), rd_at l j hj, List.getElem_append_left hj]
theorem rd_last (l : List S27) (x : S27) : rd_T27 (l ++ [x]) (l.length : Int) = x := by
  rw [rd_at _ _ (by simp)]
  simp
theorem find_app (n : ByteArray) (l : List S27) (x : S27) : findI (isName n) (l ++ [x]) = if 0 ≤ findI (isName n) l then findI (isName n) l else if x.f0 = n then (l.length : Int) else -1 := by
  rcases findI_spec (isName n) l with ⟨h1, h2⟩ | ⟨j, h1, h2, h3, h4⟩
  · rw [h1, if_neg (by omega)]
    by_cases hx : x.f0 = n
    · rw [if_pos hx]
      refine findI_some _ _ l.length (by simp) (by rw [rd_last]; exact (isName_iff _ _).2 hx) (fun q hq => ?_)
      rw [rd_app l x q hq]
      exact h2 q hq
    · rw [if_neg hx]
      refine findI_none _ _ (fun j hj => ?_)
      rw [List.length_append, List.length_singleton] at hj
      by_cases hjl : j < l.length
      · rw [rd_app l x j hjl]; exact h2 j hjl
      · obtain rfl : j = l.length := by omega
        rw [rd_last, ← Bool.not_eq_true, isName_iff]
        exact hx
  · rw [h2, if_pos (by omega)]
    refine findI_some _ _ j (by simp; omega) (by rw [rd_app l x j h1]; exact h3) (fun q hq => ?_)
    rw [rd_app l x q (by omega)]
    exact h4 q hq

/-! ### May -/
def mayP (l : List S27) (i : Nat) : Bool := nameB (rd_T27 l i).f0.data.toList && (valueB (rd_T27 l i).f1.data.toList && decide (findI (isName (rd_T27 l i).f0) l = (i : Int)))
def mayF (l : List S27) : Nat → Nat → Bool
  | 0, _ => true
  | m + 1, i => mayP l i && mayF l m (i + 1)
def mayR (l : List S27) : Bool := mayF l l.length 0
theorem mayF_iff (l : List S27) : ∀ m i, mayF l m i = true ↔ ∀ j, i ≤ j → j < i + m → mayP l j = true
  | 0, i => ⟨fun _ j h1 h2 => by omega, fun _ => rfl⟩
  | m + 1, i => by
    unfold mayF
    rw [Bool.and_eq_true, mayF_iff l m (i + 1)]
    constructor
    · rintro ⟨h1, h2⟩ j h3 h4
      by_cases hj : j = i
      · rw [hj]; exact h1
      · exact h2 j (by omega) (by omega)
    · intro h
      exact ⟨h i (Nat.le_refl _) (by omega), fun j h1 h2 => h j (by omega) (by omega)⟩
theorem mayR_iff (l : List S27) : mayR l = true ↔ ∀ j : Nat, j < l.length → nameB (rd_T27 l j).f0.data.toList = true ∧ valueB (rd_T27 l j).f1.data.toList = true ∧ findI (isName (rd_T27 l j).f0) l = (j : Int) := by
  unfold mayR
  rw [mayF_iff]
  constructor
  · intro h j hj
    have := h j (by omega) (by omega)
    unfold mayP at this
    rw [Bool.and_eq_true, Bool.and_eq_true, decide_eq_true_eq] at this
    exact this
  · intro h j _ hj
    unfold mayP
    rw [Bool.and_eq_true, Bool.and_eq_true, decide_eq_true_eq]
    exact h j (by omega)

/-! ### put, then read again -/
structure PutFacts (l m : List S27) (n v : ByteArray) : Prop where
  len : m.length = l.length ∧ 0 ≤ findI (isName n) l ∨ m.length = l.length + 1 ∧ findI (isName n) l = -1
  get : getR m n = (v, true)
  other : ∀ n2, n2 ≠ n → getR m n2 = getR l n2
  may : mayR l = true → mayR m = true
  drop2 : (dropR m n).2 = 0
  dropl : (dropR m n).1.length + 1 = m.length
  back : findI (isName n) l = -1 → (dropR m n).1 = l
  mem : ∀ a ∈ m, a.f1 = v ∨ ∃ b ∈ l, a.f1 = b.f1
theorem put_facts (l : List S27) (n v : ByteArray) (hn : nameB n.data.toList = true) (hv : valueB v.data.toList = true) : (putR l n v).2 = 0 ∧ PutFacts l (putR l n v).1 n v := by
  unfold putR
  rw [if_pos ⟨hn, hv⟩]
  refine ⟨rfl, ?_⟩
  rcases findI_spec (isName n) l with ⟨h1, h2⟩ | ⟨i, h1, h2, h3, h4⟩
  · rw [h1, if_neg (by omega)]
    have hfn : findI (isName n) (l ++ [⟨n, v⟩]) = l.length := by rw [find_app, h1, if_neg (by omega), if_pos rfl]
    have hdrop : dropR (l ++ [⟨n, v⟩]) n = (l, 0) := by
      unfold dropR
      rw [hfn, if_neg (by omega), Int.toNat_natCast]
      congr 1
      rw [List.eraseIdx_append_of_length_le (Nat.le_refl _)]
      simp
    refine ⟨.inr ⟨by simp, h1⟩, ?_, fun n2 hne => ?_, fun hm => ?_, by rw [hdrop], by rw [hdrop]; simp, fun _ => by rw [hdrop], fun a ha => ?_⟩
    · unfold getR
      rw [hfn, if_pos (by omega), rd_last]
    · unfold getR
      by_cases hc : 0 ≤ findI (isName n2) l
      · rw [find_app, if_pos hc, if_pos hc]
        obtain ⟨q, hq, hq2⟩ : ∃ q : Nat, q < l.length ∧ findI (isName n2) l = q := by
          rcases findI_cases (isName n2) l with h | ⟨q, hq, h⟩
          · omega
          · exact ⟨q, hq, h⟩
        rw [hq2, rd_app l _ q hq, if_pos (by omega)]
      · have hx : findI (isName n2) (l ++ [⟨n, v⟩]) = -1 := by
          rw [find_app, if_neg hc, if_neg (fun h => hne h.symm)]
        rw [hx, if_neg (by omega), if_neg hc]
    · rw [mayR_iff] at hm ⊢
      intro j hj
      rw [List.length_append, List.length_singleton] at hj
      by_cases hjl : j < l.length
      · obtain ⟨m1, m2, m3⟩ := hm j hjl
        rw [rd_app l _ j hjl, find_app, m3, if_pos (by omega)]
        exact ⟨m1, m2, rfl⟩
      · obtain rfl : j = l.length := by omega
        rw [rd_last]
        exact ⟨hn, hv, hfn⟩
    · rcases List.mem_append.1 ha with h | h
      · exact .inr ⟨a, h, rfl⟩
      · rw [List.mem_singleton] at h
        subst h
        exact .inl rfl
  · rw [h2, if_pos (by omega), Int.toNat_natCast]
    have hin : (rd_T27 l i).f0 = n := (isName_iff _ _).1 h3
    have hnames : ∀ n2, findI (isName n2) (l.set i ⟨(rd_T27 l i).f0, v⟩) = findI (isName n2) l := fun n2 => by
      refine findI_names n2 _ l (by simp) (fun j hj => ?_)
      rw [List.length_set] at hj
      rw [rd_set l i j _ hj]
      split
      · rename_i h; subst h; rfl
      · rfl
    refine ⟨.inl ⟨by simp, by omega⟩, ?_, fun n2 hne => ?_, fun hm => ?_, ?_, ?_, fun h => by omega, fun a ha => ?_⟩
    · unfold getR
      rw [hnames, h2, if_pos (by omega), rd_set l i i _ h1, if_pos rfl]
    · unfold getR
      rw [hnames]
      rcases findI_spec (isName n2) l with ⟨g1, _⟩ | ⟨q, g1, g2, g3, _⟩
      · rw [g1, if_neg (by omega), if_neg (by omega)]
      · rw [g2, if_pos (by omega), if_pos (by omega), rd_set l i q _ g1, if_neg]
        intro h
        subst h
        exact hne (((isName_iff _ _).1 g3).symm.trans hin)
    · rw [mayR_iff] at hm ⊢
      intro j hj
      rw [List.length_set] at hj
      obtain ⟨m1, m2, m3⟩ := hm j hj
      rw [rd_set l i j _ hj]
      split
      · rename_i h
        subst h
        rw [hnames]
        exact ⟨m1, hv, m3⟩
      · rw [hnames]
        exact ⟨m1, m2, m3⟩
    · unfold dropR
      rw [hnames, h2, if_neg (by omega)]
    · unfold dropR
      rw [hnames, h2, if_neg (by omega), Int.toNat_natCast]
      show (List.eraseIdx _ i).length + 1 = _
      rw [List.length_eraseIdx, List.length_set, if_pos h1]
      omega
    · rcases List.mem_or_eq_of_mem_set ha with h | h
      · exact .inr ⟨a, h, rfl⟩
      · subst h
        exact .inl rfl
end Go.Proofs.YtlppeljofjomiaaDoor.Pure
