/- Plain law: CellsCuts tells true at every two rows of cells and every two places (whose texts are no longer than a machine's memory). -/
import Derived.Test.YtlppeljofjomiaaPCells
import Derived.Test.YtlppeljofjomiaaXx4
import Derived.Test.YtlppeljofjomiaaXx5
namespace Go.Proofs.Ytlppeljofjomiaa.Pure
open Go Go.Lib Go.RowKit Go.Proofs.Ytlppeljofjomiaa.X Go.Proofs.YtlppeljofjomiaaW.PrintWords Go.Proofs.YtlppeljofjomiaaW.PrintLast
open Go.Proofs.YtlppeljofjomiaaDoor.Pl

/-! ### long -/
theorem long_l (l : List S40) (hl : ∀ a ∈ l, a.f2.size ≤ 140737488351232) (h32 : l.length * 32 ≤ 140737488351232) :
    ∀ (m i : Nat) (n : Int), m + i = l.length → (l.length : Int) ≤ n → n ≤ 100000000000000 → ∃ b, Ev (fun k => quillworklaw05_long.l0 k l n i) b ∧ (b = false → l.length ≤ 20000)
  | 0, i, n, hm, h0, hn => by
    refine ⟨decide (n > 20000), ?_, fun hb => ?_⟩
    · refine Ev.step (fun k => by rw [quillworklaw05_long.l0]) ?_
      exact Ev.neg (by omega) (Ev.now _)
    · have := of_decide_eq_false hb
      omega
  | m + 1, i, n, hm, h0, hn => by
    have hi : i < l.length := by omega
    by_cases h2 : n ≤ 20000
    · have ha := hl l[i] (List.getElem_mem hi)
      have hw : wrap64 (n + wrap64 (((rd_T40 l i).f2.size : Int) / 8)) = n + (l[i].f2.size : Int) / 8 := by
        rw [rd40_at l i hi, wrap64_id ((l[i].f2.size : Int) / 8) (by omega) (by omega), wrap64_id _ (by omega) (by omega)]
      obtain ⟨b, e, hb⟩ := long_l l hl h32 m (i + 1) (n + (l[i].f2.size : Int) / 8) (by omega) (by omega) (by omega)
      refine ⟨b, ?_, hb⟩
      refine Ev.step (fun k => by rw [quillworklaw05_long.l0]) ?_
      refine Ev.pos (by omega) (Ev.pos h2 (Ev.pos (by omega) ?_))
      rw [hw, wrap64_succ i (by omega)]
      exact e
    · refine ⟨true, ?_, fun h => (by cases h)⟩
      refine Ev.step (fun k => by rw [quillworklaw05_long.l0]) ?_
      exact Ev.pos (by omega) (Ev.neg h2 (Ev.ret (decide_eq_true (by omega))))
theorem long_ev (l : List S40) (hl : ∀ a ∈ l, a.f2.size ≤ 140737488351232) (h32 : l.length * 32 ≤ 140737488351232) : ∃ b, Ev (fun k => quillworklaw05_long.f k l) b ∧ (b = false → l.length ≤ 20000) :=
  long_l l hl h32 l.length 0 l.length (by omega) (Int.le_refl _) (by omega)

/-! ### spoil -/
theorem spoil_l : ∀ (m i : Nat) (l : List S40), m + i = l.length → l.length < 4611686018427387904 → ∃ r, Ev (fun k => quillworklaw05_spoil.l0 k l i) r
  | 0, i, l, hm, h62 => by
    refine ⟨l, ?_⟩
    refine Ev.step (fun k => by rw [quillworklaw05_spoil.l0]) ?_
    exact Ev.neg (by omega) (Ev.now _)
  | m + 1, i, l, hm, h62 => by
    obtain ⟨r, e⟩ := spoil_l m (i + 1) (l.set (i : Int).toNat ⟨122, 77, ⟨#[]⟩⟩) (by rw [List.length_set]; omega) (by rw [List.length_set]; exact h62)
    refine ⟨r, ?_⟩
    refine Ev.step (fun k => by rw [quillworklaw05_spoil.l0]) ?_
    refine Ev.pos (by omega) (Ev.pos (by omega) ?_)
    rw [wrap64_succ i (by omega)]
    exact e
theorem spoil_ev (l : List S40) (h62 : l.length < 4611686018427387904) : ∃ r, Ev (fun k => quillworklaw05_spoil.f k l) r := spoil_l l.length 0 l (by omega) h62

/-! ### the rows that there are then -/
theorem own_f (l : List S40) (h : l.length ≤ 40000) : quillworkref05_Own.f l = some l := by
  show (if 0 + l.length < 4398046511104 then some ([] ++ l) else none) = _
  rw [if_pos (by omega), List.nil_append]
theorem refspan_f (l : List S40) (a b : Int) : quillworkref05_Span.f l a b = some (decide (0 ≤ a ∧ a ≤ b ∧ b ≤ l.length)) := by
  unfold quillworkref05_Span.f
  by_cases h0 : 0 ≤ a
  · rw [if_pos h0]
    by_cases h1 : a ≤ b
    · rw [if_pos h1]; simp [h0, h1]
    · rw [if_neg h1]; simp [h1]
  · rw [if_neg h0]; simp [h0]
theorem span_f (l : List S40) (a b : Int) : cells_span.f l a b = some (decide (0 ≤ a ∧ a ≤ b ∧ b ≤ l.length)) := refspan_f l a b
def partR (l : List S40) (a b : Int) : List S40 × Int := if 0 ≤ a ∧ a ≤ b ∧ b ≤ l.length then ((l.take b.toNat).drop a.toNat, 0) else ([], 1)
theorem insertR_le (l : List S40) (a : Int) (m : List S40) : (insertR l a m).1.length ≤ l.length + m.length := by
  unfold insertR
  split
  · simp only [List.length_append, List.length_take, List.length_drop]; omega
  · simp
theorem cutR_le (l : List S40) (a b : Int) : (cutR l a b).1.length ≤ l.length := by
  unfold cutR
  split
  · simp only [List.length_append, List.length_take, List.length_drop]; omega
  · simp
theorem partR_le (l : List S40) (a b : Int) : (partR l a b).1.length ≤ l.length := by
  unfold partR
  split
  · simp only [List.length_take, List.length_drop]; omega
  · simp
theorem insert_f (l : List S40) (a : Int) (m : List S40) (hl : l.length ≤ 20000) (hm : m.length ≤ 20000) : cells_Insert.f l a m = some (insertR l a m) := by unfold cells_Insert.f; rw [if_pos (by omega)]
theorem cut_f (l : List S40) (a b : Int) (hl : l.length ≤ 20000) : cells_Cut.f l a b = some (cutR l a b) := by unfold cells_Cut.f; rw [if_pos (by omega)]
theorem refinsert_f (l : List S40) (a : Int) (m : List S40) (hl : l.length ≤ 20000) (hm : m.length ≤ 20000) : quillworkref05_Insert.f l a m = some (insertR l a m) := by
  unfold quillworkref05_Insert.f insertR
  rw [refspan_f, Option.bind_some]
  by_cases h : 0 ≤ a ∧ a ≤ l.length
  · rw [if_pos (decide_eq_true ⟨h.1, Int.le_refl _, h.2⟩), if_pos h.1, if_pos h.2, if_pos h, own_f _ (by rw [List.length_take]; omega), Option.bind_some]
    rw [if_pos (by rw [List.length_take]; omega)]
    simp only [Option.bind_some]
    rw [if_pos (by simp only [List.length_append, List.length_take, List.length_drop]; omega)]
  · rw [if_neg (by intro h2; exact h ⟨(of_decide_eq_true h2).1, (of_decide_eq_true h2).2.2⟩), if_neg h]
theorem refcut_f (l : List S40) (a b : Int) (hl : l.length ≤ 20000) : quillworkref05_Cut.f l a b = some (cutR l a b) := by
  unfold quillworkref05_Cut.f cutR
  rw [refspan_f, Option.bind_some]
  by_cases h : 0 ≤ a ∧ a ≤ b ∧ b ≤ l.length
  · have h0 := h.1
    have h1 := h.2.1
    have h2 := h.2.2
    rw [if_pos (decide_eq_true h), if_pos h0, if_pos (by omega), if_pos h, own_f _ (by rw [List.length_take]; omega), Option.bind_some]
    rw [if_pos (by omega), if_pos h2]
    simp only [Option.bind_some]
    rw [if_pos (by simp only [List.length_take, List.length_drop]; omega)]
  · rw [if_neg (by intro h2; exact h (of_decide_eq_true h2)), if_neg h]
theorem part_f (l : List S40) (a b : Int) (hl : l.length ≤ 20000) : cells_Part.f l a b = some (partR l a b) := by
  unfold cells_Part.f partR
  rw [span_f, Option.bind_some]
  by_cases h : 0 ≤ a ∧ a ≤ b ∧ b ≤ l.length
  · rw [if_pos (decide_eq_true h), if_pos h.1, if_pos h.2.1, if_pos h.2.2, if_pos h]
    unfold api_Cell.f
    rw [if_pos (by simp only [List.length_take, List.length_drop]; omega), Option.bind_some]
  · rw [if_neg (by intro h2; exact h (of_decide_eq_true h2)), if_neg h]
theorem refpart_f (l : List S40) (a b : Int) (hl : l.length ≤ 20000) : quillworkref05_Part.f l a b = some (partR l a b) := by
  unfold quillworkref05_Part.f partR
  rw [refspan_f, Option.bind_some]
  by_cases h : 0 ≤ a ∧ a ≤ b ∧ b ≤ l.length
  · rw [if_pos (decide_eq_true h), if_pos h.1, if_pos h.2.1, if_pos h.2.2, if_pos h, own_f _ (by simp only [List.length_take, List.length_drop]; omega), Option.bind_some]
  · rw [if_neg (by intro h2; exact h (of_decide_eq_true h2)), if_neg h]

/-! ### the statement -/
theorem same_refl (l : List S40) (h : l.length ≤ 40000) : Ev (fun k => quillworkref05_Same.f k l l) true := Ev.cast (same_ev l l (by omega)) (decide_eq_true rfl)
theorem cellsCuts_ev (l m : List S40) (a b : Int) (hl : ∀ x ∈ l, x.f2.size ≤ 140737488351232) (hl2 : l.length * 32 ≤ 140737488351232) (hm : ∀ x ∈ m, x.f2.size ≤ 140737488351232) (hm2 : m.length * 32 ≤ 140737488351232) : Ev (fun k => quillworklaw05_CellsCuts.f k l m a b) true := by
  obtain ⟨r1, e1, h1⟩ := long_ev l hl hl2
  obtain ⟨r2, e2, h2⟩ := long_ev m hm hm2
  have hT : Ev (fun k => quillworklaw05_CellsCuts.j0 k l m a b true) true := by
    refine Ev.step (fun k => by rw [quillworklaw05_CellsCuts.j0]) ?_
    exact Ev.pos rfl (Ev.bind awake_ev (Ev.now _))
  unfold quillworklaw05_CellsCuts.f
  refine Ev.bind e1 ?_
  by_cases hr1 : r1 = true
  · exact Ev.pos hr1 hT
  · refine Ev.neg hr1 (Ev.bind e2 ?_)
    rw [Bool.not_eq_true] at hr1
    have l1 := h1 hr1
    by_cases hr : r2 = true
    · rw [hr]; exact hT
    · rw [Bool.not_eq_true] at hr
      have l2 := h2 hr
      rw [hr]
      have z1 := insertR_le l a m
      have z2 := cutR_le l a b
      have z3 := partR_le l a b
      obtain ⟨s1, f1⟩ := spoil_ev (insertR l a m).1 (by omega)
      obtain ⟨s2, f2⟩ := spoil_ev (cutR l a b).1 (by omega)
      obtain ⟨s3, f3⟩ := spoil_ev (partR l a b).1 (by omega)
      refine Ev.step (fun k => by rw [quillworklaw05_CellsCuts.j0]) ?_
      refine Ev.neg (by simp) (Ev.have_ (own_f l (by omega)) (Ev.have_ (own_f m (by omega)) ?_))
      refine Ev.have_ (insert_f l a m l1 l2) (Ev.have_ (refinsert_f l a m l1 l2) (Ev.have_ (cut_f l a b l1) (Ev.have_ (refcut_f l a b l1) (Ev.have_ (part_f l a b l1) (Ev.have_ (refpart_f l a b l1) ?_)))))
      refine Ev.pos rfl (Ev.pos rfl (Ev.pos rfl ?_))
      refine Ev.bind (same_refl _ (by omega)) (Ev.pos rfl (Ev.bind (same_refl _ (by omega)) (Ev.pos rfl (Ev.bind (same_refl _ (by omega)) ?_))))
      refine Ev.step (fun k => by rw [quillworklaw05_CellsCuts.j1]) ?_
      refine Ev.neg (by simp) (Ev.bind f1 (Ev.bind f2 (Ev.bind f3 ?_)))
      exact Ev.bind (same_refl l (by omega)) (Ev.pos rfl (Ev.bind (same_refl m (by omega)) (Ev.pos rfl (Ev.bind awake_ev (Ev.now _)))))
theorem CellsCuts (l : List S40) (hl : ∀ x ∈ l, x.f2.size ≤ 140737488351232) (hl2 : l.length * 32 ≤ 140737488351232) (m : List S40) (hm : ∀ x ∈ m, x.f2.size ≤ 140737488351232) (hm2 : m.length * 32 ≤ 140737488351232) (a b : Int) : ∃ k, quillworklaw05_CellsCuts.f k l m a b = some true := (cellsCuts_ev l m a b hl hl2 hm hm2).rounds
end Go.Proofs.Ytlppeljofjomiaa.Pure
