/- Plain laws: slices.Equal at rows, attrs.Same and the reference's Same tell whether two rows are the same, at rows of at most 1000 attributes. -/
import Derived.Test.YtlppeljofjomiaaDoorPFind
import Derived.Test.YtlppeljofjomiaaDoorXs5
namespace Go.Proofs.YtlppeljofjomiaaDoor.Pure
open Go.RowKit Go.Proofs.YtlppeljofjomiaaDoor.X Go.Proofs.YtlppeljofjomiaaDoorW.PrintWords Go.Proofs.YtlppeljofjomiaaDoorW.PrintLast

def sameA (a b : S27) : Bool := (a.f0.toList == b.f0.toList) && (a.f1.toList == b.f1.toList)
def sameR : List S27 → List S27 → Bool
  | [], [] => true
  | a :: l, b :: m => sameA a b && sameR l m
  | _, _ => false
theorem sameA_refl (a : S27) : sameA a a = true := by simp [sameA]
theorem sameA_symm (a b : S27) : sameA a b = sameA b a := by
  unfold sameA
  rw [Bool.eq_iff_iff, Bool.and_eq_true, Bool.and_eq_true, beq_iff_eq, beq_iff_eq, beq_iff_eq, beq_iff_eq]
  exact ⟨fun h => ⟨h.1.symm, h.2.symm⟩, fun h => ⟨h.1.symm, h.2.symm⟩⟩
theorem sameR_refl : ∀ l, sameR l l = true
  | [] => rfl
  | a :: l => by unfold sameR; rw [sameA_refl, sameR_refl l]; rfl
theorem sameR_symm : ∀ l m, sameR l m = sameR m l
  | [], [] => rfl
  | [], _ :: _ => rfl
  | _ :: _, [] => rfl
  | a :: l, b :: m => by unfold sameR; rw [sameA_symm, sameR_symm l m]
theorem sameR_len : ∀ l m, l.length ≠ m.length → sameR l m = false
  | [], [], h => absurd rfl h
  | [], _ :: _, _ => rfl
  | _ :: _, [], _ => rfl
  | a :: l, b :: m, h => by
    unfold sameR
    rw [sameR_len l m (by simpa using h), Bool.and_false]
theorem drop_rd (l : List S27) (i : Nat) (h : i < l.length) : l.drop i = rd_T27 l (i : Int) :: l.drop (i + 1) := by
  rw [List.drop_eq_getElem_cons h, rd_at l i h]

theorem equal_l0 (l r : List S27) (hl : l.length = r.length) (hk : l.length ≤ 1000) : ∀ (m i : Nat), m + i = l.length → Ev (fun k => api_Attr_59.l0 k l r (l.length : Int) i) (sameR (l.drop i) (r.drop i))
  | 0, i, hm => by
    rw [List.drop_eq_nil_of_le (by omega), List.drop_eq_nil_of_le (by omega)]
    refine Ev.step (fun k => by rw [api_Attr_59.l0]) ?_
    exact Ev.neg (by omega) (Ev.now _)
  | m + 1, i, hm => by
    have ih := equal_l0 l r hl hk m (i + 1) (by omega)
    rw [drop_rd l i (by omega), drop_rd r i (by omega)]
    have hc : (!((rd_T27 l (i : Int)).f0.toList == (rd_T27 r (i : Int)).f0.toList) || !((rd_T27 l (i : Int)).f1.toList == (rd_T27 r (i : Int)).f1.toList)) = !sameA (rd_T27 l (i : Int)) (rd_T27 r (i : Int)) := by
      unfold sameA
      rw [Bool.not_and]
    refine Ev.step (fun k => by rw [api_Attr_59.l0]) ?_
    rw [hc, wrap64_succ i (by omega)]
    refine Ev.pos (by omega) (Ev.pos (by omega) (Ev.pos (by omega) (Ev.pos (by omega) ?_)))
    unfold sameR
    by_cases hs : sameA (rd_T27 l (i : Int)) (rd_T27 r (i : Int)) = true
    · rw [hs, Bool.true_and]
      exact Ev.neg (by simp) ih
    · rw [Bool.not_eq_true] at hs
      rw [hs, Bool.false_and]
      exact Ev.pos rfl (Ev.now _)
theorem equal_ev (l r : List S27) (hk : l.length ≤ 1000) : Ev (fun k => api_Attr_59.f k l r) (sameR l r) := by
  unfold api_Attr_59.f
  by_cases h : l.length = r.length
  · exact Ev.pos (by omega) (equal_l0 l r h hk l.length 0 (by omega))
  · rw [sameR_len l r h]
    exact Ev.neg (by omega) (Ev.now _)
theorem same_ev (l r : List S27) (hk : l.length ≤ 1000) : Ev (fun k => attrs_Same.f k l r) (sameR l r) := by
  unfold attrs_Same.f
  exact Ev.bind (equal_ev l r hk) (Ev.now _)
theorem refsame_l0 (l r : List S27) (hl : l.length = r.length) (hk : l.length ≤ 1000) : ∀ (m i : Nat), m + i = l.length → Ev (fun k => quillworkref03_Same.l0 k l r i) (sameR (l.drop i) (r.drop i))
  | 0, i, hm => by
    rw [List.drop_eq_nil_of_le (by omega), List.drop_eq_nil_of_le (by omega)]
    refine Ev.step (fun k => by rw [quillworkref03_Same.l0]) ?_
    exact Ev.neg (by omega) (Ev.now _)
  | m + 1, i, hm => by
    have ih := refsame_l0 l r hl hk m (i + 1) (by omega)
    rw [drop_rd l i (by omega), drop_rd r i (by omega)]
    refine Ev.step (fun k => by rw [quillworkref03_Same.l0]) ?_
    rw [wrap64_succ i (by omega)]
    refine Ev.pos (by omega) (Ev.pos (by omega) (Ev.pos (by omega) ?_))
    unfold sameR sameA
    refine Ev.ite (fun h => Ev.ite (fun h2 => ?_) (fun h2 => ?_)) (fun h => ?_)
    · rw [beq_iff_eq.2 h, beq_iff_eq.2 h2]
      exact ih
    · rw [beq_eq_false_iff_ne.2 h2, Bool.and_false, Bool.false_and]
      exact Ev.now _
    · rw [beq_eq_false_iff_ne.2 h, Bool.false_and, Bool.false_and]
      exact Ev.now _
theorem refsame_ev (l r : List S27) (hk : l.length ≤ 1000) : Ev (fun k => quillworkref03_Same.f k l r) (sameR l r) := by
  unfold quillworkref03_Same.f
  by_cases h : l.length = r.length
  · exact Ev.pos (by omega) (refsame_l0 l r h hk l.length 0 (by omega))
  · rw [sameR_len l r h]
    exact Ev.neg (by omega) (Ev.now _)
end Go.Proofs.YtlppeljofjomiaaDoor.Pure
