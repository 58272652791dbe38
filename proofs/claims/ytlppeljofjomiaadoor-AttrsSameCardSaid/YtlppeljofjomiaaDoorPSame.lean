/- Plain law: AttrsSame tells true at every two rows (whose texts are no longer than a machine's memory). -/
import Derived.Test.YtlppeljofjomiaaDoorPEq
import Derived.Test.YtlppeljofjomiaaDoorXs7
namespace Go.Proofs.YtlppeljofjomiaaDoor.Pure
open Go.RowKit Go.Proofs.YtlppeljofjomiaaDoor.X Go.Proofs.YtlppeljofjomiaaDoorW.PrintWords Go.Proofs.YtlppeljofjomiaaDoorW.PrintLast

theorem sameLaw_ev (a b : List S27) (ha : ∀ x ∈ a, x.f0.size ≤ 140737488351232 ∧ x.f1.size ≤ 140737488351232) (hb : ∀ x ∈ b, x.f0.size ≤ 140737488351232 ∧ x.f1.size ≤ 140737488351232) : Ev (fun k => quillworklaw03_AttrsSame.f k a b) true := by
  obtain ⟨r1, e1, h1⟩ := long_ev a [] ha (by simp) (by simp)
  obtain ⟨r2, e2, h2⟩ := long_ev b [] hb (by simp) (by simp)
  have hT : Ev (fun k => quillworklaw03_AttrsSame.j0 k a b true) true := by
    refine Ev.step (fun k => by rw [quillworklaw03_AttrsSame.j0]) ?_
    exact Ev.pos rfl (Ev.bind awake_ev (Ev.now _))
  unfold quillworklaw03_AttrsSame.f
  refine Ev.bind e1 (Ev.ite (fun h => hT) (fun h => Ev.bind e2 ?_))
  obtain ⟨l1, _, _⟩ := h1 (by simpa using h)
  by_cases hr : r2 = true
  · rw [hr]; exact hT
  · rw [Bool.not_eq_true] at hr
    obtain ⟨l2, _, _⟩ := h2 hr
    rw [hr]
    refine Ev.step (fun k => by rw [quillworklaw03_AttrsSame.j0]) ?_
    refine Ev.neg (by simp) (Ev.bind (same_ev a b (by omega)) (Ev.bind (refsame_ev a b (by omega)) (Ev.pos (by simp) ?_)))
    refine Ev.bind (same_ev b a (by omega)) (Ev.bind (same_ev a b (by omega)) (Ev.pos (by rw [sameR_symm]; simp) ?_))
    exact Ev.bind (same_ev a a (by omega)) (Ev.pos (sameR_refl a) (Ev.bind awake_ev (Ev.now _)))
theorem AttrsSame (a : List S27) (ha : ∀ x ∈ a, x.f0.size ≤ 140737488351232 ∧ x.f1.size ≤ 140737488351232) (ha2 : a.length * 32 ≤ 140737488351232) (b : List S27) (hb : ∀ x ∈ b, x.f0.size ≤ 140737488351232 ∧ x.f1.size ≤ 140737488351232) (hb2 : b.length * 32 ≤ 140737488351232) : ∃ k, quillworklaw03_AttrsSame.f k a b = some true := (sameLaw_ev a b ha hb).rounds
end Go.Proofs.YtlppeljofjomiaaDoor.Pure
