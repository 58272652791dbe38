/- Plain law: AttrsOnly tells true at every row and every two names (no longer than a machine's memory). -/
import Derived.Test.YtlppeljofjomiaaDoorPOM
import Derived.Test.YtlppeljofjomiaaDoorXs4
namespace Go.Proofs.YtlppeljofjomiaaDoor.Pure
open Go.RowKit Go.Proofs.YtlppeljofjomiaaDoor.X Go.Proofs.YtlppeljofjomiaaDoorW.PrintWords Go.Proofs.YtlppeljofjomiaaDoorW.PrintLast

theorem filter_one {α : Type} (q : α → Bool) : ∀ (l : List α), (∀ (i j : Nat) (x y : α), l[i]? = some x → l[j]? = some y → q x = true → q y = true → i = j) → (l.filter q).length ≤ 1
  | [], _ => by simp
  | a :: l, h => by
    have ih := filter_one q l (fun i j x y hi hj hx hy => by
      have := h (i + 1) (j + 1) x y (by simpa using hi) (by simpa using hj) hx hy
      omega)
    by_cases ha : q a = true
    · rw [List.filter_cons_of_pos ha]
      have : l.filter q = [] := by
        rw [List.filter_eq_nil_iff]
        intro x hx hq
        obtain ⟨j, hj⟩ := List.getElem?_of_mem hx
        have := h 0 (j + 1) a x rfl (by simpa using hj) ha hq
        omega
      rw [this]
      simp
    · rw [List.filter_cons_of_neg ha]
      exact ih
theorem only_none (l : List S27) : onlyR [] l = [] := by
  unfold onlyR
  rw [List.filter_eq_nil_iff]
  intro a _
  simp [inB]
theorem only_one (l : List S27) (n : ByteArray) (h : mayR l = true) : (onlyR [n] l).length ≤ 1 := by
  rw [mayR_iff] at h
  refine filter_one _ l (fun i j x y hi hj hx hy => ?_)
  have hil := (List.getElem?_eq_some_iff.1 hi).1
  have hjl := (List.getElem?_eq_some_iff.1 hj).1
  have ex : rd_T27 l (i : Int) = x := by rw [rd_at l i hil]; exact (List.getElem?_eq_some_iff.1 hi).2
  have ey : rd_T27 l (j : Int) = y := by rw [rd_at l j hjl]; exact (List.getElem?_eq_some_iff.1 hj).2
  have hx2 : x.f0 = n := by simpa [inB, toList_inj] using hx
  have hy2 : y.f0 = n := by simpa [inB, toList_inj] using hy
  have h1 := (h i hil).2.2
  have h2 := (h j hjl).2.2
  rw [ex, hx2] at h1
  rw [ey, hy2] at h2
  omega

section
variable (l : List S27) (a b : ByteArray)
theorem onlyLaw_l0 (hl : l.length ≤ 1000) (hs : ∀ x ∈ l, x.f1.size ≤ 20000) : ∀ (m i c : Nat), m + i = l.length → c ≤ (onlyR [a, b] l).length → (onlyR [a, b] l).drop c = onlyR [a, b] (l.drop i) →
    Ev (fun k => quillworklaw03_AttrsOnly.l0 k l a b (onlyR [a, b] l) c i) true
  | 0, i, c, hm, hc, hd => by
    rw [List.drop_eq_nil_of_le (show l.length ≤ i by omega)] at hd
    have hlen := congrArg List.length hd
    rw [List.length_drop] at hlen
    have h0 : (onlyR [a, b] ([] : List S27)).length = 0 := rfl
    refine Ev.step (fun k => by rw [quillworklaw03_AttrsOnly.l0]) ?_
    refine Ev.neg (by omega) (Ev.pos (by omega) (Ev.bind (only_ev [] l (by simp) hl) (Ev.pos (by rw [only_none]; rfl) (Ev.bind (may_ev l hl hs) (Ev.ite (fun h => ?_) (fun h => ?_))))))
    · have h1 := only_one l a h
      exact Ev.bind (only_ev [a] l (by simp) hl) (Ev.pos (by omega) (Ev.bind awake_ev (Ev.now _)))
    · exact Ev.bind awake_ev (Ev.now _)
  | m + 1, i, c, hm, hc, hd => by
    have hi : i < l.length := by omega
    obtain ⟨x, hx⟩ : ∃ x, rd_T27 l (i : Int) = x := ⟨_, rfl⟩
    have hdrop := drop_rd' l i hi
    rw [hx] at hdrop
    have hin : inB [a, b] x.f0 = (decide (x.f0.toList = a.toList) || decide (x.f0.toList = b.toList)) := by simp [inB]
    have hY : inB [a, b] x.f0 = true → Ev (fun k => quillworklaw03_AttrsOnly.j1 k l a b (onlyR [a, b] l) c i true) true := fun hp => by
      rw [hdrop] at hd
      unfold onlyR at hd
      rw [List.filter_cons_of_pos (by exact hp)] at hd
      have hd2 : (onlyR [a, b] l).drop c = x :: onlyR [a, b] (l.drop (i + 1)) := hd
      have hlen := congrArg List.length hd2
      rw [List.length_drop, List.length_cons] at hlen
      have hcl : c < (onlyR [a, b] l).length := by omega
      rw [drop_rd' _ c hcl] at hd2
      obtain ⟨he, hd3⟩ := List.cons.inj hd2
      have ih := onlyLaw_l0 hl hs m (i + 1) (c + 1) (by omega) (by omega) hd3
      have hle : (onlyR [a, b] l).length ≤ l.length := List.length_filter_le _ _
      refine Ev.step (fun k => by rw [quillworklaw03_AttrsOnly.j1]) ?_
      rw [hx, he, wrap64_succ i (by omega), wrap64_succ c (by omega)]
      exact Ev.pos rfl (Ev.neg (by omega) (Ev.pos (by omega) (Ev.pos (by omega) (Ev.pos (by omega) (Ev.pos (by omega) (Ev.pos rfl (Ev.pos rfl ih)))))))
    refine Ev.step (fun k => by rw [quillworklaw03_AttrsOnly.l0]) ?_
    rw [hx]
    refine Ev.pos (by omega) (Ev.pos (by omega) (Ev.ite (fun h => hY (by rw [hin, decide_eq_true h]; rfl)) (fun h => ?_)))
    by_cases h2 : x.f0.toList = b.toList
    · rw [beq_iff_eq.2 h2]
      exact hY (by rw [hin, decide_eq_true h2, Bool.or_true])
    · rw [beq_eq_false_iff_ne.2 h2]
      have hp : ¬ inB [a, b] x.f0 = true := by rw [hin, decide_eq_false h, decide_eq_false h2]; simp
      rw [hdrop] at hd
      unfold onlyR at hd
      rw [List.filter_cons_of_neg (by exact hp)] at hd
      have ih := onlyLaw_l0 hl hs m (i + 1) c (by omega) hc hd
      refine Ev.step (fun k => by rw [quillworklaw03_AttrsOnly.j1]) ?_
      rw [wrap64_succ i (by omega)]
      exact Ev.neg (by simp) ih
end
theorem AttrsOnly (l : List S27) (hl : ∀ x ∈ l, x.f0.size ≤ 140737488351232 ∧ x.f1.size ≤ 140737488351232) (hl2 : l.length * 32 ≤ 140737488351232) (a : ByteArray) (ha : a.size ≤ 140737488351232) (b : ByteArray) (hb : b.size ≤ 140737488351232) :
    ∃ k, quillworklaw03_AttrsOnly.f k l a b = some true := by
  obtain ⟨r, e, h⟩ := long_ev l [a, b] hl (by intro t ht; simp at ht; rcases ht with rfl | rfl <;> assumption) (by simp)
  have e2 : Ev (fun k => quillworklaw03_AttrsOnly.f k l a b) true := by
    unfold quillworklaw03_AttrsOnly.f
    refine Ev.bind e (Ev.ite (fun _ => Ev.bind awake_ev (Ev.now _)) (fun hr => ?_))
    obtain ⟨h1, _, h3⟩ := h (by simpa using hr)
    refine Ev.bind (only_ev [a, b] l (by simp) (by omega)) ?_
    exact onlyLaw_l0 l a b (by omega) (fun x hx => (h3 x hx).2) l.length 0 0 (by omega) (by omega) rfl
  exact e2.rounds
end Go.Proofs.YtlppeljofjomiaaDoor.Pure
