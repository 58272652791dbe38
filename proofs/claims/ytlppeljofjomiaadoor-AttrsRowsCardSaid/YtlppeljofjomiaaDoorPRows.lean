/- Plain law: AttrsRows tells true at every row and every two texts (no longer than a machine's memory). -/
import Derived.Test.YtlppeljofjomiaaDoorPRef
import Derived.Test.YtlppeljofjomiaaDoorPEq
import Derived.Test.YtlppeljofjomiaaDoorXs11
namespace Go.Proofs.YtlppeljofjomiaaDoor.Pure
open Go.RowKit Go.Proofs.YtlppeljofjomiaaDoor.X Go.Proofs.YtlppeljofjomiaaDoorW.PrintWords Go.Proofs.YtlppeljofjomiaaDoorW.PrintLast
open Go.Proofs.YtlppeljofjomiaaDoor.Pl

theorem spoil_ev (n : Nat) (hn : n ≤ 1000) : ∀ (m i : Nat) (l : List S27), l.length = n → m + i = n → ∃ r, Ev (fun k => quillworklaw03_spoil.l0 k l i) r
  | 0, i, l, hl, hm => by
    refine ⟨l, ?_⟩
    refine Ev.step (fun k => by rw [quillworklaw03_spoil.l0]) ?_
    exact Ev.neg (by omega) (Ev.now _)
  | m + 1, i, l, hl, hm => by
    obtain ⟨r, e⟩ := spoil_ev n hn m (i + 1) (l.set (i : Int).toNat ⟨⟨#[122, 122]⟩, ⟨#[]⟩⟩) (by simpa using hl) (by omega)
    refine ⟨r, ?_⟩
    refine Ev.step (fun k => by rw [quillworklaw03_spoil.l0]) ?_
    rw [wrap64_succ i (by omega)]
    exact Ev.pos (by omega) (Ev.pos (by omega) e)
theorem rowsLaw_j1 (l a b c : List S27) (hl : l.length ≤ 1000) (ha : a.length ≤ 1000) (hb : b.length ≤ 1000) (hc : c.length ≤ 1000) : Ev (fun k => quillworklaw03_AttrsRows.j1 k l l a b c false) true := by
  obtain ⟨r1, e1⟩ := spoil_ev a.length ha a.length 0 a rfl (by omega)
  obtain ⟨r2, e2⟩ := spoil_ev b.length hb b.length 0 b rfl (by omega)
  obtain ⟨r3, e3⟩ := spoil_ev c.length hc c.length 0 c rfl (by omega)
  refine Ev.step (fun k => by rw [quillworklaw03_AttrsRows.j1]) ?_
  unfold quillworklaw03_spoil.f
  exact Ev.neg (by simp) (Ev.bind e1 (Ev.bind e2 (Ev.bind e3 (Ev.bind (refsame_ev l l hl) (Ev.pos (sameR_refl l) (Ev.bind awake_ev (Ev.now _)))))))
theorem putR_len (l : List S27) (n v : ByteArray) (hl : l.length ≤ 200) : (putR l n v).1.length ≤ 201 := by
  unfold putR
  split
  · show (if findI (isName n) l ≥ 0 then _ else _ : List S27).length ≤ 201
    split
    · rw [List.length_set]; omega
    · rw [List.length_append, List.length_singleton]; omega
  · simp
theorem dropR_len (l : List S27) (n : ByteArray) (hl : l.length ≤ 200) : (dropR l n).1.length ≤ 200 := by
  unfold dropR
  split
  · simp
  · show (List.eraseIdx _ _).length ≤ 200
    rw [List.length_eraseIdx]
    split <;> omega
theorem onlyR_len (ts : List ByteArray) (l : List S27) (hl : l.length ≤ 200) : (onlyR ts l).length ≤ 200 := Nat.le_trans (List.length_filter_le _ _) hl
theorem rowsLaw_j0 (l : List S27) (a b : ByteArray) (hl : l.length ≤ 200) (ha : a.size ≤ 20000) (hb : b.size ≤ 20000) : Ev (fun k => quillworklaw03_AttrsRows.j0 k l a b l false) true := by
  have h1 := putR_len l a b hl
  have h2 := dropR_len l a hl
  have h3 := onlyR_len [a, ⟨#[104, 114, 101, 102]⟩] l hl
  refine Ev.step (fun k => by rw [quillworklaw03_AttrsRows.j0]) ?_
  refine Ev.neg (by simp) (Ev.bind (put_ev l a b (by omega) hb) (Ev.bind (refput_ev l a b (by omega) ha hb) (Ev.have_ (drop_f l a (by omega)) (Ev.bind (refdrop_ev l a (by omega)) ?_))))
  refine Ev.bind (only_ev [a, ⟨#[104, 114, 101, 102]⟩] l (by simp) (by omega)) (Ev.bind (refonly_ev [a, ⟨#[104, 114, 101, 102]⟩] l (by simp) (by omega)) (Ev.pos rfl (Ev.pos rfl ?_)))
  refine Ev.bind (refsame_ev _ _ (by omega)) (Ev.pos (sameR_refl _) (Ev.bind (refsame_ev _ _ (by omega)) (Ev.pos (sameR_refl _) (Ev.bind (refsame_ev _ _ (by omega)) ?_))))
  rw [sameR_refl]
  exact rowsLaw_j1 l _ _ _ (by omega) (by omega) (by omega) (by omega)
theorem AttrsRows (l : List S27) (hl : ∀ x ∈ l, x.f0.size ≤ 140737488351232 ∧ x.f1.size ≤ 140737488351232) (hl2 : l.length * 32 ≤ 140737488351232) (a : ByteArray) (ha : a.size ≤ 140737488351232) (b : ByteArray) (hb : b.size ≤ 140737488351232) :
    ∃ k, quillworklaw03_AttrsRows.f k l a b = some true := by
  obtain ⟨r, e, h⟩ := long_ev l [a, b] hl (by intro t ht; simp at ht; rcases ht with rfl | rfl <;> assumption) (by simp)
  have e2 : Ev (fun k => quillworklaw03_AttrsRows.f k l a b) true := by
    unfold quillworklaw03_AttrsRows.f
    refine Ev.bind e (Ev.ite (fun _ => Ev.bind awake_ev (Ev.now _)) (fun hr => ?_))
    obtain ⟨h1, h2, h3⟩ := h (by simpa using hr)
    have hf := findI_lt (isName a) l
    have hj := rowsLaw_j0 l a b h1 (h2 a (by simp)) (h2 b (by simp))
    refine Ev.have_ (own_f l (by omega)) (Ev.bind (reffind_ev l a (by omega)) (Ev.have_ (get_f l a (by omega)) (Ev.bind (may_ev l (by omega) (fun x hx => (h3 x hx).2)) (Ev.bind (refmay_ev l (by omega) h3) (Ev.neg (by simp) ?_)))))
    unfold getR
    by_cases hg : findI (isName a) l ≥ 0
    · rw [if_pos hg, decide_eq_true hg]
      exact Ev.neg (by simp) (Ev.pos rfl (Ev.pos hg (Ev.pos hf.1 (Ev.pos rfl hj))))
    · rw [if_neg hg, decide_eq_false hg]
      refine Ev.neg (by simp) (Ev.neg (by simp) ?_)
      have : ((⟨#[]⟩ : ByteArray).toList != ([] : List UInt8)) = false := by rw [ByteArray.toList_eq]; rfl
      rw [this]
      exact hj
  exact e2.rounds
end Go.Proofs.YtlppeljofjomiaaDoor.Pure
