/- Plain law: AttrsPut tells true at every row and every three texts (no longer than a machine's memory). -/
import Derived.Test.YtlppeljofjomiaaDoorPOM
import Derived.Test.YtlppeljofjomiaaDoorPEq
import Derived.Test.YtlppeljofjomiaaDoorXs9
namespace Go.Proofs.YtlppeljofjomiaaDoor.Pure
open Go.RowKit Go.Proofs.YtlppeljofjomiaaDoor.X Go.Proofs.YtlppeljofjomiaaDoorW.PrintWords Go.Proofs.YtlppeljofjomiaaDoorW.PrintLast
open Go.Proofs.YtlppeljofjomiaaDoor.Pl

theorem putLaw_j1 (l m d : List S27) (n v : ByteArray) (hl : l.length ≤ 200) (F : PutFacts l m n v) (hd : d = (dropR m n).1) :
    Ev (fun k => quillworklaw03_AttrsPut.j1 k l m (getR l n).2 d false) true := by
  refine Ev.step (fun k => by rw [quillworklaw03_AttrsPut.j1]) ?_
  refine Ev.neg (by simp) ?_
  by_cases hg : 0 ≤ findI (isName n) l
  · have h2 : (getR l n).2 = true := by unfold getR; rw [if_pos hg]
    have h3 : m.length = l.length := by
      rcases F.len with h | h
      · exact h.1
      · omega
    rw [h2]
    exact Ev.pos rfl (Ev.pos (by omega) (Ev.bind awake_ev (Ev.now _)))
  · have h2 : (getR l n).2 = false := by unfold getR; rw [if_neg hg]
    have h3 : findI (isName n) l = -1 := by
      have := (findI_lt (isName n) l).2
      omega
    have h4 := F.back h3
    rw [hd, h4, h2]
    exact Ev.neg (by simp) (Ev.bind (same_ev l l (by omega)) (Ev.pos (sameR_refl l) (Ev.bind awake_ev (Ev.now _))))
theorem putLaw_j0 (l m : List S27) (n v : ByteArray) (hl : l.length ≤ 200) (hm : m.length ≤ 201) (F : PutFacts l m n v) :
    Ev (fun k => quillworklaw03_AttrsPut.j0 k l n m false) true := by
  have hlen := F.dropl
  refine Ev.step (fun k => by rw [quillworklaw03_AttrsPut.j0]) ?_
  refine Ev.neg (by simp) (Ev.have_ (get_f l n (by omega)) (Ev.have_ (drop_f m n (by omega)) (Ev.pos F.drop2 ?_)))
  have hb : (((dropR m n).1.length : Int) != wrap64 ((m.length : Int) - 1)) = false := by
    rw [wrap64_id _ (by omega) (by omega)]
    rw [bne_eq_false_iff_eq]
    omega
  rw [hb]
  exact putLaw_j1 l m _ n v hl F rfl
theorem AttrsPut (l : List S27) (hl : ∀ x ∈ l, x.f0.size ≤ 140737488351232 ∧ x.f1.size ≤ 140737488351232) (hl2 : l.length * 32 ≤ 140737488351232) (a : ByteArray) (ha : a.size ≤ 140737488351232) (b : ByteArray) (hb : b.size ≤ 140737488351232) (c : ByteArray) (hc : c.size ≤ 140737488351232) :
    ∃ k, quillworklaw03_AttrsPut.f k l a b c = some true := by
  obtain ⟨r, e, h⟩ := long_ev l [a, b, c] hl (by intro t ht; simp at ht; rcases ht with rfl | rfl | rfl <;> assumption) (by simp)
  have e2 : Ev (fun k => quillworklaw03_AttrsPut.f k l a b c) true := by
    unfold quillworklaw03_AttrsPut.f
    refine Ev.bind e (Ev.ite (fun _ => Ev.bind awake_ev (Ev.now _)) (fun hr => ?_))
    obtain ⟨h1, h2, h3⟩ := h (by simpa using hr)
    have hbs : b.size ≤ 20000 := h2 b (by simp)
    refine Ev.bind (put_ev l a b (by omega) hbs) ?_
    by_cases hv : nameB a.data.toList = true ∧ valueB b.data.toList = true
    · obtain ⟨p0, F⟩ := put_facts l a b hv.1 hv.2
      obtain ⟨m, hm⟩ : ∃ m, (putR l a b).1 = m := ⟨_, rfl⟩
      rw [hm] at F
      rw [hm]
      have hml : m.length ≤ 201 := by
        rcases F.len with h | h <;> omega
      have hms : ∀ x ∈ m, x.f1.size ≤ 20000 := fun x hx => by
        rcases F.mem x hx with h | ⟨y, hy, h⟩
        · rw [h]; exact hbs
        · rw [h]; exact (h3 y hy).2
      have hmay : Ev (fun k => (attrs_May.f k l).bind fun t229 => if t229 = true then (attrs_May.f k m).bind fun t230 => quillworklaw03_AttrsPut.j0 k l a m (!t230) else quillworklaw03_AttrsPut.j0 k l a m false) true := by
        refine Ev.bind (may_ev l (by omega) (fun x hx => (h3 x hx).2)) (Ev.ite (fun h => Ev.bind (may_ev m (by omega) hms) ?_) (fun _ => putLaw_j0 l m a b h1 hml F))
        rw [F.may h]
        exact putLaw_j0 l m a b h1 hml F
      refine Ev.pos p0 (Ev.have_ (get_f m a (by omega)) (Ev.have_ (get_f l c (by omega)) (Ev.have_ (get_f m c (by omega)) ?_)))
      rw [F.get]
      refine Ev.pos rfl (Ev.pos rfl (Ev.ite (fun _ => hmay) (fun hne => ?_)))
      rw [F.other c (fun h => hne (by rw [h]))]
      exact Ev.pos rfl (Ev.neg (by simp) hmay)
    · have hp : putR l a b = ([], 1) := by unfold putR; rw [if_neg hv]
      rw [hp]
      refine Ev.neg (by decide) (Ev.pos rfl (Ev.pos rfl (Ev.have_ (name_f a) (Ev.ite (fun hn => Ev.have_ (value_f b hbs) (Ev.neg ?_ (Ev.bind awake_ev (Ev.now _)))) (fun _ => Ev.bind awake_ev (Ev.now _))))))
      exact fun h => hv ⟨hn, h⟩
  exact e2.rounds
end Go.Proofs.YtlppeljofjomiaaDoor.Pure
