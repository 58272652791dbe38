/- Plain laws: attrs.Only keeps just the attributes whose names are listed; attrs.May tells what mayR tells; at rows of at most 1000 attributes, texts of at most 20000 bytes. -/
import Derived.Test.YtlppeljofjomiaaDoorPFind
import Derived.Test.YtlppeljofjomiaaDoorXs3
namespace Go.Proofs.YtlppeljofjomiaaDoor.Pure
open Go.RowKit Go.Proofs.YtlppeljofjomiaaDoor.X Go.Proofs.YtlppeljofjomiaaDoorW.PrintWords Go.Proofs.YtlppeljofjomiaaDoorW.PrintLast
open Go.Proofs.YtlppeljofjomiaaDoor.Pl

def inB (ts : List ByteArray) (s : ByteArray) : Bool := ts.any fun t => decide (s.toList = t.toList)
theorem index_l0 (ts : List ByteArray) (s : ByteArray) (hk : ts.length ≤ 1000) : ∀ (m i : Nat), m + i = ts.length → ∃ r, Ev (fun k => slices_Index_string_string.l0 k ts s (ts.length : Int) i) r ∧ decide (r ≥ 0) = inB (ts.drop i) s
  | 0, i, hm => by
    refine ⟨-1, ?_, by rw [List.drop_eq_nil_of_le (by omega)]; rfl⟩
    refine Ev.step (fun k => by rw [slices_Index_string_string.l0]) ?_
    exact Ev.neg (by omega) (Ev.now _)
  | m + 1, i, hm => by
    have hi : i < ts.length := by omega
    have hd : inB (ts.drop i) s = (decide (s.toList = (rdOf ByteArray.empty ts i).toList) || inB (ts.drop (i + 1)) s) := by
      rw [List.drop_eq_getElem_cons hi, rdOf_at ts i hi]
      rfl
    rw [hd]
    by_cases h : s.toList = (rdOf ByteArray.empty ts i).toList
    · refine ⟨(i : Int), ?_, by rw [decide_eq_true h, decide_eq_true (by omega)]; rfl⟩
      refine Ev.step (fun k => by rw [slices_Index_string_string.l0]) ?_
      exact Ev.pos (by omega) (Ev.pos (by omega) (Ev.pos (by omega) (Ev.pos h (Ev.now _))))
    · obtain ⟨r, e, hr⟩ := index_l0 ts s hk m (i + 1) (by omega)
      refine ⟨r, ?_, by rw [decide_eq_false h, hr]; rfl⟩
      refine Ev.step (fun k => by rw [slices_Index_string_string.l0]) ?_
      rw [wrap64_succ i (by omega)]
      exact Ev.pos (by omega) (Ev.pos (by omega) (Ev.pos (by omega) (Ev.neg h e)))
theorem contains_ev (ts : List ByteArray) (s : ByteArray) (hk : ts.length ≤ 1000) : Ev (fun k => slices_Contains_string_string.f k ts s) (inB ts s) := by
  obtain ⟨r, e, hr⟩ := index_l0 ts s hk ts.length 0 (by omega)
  unfold slices_Contains_string_string.f slices_Index_string_string.f
  exact Ev.bind e (Ev.ret hr)

def onlyR (ts : List ByteArray) (l : List S27) : List S27 := l.filter fun a => inB ts a.f0
theorem drop_rd' (l : List S27) (i : Nat) (h : i < l.length) : l.drop i = rd_T27 l (i : Int) :: l.drop (i + 1) := by
  rw [List.drop_eq_getElem_cons h, rd_at l i h]
theorem only_l0 (ts : List ByteArray) (l : List S27) (ht : ts.length ≤ 1000) (hl : l.length ≤ 1000) : ∀ (m i : Nat) (acc : List S27), m + i = l.length → acc.length ≤ i →
    Ev (fun k => attrs_Only.l0 k ts acc l (l.length : Int) i) (acc ++ onlyR ts (l.drop i))
  | 0, i, acc, hm, ha => by
    rw [List.drop_eq_nil_of_le (by omega)]
    refine Ev.step (fun k => by rw [attrs_Only.l0]) ?_
    exact Ev.neg (by omega) (Ev.ret (by simp [onlyR]))
  | m + 1, i, acc, hm, ha => by
    rw [drop_rd' l i (by omega)]
    refine Ev.step (fun k => by rw [attrs_Only.l0]) ?_
    rw [wrap64_succ i (by omega)]
    refine Ev.pos (by omega) (Ev.pos (by omega) (Ev.pos (by omega) (Ev.bind (contains_ev ts _ ht) (Ev.ite (fun h => Ev.pos (by omega) ?_) (fun h => ?_)))))
    · have ih := only_l0 ts l ht hl m (i + 1) (acc ++ [(⟨(rd_T27 l i).f0, (rd_T27 l i).f1⟩ : S27)]) (by omega) (by simp; omega)
      refine Ev.cast ih ?_
      rw [List.append_assoc]
      congr 1
      unfold onlyR
      rw [List.filter_cons_of_pos (by exact h)]
      rfl
    · have ih := only_l0 ts l ht hl m (i + 1) acc (by omega) (by omega)
      refine Ev.cast ih ?_
      unfold onlyR
      rw [List.filter_cons_of_neg (by exact h)]
theorem only_ev (ts : List ByteArray) (l : List S27) (ht : ts.length ≤ 1000) (hl : l.length ≤ 1000) : Ev (fun k => attrs_Only.f k l ts) (onlyR ts l) := by
  unfold attrs_Only.f
  exact only_l0 ts l ht hl l.length 0 [] (by omega) (by simp)

theorem rd_mem (l : List S27) (i : Nat) (h : i < l.length) : rd_T27 l (i : Int) ∈ l := by rw [rd_at l i h]; exact List.getElem_mem h
theorem may_l0 (l : List S27) (hl : l.length ≤ 1000) (hs : ∀ a ∈ l, a.f1.size ≤ 20000) : ∀ (m i : Nat), m + i = l.length → Ev (fun k => attrs_May.l0 k l l (l.length : Int) i) (mayF l m i)
  | 0, i, hm => by
    refine Ev.step (fun k => by rw [attrs_May.l0]) ?_
    exact Ev.neg (by omega) (Ev.now _)
  | m + 1, i, hm => by
    have ih := may_l0 l hl hs m (i + 1) (by omega)
    have hi : i < l.length := by omega
    refine Ev.step (fun k => by rw [attrs_May.l0]) ?_
    rw [wrap64_succ i (by omega)]
    refine Ev.pos (by omega) (Ev.pos (by omega) (Ev.pos (by omega) (Ev.have_ (name_f _) (Ev.ite (fun h1 => Ev.have_ (value_f _ (hs _ (rd_mem l i hi))) (Ev.ite (fun h2 => Ev.have_ (at_f l _ hl) (Ev.ite (fun h3 => ?_) (fun h3 => ?_))) (fun h2 => ?_))) (fun h1 => ?_)))))
    · refine Ev.cast ih ?_
      show _ = (mayP l i && mayF l m (i + 1))
      unfold mayP
      rw [h1, h2, decide_eq_true h3]
      rfl
    · refine Ev.ret ?_
      show _ = (mayP l i && mayF l m (i + 1))
      unfold mayP
      rw [h1, h2, decide_eq_false h3]
      rfl
    · refine Ev.ret ?_
      rw [Bool.not_eq_true] at h2
      show _ = (mayP l i && mayF l m (i + 1))
      unfold mayP
      rw [h1, h2]
      rfl
    · refine Ev.ret ?_
      rw [Bool.not_eq_true] at h1
      show _ = (mayP l i && mayF l m (i + 1))
      unfold mayP
      rw [h1]
      rfl
theorem may_ev (l : List S27) (hl : l.length ≤ 1000) (hs : ∀ a ∈ l, a.f1.size ≤ 20000) : Ev (fun k => attrs_May.f k l) (mayR l) := by
  unfold attrs_May.f
  exact may_l0 l hl hs l.length 0 (by omega)
end Go.Proofs.YtlppeljofjomiaaDoor.Pure
