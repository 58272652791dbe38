/- Plain laws: the reference's Own, Find, May, Put, Drop, Only tell what the package's own tell; at rows of at most 1000 attributes, texts of at most 20000 bytes. -/
import Derived.Test.YtlppeljofjomiaaDoorPName
import Derived.Test.YtlppeljofjomiaaDoorPOM
import Derived.Test.YtlppeljofjomiaaDoorXs10
namespace Go.Proofs.YtlppeljofjomiaaDoor.Pure
open Go.RowKit Go.Proofs.YtlppeljofjomiaaDoor.X Go.Proofs.YtlppeljofjomiaaDoorW.PrintWords Go.Proofs.YtlppeljofjomiaaDoorW.PrintLast
open Go.Proofs.YtlppeljofjomiaaDoor.Pl

theorem own_f (l : List S27) (h : l.length ≤ 1000) : quillworkref03_Own.f l = some l := by
  unfold quillworkref03_Own.f
  simp only [Option.bind_some, List.length_nil, Nat.zero_add, List.nil_append]
  rw [if_pos (by omega)]
theorem reffind_l0 (l : List S27) (s : ByteArray) (hl : l.length ≤ 1000) : ∀ (m i : Nat), m + i = l.length → Ev (fun k => quillworkref03_Find.l0 k l s i) (findFrom (isName s) l m i)
  | 0, i, hm => by
    refine Ev.step (fun k => by rw [quillworkref03_Find.l0]) ?_
    exact Ev.neg (by omega) (Ev.now _)
  | m + 1, i, hm => by
    have ih := reffind_l0 l s hl m (i + 1) (by omega)
    refine Ev.step (fun k => by rw [quillworkref03_Find.l0]) ?_
    rw [wrap64_succ i (by omega)]
    unfold findFrom
    refine Ev.pos (by omega) (Ev.pos (by omega) (Ev.ite (fun h => ?_) (fun h => ?_)))
    · exact Ev.ret (by rw [if_pos (show isName s (rd_T27 l i) = true from beq_iff_eq.2 h)])
    · exact Ev.cast ih (by rw [if_neg (fun h2 : isName s (rd_T27 l i) = true => h (beq_iff_eq.1 h2))])
theorem reffind_ev (l : List S27) (s : ByteArray) (hl : l.length ≤ 1000) : Ev (fun k => quillworkref03_Find.f k l s) (findI (isName s) l) := by
  unfold quillworkref03_Find.f
  exact reffind_l0 l s hl l.length 0 (by omega)
theorem refmay_l0 (l : List S27) (hl : l.length ≤ 1000) (hs : ∀ a ∈ l, a.f0.size ≤ 20000 ∧ a.f1.size ≤ 20000) : ∀ (m i : Nat), m + i = l.length → Ev (fun k => quillworkref03_May.l0 k l i) (mayF l m i)
  | 0, i, hm => by
    refine Ev.step (fun k => by rw [quillworkref03_May.l0]) ?_
    exact Ev.neg (by omega) (Ev.now _)
  | m + 1, i, hm => by
    have ih := refmay_l0 l hl hs m (i + 1) (by omega)
    have hi : i < l.length := by omega
    have hz := hs _ (rd_mem l i hi)
    have ho := findI_own l i hi
    refine Ev.step (fun k => by rw [quillworkref03_May.l0]) ?_
    rw [wrap64_succ i (by omega)]
    refine Ev.pos (by omega) (Ev.pos (by omega) (Ev.bind (refname_ev _ hz.1) (Ev.ite (fun h1 => Ev.have_ (refvalue_f _ hz.2) (Ev.ite (fun h2 => Ev.bind (reffind_ev l _ hl) (Ev.ite (fun h3 => ?_) (fun h3 => ?_))) (fun h2 => ?_))) (fun h1 => ?_))))
    · refine Ev.ret ?_
      show _ = (mayP l i && mayF l m (i + 1))
      unfold mayP
      rw [h1, h2, decide_eq_false (by omega)]
      rfl
    · refine Ev.cast ih ?_
      show _ = (mayP l i && mayF l m (i + 1))
      unfold mayP
      rw [h1, h2, decide_eq_true (by omega)]
      rfl
    · refine Ev.ret ?_
      rw [Bool.not_eq_true] at h2
      show _ = (mayP l i && mayF l m (i + 1))
      unfold mayP
      rw [h1, h2]
      rfl
    · refine Ev.ret ?_
      rw [Bool.not_eq_true] at h1
      show _ = (mayP l i && mayF l m (i + 1))
      unfold mayP
      rw [h1]
      rfl
theorem refmay_ev (l : List S27) (hl : l.length ≤ 1000) (hs : ∀ a ∈ l, a.f0.size ≤ 20000 ∧ a.f1.size ≤ 20000) : Ev (fun k => quillworkref03_May.f k l) (mayR l) := by
  unfold quillworkref03_May.f
  exact refmay_l0 l hl hs l.length 0 (by omega)
theorem refput_ev (l : List S27) (n v : ByteArray) (h : l.length ≤ 1000) (hn0 : n.size ≤ 20000) (hv : v.size ≤ 20000) : Ev (fun k => quillworkref03_Put.f k l n v) (putR l n v) := by
  have h2 := findI_lt (isName n) l
  unfold quillworkref03_Put.f
  refine Ev.bind (refname_ev n hn0) ?_
  unfold putR
  refine Ev.ite (fun hn => Ev.have_ (refvalue_f v hv) ?_) (fun hn => ?_)
  · by_cases hv2 : valueB v.data.toList = true
    · rw [if_pos ⟨hn, hv2⟩]
      refine Ev.step (fun k => by rw [quillworkref03_Put.j0]) ?_
      refine Ev.neg (by simp [hv2]) (Ev.have_ (own_f l h) (Ev.bind (reffind_ev l n h) (Ev.ite (fun hc => ?_) (fun hc => ?_))))
      · exact Ev.cast (Ev.pos (by omega) (Ev.now _)) (by rw [if_neg (by omega)])
      · exact Ev.cast (Ev.pos (by omega) (Ev.pos h2.1 (Ev.now _))) (by rw [if_pos (by omega)])
    · rw [if_neg (by simp [hv2])]
      refine Ev.step (fun k => by rw [quillworkref03_Put.j0]) ?_
      exact Ev.pos (by simp [hv2]) (Ev.now _)
  · rw [if_neg (by simp [hn])]
    refine Ev.step (fun k => by rw [quillworkref03_Put.j0]) ?_
    exact Ev.pos rfl (Ev.now _)
theorem refdrop_ev (l : List S27) (n : ByteArray) (h : l.length ≤ 1000) : Ev (fun k => quillworkref03_Drop.f k l n) (dropR l n) := by
  have h2 := findI_lt (isName n) l
  unfold quillworkref03_Drop.f
  refine Ev.bind (reffind_ev l n h) ?_
  unfold dropR
  by_cases hc : findI (isName n) l < 0
  · exact Ev.cast (Ev.pos hc (Ev.now _)) (by rw [if_pos hc])
  · have hw : wrap64 (findI (isName n) l + 1) = findI (isName n) l + 1 := wrap64_id _ (by omega) (by omega)
    rw [hw]
    have hlen : (l.take (findI (isName n) l).toNat).length ≤ 1000 := by rw [List.length_take]; omega
    refine Ev.cast (Ev.neg hc (Ev.pos (by omega) (Ev.pos (by omega) (Ev.have_ (own_f _ hlen) (Ev.pos (by omega) (Ev.pos (by omega) (Ev.have_ rfl (Ev.pos ?_ (Ev.now _)))))))) ) ?_
    · rw [List.length_take, List.length_drop]; omega
    · rw [if_neg hc]
      congr 1
      rw [List.eraseIdx_eq_take_drop_succ]
      congr 2
      omega
theorem refonly_l1 (l : List S27) (ts : List ByteArray) (ht : ts.length ≤ 1000) (acc : List S27) (i : Nat) (hi : i < l.length) (hl : l.length ≤ 1000) (ha : acc.length ≤ i) (R : List S27)
    (hY : Ev (fun k => quillworkref03_Only.l0 k l ts (acc ++ [rd_T27 l i]) ((i + 1 : Nat) : Int)) (acc ++ rd_T27 l i :: R))
    (hN : Ev (fun k => quillworkref03_Only.l0 k l ts acc ((i + 1 : Nat) : Int)) (acc ++ R)) :
    ∀ (m j : Nat) (b : Bool), m + j = ts.length → Ev (fun k => quillworkref03_Only.l1 k l ts acc (i : Int) b (j : Int)) (if (b || inB (ts.drop j) (rd_T27 l i).f0) = true then acc ++ rd_T27 l i :: R else acc ++ R)
  | 0, j, b, hm => by
    rw [List.drop_eq_nil_of_le (by omega)]
    refine Ev.step (fun k => by rw [quillworkref03_Only.l1]) ?_
    rw [wrap64_succ i (by omega)]
    cases b with
    | true => exact Ev.neg (by omega) (Ev.pos rfl (Ev.pos (by omega) (Ev.pos (by omega) (Ev.pos (by omega) hY))))
    | false => exact Ev.neg (by omega) (Ev.neg (by simp) hN)
  | m + 1, j, b, hm => by
    have hj : j < ts.length := by omega
    have hd : inB (ts.drop j) (rd_T27 l i).f0 = (decide ((rd_T27 l i).f0.toList = (rdOf ByteArray.empty ts j).toList) || inB (ts.drop (j + 1)) (rd_T27 l i).f0) := by
      rw [List.drop_eq_getElem_cons hj, rdOf_at ts j hj]
      rfl
    refine Ev.step (fun k => by rw [quillworkref03_Only.l1]) ?_
    rw [wrap64_succ j (by omega)]
    cases b with
    | true =>
      have ih := refonly_l1 l ts ht acc i hi hl ha R hY hN m (j + 1) true (by omega)
      refine Ev.pos (by omega) (Ev.pos rfl (Ev.cast ih ?_))
      simp
    | false =>
      have ih := refonly_l1 l ts ht acc i hi hl ha R hY hN m (j + 1) ((rdOf ByteArray.empty ts j).toList == (rd_T27 l i).f0.toList) (by omega)
      refine Ev.pos (by omega) (Ev.neg (by simp) (Ev.pos (by omega) (Ev.pos (by omega) (Ev.pos (by omega) (Ev.cast ih ?_)))))
      rw [hd]
      have : ((rdOf ByteArray.empty ts j).toList == (rd_T27 l i).f0.toList) = decide ((rd_T27 l i).f0.toList = (rdOf ByteArray.empty ts j).toList) := by
        rw [Bool.eq_iff_iff, beq_iff_eq, decide_eq_true_eq]
        exact eq_comm
      rw [this, Bool.false_or]
theorem refonly_l0 (ts : List ByteArray) (l : List S27) (ht : ts.length ≤ 1000) (hl : l.length ≤ 1000) : ∀ (m i : Nat) (acc : List S27), m + i = l.length → acc.length ≤ i →
    Ev (fun k => quillworkref03_Only.l0 k l ts acc i) (acc ++ onlyR ts (l.drop i))
  | 0, i, acc, hm, ha => by
    rw [List.drop_eq_nil_of_le (by omega)]
    refine Ev.step (fun k => by rw [quillworkref03_Only.l0]) ?_
    exact Ev.neg (by omega) (Ev.ret (by simp [onlyR]))
  | m + 1, i, acc, hm, ha => by
    have hi : i < l.length := by omega
    have ihY := refonly_l0 ts l ht hl m (i + 1) (acc ++ [rd_T27 l i]) (by omega) (by simp; omega)
    have ihN := refonly_l0 ts l ht hl m (i + 1) acc (by omega) (by omega)
    rw [List.append_assoc, List.singleton_append] at ihY
    have h1 := refonly_l1 l ts ht acc i hi hl ha (onlyR ts (l.drop (i + 1))) ihY ihN ts.length 0 false (by omega)
    refine Ev.step (fun k => by rw [quillworkref03_Only.l0]) ?_
    refine Ev.pos (by omega) (Ev.cast h1 ?_)
    rw [drop_rd' l i hi, Bool.false_or, List.drop_zero]
    unfold onlyR
    split
    · rename_i h
      rw [List.filter_cons_of_pos (by exact h)]
    · rename_i h
      rw [List.filter_cons_of_neg (by exact h)]
theorem refonly_ev (ts : List ByteArray) (l : List S27) (ht : ts.length ≤ 1000) (hl : l.length ≤ 1000) : Ev (fun k => quillworkref03_Only.f k l ts) (onlyR ts l) := by
  unfold quillworkref03_Only.f
  exact refonly_l0 ts l ht hl l.length 0 [] (by omega) (by simp)
end Go.Proofs.YtlppeljofjomiaaDoor.Pure
