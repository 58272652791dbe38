/- Plain laws of what the functions of the attributes tell (their '.f'), with no program in sight: the loops of long, at, Get, Put, Drop, Same and the reference's own, each at rows of at most 1000 attributes. -/
import Derived.Test.YtlppeljofjomiaaDoorXx2
namespace Go.Proofs.YtlppeljofjomiaaDoor.Pure
open Go.RowKit Go.Proofs.YtlppeljofjomiaaDoor.X Go.Proofs.YtlppeljofjomiaaDoorW.PrintWords Go.Proofs.YtlppeljofjomiaaDoorW.PrintLast
open Go.Proofs.YtlppeljofjomiaaDoor.Pl

/-! ### steps -/
theorem wrap64_id (n : Int) (h1 : -9223372036854775808 ≤ n) (h2 : n < 9223372036854775808) : wrap64 n = n := by unfold wrap64; omega
theorem wrap64_succ (i : Nat) (h : i < 4611686018427387904) : wrap64 ((i : Int) + 1) = ((i + 1 : Nat) : Int) := by unfold wrap64; omega
theorem Ev.pos {α : Type} {c : Prop} [Decidable c] {f g : Nat → Option α} {r : α} (h : c) (k : Ev f r) : Ev (fun n => if c then f n else g n) r := by
  simp only [if_pos h]; exact k
theorem Ev.neg {α : Type} {c : Prop} [Decidable c] {f g : Nat → Option α} {r : α} (h : ¬ c) (k : Ev g r) : Ev (fun n => if c then f n else g n) r := by
  simp only [if_neg h]; exact k
theorem Ev.have_ {α β : Type} {a : Option α} {v : α} {f : Nat → α → Option β} {r : β} (h : a = some v) (k : Ev (fun n => f n v) r) : Ev (fun n => a.bind (f n)) r := by
  subst h; exact k
theorem Ev.ret {α : Type} {v r : α} (h : v = r) : Ev (fun _ => some v) r := by subst h; exact Ev.now _
theorem Ev.cast {α : Type} {f : Nat → Option α} {v r : α} (k : Ev f v) (h : v = r) : Ev f r := by subst h; exact k

theorem rd_at (l : List S27) (i : Nat) (h : i < l.length) : rd_T27 l (i : Int) = l[i] := by
  unfold rd_T27
  rw [Int.toNat_natCast]
  simp [List.getD, List.getElem?_eq_getElem h]
theorem rdOf_at (l : List ByteArray) (i : Nat) (h : i < l.length) : rdOf ByteArray.empty l (i : Int) = l[i] := by
  unfold rdOf
  rw [Int.toNat_natCast]
  simp [List.getD, List.getElem?_eq_getElem h]
theorem toList_inj {a b : ByteArray} : a.toList = b.toList ↔ a = b := by
  rw [ByteArray.toList_eq, ByteArray.toList_eq]
  constructor
  · intro h
    cases a; cases b
    congr
    exact Array.toList_inj.1 h
  · intro h; rw [h]

/-! ### long -/
theorem long1_ev (l : List S27) (hl : ∀ a ∈ l, a.f0.size ≤ 140737488351232 ∧ a.f1.size ≤ 140737488351232) (h200 : l.length ≤ 200) :
    ∀ (m i : Nat) (n : Int), m + i = l.length → 0 ≤ n → n ≤ 2000000000000000 → (∀ j (hj : j < l.length), j < i → n ≤ 20000 → l[j].f0.size ≤ 20000 ∧ l[j].f1.size ≤ 20000) →
      ∃ b, Ev (fun k => quillworklaw03_long.l1 k l n i) b ∧ (b = false → n ≤ 20000 ∧ ∀ a ∈ l, a.f0.size ≤ 20000 ∧ a.f1.size ≤ 20000)
  | 0, i, n, hm, h0, hn, hp => by
    refine ⟨decide (n > 20000), ?_, fun hb => ?_⟩
    · refine Ev.step (fun k => by rw [quillworklaw03_long.l1]) ?_
      refine Ev.neg (by omega) ?_
      exact Ev.now _
    · have : n ≤ 20000 := by have := of_decide_eq_false hb; omega
      refine ⟨this, fun a ha => ?_⟩
      obtain ⟨j, hj, rfl⟩ := List.getElem_of_mem ha
      exact hp j hj (by omega) this
  | m + 1, i, n, hm, h0, hn, hp => by
    by_cases h2 : n ≤ 20000
    · have hi : i < l.length := by omega
      have ha := hl l[i] (List.getElem_mem hi)
      have hw : wrap64 (n + wrap64 (((rd_T27 l i).f0.size : Int) + ((rd_T27 l i).f1.size : Int))) = n + (l[i].f0.size : Int) + (l[i].f1.size : Int) := by
        rw [rd_at l i hi, wrap64_id ((l[i].f0.size : Int) + (l[i].f1.size : Int)) (by omega) (by omega), wrap64_id _ (by omega) (by omega)]
        omega
      obtain ⟨b, e, hb⟩ := long1_ev l hl h200 m (i + 1) (n + (l[i].f0.size : Int) + (l[i].f1.size : Int)) (by omega) (by omega) (by omega) (fun j hj hji hnn => by
        by_cases he : j = i
        · subst he; omega
        · exact hp j hj (by omega) h2)
      refine ⟨b, ?_, fun h => ⟨h2, (hb h).2⟩⟩
      refine Ev.step (fun k => by rw [quillworklaw03_long.l1]) ?_
      refine Ev.pos (by omega) (Ev.pos h2 (Ev.pos (by omega) ?_))
      rw [hw, wrap64_succ i (by omega)]
      exact e
    · refine ⟨true, ?_, fun h => (by cases h)⟩
      refine Ev.step (fun k => by rw [quillworklaw03_long.l1]) ?_
      refine Ev.pos (by omega) (Ev.neg h2 ?_)
      exact Ev.ret (decide_eq_true (by omega))
theorem long0_ev (l : List S27) (ts : List ByteArray) (hl : ∀ a ∈ l, a.f0.size ≤ 140737488351232 ∧ a.f1.size ≤ 140737488351232) (M : Int) (hM : M = 140737488351232) (ht : ∀ t ∈ ts, (t.size : Int) ≤ M) (ht3 : ts.length ≤ 3) (m : Nat) :
    ∀ (i : Nat) (n : Int), m + i = ts.length → 0 ≤ n → n + m * M ≤ 3 * M → (∀ j (hj : j < ts.length), j < i → n ≤ 20000 → ts[j].size ≤ 20000) →
      ∃ b, Ev (fun k => quillworklaw03_long.l0 k l ts n i) b ∧ (b = false → l.length ≤ 200 ∧ (∀ t ∈ ts, t.size ≤ 20000) ∧ ∀ a ∈ l, a.f0.size ≤ 20000 ∧ a.f1.size ≤ 20000) := by
  induction m with
  | zero =>
    intro i n hm h0 hn hp
    by_cases h2 : l.length ≤ 200
    · obtain ⟨b, e, hb⟩ := long1_ev l hl h2 l.length 0 n (by omega) h0 (by omega) (fun j _ hj _ => by omega)
      refine ⟨b, ?_, fun h => ⟨h2, fun t htm => ?_, (hb h).2⟩⟩
      · refine Ev.step (fun k => by rw [quillworklaw03_long.l0]) ?_
        exact Ev.neg (by omega) (Ev.neg (by omega) e)
      · obtain ⟨j, hj, rfl⟩ := List.getElem_of_mem htm
        exact hp j hj (by omega) (hb h).1
    · refine ⟨true, ?_, fun h => (by cases h)⟩
      refine Ev.step (fun k => by rw [quillworklaw03_long.l0]) ?_
      exact Ev.neg (by omega) (Ev.pos (by omega) (Ev.now _))
  | succ m ih =>
    intro i n hm h0 hn hp
    have hi : i < ts.length := by omega
    have ha := ht ts[i] (List.getElem_mem hi)
    have hn1 : n + (ts[i].size : Int) + (m : Int) * M ≤ 3 * M := by
      have hx : ((m + 1 : Nat) : Int) * M = (m : Int) * M + M := by
        rw [Int.natCast_succ, Int.add_mul, Int.one_mul]
      omega
    have hM0 : 0 ≤ (m : Int) * M := Int.mul_nonneg (by omega) (by omega)
    have hw : wrap64 (n + ((rdOf ByteArray.empty ts i).size : Int)) = n + (ts[i].size : Int) := by
      rw [rdOf_at ts i hi, wrap64_id _ (by omega) (by omega)]
    obtain ⟨b, e, hb⟩ := ih (i + 1) (n + (ts[i].size : Int)) (by omega) (by omega) hn1 (fun j hj hji hnn => by
      by_cases he : j = i
      · subst he; omega
      · exact hp j hj (by omega) (by omega))
    refine ⟨b, ?_, hb⟩
    refine Ev.step (fun k => by rw [quillworklaw03_long.l0]) ?_
    refine Ev.pos (by omega) (Ev.pos (by omega) ?_)
    rw [hw, wrap64_succ i (by omega)]
    exact e
/-- long tells something; and if it tells no, there are at most 200 attributes and every text has at most 20000 bytes. -/
theorem long_ev (l : List S27) (ts : List ByteArray) (hl : ∀ a ∈ l, a.f0.size ≤ 140737488351232 ∧ a.f1.size ≤ 140737488351232) (ht : ∀ t ∈ ts, t.size ≤ 140737488351232) (ht3 : ts.length ≤ 3) :
    ∃ b, Ev (fun k => quillworklaw03_long.f k l ts) b ∧ (b = false → l.length ≤ 200 ∧ (∀ t ∈ ts, t.size ≤ 20000) ∧ ∀ a ∈ l, a.f0.size ≤ 20000 ∧ a.f1.size ≤ 20000) :=
  long0_ev l ts hl 140737488351232 rfl (fun t h => by have := ht t h; omega) ht3 ts.length 0 0 (by omega) (by omega) (by omega) (fun j _ hj _ => by omega)

/-! ### Put, Get -/
def putR (l : List S27) (n v : ByteArray) : List S27 × Int :=
  if nameB n.data.toList = true ∧ valueB v.data.toList = true then
    (if findI (isName n) l ≥ 0 then l.set (findI (isName n) l).toNat ⟨(rd_T27 l (findI (isName n) l)).f0, v⟩ else l ++ [⟨n, v⟩], 0)
  else ([], 1)
def getR (l : List S27) (n : ByteArray) : ByteArray × Bool := if findI (isName n) l ≥ 0 then ((rd_T27 l (findI (isName n) l)).f1, true) else (⟨#[]⟩, false)

theorem findI_lt (p : S27 → Bool) (l : List S27) : findI p l < l.length ∧ (findI p l = -1 ∨ 0 ≤ findI p l) := by
  rcases findI_cases p l with h | ⟨i, hi, h⟩
  · rw [h]; omega
  · rw [h]; omega
theorem name_f (s : ByteArray) : attrs_Name.f s = some (nameB s.data.toList) := rfl
theorem value_f (s : ByteArray) (h : s.size ≤ 20000) : attrs_Value.f s = some (valueB s.data.toList) := by unfold attrs_Value.f; rw [if_pos (by omega)]
theorem refvalue_f (s : ByteArray) (h : s.size ≤ 20000) : quillworkref03_Value.f s = some (valueB s.data.toList) := by unfold quillworkref03_Value.f; rw [if_pos (by omega)]
theorem target_f (s : ByteArray) (h : s.size ≤ 20000) : attrs_Target.f s = some (targetB s.data.toList) := by unfold attrs_Target.f; rw [if_pos (by omega)]
theorem at_f (l : List S27) (s : ByteArray) (h : l.length ≤ 1000) : attrs_at.f l s = some (findI (isName s) l) := by unfold attrs_at.f; rw [if_pos (by omega)]
theorem clone_f (l : List S27) (h : l.length ≤ 1000) : api_Attr_60.f l = some l := by unfold api_Attr_60.f; rw [if_pos (by omega)]
theorem drop_f (l : List S27) (s : ByteArray) (h : l.length ≤ 1000) : attrs_Drop.f l s = some (dropR l s) := by unfold attrs_Drop.f; rw [if_pos (by omega)]
theorem get_f (l : List S27) (s : ByteArray) (h : l.length ≤ 1000) : attrs_Get.f l s = some (getR l s) := by
  have h2 := findI_lt (isName s) l
  unfold attrs_Get.f getR
  rw [at_f l s h]
  simp only [Option.bind_some]
  by_cases hc : findI (isName s) l ≥ 0
  · rw [if_pos hc, if_pos hc, if_pos hc, if_pos h2.1]
  · rw [if_neg hc, if_neg hc]
theorem put_ev (l : List S27) (n v : ByteArray) (h : l.length ≤ 1000) (hv : v.size ≤ 20000) : Ev (fun k => attrs_Put.f k l n v) (putR l n v) := by
  have h2 := findI_lt (isName n) l
  unfold attrs_Put.f
  refine Ev.have_ (name_f n) ?_
  unfold putR
  by_cases hn : nameB n.data.toList = true
  · refine Ev.pos hn (Ev.have_ (value_f v hv) ?_)
    by_cases hv2 : valueB v.data.toList = true
    · rw [if_pos ⟨hn, hv2⟩]
      refine Ev.step (fun k => by rw [attrs_Put.j0]) ?_
      refine Ev.neg (by simp [hv2]) (Ev.have_ (clone_f l h) (Ev.have_ (at_f l n h) ?_))
      by_cases hc : findI (isName n) l ≥ 0
      · exact Ev.cast (Ev.pos hc (Ev.pos hc (Ev.pos h2.1 (Ev.now _)))) (by rw [if_pos hc])
      · exact Ev.cast (Ev.neg hc (Ev.pos (by omega) (Ev.now _))) (by rw [if_neg hc])
    · rw [if_neg (by simp [hv2])]
      refine Ev.step (fun k => by rw [attrs_Put.j0]) ?_
      exact Ev.pos (by simp [hv2]) (Ev.now _)
  · rw [if_neg (by simp [hn])]
    refine Ev.neg hn ?_
    refine Ev.step (fun k => by rw [attrs_Put.j0]) ?_
    exact Ev.pos rfl (Ev.now _)

/-! ### awake -/
theorem find_ab (b : ByteArray) (v : ByteArray) (h : ([97] : List UInt8) ≠ b.data.toList) : findI (isName b) [⟨⟨#[97]⟩, v⟩] = -1 := by
  have h2 : isName b ⟨⟨#[97]⟩, v⟩ = false := by
    unfold isName
    rw [ByteArray.toList_eq, ByteArray.toList_eq, beq_eq_false_iff_ne]
    exact h
  simp [findI, findFrom, rd_T27, h2]
theorem isName_is (a b v : ByteArray) : isName b ⟨a, v⟩ = (a.data.toList == b.data.toList) := by
  unfold isName
  rw [ByteArray.toList_eq, ByteArray.toList_eq]
theorem awake_put1 : putR [⟨⟨#[97]⟩, ⟨#[49]⟩⟩] ⟨#[98]⟩ ⟨#[50]⟩ = ([⟨⟨#[97]⟩, ⟨#[49]⟩⟩, ⟨⟨#[98]⟩, ⟨#[50]⟩⟩], 0) := by
  unfold putR
  rw [if_pos ⟨by decide +kernel, by decide +kernel⟩, find_ab _ _ (by decide)]
  rfl
theorem awake_put2 : putR [⟨⟨#[97]⟩, ⟨#[49]⟩⟩, ⟨⟨#[98]⟩, ⟨#[50]⟩⟩] ⟨#[97]⟩ ⟨#[51]⟩ = ([⟨⟨#[97]⟩, ⟨#[51]⟩⟩, ⟨⟨#[98]⟩, ⟨#[50]⟩⟩], 0) := by
  have hf : findI (isName ⟨#[97]⟩) [⟨⟨#[97]⟩, ⟨#[49]⟩⟩, ⟨⟨#[98]⟩, ⟨#[50]⟩⟩] = 0 := by
    simp [findI, findFrom, rd_T27, isName_is]
  unfold putR
  rw [if_pos ⟨by decide +kernel, by decide +kernel⟩, hf]
  rfl
theorem awake_drop : dropR [⟨⟨#[97]⟩, ⟨#[49]⟩⟩, ⟨⟨#[98]⟩, ⟨#[50]⟩⟩] ⟨#[99]⟩ = ([], 2) := by
  have hf : findI (isName ⟨#[99]⟩) [⟨⟨#[97]⟩, ⟨#[49]⟩⟩, ⟨⟨#[98]⟩, ⟨#[50]⟩⟩] = -1 := by
    simp [findI, findFrom, rd_T27, isName_is]
  unfold dropR
  rw [hf]
  rfl
theorem awake_get : getR [⟨⟨#[97]⟩, ⟨#[51]⟩⟩, ⟨⟨#[98]⟩, ⟨#[50]⟩⟩] ⟨#[97]⟩ = (⟨#[51]⟩, true) := by
  have hf : findI (isName ⟨#[97]⟩) [⟨⟨#[97]⟩, ⟨#[51]⟩⟩, ⟨⟨#[98]⟩, ⟨#[50]⟩⟩] = 0 := by
    simp [findI, findFrom, rd_T27, isName_is]
  unfold getR
  rw [hf]
  rfl
theorem awake_ev : Ev quillworklaw03_awake.f true := by
  have e1 := put_ev [⟨⟨#[97]⟩, ⟨#[49]⟩⟩] ⟨#[98]⟩ ⟨#[50]⟩ (by decide) (by decide)
  have e2 := put_ev [⟨⟨#[97]⟩, ⟨#[49]⟩⟩, ⟨⟨#[98]⟩, ⟨#[50]⟩⟩] ⟨#[97]⟩ ⟨#[51]⟩ (by decide) (by decide)
  rw [awake_put1] at e1
  rw [awake_put2] at e2
  show Ev (fun k => quillworklaw03_awake.f k) true
  unfold quillworklaw03_awake.f
  refine Ev.bind e1 (Ev.bind e2 (Ev.have_ (drop_f _ _ (by decide)) (Ev.have_ (get_f _ _ (by decide)) ?_)))
  rw [awake_drop, awake_get]
  refine Ev.pos rfl (Ev.pos rfl (Ev.pos rfl (Ev.pos rfl (Ev.pos (by rw [ByteArray.toList_eq]) (Ev.pos rfl ?_)))))
  refine Ev.have_ (name_f _) (Ev.pos (by decide +kernel) (Ev.have_ (name_f _) (Ev.neg (by decide +kernel) ?_)))
  refine Ev.have_ (target_f _ (by decide)) (Ev.neg (by decide +kernel) (Ev.have_ (target_f _ (by decide)) ?_))
  exact Ev.ret (by decide +kernel)
end Go.Proofs.YtlppeljofjomiaaDoor.Pure
