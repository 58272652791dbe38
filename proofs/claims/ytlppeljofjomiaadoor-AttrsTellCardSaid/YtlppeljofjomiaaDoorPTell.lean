/- Plain laws: the reference's Name and Target tell what the package's own tell, at every text of at most 20000 bytes; so AttrsTell tells true. -/
import Derived.Test.YtlppeljofjomiaaDoorPBase
import Derived.Test.YtlppeljofjomiaaDoorXx4
import Derived.Test.YtlppeljofjomiaaDoorXx5
import Derived.Test.YtlppeljofjomiaaDoorXx6
namespace Go.Proofs.YtlppeljofjomiaaDoor.Pure
open Go.RowKit Go.Proofs.YtlppeljofjomiaaDoor.X Go.Proofs.YtlppeljofjomiaaDoorW.PrintWords Go.Proofs.YtlppeljofjomiaaDoorW.PrintLast
open Go.Proofs.YtlppeljofjomiaaDoor.Pl

theorem Ev.ite {α : Type} {c : Prop} [Decidable c] {f g : Nat → Option α} {r : α} (h : c → Ev f r) (k : ¬ c → Ev g r) : Ev (fun n => if c then f n else g n) r := by
  by_cases hc : c
  · exact Ev.pos hc (h hc)
  · exact Ev.neg hc (k hc)
theorem bt_data (a : ByteArray) (i : Nat) : bt a (i : Int) = ((a.data.toList.getD i 0).toNat : Int) := by
  unfold bt
  rw [Int.toNat_natCast]
  by_cases h : i < a.size
  · rw [dif_pos h]
    have : i < a.data.toList.length := by rw [← Lib.size_eq]; exact h
    rw [List.getD, List.getElem?_eq_getElem this]
    rfl
  · rw [dif_neg h]
    have : ¬ i < a.data.toList.length := by rw [← Lib.size_eq]; exact h
    rw [List.getD, List.getElem?_eq_none (by omega)]
    rfl
theorem drop_getD (l : List UInt8) (i : Nat) (h : i < l.length) : l.drop i = l.getD i 0 :: l.drop (i + 1) := by
  rw [List.drop_eq_getElem_cons h, List.getD, List.getElem?_eq_getElem h]
  rfl

/-! ### Name -/
theorem refname_l0 (a : ByteArray) (ha : a.size ≤ 20000) : ∀ (m i : Nat), m + i = a.size → Ev (fun k => quillworkref03_Name.l0 k a i) ((a.data.toList.drop i).all okByte)
  | 0, i, hm => by
    refine Ev.step (fun k => by rw [quillworkref03_Name.l0]) ?_
    refine Ev.neg (by omega) (Ev.ret ?_)
    rw [List.drop_eq_nil_of_le (by rw [← Lib.size_eq]; omega)]
    rfl
  | m + 1, i, hm => by
    have ih := refname_l0 a ha m (i + 1) (by omega)
    rw [drop_getD _ i (by rw [← Lib.size_eq]; omega), List.all_cons]
    obtain ⟨R, hR⟩ : ∃ R, (a.data.toList.drop (i + 1)).all okByte = R := ⟨_, rfl⟩
    rw [hR] at ih ⊢
    obtain ⟨b, hb⟩ : ∃ b, a.data.toList.getD i 0 = b := ⟨_, rfl⟩
    have hbt := bt_data a i
    rw [hb] at hbt ⊢
    have hY : ((97 ≤ b.toNat ∧ b.toNat ≤ 122) ∨ (48 ≤ b.toNat ∧ b.toNat ≤ 57) ∨ b.toNat = 45) → Ev (fun k => quillworkref03_Name.l0 k a (wrap64 ((i : Int) + 1))) (okByte b && R) := fun h => by
      unfold okByte
      rw [decide_eq_true h, Bool.true_and, wrap64_succ i (by omega)]
      exact ih
    have hN : ¬ ((97 ≤ b.toNat ∧ b.toNat ≤ 122) ∨ (48 ≤ b.toNat ∧ b.toNat ≤ 57) ∨ b.toNat = 45) → Ev (fun _ => some false) (okByte b && R) := fun h => by
      unfold okByte
      rw [decide_eq_false h, Bool.false_and]
      exact Ev.now _
    obtain ⟨n, hn⟩ : ∃ n, b.toNat = n := ⟨_, rfl⟩
    rw [hn] at hbt hY hN
    refine Ev.step (fun k => by rw [quillworkref03_Name.l0]) ?_
    rw [hbt]
    refine Ev.pos (by omega) (Ev.pos (by omega) ?_)
    repeat' (refine Ev.ite (fun h => ?_) (fun h => ?_))
    all_goals first | exact hY (by omega) | exact hN (by omega)
theorem refname_ev (a : ByteArray) (ha : a.size ≤ 20000) : Ev (fun k => quillworkref03_Name.f k a) (nameB a.data.toList) := by
  have e0 := refname_l0 a ha a.size 0 (by omega)
  have hl : a.data.toList.length = a.size := (Lib.size_eq a).symm
  have hbt := bt_data a 0
  have hF : ∀ b, b = true → nameB a.data.toList = false → Ev (fun k => quillworkref03_Name.j0 k a b) (nameB a.data.toList) := fun b hb h => by
    rw [h, hb]
    refine Ev.step (fun k => by rw [quillworkref03_Name.j0]) ?_
    exact Ev.pos rfl (Ev.now _)
  unfold quillworkref03_Name.f
  refine Ev.ite (fun h => hF _ rfl ?_) (fun h1 => Ev.ite (fun h => hF _ rfl ?_) (fun h2 => Ev.pos (by omega) (Ev.ite (fun h => hF _ rfl ?_) (fun h3 => ?_))))
  · unfold nameB
    rw [decide_eq_false (by omega)]
    rfl
  · unfold nameB
    rw [decide_eq_false (by omega)]
    rfl
  · have : lowByte (a.data.toList.getD 0 0) = false := by unfold lowByte; rw [decide_eq_false_iff_not]; rw [show ((0 : Int)) = ((0 : Nat) : Int) from rfl, hbt] at h; omega
    unfold nameB
    rw [this]
    simp
  · rw [show ((0 : Int)) = ((0 : Nat) : Int) from rfl, hbt] at h3 ⊢
    by_cases h4 : ((a.data.toList.getD 0 0).toNat : Int) > 122
    · refine hF _ (decide_eq_true h4) ?_
      have : lowByte (a.data.toList.getD 0 0) = false := by unfold lowByte; rw [decide_eq_false_iff_not]; omega
      unfold nameB
      rw [this]
      simp
    · have h5 : lowByte (a.data.toList.getD 0 0) = true := by unfold lowByte; rw [decide_eq_true_iff]; omega
      have h6 : nameB a.data.toList = a.data.toList.all okByte := by
        unfold nameB
        rw [h5, decide_eq_true (by omega)]
        rfl
      rw [decide_eq_false h4, h6]
      refine Ev.step (fun k => by rw [quillworkref03_Name.j0]) ?_
      exact Ev.neg (by simp) e0

/-! ### Target -/
def jsA : ByteArray := ⟨#[106, 97, 118, 97, 115, 99, 114, 105, 112, 116]⟩
theorem headB_get : ∀ (l : List UInt8) (i : Nat), i < (headB l).length → (headB l).getD i 0 = l.getD i 0
  | [], i, h => by simp [headB] at h
  | b :: l, i, h => by
    by_cases hb : b = 58
    · subst hb; simp [headB] at h
    · have h2 : headB (b :: l) = b :: headB l := by simp [headB, hb]
      rw [h2] at h ⊢
      cases i with
      | zero => rfl
      | succ i => exact headB_get l i (by simpa using h)
theorem lowB_eq (b e : UInt8) : lowB b = e ↔ ((65 ≤ b.toNat ∧ b.toNat ≤ 90 ∧ (b.toNat + 32) % 256 = e.toNat) ∨ (¬ (65 ≤ b.toNat ∧ b.toNat ≤ 90) ∧ b.toNat = e.toNat)) := by
  have h32 : (32 : UInt8).toNat = 32 := rfl
  unfold lowB
  split
  · rename_i h
    rw [← UInt8.toNat_inj, UInt8.toNat_add, h32]
    omega
  · rename_i h
    rw [← UInt8.toNat_inj]
    omega
theorem reftarget_l1 (a : ByteArray) (h10 : (headB a.data.toList).length = 10) : ∀ (m j : Nat), m + j = 10 → Ev (fun k => quillworkref03_Target.l1 k a jsA 10 j) (!(((headB a.data.toList).drop j).map lowB == jsL.drop j))
  | 0, j, hm => by
    have : j = 10 := by omega
    subst this
    refine Ev.step (fun k => by rw [quillworkref03_Target.l1]) ?_
    refine Ev.neg (by omega) (Ev.ret ?_)
    rw [List.drop_eq_nil_of_le (by omega)]
    rfl
  | m + 1, j, hm => by
    have ih := reftarget_l1 a h10 m (j + 1) (by omega)
    have hle := headB_le a.data.toList
    have hs : a.size = a.data.toList.length := Lib.size_eq a
    have hjs : jsL.length = 10 := rfl
    have hg := headB_get a.data.toList j (by omega)
    rw [drop_getD _ j (by omega), drop_getD jsL j (by omega), hg]
    have hb := bt_data a j
    have he := bt_data jsA j
    rw [show jsA.data.toList = jsL from rfl] at he
    obtain ⟨R, hR⟩ : ∃ R, (((headB a.data.toList).drop (j + 1)).map lowB == jsL.drop (j + 1)) = R := ⟨_, rfl⟩
    have hcons : ∀ b e : UInt8, (List.map lowB (b :: (headB a.data.toList).drop (j + 1)) == e :: jsL.drop (j + 1)) = ((lowB b == e) && R) := fun b e => by
      rw [← hR]; rfl
    rw [hcons]
    rw [hR] at ih
    obtain ⟨b, hbd⟩ : ∃ b, a.data.toList.getD j 0 = b := ⟨_, rfl⟩
    obtain ⟨e, hed⟩ : ∃ e, jsL.getD j 0 = e := ⟨_, rfl⟩
    rw [hbd] at hb ⊢
    rw [hed] at he ⊢
    have hlow := lowB_eq b e
    have hY : lowB b = e → Ev (fun k => quillworkref03_Target.l1 k a jsA 10 (wrap64 ((j : Int) + 1))) (!((lowB b == e) && R)) := fun h => by
      rw [beq_iff_eq.2 h, Bool.true_and, wrap64_succ j (by omega)]
      exact ih
    have hN : ¬ lowB b = e → Ev (fun _ => some true) (!((lowB b == e) && R)) := fun h => by
      rw [beq_eq_false_iff_ne.2 h]
      exact Ev.now _
    have hsz : (jsA.size : Int) = 10 := rfl
    refine Ev.step (fun k => by rw [quillworkref03_Target.l1]) ?_
    rw [hb]
    have hjj : ∀ q, q = decide (65 ≤ b.toNat ∧ b.toNat ≤ 90) → Ev (fun k => quillworkref03_Target.j4 k a jsA 10 (j : Int) (b.toNat : Int) q) (!((lowB b == e) && R)) := fun q hq => by
      refine Ev.step (fun k => by rw [quillworkref03_Target.j4]) ?_
      rw [he, hsz]
      refine Ev.ite (fun h => Ev.pos (by omega) (Ev.pos (by omega) ?_)) (fun h => Ev.pos (by omega) (Ev.pos (by omega) ?_))
      · rw [hq, decide_eq_true_iff] at h
        exact Ev.ite (fun h2 => hY (by rw [hlow]; omega)) (fun h2 => hN (by rw [hlow]; omega))
      · rw [hq, decide_eq_true_iff] at h
        exact Ev.ite (fun h2 => hY (by rw [hlow]; omega)) (fun h2 => hN (by rw [hlow]; omega))
    refine Ev.pos (by omega) (Ev.pos (by omega) (Ev.pos (by omega) (Ev.ite (fun h => hjj _ ?_) (fun h => hjj _ ?_))))
    · rw [decide_eq_decide]; omega
    · rw [eq_comm, decide_eq_false_iff_not]; omega
theorem reftarget_j2 (a : ByteArray) (ha : a.size ≤ 20000) : Ev (fun k => quillworkref03_Target.j2 k a jsA ((headB a.data.toList).length : Int)) (!((headB a.data.toList).map lowB == jsL)) := by
  have hsz : (jsA.size : Int) = 10 := rfl
  refine Ev.step (fun k => by rw [quillworkref03_Target.j2]) ?_
  rw [hsz]
  refine Ev.ite (fun h => ?_) (fun h => Ev.ret ?_)
  · have h10 : (headB a.data.toList).length = 10 := by omega
    rw [h]
    exact reftarget_l1 a h10 10 0 rfl
  · rw [eq_comm, Bool.not_eq_true', beq_eq_false_iff_ne]
    intro h2
    have h3 := congrArg List.length h2
    rw [List.length_map] at h3
    have : jsL.length = 10 := rfl
    omega
theorem headB_stop (l : List UInt8) (i : Nat) (hi : i ≤ l.length) (h1 : ∀ j, j < i → l.getD j 0 ≠ 58) (h2 : i < l.length → l.getD i 0 = 58) : (headB l).length = i := by
  induction l generalizing i with
  | nil => simp at hi; subst hi; rfl
  | cons b l ih =>
    by_cases hb : b = 58
    · subst hb
      cases i with
      | zero => simp [headB]
      | succ i => exact absurd rfl (h1 0 (by omega))
    · have h3 : headB (b :: l) = b :: headB l := by simp [headB, hb]
      cases i with
      | zero => exact absurd (h2 (by simp)) hb
      | succ i =>
        rw [h3, List.length_cons, ih i (by simpa using hi) (fun j hj => h1 (j + 1) (by omega)) (fun h => h2 (by simpa using h))]
theorem reftarget_l0 (a : ByteArray) (ha : a.size ≤ 20000) : ∀ (m i : Nat), m + i = a.size → (∀ j, j < i → a.data.toList.getD j 0 ≠ 58) → Ev (fun k => quillworkref03_Target.l0 k a jsA i) (!((headB a.data.toList).map lowB == jsL))
  | 0, i, hm, hp => by
    have hs : a.size = a.data.toList.length := Lib.size_eq a
    have hh := headB_stop a.data.toList i (by omega) hp (fun h => by omega)
    have e := reftarget_j2 a ha
    rw [hh] at e
    refine Ev.step (fun k => by rw [quillworkref03_Target.l0]) ?_
    exact Ev.neg (by omega) e
  | m + 1, i, hm, hp => by
    have hs : a.size = a.data.toList.length := Lib.size_eq a
    have hb := bt_data a i
    refine Ev.step (fun k => by rw [quillworkref03_Target.l0]) ?_
    rw [hb]
    refine Ev.pos (by omega) (Ev.pos (by omega) (Ev.ite (fun h => ?_) (fun h => ?_)))
    · have h58 : a.data.toList.getD i 0 = 58 := UInt8.toNat_inj.1 (by have : (58 : UInt8).toNat = 58 := rfl; omega)
      have hh := headB_stop a.data.toList i (by omega) hp (fun _ => h58)
      have e := reftarget_j2 a ha
      rw [hh] at e
      exact e
    · rw [wrap64_succ i (by omega)]
      refine reftarget_l0 a ha m (i + 1) (by omega) (fun j hj => ?_)
      by_cases hji : j = i
      · subst hji
        intro h2
        rw [h2] at h
        exact h rfl
      · exact hp j (by omega)
theorem reftarget_ev (a : ByteArray) (ha : a.size ≤ 20000) : Ev (fun k => quillworkref03_Target.f k a) (targetB a.data.toList) := by
  have hs : a.size = a.data.toList.length := Lib.size_eq a
  have hF : ∀ b, b = true → targetB a.data.toList = false → Ev (fun k => quillworkref03_Target.j0 k a b) (targetB a.data.toList) := fun b hb h => by
    rw [h, hb]
    refine Ev.step (fun k => by rw [quillworkref03_Target.j0]) ?_
    exact Ev.pos rfl (Ev.now _)
  unfold quillworkref03_Target.f
  refine Ev.have_ (refvalue_f a ha) (Ev.ite (fun hv => ?_) (fun hv => hF _ rfl ?_))
  · rw [ByteArray.toList_eq]
    refine Ev.ite (fun h => hF _ rfl ?_) (fun h1 => ?_)
    · unfold targetB; rw [h]; simp
    · have hpos : 0 < a.data.toList.length := List.length_pos_iff.2 h1
      have hw : wrap64 ((a.size : Int) - 1) = ((a.data.toList.length - 1 : Nat) : Int) := by rw [wrap64_id _ (by omega) (by omega)]; omega
      have hb0 := bt_data a 0
      have hb1 := bt_data a (a.data.toList.length - 1)
      have hb0' : bt a 0 = ((a.data.toList.getD 0 0).toNat : Int) := hb0
      rw [hw, hb0', hb1]
      refine Ev.pos (by omega) (Ev.ite (fun h => hF _ rfl ?_) (fun h2 => Ev.pos (by omega) (Ev.pos (by omega) ?_)))
      · have : a.data.toList.getD 0 0 = 32 := UInt8.toNat_inj.1 (by have : (32 : UInt8).toNat = 32 := rfl; omega)
        unfold targetB; rw [this]; simp
      · have h2' : (a.data.toList.getD 0 0 != 32) = true := by
          rw [bne_iff_ne]; intro h; rw [h] at h2; exact h2 rfl
        by_cases h3 : a.data.toList.getD (a.data.toList.length - 1) 0 = 32
        · refine hF _ (by rw [h3]; rfl) ?_
          unfold targetB; rw [h3]; simp
        · have h3' : (a.data.toList.getD (a.data.toList.length - 1) 0 != 32) = true := by rw [bne_iff_ne]; exact h3
          have hq : (((a.data.toList.getD (a.data.toList.length - 1) 0).toNat : Int) == 32) = false := by
            rw [beq_eq_false_iff_ne]
            intro h
            exact h3 (UInt8.toNat_inj.1 (by have : (32 : UInt8).toNat = 32 := rfl; omega))
          have ht : targetB a.data.toList = !((headB a.data.toList).map lowB == jsL) := by
            unfold targetB
            rw [hv, h2', h3', show a.data.toList.isEmpty = false from by rw [List.isEmpty_eq_false_iff]; exact h1]
            simp
          rw [hq, ht]
          refine Ev.step (fun k => by rw [quillworkref03_Target.j0]) ?_
          exact Ev.neg (by simp) (reftarget_l0 a ha a.size 0 (by omega) (fun j hj => by omega))
  · unfold targetB
    rw [Bool.not_eq_true] at hv
    rw [hv]
    rfl

theorem tell_ev (a : ByteArray) (ha : a.size ≤ 140737488351232) : Ev (fun k => quillworklaw03_AttrsTell.f k a) true := by
  obtain ⟨b, e, hb⟩ := long_ev [] [a] (by simp) (by simpa using ha) (by simp)
  unfold quillworklaw03_AttrsTell.f
  refine Ev.bind e (Ev.ite (fun h => Ev.bind awake_ev (Ev.now _)) (fun h => ?_))
  obtain ⟨_, h2, _⟩ := hb (by simpa using h)
  have hs : a.size ≤ 20000 := h2 a (by simp)
  refine Ev.have_ (name_f a) (Ev.bind (refname_ev a hs) (Ev.pos (by simp) ?_))
  refine Ev.have_ (value_f a hs) (Ev.have_ (refvalue_f a hs) (Ev.pos (by simp) ?_))
  refine Ev.have_ (target_f a hs) (Ev.bind (reftarget_ev a hs) (Ev.pos (by simp) ?_))
  exact Ev.bind awake_ev (Ev.now _)
theorem AttrsTell (a : ByteArray) (ha : a.size ≤ 140737488351232) : ∃ k, quillworklaw03_AttrsTell.f k a = some true := (tell_ev a ha).rounds
end Go.Proofs.YtlppeljofjomiaaDoor.Pure
