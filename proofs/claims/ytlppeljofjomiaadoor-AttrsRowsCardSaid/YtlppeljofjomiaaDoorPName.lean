/- Plain laws: the reference's Name tells what the package's own Name tells, at every text of at most 20000 bytes. -/
import Derived.Test.YtlppeljofjomiaaDoorPFind
import Derived.Test.YtlppeljofjomiaaDoorXx4
namespace Go.Proofs.YtlppeljofjomiaaDoor.Pure
open Go.RowKit Go.Proofs.YtlppeljofjomiaaDoor.X Go.Proofs.YtlppeljofjomiaaDoorW.PrintWords Go.Proofs.YtlppeljofjomiaaDoorW.PrintLast
open Go.Proofs.YtlppeljofjomiaaDoor.Pl

theorem bt_data (a : ByteArray) (i : Nat) : bt a (i : Int) = ((a.data.toList.getD i 0).toNat : Int) := by
  unfold bt
  rw [Int.toNat_natCast]
  by_cases h : i < a.size
  · rw [dif_pos h]
    have : i < a.data.toList.length := by rw [← Lib.size_eq]; exact h
    rw [List.getD, List.getElem?_eq_getElem this]
    rfl
  · rw [dif_neg h]
    have : ¬ i < a.data.toList.length := by rw [← Lib.size_eq]; exact h
    rw [List.getD, List.getElem?_eq_none (by omega)]
    rfl
theorem drop_getD (l : List UInt8) (i : Nat) (h : i < l.length) : l.drop i = l.getD i 0 :: l.drop (i + 1) := by
  rw [List.drop_eq_getElem_cons h, List.getD, List.getElem?_eq_getElem h]
  rfl

/-! ### Name -/
theorem refname_l0 (a : ByteArray) (ha : a.size ≤ 20000) : ∀ (m i : Nat), m + i = a.size → Ev (fun k => quillworkref03_Name.l0 k a i) ((a.data.toList.drop i).all okByte)
  | 0, i, hm => by
    refine Ev.step (fun k => by rw [quillworkref03_Name.l0]) ?_
    refine Ev.neg (by omega) (Ev.ret ?_)
    rw [List.drop_eq_nil_of_le (by rw [← Lib.size_eq]; omega)]
    rfl
  | m + 1, i, hm => by
    have ih := refname_l0 a ha m (i + 1) (by omega)
    rw [drop_getD _ i (by rw [← Lib.size_eq]; omega), List.all_cons]
    obtain ⟨R, hR⟩ : ∃ R, (a.data.toList.drop (i + 1)).all okByte = R := ⟨_, rfl⟩
    rw [hR] at ih ⊢
    obtain ⟨b, hb⟩ : ∃ b, a.data.toList.getD i 0 = b := ⟨_, rfl⟩
    have hbt := bt_data a i
    rw [hb] at hbt ⊢
    have hY : ((97 ≤ b.toNat ∧ b.toNat ≤ 122) ∨ (48 ≤ b.toNat ∧ b.toNat ≤ 57) ∨ b.toNat = 45) → Ev (fun k => quillworkref03_Name.l0 k a (wrap64 ((i : Int) + 1))) (okByte b && R) := fun h => by
      unfold okByte
      rw [decide_eq_true h, Bool.true_and, wrap64_succ i (by omega)]
      exact ih
    have hN : ¬ ((97 ≤ b.toNat ∧ b.toNat ≤ 122) ∨ (48 ≤ b.toNat ∧ b.toNat ≤ 57) ∨ b.toNat = 45) → Ev (fun _ => some false) (okByte b && R) := fun h => by
      unfold okByte
      rw [decide_eq_false h, Bool.false_and]
      exact Ev.now _
    obtain ⟨n, hn⟩ : ∃ n, b.toNat = n := ⟨_, rfl⟩
    rw [hn] at hbt hY hN
    refine Ev.step (fun k => by rw [quillworkref03_Name.l0]) ?_
    rw [hbt]
    refine Ev.pos (by omega) (Ev.pos (by omega) ?_)
    repeat' (refine Ev.ite (fun h => ?_) (fun h => ?_))
    all_goals first | exact hY (by omega) | exact hN (by omega)
theorem refname_ev (a : ByteArray) (ha : a.size ≤ 20000) : Ev (fun k => quillworkref03_Name.f k a) (nameB a.data.toList) := by
  have e0 := refname_l0 a ha a.size 0 (by omega)
  have hl : a.data.toList.length = a.size := (Lib.size_eq a).symm
  have hbt := bt_data a 0
  have hF : ∀ b, b = true → nameB a.data.toList = false → Ev (fun k => quillworkref03_Name.j0 k a b) (nameB a.data.toList) := fun b hb h => by
    rw [h, hb]
    refine Ev.step (fun k => by rw [quillworkref03_Name.j0]) ?_
    exact Ev.pos rfl (Ev.now _)
  unfold quillworkref03_Name.f
  refine Ev.ite (fun h => hF _ rfl ?_) (fun h1 => Ev.ite (fun h => hF _ rfl ?_) (fun h2 => Ev.pos (by omega) (Ev.ite (fun h => hF _ rfl ?_) (fun h3 => ?_))))
  · unfold nameB
    rw [decide_eq_false (by omega)]
    rfl
  · unfold nameB
    rw [decide_eq_false (by omega)]
    rfl
  · have : lowByte (a.data.toList.getD 0 0) = false := by unfold lowByte; rw [decide_eq_false_iff_not]; rw [show ((0 : Int)) = ((0 : Nat) : Int) from rfl, hbt] at h; omega
    unfold nameB
    rw [this]
    simp
  · rw [show ((0 : Int)) = ((0 : Nat) : Int) from rfl, hbt] at h3 ⊢
    by_cases h4 : ((a.data.toList.getD 0 0).toNat : Int) > 122
    · refine hF _ (decide_eq_true h4) ?_
      have : lowByte (a.data.toList.getD 0 0) = false := by unfold lowByte; rw [decide_eq_false_iff_not]; omega
      unfold nameB
      rw [this]
      simp
    · have h5 : lowByte (a.data.toList.getD 0 0) = true := by unfold lowByte; rw [decide_eq_true_iff]; omega
      have h6 : nameB a.data.toList = a.data.toList.all okByte := by
        unfold nameB
        rw [h5, decide_eq_true (by omega)]
        rfl
      rw [decide_eq_false h4, h6]
      refine Ev.step (fun k => by rw [quillworkref03_Name.j0]) ?_
      exact Ev.neg (by simp) e0

end Go.Proofs.YtlppeljofjomiaaDoor.Pure
