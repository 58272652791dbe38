/- Plain law: CellsMay tells true at every two rows of cells (whose texts are no longer than a machine's memory). -/
import Derived.Test.YtlppeljofjomiaaDoorXmx2
import Derived.Test.YtlppeljofjomiaaDoorXmx3
import Derived.Test.YtlppeljofjomiaaDoorXmx4
import Derived.Test.YtlppeljofjomiaaDoorXmx5
import Derived.Test.YtlppeljofjomiaaDoorXmx6
namespace Go.Proofs.YtlppeljofjomiaaDoor.PureM
open Go Go.Lib Go.RowKit Go.Proofs.YtlppeljofjomiaaDoor.Xm Go.Proofs.YtlppeljofjomiaaDoorW.PrintWords Go.Proofs.YtlppeljofjomiaaDoorW.PrintLast
open Go.Proofs.YtlppeljofjomiaaDoor.Pl

/-! ### steps -/
theorem wrap64_id (n : Int) (h1 : -9223372036854775808 ≤ n) (h2 : n < 9223372036854775808) : wrap64 n = n := by unfold wrap64; omega
theorem wrap64_succ (i : Nat) (h : i < 4611686018427387904) : wrap64 ((i : Int) + 1) = ((i + 1 : Nat) : Int) := by unfold wrap64; omega
theorem Ev.pos {α : Type} {c : Prop} [Decidable c] {f g : Nat → Option α} {r : α} (h : c) (k : Ev f r) : Ev (fun n => if c then f n else g n) r := by
  simp only [if_pos h]; exact k
theorem Ev.neg {α : Type} {c : Prop} [Decidable c] {f g : Nat → Option α} {r : α} (h : ¬ c) (k : Ev g r) : Ev (fun n => if c then f n else g n) r := by
  simp only [if_neg h]; exact k
theorem Ev.have_ {α β : Type} {a : Option α} {v : α} {f : Nat → α → Option β} {r : β} (h : a = some v) (k : Ev (fun n => f n v) r) : Ev (fun n => a.bind (f n)) r := by
  subst h; exact k
theorem Ev.ret {α : Type} {v r : α} (h : v = r) : Ev (fun _ => some v) r := by subst h; exact Ev.now _
theorem Ev.cast {α : Type} {f : Nat → Option α} {v r : α} (k : Ev f v) (h : v = r) : Ev f r := by subst h; exact k
theorem rdI_at (l : List Int) (i : Nat) (h : i < l.length) : rd l (i : Int) = l[i] := by
  unfold rd
  rw [Int.toNat_natCast]
  simp [List.getD, List.getElem?_eq_getElem h]
theorem rd51_at (l : List S51) (i : Nat) (h : i < l.length) : rd_T51 l (i : Int) = l[i] := by
  unfold rd_T51
  rw [Int.toNat_natCast]
  simp [List.getD, List.getElem?_eq_getElem h]
theorem toList_inj {a b : ByteArray} : a.toList = b.toList ↔ a = b := by
  rw [ByteArray.toList_eq, ByteArray.toList_eq]
  constructor
  · intro h
    cases a; cases b
    congr
    exact Array.toList_inj.1 h
  · intro h; rw [h]
theorem drop_cons {α : Type} (l : List α) (i : Nat) (h : i < l.length) : l.drop i = l[i] :: l.drop (i + 1) := List.drop_eq_getElem_cons h

theorem clean_le (l : List UInt8) : (cleanI l).length ≤ l.length := Nat.le_trans (List.length_filterMap_le _ _) (runesI_le l.length l (Nat.le_refl _))

theorem class_j3 (c : Int) (b : Bool) : quillworkref01_Class.j3 1 c b = some (if b = true then 3 else if 48 ≤ c ∧ c ≤ 57 then 4 else 5) := by
  simp only [quillworkref01_Class.j3]
  cases b
  · by_cases h1 : c ≥ 48
    · by_cases h2 : c ≤ 57
      · simp [h1, h2]
      · simp [h1, h2]
    · simp [h1]
  · rfl
theorem class_j2 (c : Int) (b : Bool) : quillworkref01_Class.j2 2 c b = some (if b = true then 2 else if (97 ≤ c ∧ c ≤ 122) ∨ (65 ≤ c ∧ c ≤ 90) ∨ (128 ≤ c ∧ c ≠ 65533) then 3 else if 48 ≤ c ∧ c ≤ 57 then 4 else 5) := by
  simp only [quillworkref01_Class.j2, class_j3]
  cases b
  · simp only [Bool.false_eq_true, if_false]
    repeat' split
    all_goals first | rfl | (exfalso; simp_all; done) | (exfalso; simp_all; omega)
  · rfl
theorem class_j1 (c : Int) (b : Bool) : quillworkref01_Class.j1 3 c b = some (if b = true then 1 else if c = 32 ∨ c = 160 then 2 else if (97 ≤ c ∧ c ≤ 122) ∨ (65 ≤ c ∧ c ≤ 90) ∨ (128 ≤ c ∧ c ≠ 65533) then 3 else if 48 ≤ c ∧ c ≤ 57 then 4 else 5) := by
  simp only [quillworkref01_Class.j1, class_j2]
  cases b
  · simp only [Bool.false_eq_true, if_false]
    by_cases h : c = 32
    · simp [h]
    · rw [if_neg h]
      by_cases h2 : c = 160
      · simp [h2]
      · rw [if_neg (show ¬ (c == 160) = true by simpa using h2), if_neg (show ¬ (c = 32 ∨ c = 160) by omega)]
  · rfl
theorem class_f (c : Int) : quillworkref01_Class.f 4 c = some (classZ c) := by
  have key : ∀ b : Bool, quillworkref01_Class.j0 4 c b = some (if b = true then 0 else if c < 32 ∨ c = 127 then 1 else if c = 32 ∨ c = 160 then 2 else if (97 ≤ c ∧ c ≤ 122) ∨ (65 ≤ c ∧ c ≤ 90) ∨ (128 ≤ c ∧ c ≠ 65533) then 3 else if 48 ≤ c ∧ c ≤ 57 then 4 else 5) := by
    intro b
    simp only [quillworkref01_Class.j0, class_j1]
    cases b
    · simp only [Bool.false_eq_true, if_false]
      by_cases h : c < 32
      · simp [h]
      · rw [if_neg h]
        by_cases h2 : c = 127
        · simp [h2]
        · rw [if_neg (show ¬ (c == 127) = true by simpa using h2), if_neg (show ¬ (c < 32 ∨ c = 127) by omega)]
    · rfl
  unfold quillworkref01_Class.f
  simp only [key]
  unfold classZ
  by_cases h1 : c < 0
  · rw [if_pos h1, if_pos (show ¬ ((0 ≤ c ∧ c < 55296) ∨ (57343 < c ∧ c ≤ 1114111)) by omega)]; rfl
  · rw [if_neg h1]
    by_cases h2 : c > 1114111
    · rw [if_pos h2, if_pos (show ¬ ((0 ≤ c ∧ c < 55296) ∨ (57343 < c ∧ c ≤ 1114111)) by omega)]; rfl
    · rw [if_neg h2]
      have fin : ((0 ≤ c ∧ c < 55296) ∨ (57343 < c ∧ c ≤ 1114111)) → (if c < 32 ∨ c = 127 then (1 : Int) else if c = 32 ∨ c = 160 then 2 else if (97 ≤ c ∧ c ≤ 122) ∨ (65 ≤ c ∧ c ≤ 90) ∨ (128 ≤ c ∧ c ≠ 65533) then 3 else if 48 ≤ c ∧ c ≤ 57 then 4 else 5) = (if ¬ ((0 ≤ c ∧ c < 55296) ∨ (57343 < c ∧ c ≤ 1114111)) then 0 else if c < 32 ∨ c = 127 then 1 else if c = 32 ∨ c = 160 then 2 else if c = 65533 then 5 else if (97 ≤ c ∧ c ≤ 122) ∨ (65 ≤ c ∧ c ≤ 90) ∨ 128 ≤ c then 3 else if 48 ≤ c ∧ c ≤ 57 then 4 else 5) := by
        intro hv
        rw [if_neg (show ¬ ¬ ((0 ≤ c ∧ c < 55296) ∨ (57343 < c ∧ c ≤ 1114111)) by omega)]
        by_cases e : c = 65533
        · subst e; decide
        · rw [if_neg e]
          repeat' split
          all_goals first | rfl | omega
      by_cases h3 : c ≥ 55296
      · rw [if_pos h3]
        by_cases h4 : c ≤ 57343
        · rw [if_pos (by simpa using h4), if_pos (show ¬ ((0 ≤ c ∧ c < 55296) ∨ (57343 < c ∧ c ≤ 1114111)) by omega)]
        · rw [if_neg (by simpa using h4), fin (by omega)]
      · rw [if_neg h3, if_neg (by simp), fin (by omega)]
theorem refmay_ev (c : Int) : Ev (fun k => quillworkref01_May.f k c) (mayZ c) := by
  refine Ev.of (fun _ => quillworkref01_May.mono _ _) (k := 4) ?_
  show (quillworkref01_Class.f 4 c).bind _ = _
  rw [class_f]
  rfl
/-! ### Of -/
def ofR (b : Int) (h : ByteArray) (cs : List Int) : List S51 := cs.map fun c => ⟨c, b, h⟩
theorem ofR_drop (b : Int) (h : ByteArray) (cs : List Int) (i : Nat) (hi : i < cs.length) (out : List S51) : (out ++ [(⟨cs[i], b, h⟩ : S51)]) ++ ofR b h (cs.drop (i + 1)) = out ++ ofR b h (cs.drop i) := by
  rw [drop_cons cs i hi, List.append_assoc]
  rfl
theorem of_l (b : Int) (h : ByteArray) (cs : List Int) (hc : cs.length < 4398046511104) :
    ∀ (m i : Nat) (out : List S51), m + i = cs.length → out.length = i → Ev (fun k => cells_Of.l0 k b h out cs (cs.length : Int) i) (out ++ ofR b h (cs.drop i))
  | 0, i, out, hm, ho => by
    refine Ev.step (fun k => by rw [cells_Of.l0]) ?_
    refine Ev.neg (by omega) (Ev.ret ?_)
    rw [List.drop_eq_nil_of_le (by omega)]
    simp [ofR]
  | m + 1, i, out, hm, ho => by
    have hi : i < cs.length := by omega
    refine Ev.step (fun k => by rw [cells_Of.l0]) ?_
    refine Ev.pos (by omega) (Ev.pos (by omega) (Ev.pos (by omega) (Ev.pos (by omega) ?_)))
    rw [rdI_at cs i hi, wrap64_succ i (by omega), ← ofR_drop b h cs i hi out]
    exact of_l b h cs hc m (i + 1) _ (by omega) (by simp [ho])
theorem of_ev (s : ByteArray) (b : Int) (h : ByteArray) (hs : s.size ≤ 10000) : Ev (fun k => cells_Of.f k s b h) (ofR b h (cleanI s.data.toList)) := by
  unfold cells_Of.f
  have hle := clean_le s.data.toList
  rw [← Lib.size_eq] at hle
  refine Ev.have_ (v := cleanI s.data.toList) (by unfold chars_Clean.f; rw [if_pos (by omega)]) ?_
  exact of_l b h (cleanI s.data.toList) (by omega) (cleanI s.data.toList).length 0 [] (by omega) rfl
/-! ### Same -/
theorem same_l (l m : List S51) (hl : l.length = m.length) (h62 : l.length < 4611686018427387904) :
    ∀ (n i : Nat), n + i = l.length → Ev (fun k => quillworkref05_Same.l0 k l m i) (decide (l.drop i = m.drop i))
  | 0, i, hm => by
    refine Ev.step (fun k => by rw [quillworkref05_Same.l0]) ?_
    refine Ev.neg (by omega) (Ev.ret ?_)
    rw [List.drop_eq_nil_of_le (by omega), List.drop_eq_nil_of_le (by omega)]
    rfl
  | n + 1, i, hm => by
    have hi : i < l.length := by omega
    have hj : i < m.length := by omega
    refine Ev.step (fun k => by rw [quillworkref05_Same.l0]) ?_
    refine Ev.pos (by omega) (Ev.pos (by omega) (Ev.pos (by omega) ?_))
    rw [rd51_at l i hi, rd51_at m i hj, drop_cons l i hi, drop_cons m i hj]
    have no : l[i] ≠ m[i] → decide (l[i] :: l.drop (i + 1) = m[i] :: m.drop (i + 1)) = false := fun h => decide_eq_false (fun e => h (List.cons.inj e).1)
    by_cases h0 : l[i].f0 = m[i].f0
    · refine Ev.pos h0 ?_
      by_cases h1 : l[i].f1 = m[i].f1
      · refine Ev.pos h1 ?_
        by_cases h2 : l[i].f2.toList = m[i].f2.toList
        · refine Ev.pos h2 ?_
          have he : l[i] = m[i] := by
            have h3 := toList_inj.1 h2
            cases hx : l[i]; cases hy : m[i]
            rw [hx, hy] at h0 h1 h3
            simp only at h0 h1 h3
            rw [h0, h1, h3]
          rw [wrap64_succ i (by omega)]
          refine Ev.cast (same_l l m hl h62 n (i + 1) (by omega)) ?_
          rw [he]
          exact decide_eq_decide.2 ⟨fun h => by rw [h], fun h => (List.cons.inj h).2⟩
        · exact Ev.neg h2 (Ev.ret (no (fun e => h2 (by rw [e]))).symm)
      · exact Ev.neg h1 (Ev.ret (no (fun e => h1 (by rw [e]))).symm)
    · exact Ev.neg h0 (Ev.ret (no (fun e => h0 (by rw [e]))).symm)
theorem same_ev (l m : List S51) (h62 : l.length < 4611686018427387904) : Ev (fun k => quillworkref05_Same.f k l m) (decide (l = m)) := by
  unfold quillworkref05_Same.f
  by_cases hl : l.length = m.length
  · refine Ev.pos (by omega) ?_
    have h := same_l l m hl h62 l.length 0 (by omega)
    rw [List.drop_zero, List.drop_zero] at h
    exact h
  · exact Ev.neg (by omega) (Ev.ret (decide_eq_false (fun e => hl (by rw [e]))).symm)

/-! ### Text -/
theorem celltext_l (l : List S51) (hc : l.length < 35184372088832) :
    ∀ (m i : Nat) (out : List Int), m + i = l.length → out.length = i → Ev (fun k => cells_Text.l0 k out l (l.length : Int) i) (runesBytes (out ++ (l.drop i).map (·.f0)))
  | 0, i, out, hm, ho => by
    refine Ev.step (fun k => by rw [cells_Text.l0]) ?_
    refine Ev.neg (by omega) (Ev.have_ (v := runesBytes out) rfl (Ev.ret ?_))
    rw [List.drop_eq_nil_of_le (by omega)]
    simp
  | m + 1, i, out, hm, ho => by
    have hi : i < l.length := by omega
    refine Ev.step (fun k => by rw [cells_Text.l0]) ?_
    refine Ev.pos (by omega) (Ev.pos (by omega) (Ev.pos (by omega) (Ev.pos (by omega) ?_)))
    rw [rd51_at l i hi, wrap64_succ i (by omega), drop_cons l i hi, List.map_cons]
    refine Ev.cast (celltext_l l hc m (i + 1) (out ++ [l[i].f0]) (by omega) (by simp [ho])) ?_
    rw [List.append_assoc]
    rfl
theorem celltext_ev (l : List S51) (hc : l.length < 35184372088832) : Ev (fun k => cells_Text.f k l) (runesBytes (l.map (·.f0))) := by
  unfold cells_Text.f
  have h := celltext_l l hc l.length 0 [] (by omega) rfl
  rw [List.drop_zero, List.nil_append] at h
  exact h

/-! ### awake -/
theorem clean_an : cleanI [97, 195, 177] = [97, 241] := by decide +kernel
theorem text_an : textL [97, 241] = [97, 195, 177] := by decide +kernel
theorem awake_ev : Ev quillworklaw05_awake.f true := by
  have e1 := of_ev ⟨#[97, 195, 177]⟩ 1 ⟨#[]⟩ (by decide)
  have e0 : ofR 1 ⟨#[]⟩ (cleanI (⟨#[97, 195, 177]⟩ : ByteArray).data.toList) = two 1 := by
    show ofR 1 ⟨#[]⟩ (cleanI [97, 195, 177]) = _
    rw [clean_an]
    rfl
  rw [e0] at e1
  show Ev (fun k => quillworklaw05_awake.f k) true
  unfold quillworklaw05_awake.f
  refine Ev.bind e1 (Ev.have_ (v := (two 2, 0)) (by rfl) (Ev.have_ (v := []) rfl (Ev.pos (by decide) (Ev.have_ (v := two 1) rfl (Ev.pos (by decide) ?_)))))
  refine Ev.have_ (v := [⟨0, 2, 1, ⟨#[]⟩, 0⟩, ⟨2, 3, 0, ⟨#[]⟩, 1⟩]) (by rfl) (Ev.have_ (v := ([], 1)) (by rfl) (Ev.have_ (v := (1, 3)) (by rfl) (Ev.pos (by decide) ?_)))
  refine Ev.bind (celltext_ev (two 1) (by decide)) (Ev.pos ?_ ?_)
  · rw [ByteArray.toList_eq, runesBytes_eq]
    exact text_an
  · refine Ev.pos rfl (Ev.pos (by decide) (Ev.pos (by rfl) (Ev.pos (by rfl) (Ev.pos (by decide) (Ev.pos (by rfl) (Ev.pos rfl (Ev.pos rfl ?_)))))))
    exact Ev.ret (by rfl)

theorem Ev.ite {α : Type} {c : Prop} [Decidable c] {f g : Nat → Option α} {r : α} (h : c → Ev f r) (k : ¬ c → Ev g r) : Ev (fun n => if c then f n else g n) r := by
  by_cases hc : c
  · exact Ev.pos hc (h hc)
  · exact Ev.neg hc (k hc)
theorem bt_data (a : ByteArray) (i : Nat) : bt a (i : Int) = ((a.data.toList.getD i 0).toNat : Int) := by
  unfold bt
  rw [Int.toNat_natCast]
  by_cases h : i < a.size
  · rw [dif_pos h]
    have : i < a.data.toList.length := by rw [← Lib.size_eq]; exact h
    rw [List.getD, List.getElem?_eq_getElem this]
    rfl
  · rw [dif_neg h]
    have : ¬ i < a.data.toList.length := by rw [← Lib.size_eq]; exact h
    rw [List.getD, List.getElem?_eq_none (by omega)]
    rfl
theorem drop_getD (l : List UInt8) (i : Nat) (h : i < l.length) : l.drop i = l.getD i 0 :: l.drop (i + 1) := by
  rw [List.drop_eq_getElem_cons h, List.getD, List.getElem?_eq_getElem h]
  rfl

theorem refvalue_f (s : ByteArray) (h : s.size ≤ 200000) : quillworkref03_Value.f s = some (valueB s.data.toList) := by unfold quillworkref03_Value.f; rw [if_pos (by omega)]
/-! ### Target -/
def jsA : ByteArray := ⟨#[106, 97, 118, 97, 115, 99, 114, 105, 112, 116]⟩
theorem headB_get : ∀ (l : List UInt8) (i : Nat), i < (headB l).length → (headB l).getD i 0 = l.getD i 0
  | [], i, h => by simp [headB] at h
  | b :: l, i, h => by
    by_cases hb : b = 58
    · subst hb; simp [headB] at h
    · have h2 : headB (b :: l) = b :: headB l := by simp [headB, hb]
      rw [h2] at h ⊢
      cases i with
      | zero => rfl
      | succ i => exact headB_get l i (by simpa using h)
theorem lowB_eq (b e : UInt8) : lowB b = e ↔ ((65 ≤ b.toNat ∧ b.toNat ≤ 90 ∧ (b.toNat + 32) % 256 = e.toNat) ∨ (¬ (65 ≤ b.toNat ∧ b.toNat ≤ 90) ∧ b.toNat = e.toNat)) := by
  have h32 : (32 : UInt8).toNat = 32 := rfl
  unfold lowB
  split
  · rename_i h
    rw [← UInt8.toNat_inj, UInt8.toNat_add, h32]
    omega
  · rename_i h
    rw [← UInt8.toNat_inj]
    omega
theorem reftarget_l1 (a : ByteArray) (h10 : (headB a.data.toList).length = 10) : ∀ (m j : Nat), m + j = 10 → Ev (fun k => quillworkref03_Target.l1 k a jsA 10 j) (!(((headB a.data.toList).drop j).map lowB == jsL.drop j))
  | 0, j, hm => by
    have : j = 10 := by omega
    subst this
    refine Ev.step (fun k => by rw [quillworkref03_Target.l1]) ?_
    refine Ev.neg (by omega) (Ev.ret ?_)
    rw [List.drop_eq_nil_of_le (by omega)]
    rfl
  | m + 1, j, hm => by
    have ih := reftarget_l1 a h10 m (j + 1) (by omega)
    have hle := headB_le a.data.toList
    have hs : a.size = a.data.toList.length := Lib.size_eq a
    have hjs : jsL.length = 10 := rfl
    have hg := headB_get a.data.toList j (by omega)
    rw [drop_getD _ j (by omega), drop_getD jsL j (by omega), hg]
    have hb := bt_data a j
    have he := bt_data jsA j
    rw [show jsA.data.toList = jsL from rfl] at he
    obtain ⟨R, hR⟩ : ∃ R, (((headB a.data.toList).drop (j + 1)).map lowB == jsL.drop (j + 1)) = R := ⟨_, rfl⟩
    have hcons : ∀ b e : UInt8, (List.map lowB (b :: (headB a.data.toList).drop (j + 1)) == e :: jsL.drop (j + 1)) = ((lowB b == e) && R) := fun b e => by
      rw [← hR]; rfl
    rw [hcons]
    rw [hR] at ih
    obtain ⟨b, hbd⟩ : ∃ b, a.data.toList.getD j 0 = b := ⟨_, rfl⟩
    obtain ⟨e, hed⟩ : ∃ e, jsL.getD j 0 = e := ⟨_, rfl⟩
    rw [hbd] at hb ⊢
    rw [hed] at he ⊢
    have hlow := lowB_eq b e
    have hY : lowB b = e → Ev (fun k => quillworkref03_Target.l1 k a jsA 10 (wrap64 ((j : Int) + 1))) (!((lowB b == e) && R)) := fun h => by
      rw [beq_iff_eq.2 h, Bool.true_and, wrap64_succ j (by omega)]
      exact ih
    have hN : ¬ lowB b = e → Ev (fun _ => some true) (!((lowB b == e) && R)) := fun h => by
      rw [beq_eq_false_iff_ne.2 h]
      exact Ev.now _
    have hsz : (jsA.size : Int) = 10 := rfl
    refine Ev.step (fun k => by rw [quillworkref03_Target.l1]) ?_
    rw [hb]
    have hjj : ∀ q, q = decide (65 ≤ b.toNat ∧ b.toNat ≤ 90) → Ev (fun k => quillworkref03_Target.j4 k a jsA 10 (j : Int) (b.toNat : Int) q) (!((lowB b == e) && R)) := fun q hq => by
      refine Ev.step (fun k => by rw [quillworkref03_Target.j4]) ?_
      rw [he, hsz]
      refine Ev.ite (fun h => Ev.pos (by omega) (Ev.pos (by omega) ?_)) (fun h => Ev.pos (by omega) (Ev.pos (by omega) ?_))
      · rw [hq, decide_eq_true_iff] at h
        exact Ev.ite (fun h2 => hY (by rw [hlow]; omega)) (fun h2 => hN (by rw [hlow]; omega))
      · rw [hq, decide_eq_true_iff] at h
        exact Ev.ite (fun h2 => hY (by rw [hlow]; omega)) (fun h2 => hN (by rw [hlow]; omega))
    refine Ev.pos (by omega) (Ev.pos (by omega) (Ev.pos (by omega) (Ev.ite (fun h => hjj _ ?_) (fun h => hjj _ ?_))))
    · rw [decide_eq_decide]; omega
    · rw [eq_comm, decide_eq_false_iff_not]; omega
theorem reftarget_j2 (a : ByteArray) (ha : a.size ≤ 200000) : Ev (fun k => quillworkref03_Target.j2 k a jsA ((headB a.data.toList).length : Int)) (!((headB a.data.toList).map lowB == jsL)) := by
  have hsz : (jsA.size : Int) = 10 := rfl
  refine Ev.step (fun k => by rw [quillworkref03_Target.j2]) ?_
  rw [hsz]
  refine Ev.ite (fun h => ?_) (fun h => Ev.ret ?_)
  · have h10 : (headB a.data.toList).length = 10 := by omega
    rw [h]
    exact reftarget_l1 a h10 10 0 rfl
  · rw [eq_comm, Bool.not_eq_true', beq_eq_false_iff_ne]
    intro h2
    have h3 := congrArg List.length h2
    rw [List.length_map] at h3
    have : jsL.length = 10 := rfl
    omega
theorem headB_stop (l : List UInt8) (i : Nat) (hi : i ≤ l.length) (h1 : ∀ j, j < i → l.getD j 0 ≠ 58) (h2 : i < l.length → l.getD i 0 = 58) : (headB l).length = i := by
  induction l generalizing i with
  | nil => simp at hi; subst hi; rfl
  | cons b l ih =>
    by_cases hb : b = 58
    · subst hb
      cases i with
      | zero => simp [headB]
      | succ i => exact absurd rfl (h1 0 (by omega))
    · have h3 : headB (b :: l) = b :: headB l := by simp [headB, hb]
      cases i with
      | zero => exact absurd (h2 (by simp)) hb
      | succ i =>
        rw [h3, List.length_cons, ih i (by simpa using hi) (fun j hj => h1 (j + 1) (by omega)) (fun h => h2 (by simpa using h))]
theorem reftarget_l0 (a : ByteArray) (ha : a.size ≤ 200000) : ∀ (m i : Nat), m + i = a.size → (∀ j, j < i → a.data.toList.getD j 0 ≠ 58) → Ev (fun k => quillworkref03_Target.l0 k a jsA i) (!((headB a.data.toList).map lowB == jsL))
  | 0, i, hm, hp => by
    have hs : a.size = a.data.toList.length := Lib.size_eq a
    have hh := headB_stop a.data.toList i (by omega) hp (fun h => by omega)
    have e := reftarget_j2 a ha
    rw [hh] at e
    refine Ev.step (fun k => by rw [quillworkref03_Target.l0]) ?_
    exact Ev.neg (by omega) e
  | m + 1, i, hm, hp => by
    have hs : a.size = a.data.toList.length := Lib.size_eq a
    have hb := bt_data a i
    refine Ev.step (fun k => by rw [quillworkref03_Target.l0]) ?_
    rw [hb]
    refine Ev.pos (by omega) (Ev.pos (by omega) (Ev.ite (fun h => ?_) (fun h => ?_)))
    · have h58 : a.data.toList.getD i 0 = 58 := UInt8.toNat_inj.1 (by have : (58 : UInt8).toNat = 58 := rfl; omega)
      have hh := headB_stop a.data.toList i (by omega) hp (fun _ => h58)
      have e := reftarget_j2 a ha
      rw [hh] at e
      exact e
    · rw [wrap64_succ i (by omega)]
      refine reftarget_l0 a ha m (i + 1) (by omega) (fun j hj => ?_)
      by_cases hji : j = i
      · subst hji
        intro h2
        rw [h2] at h
        exact h rfl
      · exact hp j (by omega)
theorem reftarget_ev (a : ByteArray) (ha : a.size ≤ 200000) : Ev (fun k => quillworkref03_Target.f k a) (targetB a.data.toList) := by
  have hs : a.size = a.data.toList.length := Lib.size_eq a
  have hF : ∀ b, b = true → targetB a.data.toList = false → Ev (fun k => quillworkref03_Target.j0 k a b) (targetB a.data.toList) := fun b hb h => by
    rw [h, hb]
    refine Ev.step (fun k => by rw [quillworkref03_Target.j0]) ?_
    exact Ev.pos rfl (Ev.now _)
  unfold quillworkref03_Target.f
  refine Ev.have_ (refvalue_f a ha) (Ev.ite (fun hv => ?_) (fun hv => hF _ rfl ?_))
  · rw [ByteArray.toList_eq]
    refine Ev.ite (fun h => hF _ rfl ?_) (fun h1 => ?_)
    · unfold targetB; rw [h]; simp
    · have hpos : 0 < a.data.toList.length := List.length_pos_iff.2 h1
      have hw : wrap64 ((a.size : Int) - 1) = ((a.data.toList.length - 1 : Nat) : Int) := by rw [wrap64_id _ (by omega) (by omega)]; omega
      have hb0 := bt_data a 0
      have hb1 := bt_data a (a.data.toList.length - 1)
      have hb0' : bt a 0 = ((a.data.toList.getD 0 0).toNat : Int) := hb0
      rw [hw, hb0', hb1]
      refine Ev.pos (by omega) (Ev.ite (fun h => hF _ rfl ?_) (fun h2 => Ev.pos (by omega) (Ev.pos (by omega) ?_)))
      · have : a.data.toList.getD 0 0 = 32 := UInt8.toNat_inj.1 (by have : (32 : UInt8).toNat = 32 := rfl; omega)
        unfold targetB; rw [this]; simp
      · have h2' : (a.data.toList.getD 0 0 != 32) = true := by
          rw [bne_iff_ne]; intro h; rw [h] at h2; exact h2 rfl
        by_cases h3 : a.data.toList.getD (a.data.toList.length - 1) 0 = 32
        · refine hF _ (by rw [h3]; rfl) ?_
          unfold targetB; rw [h3]; simp
        · have h3' : (a.data.toList.getD (a.data.toList.length - 1) 0 != 32) = true := by rw [bne_iff_ne]; exact h3
          have hq : (((a.data.toList.getD (a.data.toList.length - 1) 0).toNat : Int) == 32) = false := by
            rw [beq_eq_false_iff_ne]
            intro h
            exact h3 (UInt8.toNat_inj.1 (by have : (32 : UInt8).toNat = 32 := rfl; omega))
          have ht : targetB a.data.toList = !((headB a.data.toList).map lowB == jsL) := by
            unfold targetB
            rw [hv, h2', h3', show a.data.toList.isEmpty = false from by rw [List.isEmpty_eq_false_iff]; exact h1]
            simp
          rw [hq, ht]
          refine Ev.step (fun k => by rw [quillworkref03_Target.j0]) ?_
          exact Ev.neg (by simp) (reftarget_l0 a ha a.size 0 (by omega) (fun j hj => by omega))
  · unfold targetB
    rw [Bool.not_eq_true] at hv
    rw [hv]
    rfl

/-! ### long -/
theorem long_l (l : List S51) (hl : ∀ a ∈ l, a.f2.size ≤ 140737488351232) (h32 : l.length * 32 ≤ 140737488351232) :
    ∀ (m i : Nat) (n : Int), m + i = l.length → (l.length : Int) ≤ n → n ≤ 100000000000000 → (n ≤ 20000 → ∀ j (hj : j < l.length), j < i → l[j].f2.size ≤ 200000) → ∃ b, Ev (fun k => quillworklaw05_long.l0 k l n i) b ∧ (b = false → l.length ≤ 20000 ∧ ∀ a ∈ l, a.f2.size ≤ 200000)
  | 0, i, n, hm, h0, hn, hp => by
    refine ⟨decide (n > 20000), ?_, fun hb => ?_⟩
    · refine Ev.step (fun k => by rw [quillworklaw05_long.l0]) ?_
      exact Ev.neg (by omega) (Ev.now _)
    · have h2 := of_decide_eq_false hb
      refine ⟨by omega, fun a ha => ?_⟩
      obtain ⟨j, hj, rfl⟩ := List.getElem_of_mem ha
      exact hp (by omega) j hj (by omega)
  | m + 1, i, n, hm, h0, hn, hp => by
    have hi : i < l.length := by omega
    by_cases h2 : n ≤ 20000
    · have ha := hl l[i] (List.getElem_mem hi)
      have hw : wrap64 (n + wrap64 (((rd_T51 l i).f2.size : Int) / 8)) = n + (l[i].f2.size : Int) / 8 := by
        rw [rd51_at l i hi, wrap64_id ((l[i].f2.size : Int) / 8) (by omega) (by omega), wrap64_id _ (by omega) (by omega)]
      obtain ⟨b, e, hb⟩ := long_l l hl h32 m (i + 1) (n + (l[i].f2.size : Int) / 8) (by omega) (by omega) (by omega) (fun h3 j hj hji => by
        by_cases he : j = i
        · subst he; omega
        · exact hp (by omega) j hj (by omega))
      refine ⟨b, ?_, hb⟩
      refine Ev.step (fun k => by rw [quillworklaw05_long.l0]) ?_
      refine Ev.pos (by omega) (Ev.pos h2 (Ev.pos (by omega) ?_))
      rw [hw, wrap64_succ i (by omega)]
      exact e
    · refine ⟨true, ?_, fun h => (by cases h)⟩
      refine Ev.step (fun k => by rw [quillworklaw05_long.l0]) ?_
      exact Ev.pos (by omega) (Ev.neg h2 (Ev.ret (decide_eq_true (by omega))))
theorem long_ev (l : List S51) (hl : ∀ a ∈ l, a.f2.size ≤ 140737488351232) (h32 : l.length * 32 ≤ 140737488351232) : ∃ b, Ev (fun k => quillworklaw05_long.f k l) b ∧ (b = false → l.length ≤ 20000 ∧ ∀ a ∈ l, a.f2.size ≤ 200000) :=
  long_l l hl h32 l.length 0 l.length (by omega) (Int.le_refl _) (by omega) (fun _ j _ hj => by omega)

/-! ### the reference's May -/
def linkK (s : ByteArray) : Bool := linkB s.data.toList
theorem reflink_ev (s : ByteArray) (hs : s.size ≤ 200000) : Ev (fun k => quillworkref05_Link.f k s) (linkK s) := by
  unfold quillworkref05_Link.f linkK linkB
  by_cases h : s.toList = []
  · refine Ev.pos h (Ev.ret ?_)
    rw [← ByteArray.toList_eq, h]
    rfl
  · refine Ev.neg h (Ev.bind (reftarget_ev s hs) (Ev.ret ?_))
    have h2 : s.data.toList.isEmpty = false := by rw [← ByteArray.toList_eq]; simpa using h
    rw [h2]
    rfl
theorem refmayrow_l (l : List S51) (hl : ∀ x ∈ l, x.f2.size ≤ 200000) (h62 : l.length < 4611686018427387904) :
    ∀ (m i : Nat), m + i = l.length → Ev (fun k => quillworkref05_May.l0 k l i) ((l.drop i).all (mayX linkK))
  | 0, i, hm => by
    refine Ev.step (fun k => by rw [quillworkref05_May.l0]) ?_
    refine Ev.neg (by omega) (Ev.ret ?_)
    rw [List.drop_eq_nil_of_le (by omega)]
    rfl
  | m + 1, i, hm => by
    have hi : i < l.length := by omega
    have ih := refmayrow_l l hl h62 m (i + 1) (by omega)
    have hs := hl l[i] (List.getElem_mem hi)
    rw [drop_cons l i hi, List.all_cons]
    refine Ev.step (fun k => by rw [quillworkref05_May.l0]) ?_
    refine Ev.pos (by omega) (Ev.pos (by omega) ?_)
    rw [rd51_at l i hi, wrap64_succ i (by omega)]
    generalize (l.drop (i + 1)).all (mayX linkK) = R at ih ⊢
    generalize l[i] = x at hs ⊢
    have rest : (mayZ x.f0 || x.f0 == 10) = true → Ev (fun k => if x.f1 < 0 then some false else (if x.f1 > 15 then some false else ((quillworkref05_Link.f k x.f2).bind fun t => (if t = true then (quillworkref05_May.l0 k l ((i + 1 : Nat) : Int)) else (some false))))) (mayX linkK x && R) := by
      intro hg
      have hx : mayX linkK x = (!decide (x.f1 < 0) && !decide (15 < x.f1) && linkK x.f2) := by
        unfold mayX mayR
        rw [hg]
        simp
      rw [hx]
      by_cases h1 : x.f1 < 0
      · exact Ev.pos h1 (Ev.ret (by simp [h1]))
      · refine Ev.neg h1 ?_
        by_cases h2 : x.f1 > 15
        · exact Ev.pos h2 (Ev.ret (by simp [show 15 < x.f1 from h2]))
        · refine Ev.neg h2 (Ev.bind (reflink_ev x.f2 hs) ?_)
          have h3 : decide (15 < x.f1) = false := decide_eq_false h2
          rw [decide_eq_false h1, h3]
          cases hk : linkK x.f2
          · exact Ev.neg (by simp) (Ev.ret (by simp))
          · exact Ev.pos rfl (Ev.cast ih (by simp))
    by_cases h10 : x.f0 = 10
    · exact Ev.pos h10 (rest (by simp [h10]))
    · refine Ev.neg h10 (Ev.bind (refmay_ev x.f0) ?_)
      cases hm2 : mayZ x.f0
      · refine Ev.neg (by simp) (Ev.ret ?_)
        have hx : mayX linkK x = false := by
          unfold mayX mayR
          rw [hm2]
          simp [h10]
        rw [hx]
        rfl
      · exact Ev.pos rfl (rest (by rw [hm2]; rfl))
theorem refmayrow_ev (l : List S51) (hl : ∀ x ∈ l, x.f2.size ≤ 200000) (h62 : l.length < 4611686018427387904) : Ev (fun k => quillworkref05_May.f k l) (l.all (mayX linkK)) := by
  have h := refmayrow_l l hl h62 l.length 0 (by omega)
  rw [List.drop_zero] at h
  exact h

/-! ### the package's own Same -/
theorem ownsame_l (l m : List S51) (hl : l.length = m.length) (h62 : l.length < 4611686018427387904) :
    ∀ (n i : Nat), n + i = l.length → Ev (fun k => api_Cell.l0 k l m (l.length : Int) i) (decide (l.drop i = m.drop i))
  | 0, i, hm => by
    refine Ev.step (fun k => by rw [api_Cell.l0]) ?_
    refine Ev.neg (by omega) (Ev.ret ?_)
    rw [List.drop_eq_nil_of_le (by omega), List.drop_eq_nil_of_le (by omega)]
    rfl
  | n + 1, i, hm => by
    have hi : i < l.length := by omega
    have hj : i < m.length := by omega
    refine Ev.step (fun k => by rw [api_Cell.l0]) ?_
    refine Ev.pos (by omega) (Ev.pos (by omega) (Ev.pos (by omega) (Ev.pos (by omega) ?_)))
    rw [rd51_at l i hi, rd51_at m i hj, drop_cons l i hi, drop_cons m i hj]
    by_cases he : l[i] = m[i]
    · refine Ev.neg (by rw [he]; simp) ?_
      rw [wrap64_succ i (by omega)]
      refine Ev.cast (ownsame_l l m hl h62 n (i + 1) (by omega)) ?_
      rw [he]
      exact decide_eq_decide.2 ⟨fun h => by rw [h], fun h => (List.cons.inj h).2⟩
    · refine Ev.pos ?_ (Ev.ret (decide_eq_false (fun e => he (List.cons.inj e).1)).symm)
      generalize l[i] = x at he ⊢
      generalize m[i] = y at he ⊢
      have key : ¬ (x.f0 = y.f0 ∧ x.f1 = y.f1 ∧ x.f2.toList = y.f2.toList) := fun h => he (by
        have h3 := toList_inj.1 h.2.2
        cases x; cases y
        obtain ⟨h0, h1, _⟩ := h
        simp only at h0 h1 h3
        rw [h0, h1, h3])
      by_cases h0 : x.f0 = y.f0
      · by_cases h1 : x.f1 = y.f1
        · have h2 : ¬ x.f2.toList = y.f2.toList := fun h2 => key ⟨h0, h1, h2⟩
          simp [h0, h1, h2]
        · simp [h0, h1]
      · simp [h0]
theorem ownsame_ev (l m : List S51) (h62 : l.length < 4611686018427387904) : Ev (fun k => cells_Same.f k l m) (decide (l = m)) := by
  unfold cells_Same.f
  refine Ev.bind (a := decide (l = m)) ?_ (Ev.now _)
  unfold api_Cell.f
  by_cases hl : l.length = m.length
  · refine Ev.pos (by omega) ?_
    have h := ownsame_l l m hl h62 l.length 0 (by omega)
    rw [List.drop_zero, List.drop_zero] at h
    exact h
  · exact Ev.neg (by omega) (Ev.ret (decide_eq_false (fun e => hl (by rw [e]))).symm)

/-! ### the statement -/
theorem cellsMay_ev (l m : List S51) (hl : ∀ x ∈ l, x.f2.size ≤ 140737488351232) (hl2 : l.length * 32 ≤ 140737488351232) (hm : ∀ x ∈ m, x.f2.size ≤ 140737488351232) (hm2 : m.length * 32 ≤ 140737488351232) : Ev (fun k => quillworklaw05_CellsMay.f k l m) true := by
  obtain ⟨r1, e1, h1⟩ := long_ev l hl hl2
  obtain ⟨r2, e2, h2⟩ := long_ev m hm hm2
  have hT : Ev (fun k => quillworklaw05_CellsMay.j0 k l m true) true := by
    refine Ev.step (fun k => by rw [quillworklaw05_CellsMay.j0]) ?_
    exact Ev.pos rfl (Ev.bind awake_ev (Ev.now _))
  unfold quillworklaw05_CellsMay.f
  refine Ev.bind e1 ?_
  by_cases hr1 : r1 = true
  · exact Ev.pos hr1 hT
  · refine Ev.neg hr1 (Ev.bind e2 ?_)
    rw [Bool.not_eq_true] at hr1
    obtain ⟨l1, z1⟩ := h1 hr1
    by_cases hr : r2 = true
    · rw [hr]; exact hT
    · rw [Bool.not_eq_true] at hr
      rw [hr]
      have hmay : cells_May.f l = some (l.all (mayX linkK)) := by
        unfold cells_May.f
        rw [if_pos ⟨by omega, fun x hx => by have := z1 x hx; omega⟩]
        rfl
      have htext : quillworkref05_Text.f l = some (runesBytes (l.map (·.f0))) := by unfold quillworkref05_Text.f; rw [if_pos (by omega)]
      refine Ev.step (fun k => by rw [quillworklaw05_CellsMay.j0]) ?_
      refine Ev.neg (by simp) (Ev.have_ hmay (Ev.bind (refmayrow_ev l z1 (by omega)) (Ev.pos (by simp) ?_)))
      refine Ev.bind (celltext_ev l (by omega)) (Ev.have_ htext (Ev.pos rfl ?_))
      refine Ev.bind (ownsame_ev l m (by omega)) (Ev.bind (same_ev l m (by omega)) (Ev.pos (by simp) ?_))
      exact Ev.bind (ownsame_ev l l (by omega)) (Ev.pos (by simp) (Ev.bind awake_ev (Ev.now _)))
theorem CellsMay (l : List S51) (hl : ∀ x ∈ l, x.f2.size ≤ 140737488351232) (hl2 : l.length * 32 ≤ 140737488351232) (m : List S51) (hm : ∀ x ∈ m, x.f2.size ≤ 140737488351232) (hm2 : m.length * 32 ≤ 140737488351232) : ∃ k, quillworklaw05_CellsMay.f k l m = some true := (cellsMay_ev l m hl hl2 hm hm2).rounds
end Go.Proofs.YtlppeljofjomiaaDoor.PureM
