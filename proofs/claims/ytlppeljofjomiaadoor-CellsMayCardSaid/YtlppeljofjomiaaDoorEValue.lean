/- attrs.Value and attrs.Target at every text (shorter than 2^32 - 15 bytes): what they hand back; nothing that lay has turned. The condition: unicode/utf8's two tables hold what Go's text lays, internal/bytealg.MaxLen holds some number ('Tabs'). -/
import Derived.Test.YtlppeljofjomiaaDoorXx0
import Derived.Test.YtlppeljofjomiaaDoorLx1
import Derived.Test.YtlppeljofjomiaaDoorPlain
import Derived.Test.YtlppeljofjomiaaDoorShelf
import Derived.WalkKit
import Derived.Lib.OthersKept
import Derived.Lib.Hide
namespace Go.Proofs.YtlppeljofjomiaaDoor.X
open Go.RowKit
open Go.Proofs.YtlppeljofjomiaaDoorW.PrintWords (Drawn0)
open Go.Proofs.YtlppeljofjomiaaDoor.Pl

/-- What the library's variables hold. -/
def Tabs (w : World) : Prop := Lib.Utf8Tabs 0 1 w ∧ ∃ m, w.cell? ⟨2, 0, none⟩ = some (.int .i64 m)
theorem Tabs_below {w w1 : World} (h : Tabs w) (hb : Below w.heap.size w w1) : Tabs w1 := by
  obtain ⟨h1, m, h2⟩ := h
  exact ⟨Utf8Tabs_below h1 hb, m, (hb.cell (p := ⟨2, 0, none⟩) (World.block_lt_of_cell? w _ h2)).trans h2⟩
theorem drawn_below {w w1 : World} (h : Drawn0 w w1) : Below w.heap.size w w1 := by
  obtain ⟨n, rfl⟩ := h.out
  exact below_drewNv (Below.refl _ _) n

theorem valid_f (c : Int) : L.utf8_ValidRune.f 1 c = some (decide ((0 ≤ c ∧ c < 55296) ∨ (57343 < c ∧ c ≤ 1114111))) := by
  unfold L.utf8_ValidRune.f
  by_cases h0 : 0 ≤ c
  · rw [if_pos h0]
    simp only [L.utf8_ValidRune.j0]
    by_cases h1 : c < 55296
    · simp [h0, h1]
    · by_cases h2 : 57343 < c
      · by_cases h3 : c ≤ 1114111
        · simp [h1, h2, h3]
        · simp [h1, h2, h3]
      · simp [h1, h2]
  · rw [if_neg h0]
    simp only [L.utf8_ValidRune.j0]
    have h2 : ¬ 57343 < c := by omega
    simp [h0, h2]
theorem valid_k (c : Int) (k : Nat) : L.utf8_ValidRune.f (k + 1) c = some (decide ((0 ≤ c ∧ c < 55296) ∨ (57343 < c ∧ c ≤ 1114111))) := by
  induction k with
  | zero => exact valid_f c
  | succ k ih => exact L.utf8_ValidRune.mono c (k + 1) _ ih
theorem class_f (c : Int) : L.chars_Class.f 4 c = some (classZ c) := by
  unfold L.chars_Class.f classZ
  rw [valid_k c 3]
  simp only [Option.bind_some, decide_eq_true_eq]
  by_cases hv : (0 ≤ c ∧ c < 55296) ∨ (57343 < c ∧ c ≤ 1114111)
  · rw [if_pos hv, if_neg (not_not_intro hv)]
    by_cases h1 : c < 32
    · rw [if_pos h1, if_pos (.inl h1)]
    · rw [if_neg h1]
      by_cases h2 : c = 127
      · rw [if_pos h2, if_pos (.inr h2)]
      · rw [if_neg h2, if_neg (by omega : ¬ (c < 32 ∨ c = 127))]
        have key : ∀ b : Bool, b = decide (c = 32 ∨ c = 160) → L.chars_Class.j0 4 c b = some (if c = 32 ∨ c = 160 then 2 else if c = 65533 then 5 else if (97 ≤ c ∧ c ≤ 122) ∨ (65 ≤ c ∧ c ≤ 90) ∨ 128 ≤ c then 3 else if 48 ≤ c ∧ c ≤ 57 then 4 else 5) := by
          intro b hb
          subst hb
          simp only [L.chars_Class.j0, L.chars_Class.j1, L.chars_Class.j2, decide_eq_true_eq]
          repeat' split
          all_goals first | rfl | (exfalso; simp_all; done) | (exfalso; simp_all; omega)
        by_cases h3 : c = 32
        · rw [if_pos h3]
          exact key _ (by simp [h3])
        · rw [if_neg h3]
          exact key _ (by simp [h3]; rfl)
  · rw [if_neg hv, if_pos hv]
theorem may_f (c : Int) : L.chars_May.f 4 c = some (mayZ c) := by
  unfold L.chars_May.f mayZ
  rw [class_f]
  rfl

theorem drop_ne (s : ByteArray) (pos : Nat) (hp : pos < s.size) : s.data.toList.drop pos ≠ [] := by
  intro h0
  have h := congrArg List.length h0
  rw [List.length_drop, ← Lib.size_eq, List.length_nil] at h
  omega
theorem drop_end (s : ByteArray) (pos : Nat) (hp : ¬ pos < s.size) : s.data.toList.drop pos = [] := List.drop_eq_nil_of_le (by rw [← Lib.size_eq]; omega)
theorem allMay_at (s : ByteArray) (pos : Nat) (hp : pos < s.size) : allMay (s.data.toList.drop pos) = (mayZ ((Utf8.decode s pos).1 : Int) && allMay (s.data.toList.drop (pos + (Utf8.decode s pos).2))) := by
  rw [allMay_step _ (drop_ne s pos hp), Lib.decodeL_drop, List.drop_drop]

/-- The loop's answer is a value's: all characters may be. -/
theorem value_eq (l : List UInt8) : valueB l = (allMay l && (decide (l.length ≤ 200) && Lib.validD l)) := by unfold valueB; rw [Bool.and_assoc]

set_option maxHeartbeats 4000000 in
set_option maxRecDepth 100000 in
theorem value_walk (s : ByteArray) (w : World) (hs : s.size ≤ 4611686018427387904) (hT : Tabs w) :
    Calls Tryd.prog 23 #[.string s] w fun e w' => e = .returned (.bool (valueB s.data.toList)) ∧ Below w.heap.size w w' := by
  obtain ⟨R, hR⟩ : ∃ R, valueB s.data.toList = R := ⟨_, rfl⟩
  rw [hR]
  have HR := Lib.hid (show allMay (s.data.toList.drop 0) = true → R = (decide (s.size ≤ 200) && Lib.validD s.data.toList) from fun h => by rw [← hR, value_eq, ← Lib.size_eq]; rw [List.drop_zero] at h; rw [h, Bool.true_and])
  have HN := Lib.hid (show allMay (s.data.toList.drop 0) = false → R = false from fun h => by rw [← hR, value_eq]; rw [List.drop_zero] at h; rw [h, Bool.false_and])
  have HT := Lib.hid hT
  clear hR hT
  go_enter Tryd.func23, Tryd.ntmps23
  go_wp2
  go_loopw [] (fun wr => ∃ pos : Nat, wr.heap[w.heap.size]? = some (.stringIter s pos) ∧ Below w.heap.size w wr ∧ Hid (allMay (s.data.toList.drop pos) = allMay (s.data.toList.drop 0))) (fun wr => s.size - wr.iterPos w.heap.size)
  case atStart => exact ⟨0, World.iter_heap w s 0, (Below.refl _ _).alloc (Nat.le_refl _) _, rfl⟩
  case round =>
    obtain ⟨pos, hit, hb, Hall⟩ := hrel
    have Hit := Lib.hid hit
    by_cases hp : pos < s.size
    · have hwd := Lib.width_pos s pos
      obtain ⟨n, hn⟩ : ∃ n, n = (Utf8.decode s pos).1 := ⟨_, rfl⟩
      obtain ⟨q, hq⟩ : ∃ q, q = pos + (Utf8.decode s pos).2 := ⟨_, rfl⟩
      have hnx : ∀ ty, (Instr.next (.pointer (some ⟨w.heap.size, 0, none⟩)) true ty).run Tryd.prog wr = .ok (.tuple #[.bool true, .int .i64 pos, .int .i32 n]) (wr.iterAt w.heap.size s q) := fun ty => by
        rw [hn, hq]; exact Lib.run_next_any_at wr w.heap.size s pos ty hit hp
      have hst := allMay_at s pos hp
      rw [← hn, ← hq] at hst
      have Hst := Lib.hid hst
      have hpq : pos < q := by omega
      have Hit2 := Lib.hid (Lib.iterAt_heap wr w.heap.size s pos q hit)
      have Hb2 := Lib.hid (Lib.below_iterAt hb (k := w.heap.size) (Nat.le_refl _) s q)
      have cM := L.chars_May.calls 4 (n : Int) _ (wr.iterAt w.heap.size s q) (may_f n)
      clear hit hn hq hst hwd
      cases hm : mayZ (n : Int) <;> rw [hm] at cM
      · have Hm := Lib.hid hm
        clear hm
        go_wp2_with (go_at_call 48; refine cM.mono ?_; rintro e W1 ⟨rfl, hd⟩)
        go_ret
        have h0 : R = false := HN.out (by rw [← Hall.out, Hst.out, Hm.out, Bool.false_and])
        exact ⟨by rw [h0]; rfl, Hb2.out.trans ((drawn_below hd).mono Hb2.out.size)⟩
      · have Hm := Lib.hid hm
        clear hm
        go_wp2_with (go_at_call 48; refine cM.mono ?_; rintro e W1 ⟨rfl, hd⟩)
        have hk := drawn_below hd
        have hlt : w.heap.size < (wr.iterAt w.heap.size s q).heap.size := (Array.getElem?_eq_some_iff.1 Hit2.out).1
        have Hit3 := Lib.hid ((hk.block w.heap.size hlt).trans Hit2.out)
        go_roundw
        case rel => exact ⟨q, Hit3.out, Hb2.out.trans (hk.mono Hb2.out.size), by show _ = _; rw [← Hall.out, Hst.out, Hm.out, Bool.true_and]⟩
        case measure => simp only [World.iterPos, Hit3.out, Hit.out]; omega
    · have hnx : ∀ ty, (Instr.next (.pointer (some ⟨w.heap.size, 0, none⟩)) true ty).run Tryd.prog wr = _ := fun ty => Lib.run_next_end_at wr w.heap.size s pos ty hit hp
      have h1 : allMay (s.data.toList.drop 0) = true := by rw [← Hall.out, drop_end s pos hp]; rfl
      have hRv := HR.out h1
      have Hv := Lib.hid hRv
      have cV := Tryd.utf8_ValidString s wr (by omega) (Tabs_below HT.out hb).1
      clear hit hRv h1
      by_cases h2 : s.size ≤ 200
      · have h2i : decide ((s.size : Int) ≤ 200) = true := by rw [decide_eq_true_iff]; omega
        generalize Lib.validD s.data.toList = V at cV Hv
        go_wp2_with (go_at_call 54; refine cV.mono ?_; rintro e W1 ⟨rfl, hb1⟩)
        go_ret
        exact ⟨by rw [Hv.out, decide_eq_true h2, Bool.true_and]; rfl, hb.trans (hb1.mono hb.size)⟩
      · have h2i : decide ((s.size : Int) ≤ 200) = false := by rw [decide_eq_false_iff_not]; omega
        clear cV
        go_wp2
        go_ret
        exact ⟨by rw [Hv.out, decide_eq_false h2, Bool.false_and]; rfl, hb⟩
end Go.Proofs.YtlppeljofjomiaaDoor.X
