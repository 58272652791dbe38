/- The function that tells whether a cell may not be (cells.May$1), over contracts of chars.May and cells.link. The condition: cells.link tells L of the href. -/
import Derived.Test.YtlppeljofjomiaaDoorXmx0
import Derived.Test.YtlppeljofjomiaaDoorMClean
import Derived.WalkKit
import Derived.WalkSpells
import Derived.OwnWalk
import Derived.Lib.Hide
namespace Go.Proofs.YtlppeljofjomiaaDoor.Xm
open Go.RowKit
open Go.Proofs.YtlppeljofjomiaaDoorW.PrintWords Go.Proofs.YtlppeljofjomiaaDoorW.PrintLast Go.Proofs.YtlppeljofjomiaaDoorW.PrintMore
open Go.Proofs.YtlppeljofjomiaaDoor.Pl

theorem charmay_calls (c : Int) (w : World) : Calls Tryd.prog 48 #[.int .i32 c] w fun e w' => e = .returned (.bool (mayZ c)) ∧ Drawn0 w w' :=
  L.chars_May.calls 4 c (mayZ c) w (by unfold L.chars_May.f; rw [class_f]; rfl)
def mayR (r b : Int) (k : Bool) : Bool := (mayZ r || r == 10) && !decide (b < 0) && !decide (15 < b) && k
theorem box_below {w W : World} {o : Obj} (h : Below (w.heap.size + 1) (w.alloc o) W) : Below w.heap.size w W := ((Below.refl _ w).alloc (Nat.le_refl _) o).trans (h.mono (Nat.le_succ _))

set_option maxHeartbeats 4000000 in
set_option maxRecDepth 100000 in
theorem may1_at (r b : Int) (s : ByteArray) (k : Bool) (w : World) (cL : ∀ W, Below w.heap.size w W → Calls Tryd.prog 49 #[.string s] W fun e w' => e = .returned (.bool k) ∧ Below W.heap.size W w') :
    Calls Tryd.prog 47 #[.agg #[.int .i32 r, .int .i64 b, .string s]] w fun e w' => e = .returned (.bool (!mayR r b k)) ∧ Below w.heap.size w w' := by
  have cM := fun (W : World) => charmay_calls r W
  have CL := Lib.hid cL
  clear cL
  cases hm : mayZ r
  · by_cases h10 : r = 10
    · have d10 : (r != 10) = false := by simp [h10]
      have HM := Lib.hid (show (mayZ r || r == 10) = true from by simp [h10])
      have CM := Lib.hid (hm ▸ cM)
      clear hm cM h10
      by_cases hb : b < 0
      · have d1 : decide (b < 0) = true := decide_eq_true hb
        have hR : mayR r b k = false := by unfold mayR; rw [d1]; simp
        rw [hR]
        clear hR hb
        go_enter Tryd.func47, Tryd.ntmps47
        go_wp2_with (first | (go_at_call 48; refine (CM.out _).mono ?_; rintro e W1 ⟨rfl, ⟨nd, rfl⟩⟩))
        go_ret
        exact ⟨rfl, pw_below_drewN ((Below.refl _ _).alloc (Nat.le_refl _) _) nd⟩
      · have d1 : decide (b < 0) = false := decide_eq_false hb
        by_cases h15 : 15 < b
        · have d2 : decide (15 < b) = true := decide_eq_true h15
          have hR : mayR r b k = false := by unfold mayR; rw [d2]; simp
          rw [hR]
          clear hR hb h15
          go_enter Tryd.func47, Tryd.ntmps47
          go_wp2_with (first | (go_at_call 48; refine (CM.out _).mono ?_; rintro e W1 ⟨rfl, ⟨nd, rfl⟩⟩))
          go_ret
          exact ⟨rfl, pw_below_drewN ((Below.refl _ _).alloc (Nat.le_refl _) _) nd⟩
        · have d2 : decide (15 < b) = false := decide_eq_false h15
          have hR : mayR r b k = k := by unfold mayR; rw [d1, d2, HM.out]; simp
          rw [hR]
          clear hR hb h15
          go_enter Tryd.func47, Tryd.ntmps47
          go_wp2_with (first | (go_at_call 48; refine (CM.out _).mono ?_; rintro e W1 ⟨rfl, ⟨nd, rfl⟩⟩) | (go_at_call 49; refine (CL.out _ (pw_below_drewN (below_alloc (Below.refl w.heap.size w) _) _)).mono ?_; rintro e W2 ⟨rfl, hb2⟩; have HB := Lib.hid (below_step (pw_below_drewN (below_alloc (Below.refl w.heap.size w) _) _) hb2); clear hb2))
          go_ret
          exact ⟨rfl, HB.out⟩
    · have d10 : (r != 10) = true := by simpa using h10
      have hR : mayR r b k = false := by unfold mayR; rw [hm]; simp [h10]
      rw [hR]
      have CM := Lib.hid (hm ▸ cM)
      clear hm cM hR
      go_enter Tryd.func47, Tryd.ntmps47
      go_wp2_with (first | (go_at_call 48; refine (CM.out _).mono ?_; rintro e W1 ⟨rfl, ⟨nd, rfl⟩⟩))
      go_ret
      exact ⟨rfl, pw_below_drewN ((Below.refl _ _).alloc (Nat.le_refl _) _) nd⟩
  · have HM := Lib.hid (show (mayZ r || r == 10) = true from by rw [hm]; rfl)
    have CM := Lib.hid (hm ▸ cM)
    clear hm cM
    by_cases hb : b < 0
    · have d1 : decide (b < 0) = true := decide_eq_true hb
      have hR : mayR r b k = false := by unfold mayR; rw [d1]; simp
      rw [hR]
      clear hR hb
      go_enter Tryd.func47, Tryd.ntmps47
      go_wp2_with (first | (go_at_call 48; refine (CM.out _).mono ?_; rintro e W1 ⟨rfl, ⟨nd, rfl⟩⟩))
      go_ret
      exact ⟨rfl, pw_below_drewN ((Below.refl _ _).alloc (Nat.le_refl _) _) nd⟩
    · have d1 : decide (b < 0) = false := decide_eq_false hb
      by_cases h15 : 15 < b
      · have d2 : decide (15 < b) = true := decide_eq_true h15
        have hR : mayR r b k = false := by unfold mayR; rw [d2]; simp
        rw [hR]
        clear hR hb h15
        go_enter Tryd.func47, Tryd.ntmps47
        go_wp2_with (first | (go_at_call 48; refine (CM.out _).mono ?_; rintro e W1 ⟨rfl, ⟨nd, rfl⟩⟩))
        go_ret
        exact ⟨rfl, pw_below_drewN ((Below.refl _ _).alloc (Nat.le_refl _) _) nd⟩
      · have d2 : decide (15 < b) = false := decide_eq_false h15
        have hR : mayR r b k = k := by unfold mayR; rw [d1, d2, HM.out]; simp
        rw [hR]
        clear hR hb h15
        go_enter Tryd.func47, Tryd.ntmps47
        go_wp2_with (first | (go_at_call 48; refine (CM.out _).mono ?_; rintro e W1 ⟨rfl, ⟨nd, rfl⟩⟩) | (go_at_call 49; refine (CL.out _ (pw_below_drewN (below_alloc (Below.refl w.heap.size w) _) _)).mono ?_; rintro e W2 ⟨rfl, hb2⟩; have HB := Lib.hid (below_step (pw_below_drewN (below_alloc (Below.refl w.heap.size w) _) _) hb2); clear hb2))
        go_ret
        exact ⟨rfl, HB.out⟩
end Go.Proofs.YtlppeljofjomiaaDoor.Xm
