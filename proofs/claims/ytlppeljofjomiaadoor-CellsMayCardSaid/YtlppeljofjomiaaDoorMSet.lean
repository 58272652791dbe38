/- cells.Set at two cells of bits 1, set 2, clear 1, from 0 to 2: the two cells of bits 2, in memory of their own; chars.Text at every row of characters: their bytes. -/
import Derived.Test.YtlppeljofjomiaaDoorXmx0
import Derived.Test.YtlppeljofjomiaaDoorMRow
import Derived.Test.YtlppeljofjomiaaDoorLx1
import Derived.WalkKit
import Derived.WalkSpells
import Derived.OwnWalk
import Derived.StillTailTactics
import Derived.Shelf.GgClosure.Gives
import Derived.Lib.Hide
namespace Go.Proofs.YtlppeljofjomiaaDoor.Xm
open Go.RowKit
open Go.Proofs.YtlppeljofjomiaaDoorW.PrintWords Go.Proofs.YtlppeljofjomiaaDoorW.PrintLast Go.Proofs.YtlppeljofjomiaaDoorW.PrintMore
open Go.Proofs.YtlppeljofjomiaaDoor.Pl

set_option maxRecDepth 100000 in
theorem text_walk (A0 : Option Addr) (c0 : Nat) (l0 : List Int) (w : World) (hr0 : Kd.C (Kd.int .i32) w A0 l0.length l0) :
    Calls Tryd.prog 52 #[.slice A0 l0.length c0] w fun e w' => e = .returned (.string (runesBytes l0)) ∧ w' = w := by
  cases A0 with
  | none =>
    have h0 : l0 = [] := by
      cases l0 with
      | nil => rfl
      | cons x l => obtain ⟨ad, e, _⟩ := Kd.at_int hr0 0 (by omega) (by simp); cases e
    subst h0
    have hst := run_convert_runes_nil (P := Tryd.prog) w 65 9 21 0 c0 Tryd.underlying65 Tryd.underlying21 Tryd.underlying9
    go_enter Tryd.func52, Tryd.ntmps52
    go_wp2
    go_ret
    exact ⟨rfl, rfl⟩
  | some ad =>
    have hst := run_convert_runes (P := Tryd.prog) w 65 9 21 ad l0.length c0 l0 (Nat.le_refl _) Tryd.underlying65 Tryd.underlying21 Tryd.underlying9 (fun j hj => by
      obtain ⟨ad2, e, h1⟩ := Kd.at_int hr0 (j : Int) (by omega) (by omega)
      obtain rfl := Option.some.inj e
      rw [Int.toNat_natCast] at h1
      exact h1)
    rw [List.take_length] at hst
    clear hr0
    go_enter Tryd.func52, Tryd.ntmps52
    go_wp2_with (simp only [hst])
    go_ret
    exact ⟨rfl, rfl⟩

theorem over_at (w : World) : Calls Tryd.prog 68 #[.int .i64 1, .int .i64 2, .int .i64 1] w fun e w' => e = .returned (.int .i64 2) ∧ w' = w := by
  go_enter Tryd.func68, Tryd.ntmps68
  go_wp2
  go_ret
  exact ⟨rfl, rfl⟩
set_option maxRecDepth 100000 in
theorem set1_at (g o B1 B2 : Nat) (w : World) (h0 : w.cell? ⟨g, o + 1, none⟩ = some (.int .i64 1)) (h1 : w.cell? ⟨B1, 0, none⟩ = some (.int .i64 2)) (h2 : w.cell? ⟨B2, 0, none⟩ = some (.int .i64 1)) (hf : w.frozen? ⟨g, o + 1, none⟩ = false) :
    Calls Tryd.prog 67 #[.pointer (some ⟨g, o, none⟩), .pointer (some ⟨B1, 0, none⟩), .pointer (some ⟨B2, 0, none⟩)] w fun e w' => e = .returned (.tuple #[]) ∧ ∃ nd, w' = (w.drewN nd).setCell ⟨g, o + 1, none⟩ (.int .i64 2) := by
  go_enter Tryd.func67, Tryd.ntmps67
  go_wp2
  refine wp_region_still_tail 12 (by kernel_rfl) (by kernel_rfl) ?_
  simp only [List.take_succ_cons, List.take_zero, List.drop_succ_cons, List.drop_zero]
  have g0 : w.drew.cell? ⟨g, o + 1, none⟩ = some (.int .i64 1) := h0
  have g1 : w.drew.cell? ⟨B1, 0, none⟩ = some (.int .i64 2) := h1
  have g2 : w.drew.cell? ⟨B2, 0, none⟩ = some (.int .i64 1) := h2
  have gf : w.drew.frozen? ⟨g, o + 1, none⟩ = false := hf
  change wpStill _ _ w.drew _ _ _
  generalize w.drew = w2 at g0 g1 g2 gf ⊢
  still_step
  still_step
  still_step
  still_step
  still_step
  still_step
  still_step
  still_step
  still_step
  still_call (over_at _)
  repeat still_step
  try refine wpStill_nil ?_
  go_wp2
  go_end0
  exact ⟨rfl, 1, rfl⟩

def two (b : Int) : List S51 := [⟨97, b, ⟨#[]⟩⟩, ⟨241, b, ⟨#[]⟩⟩]
set_option maxRecDepth 100000 in
theorem set1_row {g cap B1 B2 base : Nat} {ok : Nat → Prop} {W : World} {xs : List S51} (h : Kd.R k51 51 W base ok (.slice (some ⟨g, 0, none⟩) 2 cap) xs) (i : Nat) (hi : i < 2) (r : Int) (t : ByteArray) (hx : xs.getD i z51 = ⟨r, 1, t⟩)
    (h1 : W.cell? ⟨B1, 0, none⟩ = some (.int .i64 2)) (h2 : W.cell? ⟨B2, 0, none⟩ = some (.int .i64 1)) :
    Calls Tryd.prog 67 #[.pointer (some ⟨g, i * 3, none⟩), .pointer (some ⟨B1, 0, none⟩), .pointer (some ⟨B2, 0, none⟩)] W fun e w' => e = .returned (.tuple #[]) ∧ Kd.R k51 51 w' base ok (.slice (some ⟨g, 0, none⟩) 2 cap) (xs.set i ⟨r, 2, t⟩) ∧ W.grownBy w' (some g) := by
  obtain ⟨c, hcl, hM, hcell, hfz⟩ := Kd.R_elem h z51 (i : Int) (by omega) (by omega)
  rw [Int.toNat_natCast] at hM hcell hfz
  rw [hx] at hM
  have hc := k51_openM hM
  have h0 := hcell 1 (.int .i64 1) (by rw [hc]; rfl)
  refine (set1_at g (i * 3) B1 B2 W h0 h1 h2 (hfz 1)).mono ?_
  rintro e w' ⟨rfl, nd, rfl⟩
  have hs := Kd.R_seg (W := W.drewN nd) (Kd.R_drewN h nd) (i : Int) (by omega) (by omega) (c := c) (seg := [.int .i64 2]) (j := 1) hcl (by rw [Int.toNat_natCast]; exact hcell) (by show 1 + 1 ≤ 3; omega) (x' := ⟨r, 2, t⟩) (okp := fun _ => False) (by rw [hc]; exact k51_mkM _ _ _ ⟨r, 2, t⟩) (fun _ hk => hk.elim)
  rw [Int.toNat_natCast] at hs
  refine ⟨rfl, hs.1, ?_⟩
  have hg := hs.2
  exact ⟨hg.os, hg.tape, hg.output, hg.size, hg.block⟩

theorem span_at (A : Option Addr) (c : Nat) (w : World) : Calls Tryd.prog 70 #[.slice A 2 c, .int .i64 0, .int .i64 2] w fun e w' => e = .returned (.bool true) ∧ w = w' := by
  go_enter Tryd.func70, Tryd.ntmps70
  go_wp2
  go_ret
  exact ⟨rfl, rfl⟩
set_option maxHeartbeats 1000000 in
set_option maxRecDepth 100000 in
theorem each_at (ad : Addr) (c0 B1 B2 : Nat) (w : World) (hr0 : Kd.C k51 w (some ad) 2 (two 1)) (l1 : B1 < w.heap.size) (l2 : B2 < w.heap.size) (h1 : w.cell? ⟨B1, 0, none⟩ = some (.int .i64 2)) (h2 : w.cell? ⟨B2, 0, none⟩ = some (.int .i64 1)) :
    Calls Tryd.prog 66 #[.slice (some ad) 2 c0, .int .i64 0, .int .i64 2, .func (.func 67) #[] #[.pointer (some ⟨B1, 0, none⟩), .pointer (some ⟨B2, 0, none⟩)]] w fun e w' => ∃ v0_ : Value, e = .returned (.tuple #[v0_, .int .i64 0]) ∧ Kd.R k51 51 w' w.heap.size (fun _ => True) v0_ (two 2) ∧ Below w.heap.size w w' := by
  have eg : ∀ args w, (callFunc 67 args).run Tryd.prog w = .ok (.enter 67 args) w := enters_of Tryd.func67 (by kernel_rfl) rfl
  have HR0 := Lib.hid hr0
  have H1 := Lib.hid h1
  have H2 := Lib.hid h2
  have CS := Lib.hid (fun (W : World) => span_at (some ad) c0 W)
  have CC := Lib.hid (fun (W : World) (h : Kd.C k51 W (some ad) (two 1).length (two 1)) => clone_walk (some ad) c0 (two 1) W h (by decide))
  clear hr0 h1 h2
  go_enter Tryd.func66, Tryd.ntmps66
  go_wp2_with (first | (go_at_call 70; refine (CS.out _).mono ?_; rintro e W1 ⟨rfl, rfl⟩) | (go_at_call 88; refine (CC.out _ HR0.out).mono ?_; rintro e W1 ⟨v0, rfl, ho, hb⟩; have HO := Lib.hid ho; have HB := Lib.hid hb; clear ho hb))
  obtain ⟨g, cap, rfl, hbg, hg, _⟩ := Kd.R_form HO.out (by decide)
  have hl : (two 1).length = 2 := rfl
  rw [hl] at HO ⊢
  clear hl
  go_loopw [11] (fun v11 wr => Below w.heap.size w wr ∧ ((v11 = .int .i64 0 ∧ Hid (Kd.R k51 51 wr w.heap.size (fun _ => True) (.slice (some ⟨g, 0, none⟩) 2 cap) (two 1))) ∨ (v11 = .int .i64 1 ∧ Hid (Kd.R k51 51 wr w.heap.size (fun _ => True) (.slice (some ⟨g, 0, none⟩) 2 cap) ((two 1).set 0 ⟨97, 2, ⟨#[]⟩⟩))) ∨ (v11 = .int .i64 2 ∧ Hid (Kd.R k51 51 wr w.heap.size (fun _ => True) (.slice (some ⟨g, 0, none⟩) 2 cap) (((two 1).set 0 ⟨97, 2, ⟨#[]⟩⟩).set 1 ⟨241, 2, ⟨#[]⟩⟩))))) (fun v11 _ => 2 - (intOf v11).toNat)
  case atStart => exact ⟨HB.out, .inl ⟨rfl, HO.out⟩⟩
  case round =>
    obtain ⟨hb, hrel⟩ := hrel
    have HBr := Lib.hid hb
    have C1 := Lib.hid ((hb.cell (p := ⟨B1, 0, none⟩) l1).trans H1.out)
    have C2 := Lib.hid ((hb.cell (p := ⟨B2, 0, none⟩) l2).trans H2.out)
    clear hb HO HB CS CC HR0
    rcases hrel with ⟨rfl, HO⟩ | ⟨rfl, HO⟩ | ⟨rfl, HO⟩
    · have CA := Lib.hid (set1_row HO.out 0 (by decide) 97 ⟨#[]⟩ rfl C1.out C2.out)
      go_wp2_with fail
      refine CA.out.mono ?_
      rintro e W2 ⟨rfl, ho, hgr⟩
      have HO2 := Lib.hid ho
      have HB2 := Lib.hid (HBr.out.grown hgr HBr.out.size (fun k e => by cases e; exact hbg))
      clear ho hgr
      go_wp2
      go_roundw
      case rel => exact ⟨HB2.out, .inr (.inl ⟨by go_num, HO2.out⟩)⟩
      case measure => first | (simp [intOf]; done) | (simp [intOf]; omega)
    · have CA := Lib.hid (set1_row HO.out 1 (by decide) 241 ⟨#[]⟩ rfl C1.out C2.out)
      go_wp2_with fail
      refine CA.out.mono ?_
      rintro e W2 ⟨rfl, ho, hgr⟩
      have HO2 := Lib.hid ho
      have HB2 := Lib.hid (HBr.out.grown hgr HBr.out.size (fun k e => by cases e; exact hbg))
      clear ho hgr
      go_wp2
      go_roundw
      case rel => exact ⟨HB2.out, .inr (.inr ⟨by go_num, HO2.out⟩)⟩
      case measure => first | (simp [intOf]; done) | (simp [intOf]; omega)
    · go_wp2
      go_ret2
      exact ⟨_, rfl, HO.out, HBr.out⟩

set_option maxHeartbeats 1000000 in
set_option maxRecDepth 100000 in
theorem set_at (A0 : Option Addr) (c0 : Nat) (w : World) (hr0 : Kd.C k51 w A0 2 (two 1)) :
    Calls Tryd.prog 42 #[.slice A0 2 c0, .int .i64 0, .int .i64 2, .int .i64 2, .int .i64 1] w fun e w' => ∃ v0_ : Value, e = .returned (.tuple #[v0_, .int .i64 0]) ∧ Kd.R k51 51 w' w.heap.size (fun _ => True) v0_ (two 2) ∧ Below w.heap.size w w' := by
  obtain ⟨ad, rfl, _⟩ := at_T51 hr0 0 (by omega) (by omega)
  have CE := Lib.hid (fun (W : World) (B1 B2 : Nat) => each_at ad c0 B1 B2 W)
  have HR0 := Lib.hid hr0
  clear hr0
  go_enter Tryd.func42, Tryd.ntmps42
  go_wp2_with fail
  refine (CE.out ((w.alloc (.cells #[.int .i64 2] 3)).alloc (.cells #[.int .i64 1] 3)) w.heap.size (w.heap.size + 1) (Kd.C_alloc (Kd.C_alloc HR0.out _) _) ?_ ?_ ?_ ?_).mono ?_
  · rw [World.size_alloc, World.size_alloc]; omega
  · rw [World.size_alloc, World.size_alloc]; omega
  · exact (((Below.refl _ (w.alloc (.cells #[.int .i64 2] 3))).alloc (Nat.le_refl _) (.cells #[.int .i64 1] 3)).cell (p := ⟨w.heap.size, 0, none⟩) (by rw [World.size_alloc]; exact Nat.lt_succ_self _)).trans (World.cell?_alloc_mark w #[.int .i64 2] 3 (0, 0) 0)
  · have h1 := World.cell?_alloc_mark (w.alloc (.cells #[.int .i64 2] 3)) #[.int .i64 1] 3 (0, 0) 0
    rw [World.size_alloc] at h1
    exact h1
  rintro e W1 ⟨v0, rfl, ho, hb⟩
  have hb0 : Below w.heap.size w ((w.alloc (.cells #[.int .i64 2] 3)).alloc (.cells #[.int .i64 1] 3)) := ((Below.refl _ w).alloc (Nat.le_refl _) _).alloc (by rw [World.size_alloc]; omega) _
  have HO := Lib.hid (Kd.R_lower ho hb0.size)
  have HB := Lib.hid (below_step hb0 hb)
  clear ho hb hb0
  go_wp2
  go_ret2
  exact ⟨_, rfl, HO.out, HB.out⟩
end Go.Proofs.YtlppeljofjomiaaDoor.Xm
