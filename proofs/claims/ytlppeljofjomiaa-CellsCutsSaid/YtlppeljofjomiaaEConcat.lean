/- slices.Grow at the nil row of cells and slices.Concat at any parts: the parts one behind the other, in memory of their own. The condition: fewer than 2^42 cells together. -/
import Derived.Test.YtlppeljofjomiaaXx0
import Derived.WalkKit
import Derived.WalkSpells
import Derived.Lib.SliceRun
import Derived.Lib.AppendZerosOnto
import Derived.Lib.Hide
namespace Go.Proofs.Ytlppeljofjomiaa.X
open Go.RowKit
open Go.Proofs.YtlppeljofjomiaaW.PrintWords Go.Proofs.YtlppeljofjomiaaW.PrintLast Go.Proofs.YtlppeljofjomiaaW.PrintMore

set_option maxHeartbeats 4000000 in
set_option maxRecDepth 100000 in
theorem grow_nil (n : Nat) (hn : n < 4398046511104) (w : World) :
    Calls Try.prog 38 #[.slice none 0 0, .int .i64 (n : Int)] w fun e w' => ∃ v0_ : Value, e = .returned (v0_) ∧ Kd.R k40 40 w' w.heap.size (fun _ => True) v0_ [] ∧ Below w.heap.size w w' := by
  have h1 : ¬ ((n : Int) < 0) := by omega
  rcases Nat.eq_zero_or_pos n with rfl | hp
  · go_enter Try.func38, Try.ntmps38
    go_wp2
    go_ret
    exact ⟨_, rfl, Kd.R_nil _ _ _ _ _, Below.refl _ _⟩
  · obtain ⟨i0, hi, hz0, hz1, hz2⟩ : ∃ i0 : TypeInfo, Try.prog.info? 40 = some i0 ∧ i0.zero = some (.agg #[.int .i32 0, .int .i64 0, .string ⟨#[]⟩]) ∧ i0.size = 3 ∧ i0.bytes = 32 := by
      obtain ⟨i0, h, hh⟩ := Option.map_eq_some_iff.1 info40
      simp only [Prod.mk.injEq] at hh
      exact ⟨i0, h, hh.1, hh.2.1, hh.2.2⟩
    have hrz : ∀ ty, (Builtin.append_ #[24, 3] ty #[.slice none 0 0, .int .i64 ((n : Int))]).run Try.prog w =
        .ok (.slice (some ⟨w.heap.size, 0, none⟩) n (grownCap w n 0 40)) (w.drew.alloc (.cells (#[] ++ Builtin.zeroCells (Value.agg #[.int .i32 0, .int .i64 0, .string ⟨#[]⟩]).cells n ++ Builtin.zeroCells (Value.agg #[.int .i32 0, .int .i64 0, .string ⟨#[]⟩]).cells (grownCap w n 0 40 - n)) 40)) := fun ty => by
      have h := Lib.run_append_grow_zeros (P := Try.prog) w 24 3 ty 40 i0 _ .i64 .i64 Try.underlying24 Try.underlying3 hi hz0 none 0 0 [] (run_firstCells_none w.drew i0.size 0 0 0) n hp (by omega) (by omega) (by omega) (by rw [hz2]; omega)
        (growslice_fits (by omega) (by rw [hz2]; omega))
      simpa using h
    have hG : n ≤ grownCap w n 0 40 := grownCap_ge w _ _ _
    have hM : grownCap w n 0 40 ≤ maxLen := grownCap_le_maxLen w n 0 40 (by unfold maxLen; omega)
    generalize grownCap w n 0 40 = G at hrz hG hM
    have hM2 : G ≤ 9223372036854775807 := by unfold maxLen at hM; exact hM
    have HM := Lib.hid hM
    clear hM hi
    go_enter Try.func38, Try.ntmps38
    go_wp2_with (at_builtin; refine Lib.wpList_append_run _ rfl _ _ _ _ rfl _ _ rfl rfl _ _ (hrz _) ?_)
    go_ret
    refine ⟨_, rfl, ⟨fun _ _ => trivial, [], ⟨rfl, .inr ⟨w.heap.size, G, _, rfl, Nat.le_refl _, (show (w.heap.push _)[w.heap.size]? = _ from Array.getElem?_push_size), Nat.zero_le _, HM.out, ?_, ?_⟩⟩, Reps.none _ _⟩, ((Below.refl _ _).alloc (Nat.le_refl _) _).drew⟩
    · rw [Array.size_append, size_zeroCells, size_zeroCells]
      show n * 3 + (G - n) * 3 = G * 3
      omega
    · show List.take (0 * 3) _ = _
      rw [Nat.zero_mul, List.take_zero]

/-- One part: a row of cells as it is handed. -/
structure SL where
  A : Option Addr
  c : Nat
  l : List S40
def SL.v (x : SL) : Value := .slice x.A x.l.length x.c
/-- The parts lie at ad, one behind the other. -/
structure PartsAt (W : World) (ad : Addr) (vs : List SL) : Prop where
  cell : ∀ (i : Nat) (x : SL), vs[i]? = some x → W.cell? (ad.add i) = some x.v
  row : ∀ (i : Nat) (x : SL), vs[i]? = some x → Kd.C k40 W x.A x.l.length x.l ∧ x.l.length ≤ x.c
theorem PartsAt.below {W W1 : World} {ad : Addr} {vs : List SL} (h : PartsAt W ad vs) (hb : Below W.heap.size W W1) : PartsAt W1 ad vs :=
  ⟨fun i x hx => pw_cell_below hb (h.cell i x hx), fun i x hx => ⟨Kd.C_below (h.row i x hx).1 hb, (h.row i x hx).2⟩⟩
def joined (vs : List SL) : List S40 := vs.flatMap (·.l)
theorem joined_succ (vs : List SL) (i : Nat) (x : SL) (h : vs[i]? = some x) : joined (vs.take (i + 1)) = joined (vs.take i) ++ x.l := by
  unfold joined
  rw [List.take_add_one, h, List.flatMap_append]
  simp
theorem joined_le (vs : List SL) (i : Nat) : (joined (vs.take i)).length ≤ (joined vs).length := by
  have h : joined vs = joined (vs.take i) ++ joined (vs.drop i) := by
    unfold joined
    rw [← List.flatMap_append, List.take_append_drop]
  rw [h, List.length_append]
  omega

set_option maxHeartbeats 4000000 in
set_option maxRecDepth 100000 in
theorem concat_walk (ad : Addr) (c : Nat) (vs : List SL) (w : World) (hv : vs.length ≤ 100) (hP : PartsAt w ad vs) (hl : (joined vs).length < 4398046511104) :
    Calls Try.prog 25 #[.slice (some ad) vs.length c] w fun e w' => ∃ v0_ : Value, e = .returned (v0_) ∧ Kd.R k40 40 w' w.heap.size (fun _ => True) v0_ (joined vs) ∧ Below w.heap.size w w' := by
  have HP := Lib.hid hP
  have HL := Lib.hid hl
  have CG := Lib.hid (fun (n : Nat) (hn : n < 4398046511104) (W : World) => grow_nil n hn W)
  clear hP hl
  go_enter Try.func25, Try.ntmps25
  go_wp2
  go_loopw [3, 11] (fun v3 v11 wr => w = wr ∧ ∃ i : Nat, i ≤ vs.length ∧ v11 = .int .i64 i ∧ v3 = .int .i64 ((joined (vs.take i)).length : Nat)) (fun _ v11 _ => vs.length - (intOf v11).toNat)
  case atStart => exact ⟨rfl, 0, Nat.zero_le _, rfl, rfl⟩
  case round =>
    obtain ⟨rfl, i, hi, rfl, rfl⟩ := hrel
    by_cases hlt : i < vs.length
    · obtain ⟨x, hx⟩ : ∃ x, vs[i]? = some x := ⟨_, List.getElem?_eq_getElem hlt⟩
      have hc := HP.out.cell i x hx
      unfold SL.v at hc
      have hs := joined_succ vs i x hx
      have hle := joined_le vs (i + 1)
      rw [hs, List.length_append] at hle
      have HS := Lib.hid hs
      have HX := Lib.hid hx
      have h2 := HL.out
      clear hs hx
      go_wp2
      go_roundw
      case rel => exact ⟨trivial, i + 1, hlt, rfl, by rw [HS.out, List.length_append]; rfl⟩
      case measure => simp [intOf]; omega
    · obtain rfl : i = vs.length := by omega
      rw [List.take_length]
      have h2 := HL.out
      go_wp2_with (go_at_call 38; refine (CG.out _ h2 _).mono ?_; rintro e W1 ⟨v0, rfl, ho, hb⟩; have HO := Lib.hid ho; have HB := Lib.hid hb; clear ho hb)
      go_loopw [6, 27] (fun v6 v27 W2 => Below w.heap.size w W2 ∧ ∃ i : Nat, i ≤ vs.length ∧ v27 = .int .i64 i ∧ Hid (Kd.R k40 40 W2 w.heap.size (fun _ => True) v6 (joined (vs.take i)))) (fun _ v27 _ => vs.length - (intOf v27).toNat)
      case atStart => exact ⟨HB.out, 0, Nat.zero_le _, rfl, HO.out⟩
      case round =>
        obtain ⟨hb2, i, hi2, rfl, HO2⟩ := hrel
        have HB2 := Lib.hid hb2
        clear hb2 HO HB
        by_cases hlt : i < vs.length
        · obtain ⟨x, hx⟩ : ∃ x, vs[i]? = some x := ⟨_, List.getElem?_eq_getElem hlt⟩
          have HP2 := Lib.hid (HP.out.below HB2.out)
          have hc := HP2.out.cell i x hx
          unfold SL.v at hc
          have hs := joined_succ vs i x hx
          have hle := joined_le vs (i + 1)
          rw [hs, List.length_append] at hle
          have HR := Lib.hid (HP2.out.row i x hx)
          have HS := Lib.hid hs
          have HLE := Lib.hid hle
          clear hs hx hle
          go_wp2_with ((with_reducible refine gate_builtin (b := .append) (xs := #[.tmp 31, .tmp 32]) rfl ?_); at_builtin; refine Kd.R_append_rows k40 (w0 := w) w.heap.size rfl (.tmp 31) (.tmp 32) 24 40 (.agg #[(.int .i32 0), (.int .i64 0), (.string ⟨#[]⟩)]) 32 rfl Try.underlying24 info40 rfl (by decide) (by omega) u6 (joined (vs.take i)) x.l _ _ _ (fun _ => True) (fun _ => False) rfl rfl ?aO ?aR (fun _ _ h => h) (fun _ h => h.elim) ?aF ?aB ?aS ?aL ?_; (case aR => exact HR.out.1); (case aB => exact HB2.out); (case aF => exact (fun _ _ => trivial)); (case aO => exact HO2.out); (case aS => exact HB2.out.size); (case aL => have := HLE.out; have := HL.out; omega); intro v1 w1 ho hb hg hat; have HO3 := Lib.hid ho; have HB3 := Lib.hid hb; clear ho hb hg hat)
          go_roundw
          case rel => exact ⟨HB3.out, i + 1, hlt, rfl, by rw [HS.out]; exact HO3.out⟩
          case measure => simp [intOf]; omega
        · obtain rfl : i = vs.length := by omega
          rw [List.take_length] at HO2
          go_wp2
          go_ret
          exact ⟨_, rfl, HO2.out, HB2.out⟩
end Go.Proofs.Ytlppeljofjomiaa.X
