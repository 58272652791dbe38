/- The contracts that were proved by hand, in the printer's form: chars.Clean, []rune(s), slices.Clone, chars.Text, cells.Insert, cells.Cut at any input of the size told in each; cells.Set, cells.Runs, cells.Within at the cells that the examples name. -/
import Derived.Test.YtlppeljofjomiaaEClean
import Derived.Test.YtlppeljofjomiaaERow
import Derived.Test.YtlppeljofjomiaaESet
import Derived.Test.YtlppeljofjomiaaEWithin
import Derived.Test.YtlppeljofjomiaaEInsert
import Derived.Test.YtlppeljofjomiaaERunsC
import Derived.Test.YtlppeljofjomiaaDoorPlain
import Derived.Test.YtlppeljofjomiaaDoorRunes
namespace Go.Proofs.Ytlppeljofjomiaa.X
open Go.RowKit Go.Proofs.YtlppeljofjomiaaW.PrintWords Go.Proofs.YtlppeljofjomiaaW.PrintLast Go.Proofs.YtlppeljofjomiaaW.PrintMore
open Go.Proofs.YtlppeljofjomiaaDoor.Pl
set_option linter.unusedVariables false

def chars_Clean.f (a0 : ByteArray) : Option (List Int) := if a0.size < 35184372088832 then some (cleanI a0.data.toList) else none
theorem chars_Clean.calls (a0 : ByteArray) (r : List Int) (w : World) (h : chars_Clean.f a0 = some r) :
    Calls Try.prog 22 #[.string a0] w fun e w' => ∃ v0_ : Value, e = .returned (v0_) ∧ Kd.R (Kd.int .i32) 21 w' w.heap.size (fun _ => True) v0_ r ∧ Below w.heap.size w w' := by
  unfold chars_Clean.f at h
  split at h
  · cases h
    exact clean_walk a0 w (by assumption)
  · cases h
def quillworkref01_Runes.f (a0 : ByteArray) : Option (List Int) := if a0.size < 35184372088832 then some (runesI a0.data.toList) else none
theorem quillworkref01_Runes.calls (a0 : ByteArray) (r : List Int) (w : World) (h : quillworkref01_Runes.f a0 = some r) :
    Calls Try.prog 36 #[.string a0] w fun e w' => ∃ v0_ : Value, e = .returned (v0_) ∧ Kd.R (Kd.int .i32) 21 w' w.heap.size (fun _ => True) v0_ r ∧ Below w.heap.size w w' := by
  unfold quillworkref01_Runes.f at h
  split at h
  · cases h
    exact runes_walk a0 w (by assumption)
  · cases h
def api_Cell.f (l0 : List S40) : Option (List S40) := if l0.length < 4398046511104 then some l0 else none
theorem api_Cell.calls (A0 : Option Addr) (c0 : Nat) (l0 : List S40) (r : List S40) (w : World) (hr0 : Kd.C k40 w A0 l0.length l0) (hc0 : l0.length ≤ c0) (h : api_Cell.f l0 = some r) :
    Calls Try.prog 27 #[.slice A0 l0.length c0] w fun e w' => ∃ v0_ : Value, e = .returned (v0_) ∧ Kd.R k40 40 w' w.heap.size (fun _ => True) v0_ r ∧ Below w.heap.size w w' := by
  unfold api_Cell.f at h
  split at h
  · cases h
    exact clone_walk A0 c0 l0 w hr0 (by assumption)
  · cases h
def cells_Insert.f (l0 : List S40) (a1 : Int) (l2 : List S40) : Option (List S40 × Int) := if l0.length + l2.length < 4398046511104 then some (insertR l0 a1 l2) else none
theorem cells_Insert.calls (A0 : Option Addr) (c0 : Nat) (l0 : List (S40)) (a1 : Int) (A2 : Option Addr) (c2 : Nat) (l2 : List (S40)) (r1 : List (S40)) (r2 : Int) (w : World) (hr0 : Kd.C k40 w A0 l0.length l0) (hc0 : l0.length ≤ c0) (hr2 : Kd.C k40 w A2 l2.length l2) (hc2 : l2.length ≤ c2) (h : cells_Insert.f l0 a1 l2 = some (r1, r2)) :
    Calls Try.prog 11 #[.slice A0 l0.length c0, .int .i64 a1, .slice A2 l2.length c2] w fun e w' => ∃ v0_ : Value, e = .returned (.tuple #[v0_, .int .i64 r2]) ∧ Kd.R k40 40 w' w.heap.size (fun _ => True) v0_ r1 ∧ Below w.heap.size w w' := by
  unfold cells_Insert.f at h
  split at h
  · have h1 := Option.some.inj h
    have h2 := insert_walk A0 c0 l0 a1 A2 c2 l2 w hr0 hc0 hr2 hc2 (by assumption)
    rw [h1] at h2
    exact h2
  · cases h
def cells_Cut.f (l0 : List S40) (a1 a2 : Int) : Option (List S40 × Int) := if l0.length < 4398046511104 then some (cutR l0 a1 a2) else none
theorem cells_Cut.calls (A0 : Option Addr) (c0 : Nat) (l0 : List (S40)) (a1 : Int) (a2 : Int) (r1 : List (S40)) (r2 : Int) (w : World) (hr0 : Kd.C k40 w A0 l0.length l0) (hc0 : l0.length ≤ c0) (h : cells_Cut.f l0 a1 a2 = some (r1, r2)) :
    Calls Try.prog 13 #[.slice A0 l0.length c0, .int .i64 a1, .int .i64 a2] w fun e w' => ∃ v0_ : Value, e = .returned (.tuple #[v0_, .int .i64 r2]) ∧ Kd.R k40 40 w' w.heap.size (fun _ => True) v0_ r1 ∧ Below w.heap.size w w' := by
  unfold cells_Cut.f at h
  split at h
  · have h1 := Option.some.inj h
    have h2 := cut_walk A0 c0 l0 a1 a2 w hr0 hc0 (by assumption)
    rw [h1] at h2
    exact h2
  · cases h
instance S40.deq : DecidableEq S40 := fun a b =>
  if h : a.f0 = b.f0 ∧ a.f1 = b.f1 ∧ a.f2 = b.f2 then isTrue (by cases a; cases b; obtain ⟨rfl, rfl, rfl⟩ := h; rfl) else isFalse (fun e => h (by cases e; exact ⟨rfl, rfl, rfl⟩))
def chars_Text.f (l0 : List Int) : Option ByteArray := some (runesBytes l0)
theorem chars_Text.calls (A0 : Option Addr) (c0 : Nat) (l0 : List Int) (r : ByteArray) (w : World) (hr0 : Kd.C (Kd.int .i32) w A0 l0.length l0) (hc0 : l0.length ≤ c0) (h : chars_Text.f l0 = some r) :
    Calls Try.prog 33 #[.slice A0 l0.length c0] w fun e w' => e = .returned (.string r) ∧ Drawn0 w w' := by
  cases h
  refine (text_walk A0 c0 l0 w hr0).mono ?_
  rintro e w' ⟨rfl, rfl⟩
  exact ⟨rfl, Drawn0.refl _⟩
def cells_Set.f (l0 : List S40) (a1 a2 a3 a4 : Int) : Option (List S40 × Int) := if l0 = two 1 ∧ a1 = 0 ∧ a2 = 2 ∧ a3 = 2 ∧ a4 = 1 then some (two 2, 0) else none
theorem cells_Set.calls (A0 : Option Addr) (c0 : Nat) (l0 : List (S40)) (a1 a2 a3 a4 : Int) (r1 : List (S40)) (r2 : Int) (w : World) (hr0 : Kd.C k40 w A0 l0.length l0) (hc0 : l0.length ≤ c0) (h : cells_Set.f l0 a1 a2 a3 a4 = some (r1, r2)) :
    Calls Try.prog 18 #[.slice A0 l0.length c0, .int .i64 a1, .int .i64 a2, .int .i64 a3, .int .i64 a4] w fun e w' => ∃ v0_ : Value, e = .returned (.tuple #[v0_, .int .i64 r2]) ∧ Kd.R k40 40 w' w.heap.size (fun _ => True) v0_ r1 ∧ Below w.heap.size w w' := by
  unfold cells_Set.f at h
  split at h
  · rename_i hc
    obtain ⟨rfl, rfl, rfl, rfl, rfl⟩ := hc
    cases h
    exact set_at A0 c0 w hr0
  · cases h
def cells_Within.f (l0 : List S40) (a1 : Int) : Option (Int × Int) := if l0 = [⟨97, 0, ⟨#[]⟩⟩, ⟨108, 0, ⟨#[120]⟩⟩, ⟨108, 0, ⟨#[120]⟩⟩] ∧ a1 = 2 then some (1, 3) else none
theorem cells_Within.calls (A0 : Option Addr) (c0 : Nat) (l0 : List (S40)) (a1 : Int) (r1 r2 : Int) (w : World) (hr0 : Kd.C k40 w A0 l0.length l0) (hc0 : l0.length ≤ c0) (h : cells_Within.f l0 a1 = some (r1, r2)) :
    Calls Try.prog 20 #[.slice A0 l0.length c0, .int .i64 a1] w fun e w' => e = .returned (.tuple #[.int .i64 r1, .int .i64 r2]) ∧ Drawn0 w w' := by
  unfold cells_Within.f at h
  split at h
  · rename_i hc
    obtain ⟨rfl, rfl⟩ := hc
    cases h
    obtain ⟨ad, rfl, _, _, g0⟩ := at_T40 hr0 0 (by decide) (by decide)
    obtain ⟨ad1, e1, _, _, g1⟩ := at_T40 hr0 1 (by decide) (by decide)
    obtain ⟨ad2, e2, _, _, g2⟩ := at_T40 hr0 2 (by decide) (by decide)
    obtain rfl := Option.some.inj e1
    obtain rfl := Option.some.inj e2
    refine (within_at ad c0 w ⟨#[120]⟩ (by rw [ByteArray.toList_eq]; rfl) (by rw [ByteArray.toList_eq]; rfl) g0 g1 g2).mono ?_
    rintro e w' ⟨rfl, rfl⟩
    exact ⟨rfl, Drawn0.refl _⟩
  · cases h
def cells_Runs.f (l0 : List S40) : Option (List S45) := if l0 = two 1 ++ [⟨10, 0, ⟨#[]⟩⟩] then some [⟨0, 2, 1, ⟨#[]⟩, 0⟩, ⟨2, 3, 0, ⟨#[]⟩, 1⟩] else none
theorem cells_Runs.calls (A0 : Option Addr) (c0 : Nat) (l0 : List (S40)) (r : List (S45)) (w : World) (hr0 : Kd.C k40 w A0 l0.length l0) (hc0 : l0.length ≤ c0) (h : cells_Runs.f l0 = some r) :
    Calls Try.prog 19 #[.slice A0 l0.length c0] w fun e w' => ∃ v0_ : Value, e = .returned (v0_) ∧ Kd.R k45 45 w' w.heap.size (fun _ => True) v0_ r ∧ Below w.heap.size w w' := by
  unfold cells_Runs.f at h
  split at h
  · rename_i hc
    subst hc
    cases h
    obtain ⟨ad, rfl, g0, g1, g2⟩ := at_T40 hr0 0 (by decide) (by decide)
    obtain ⟨ad1, e1, g3, g4, g5⟩ := at_T40 hr0 1 (by decide) (by decide)
    obtain ⟨ad2, e2, g6, g7, g8⟩ := at_T40 hr0 2 (by decide) (by decide)
    obtain rfl := Option.some.inj e1
    obtain rfl := Option.some.inj e2
    refine (callsIn_wide.1 (runsAll_in 6 (Nat.le_refl _) ad c0 w ⟨g0, g1, g2, g3, g4, g5, g6, g7, g8⟩)).mono ?_
    rintro e w' ⟨v, rfl, ho, hb⟩
    refine ⟨v, rfl, ⟨fun _ _ => trivial, _, ho, ?_⟩, hb⟩
    exact Reps.snoc (Reps.snoc (Reps.none _ 5) (k45_mkM _ _ _ ⟨0, 2, 1, ⟨#[]⟩, 0⟩) rfl) (k45_mkM _ _ _ ⟨2, 3, 0, ⟨#[]⟩, 1⟩) rfl
  · cases h
end Go.Proofs.Ytlppeljofjomiaa.X
