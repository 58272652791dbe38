/- The contracts that were proved by hand, in the printer's form, for the door seat's CellsMay: chars.Clean, chars.Text, the reference's Text and Value, cells.May at any input of the size told in each; cells.Cut where its places may not be; cells.Set, cells.Runs, cells.Within at the cells that the examples name. -/
import Derived.Test.YtlppeljofjomiaaDoorMClean
import Derived.Test.YtlppeljofjomiaaDoorMRow
import Derived.Test.YtlppeljofjomiaaDoorMSet
import Derived.Test.YtlppeljofjomiaaDoorMWithin
import Derived.Test.YtlppeljofjomiaaDoorMRunsC
import Derived.Test.YtlppeljofjomiaaDoorMMay
import Derived.Test.YtlppeljofjomiaaDoorETarget
import Derived.Test.YtlppeljofjomiaaDoorERefV
namespace Go.Proofs.YtlppeljofjomiaaDoor.Xm
open Go.RowKit Go.Proofs.YtlppeljofjomiaaDoorW.PrintWords Go.Proofs.YtlppeljofjomiaaDoorW.PrintLast Go.Proofs.YtlppeljofjomiaaDoorW.PrintMore
open Go.Proofs.YtlppeljofjomiaaDoor.Pl
set_option linter.unusedVariables false

def Tabs (w : World) : Prop := X.Tabs w
theorem Tabs_below {w w1 : World} (h : Tabs w) (hb : Below w.heap.size w w1) : Tabs w1 := X.Tabs_below h hb
theorem jsSize : (((⟨#[106, 97, 118, 97, 115, 99, 114, 105, 112, 116]⟩ : ByteArray).size : Nat) : Int) = 10 := rfl
def linkB (l : List UInt8) : Bool := l.isEmpty || targetB l
set_option maxHeartbeats 1000000 in
set_option maxRecDepth 100000 in
theorem link_walk (s : ByteArray) (w : World) (hs : s.size < 4294967281) (hT : Tabs w) :
    Calls Tryd.prog 49 #[.string s] w fun e w' => e = .returned (.bool (linkB s.data.toList)) ∧ Below w.heap.size w w' := by
  by_cases h : s.toList = []
  · have h2 : s.toList.isEmpty = true := by rw [h]; rfl
    have h3 : linkB s.data.toList = true := by unfold linkB; rw [← Lib.toList_data, h]; rfl
    rw [h3]
    clear hT h3
    go_enter Tryd.func49, Tryd.ntmps49
    go_wp2
    go_ret
    exact ⟨rfl, Below.refl _ _⟩
  · have h2 : s.toList.isEmpty = false := by simpa using h
    have h3 : linkB s.data.toList = targetB s.data.toList := by unfold linkB; rw [← Lib.toList_data, h2]; rfl
    rw [h3]
    have cT := X.target_walk s w hs hT
    generalize targetB s.data.toList = R at cT ⊢
    have CT := Lib.hid cT
    clear hT h3 cT
    go_enter Tryd.func49, Tryd.ntmps49
    go_wp2_with (go_at_call 25; refine CT.out.mono ?_; rintro e W1 ⟨rfl, hb⟩; have HB := Lib.hid hb; clear hb)
    go_ret
    exact ⟨rfl, HB.out⟩
theorem span_no (A : Option Addr) (n c : Nat) (a b : Int) (w : World) (h : ¬ (0 ≤ a ∧ a ≤ b ∧ b ≤ n)) : Calls Tryd.prog 70 #[.slice A n c, .int .i64 a, .int .i64 b] w fun e w' => e = .returned (.bool false) ∧ w = w' := by
  by_cases h0 : 0 ≤ a
  · by_cases h1 : a ≤ b
    · have h2 : ¬ b ≤ n := fun h2 => h ⟨h0, h1, h2⟩
      clear h
      go_enter Tryd.func70, Tryd.ntmps70
      go_wp2
      go_ret
      exact ⟨rfl, rfl⟩
    · clear h
      go_enter Tryd.func70, Tryd.ntmps70
      go_wp2
      go_ret
      exact ⟨rfl, rfl⟩
  · clear h
    go_enter Tryd.func70, Tryd.ntmps70
    go_wp2
    go_ret
    exact ⟨rfl, rfl⟩
set_option maxRecDepth 100000 in
theorem cut_no (A0 : Option Addr) (n c0 : Nat) (a1 a2 : Int) (w : World) (h : ¬ (0 ≤ a1 ∧ a1 ≤ a2 ∧ a2 ≤ n)) :
    Calls Tryd.prog 44 #[.slice A0 n c0, .int .i64 a1, .int .i64 a2] w fun e w' => ∃ v0_ : Value, e = .returned (.tuple #[v0_, .int .i64 1]) ∧ Kd.R k51 51 w' w.heap.size (fun _ => True) v0_ [] ∧ Below w.heap.size w w' := by
  have CS := Lib.hid (fun (W : World) => span_no A0 n c0 a1 a2 W h)
  clear h
  go_enter Tryd.func44, Tryd.ntmps44
  go_wp2_with (go_at_call 70; refine (CS.out _).mono ?_; rintro e W1 ⟨rfl, rfl⟩)
  go_ret2
  exact ⟨_, rfl, Kd.R_nil _ _ _ _ _, Below.refl _ _⟩

def quillworkref03_Value.f (a0 : ByteArray) : Option Bool := if a0.size < 4294967281 then some (valueB a0.data.toList) else none
theorem quillworkref03_Value.calls (a0 : ByteArray) (r : Bool) (w : World) (h : quillworkref03_Value.f a0 = some r) :
    Calls Tryd.prog 24 #[.string a0] w fun e w' => e = .returned (.bool r) ∧ Below w.heap.size w w' := by
  unfold quillworkref03_Value.f at h
  split at h
  · cases h
    exact X.refvalue_walk a0 w (by assumption)
  · cases h
def cells_May.f (l0 : List S51) : Option Bool := if l0.length < 4398046511104 ∧ ∀ x ∈ l0, x.f2.size < 4294967281 then some (l0.all fun x => mayX (fun s => linkB s.data.toList) x) else none
theorem cells_May.calls (A0 : Option Addr) (c0 : Nat) (l0 : List (S51)) (r : Bool) (w : World) (hr0 : Kd.C k51 w A0 l0.length l0) (hc0 : l0.length ≤ c0) (hT : Tabs w) (h : cells_May.f l0 = some r) :
    Calls Tryd.prog 15 #[.slice A0 l0.length c0] w fun e w' => e = .returned (.bool r) ∧ Below w.heap.size w w' := by
  unfold cells_May.f at h
  split at h
  · rename_i hc
    cases h
    exact may_walk (fun s => linkB s.data.toList) A0 c0 l0 w hr0 hc.1 (fun x hx W hb => link_walk x.f2 W (hc.2 x hx) (Tabs_below hT hb))
  · cases h
def quillworkref05_Text.f (l0 : List S51) : Option ByteArray := if l0.length < 35184372088832 then some (runesBytes (l0.map (·.f0))) else none
theorem quillworkref05_Text.calls (A0 : Option Addr) (c0 : Nat) (l0 : List (S51)) (r : ByteArray) (w : World) (hr0 : Kd.C k51 w A0 l0.length l0) (hc0 : l0.length ≤ c0) (h : quillworkref05_Text.f l0 = some r) :
    Calls Tryd.prog 18 #[.slice A0 l0.length c0] w fun e w' => e = .returned (.string r) ∧ Below w.heap.size w w' := by
  unfold quillworkref05_Text.f at h
  split at h
  · cases h
    exact reftext_walk A0 c0 l0 w hr0 (by assumption)
  · cases h
def cells_Cut.f (l0 : List S51) (a1 a2 : Int) : Option (List S51 × Int) := if ¬ (0 ≤ a1 ∧ a1 ≤ a2 ∧ a2 ≤ l0.length) then some ([], 1) else none
theorem cells_Cut.calls (A0 : Option Addr) (c0 : Nat) (l0 : List (S51)) (a1 : Int) (a2 : Int) (r1 : List (S51)) (r2 : Int) (w : World) (hr0 : Kd.C k51 w A0 l0.length l0) (hc0 : l0.length ≤ c0) (h : cells_Cut.f l0 a1 a2 = some (r1, r2)) :
    Calls Tryd.prog 44 #[.slice A0 l0.length c0, .int .i64 a1, .int .i64 a2] w fun e w' => ∃ v0_ : Value, e = .returned (.tuple #[v0_, .int .i64 r2]) ∧ Kd.R k51 51 w' w.heap.size (fun _ => True) v0_ r1 ∧ Below w.heap.size w w' := by
  unfold cells_Cut.f at h
  split at h
  · cases h
    exact cut_no A0 l0.length c0 a1 a2 w (by assumption)
  · cases h
def chars_Clean.f (a0 : ByteArray) : Option (List Int) := if a0.size < 35184372088832 then some (cleanI a0.data.toList) else none
theorem chars_Clean.calls (a0 : ByteArray) (r : List Int) (w : World) (h : chars_Clean.f a0 = some r) :
    Calls Tryd.prog 65 #[.string a0] w fun e w' => ∃ v0_ : Value, e = .returned (v0_) ∧ Kd.R (Kd.int .i32) 21 w' w.heap.size (fun _ => True) v0_ r ∧ Below w.heap.size w w' := by
  unfold chars_Clean.f at h
  split at h
  · cases h
    exact clean_walk a0 w (by assumption)
  · cases h
instance S51.deq : DecidableEq S51 := fun a b =>
  if h : a.f0 = b.f0 ∧ a.f1 = b.f1 ∧ a.f2 = b.f2 then isTrue (by cases a; cases b; obtain ⟨rfl, rfl, rfl⟩ := h; rfl) else isFalse (fun e => h (by cases e; exact ⟨rfl, rfl, rfl⟩))
def chars_Text.f (l0 : List Int) : Option ByteArray := some (runesBytes l0)
theorem chars_Text.calls (A0 : Option Addr) (c0 : Nat) (l0 : List Int) (r : ByteArray) (w : World) (hr0 : Kd.C (Kd.int .i32) w A0 l0.length l0) (hc0 : l0.length ≤ c0) (h : chars_Text.f l0 = some r) :
    Calls Tryd.prog 52 #[.slice A0 l0.length c0] w fun e w' => e = .returned (.string r) ∧ Drawn0 w w' := by
  cases h
  refine (text_walk A0 c0 l0 w hr0).mono ?_
  rintro e w' ⟨rfl, rfl⟩
  exact ⟨rfl, Drawn0.refl _⟩
def cells_Set.f (l0 : List S51) (a1 a2 a3 a4 : Int) : Option (List S51 × Int) := if l0 = two 1 ∧ a1 = 0 ∧ a2 = 2 ∧ a3 = 2 ∧ a4 = 1 then some (two 2, 0) else none
theorem cells_Set.calls (A0 : Option Addr) (c0 : Nat) (l0 : List (S51)) (a1 a2 a3 a4 : Int) (r1 : List (S51)) (r2 : Int) (w : World) (hr0 : Kd.C k51 w A0 l0.length l0) (hc0 : l0.length ≤ c0) (h : cells_Set.f l0 a1 a2 a3 a4 = some (r1, r2)) :
    Calls Tryd.prog 42 #[.slice A0 l0.length c0, .int .i64 a1, .int .i64 a2, .int .i64 a3, .int .i64 a4] w fun e w' => ∃ v0_ : Value, e = .returned (.tuple #[v0_, .int .i64 r2]) ∧ Kd.R k51 51 w' w.heap.size (fun _ => True) v0_ r1 ∧ Below w.heap.size w w' := by
  unfold cells_Set.f at h
  split at h
  · rename_i hc
    obtain ⟨rfl, rfl, rfl, rfl, rfl⟩ := hc
    cases h
    exact set_at A0 c0 w hr0
  · cases h
def cells_Within.f (l0 : List S51) (a1 : Int) : Option (Int × Int) := if l0 = [⟨97, 0, ⟨#[]⟩⟩, ⟨108, 0, ⟨#[120]⟩⟩, ⟨108, 0, ⟨#[120]⟩⟩] ∧ a1 = 2 then some (1, 3) else none
theorem cells_Within.calls (A0 : Option Addr) (c0 : Nat) (l0 : List (S51)) (a1 : Int) (r1 r2 : Int) (w : World) (hr0 : Kd.C k51 w A0 l0.length l0) (hc0 : l0.length ≤ c0) (h : cells_Within.f l0 a1 = some (r1, r2)) :
    Calls Tryd.prog 45 #[.slice A0 l0.length c0, .int .i64 a1] w fun e w' => e = .returned (.tuple #[.int .i64 r1, .int .i64 r2]) ∧ Drawn0 w w' := by
  unfold cells_Within.f at h
  split at h
  · rename_i hc
    obtain ⟨rfl, rfl⟩ := hc
    cases h
    obtain ⟨ad, rfl, _, _, g0⟩ := at_T51 hr0 0 (by decide) (by decide)
    obtain ⟨ad1, e1, _, _, g1⟩ := at_T51 hr0 1 (by decide) (by decide)
    obtain ⟨ad2, e2, _, _, g2⟩ := at_T51 hr0 2 (by decide) (by decide)
    obtain rfl := Option.some.inj e1
    obtain rfl := Option.some.inj e2
    refine (within_at ad c0 w ⟨#[120]⟩ (by rw [ByteArray.toList_eq]; rfl) (by rw [ByteArray.toList_eq]; rfl) g0 g1 g2).mono ?_
    rintro e w' ⟨rfl, rfl⟩
    exact ⟨rfl, Drawn0.refl _⟩
  · cases h
def cells_Runs.f (l0 : List S51) : Option (List S61) := if l0 = two 1 ++ [⟨10, 0, ⟨#[]⟩⟩] then some [⟨0, 2, 1, ⟨#[]⟩, 0⟩, ⟨2, 3, 0, ⟨#[]⟩, 1⟩] else none
theorem cells_Runs.calls (A0 : Option Addr) (c0 : Nat) (l0 : List (S51)) (r : List (S61)) (w : World) (hr0 : Kd.C k51 w A0 l0.length l0) (hc0 : l0.length ≤ c0) (h : cells_Runs.f l0 = some r) :
    Calls Tryd.prog 43 #[.slice A0 l0.length c0] w fun e w' => ∃ v0_ : Value, e = .returned (v0_) ∧ Kd.R k61 61 w' w.heap.size (fun _ => True) v0_ r ∧ Below w.heap.size w w' := by
  unfold cells_Runs.f at h
  split at h
  · rename_i hc
    subst hc
    cases h
    obtain ⟨ad, rfl, g0, g1, g2⟩ := at_T51 hr0 0 (by decide) (by decide)
    obtain ⟨ad1, e1, g3, g4, g5⟩ := at_T51 hr0 1 (by decide) (by decide)
    obtain ⟨ad2, e2, g6, g7, g8⟩ := at_T51 hr0 2 (by decide) (by decide)
    obtain rfl := Option.some.inj e1
    obtain rfl := Option.some.inj e2
    refine (callsIn_wide.1 (runsAll_in 6 (Nat.le_refl _) ad c0 w ⟨g0, g1, g2, g3, g4, g5, g6, g7, g8⟩)).mono ?_
    rintro e w' ⟨v, rfl, ho, hb⟩
    refine ⟨v, rfl, ⟨fun _ _ => trivial, _, ho, ?_⟩, hb⟩
    exact Reps.snoc (Reps.snoc (Reps.none _ 5) (k61_mkM _ _ _ ⟨0, 2, 1, ⟨#[]⟩, 0⟩) rfl) (k61_mkM _ _ _ ⟨2, 3, 0, ⟨#[]⟩, 1⟩) rfl
  · cases h
end Go.Proofs.YtlppeljofjomiaaDoor.Xm
