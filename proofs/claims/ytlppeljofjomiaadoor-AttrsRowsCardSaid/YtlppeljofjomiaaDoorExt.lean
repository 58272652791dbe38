/- The functions that the print does not take, in its own form: what each tells ('.f'), and that the call comes to just that ('.calls'). Each by a walk of its own. -/
import Derived.Test.YtlppeljofjomiaaDoorEName
import Derived.Test.YtlppeljofjomiaaDoorETarget
import Derived.Test.YtlppeljofjomiaaDoorEDrop
import Derived.Test.YtlppeljofjomiaaDoorERefV
namespace Go.Proofs.YtlppeljofjomiaaDoor.X
open Go.RowKit Go.Proofs.YtlppeljofjomiaaDoorW.PrintWords Go.Proofs.YtlppeljofjomiaaDoorW.PrintLast Go.Proofs.YtlppeljofjomiaaDoorW.PrintMore
open Go.Proofs.YtlppeljofjomiaaDoor.Pl

set_option linter.unusedVariables false
def attrs_Name.f (a0 : ByteArray) : Option Bool := some (nameB a0.data.toList)
theorem attrs_Name.calls (a0 : ByteArray) (r : Bool) (w : World) (h : attrs_Name.f a0 = some r) :
    Calls Tryd.prog 21 #[.string a0] w fun e w' => e = .returned (.bool r) ∧ Below w.heap.size w w' := by
  obtain rfl := Option.some.inj h
  exact name_walk a0 w
def attrs_Value.f (a0 : ByteArray) : Option Bool := if a0.size < 4294967281 then some (valueB a0.data.toList) else none
theorem attrs_Value.calls (a0 : ByteArray) (r : Bool) (w : World) (hT : Tabs w) (h : attrs_Value.f a0 = some r) :
    Calls Tryd.prog 23 #[.string a0] w fun e w' => e = .returned (.bool r) ∧ Below w.heap.size w w' := by
  unfold attrs_Value.f at h
  by_cases hs : a0.size < 4294967281
  · rw [if_pos hs] at h
    obtain rfl := Option.some.inj h
    exact value_walk a0 w (by omega) hT
  · rw [if_neg hs] at h
    cases h
def attrs_Target.f (a0 : ByteArray) : Option Bool := if a0.size < 4294967281 then some (targetB a0.data.toList) else none
theorem attrs_Target.calls (a0 : ByteArray) (r : Bool) (w : World) (hT : Tabs w) (h : attrs_Target.f a0 = some r) :
    Calls Tryd.prog 25 #[.string a0] w fun e w' => e = .returned (.bool r) ∧ Below w.heap.size w w' := by
  unfold attrs_Target.f at h
  by_cases hs : a0.size < 4294967281
  · rw [if_pos hs] at h
    obtain rfl := Option.some.inj h
    exact target_walk a0 w hs hT
  · rw [if_neg hs] at h
    cases h
def attrs_at.f (l0 : List S27) (a1 : ByteArray) : Option Int := if l0.length < 4398046511104 then some (findI (isName a1) l0) else none
theorem attrs_at.calls (A0 : Option Addr) (c0 : Nat) (l0 : List S27) (a1 : ByteArray) (r : Int) (w : World) (hr0 : Kd.C k27 w A0 l0.length l0) (hc0 : l0.length ≤ c0) (h : attrs_at.f l0 a1 = some r) :
    Calls Tryd.prog 40 #[.slice A0 l0.length c0, .string a1] w fun e w' => e = .returned (.int .i64 r) ∧ Below w.heap.size w w' := by
  unfold attrs_at.f at h
  by_cases hs : l0.length < 4398046511104
  · rw [if_pos hs] at h
    obtain rfl := Option.some.inj h
    exact at_walk A0 c0 l0 a1 w hr0 hs
  · rw [if_neg hs] at h
    cases h
def api_Attr_60.f (l0 : List S27) : Option (List S27) := if l0.length < 4398046511104 then some l0 else none
theorem api_Attr_60.calls (A0 : Option Addr) (c0 : Nat) (l0 : List S27) (r : List S27) (w : World) (hr0 : Kd.C k27 w A0 l0.length l0) (hc0 : l0.length ≤ c0) (h : api_Attr_60.f l0 = some r) :
    Calls Tryd.prog 60 #[.slice A0 l0.length c0] w fun e w' => ∃ v0_ : Value, e = .returned (v0_) ∧ Kd.R k27 27 w' w.heap.size (fun _ => True) v0_ r ∧ Below w.heap.size w w' := by
  unfold api_Attr_60.f at h
  by_cases hs : l0.length < 4398046511104
  · rw [if_pos hs] at h
    obtain rfl := Option.some.inj h
    exact clone_walk A0 c0 l0 w hr0 hs
  · rw [if_neg hs] at h
    cases h
def attrs_Drop.f (l0 : List S27) (a1 : ByteArray) : Option (List S27 × Int) := if l0.length < 4398046511104 then some (dropR l0 a1) else none
theorem attrs_Drop.calls (A0 : Option Addr) (c0 : Nat) (l0 : List S27) (a1 : ByteArray) (r1 : List S27) (r2 : Int) (w : World) (hr0 : Kd.C k27 w A0 l0.length l0) (hc0 : l0.length ≤ c0) (h : attrs_Drop.f l0 a1 = some (r1, r2)) :
    Calls Tryd.prog 31 #[.slice A0 l0.length c0, .string a1] w fun e w' => ∃ v0_ : Value, e = .returned (.tuple #[v0_, .int .i64 r2]) ∧ Kd.R k27 27 w' w.heap.size (fun _ => True) v0_ r1 ∧ Below w.heap.size w w' := by
  unfold attrs_Drop.f at h
  by_cases hs : l0.length < 4398046511104
  · rw [if_pos hs] at h
    have h1 := Option.some.inj h
    have h2 := drop_walk A0 c0 l0 a1 w hr0 hs
    rw [h1] at h2
    exact h2
  · rw [if_neg hs] at h
    cases h
def quillworkref03_Value.f (a0 : ByteArray) : Option Bool := if a0.size < 4294967281 then some (valueB a0.data.toList) else none
theorem quillworkref03_Value.calls (a0 : ByteArray) (r : Bool) (w : World) (h : quillworkref03_Value.f a0 = some r) :
    Calls Tryd.prog 24 #[.string a0] w fun e w' => e = .returned (.bool r) ∧ Below w.heap.size w w' := by
  unfold quillworkref03_Value.f at h
  by_cases hs : a0.size < 4294967281
  · rw [if_pos hs] at h
    obtain rfl := Option.some.inj h
    exact refvalue_walk a0 w hs
  · rw [if_neg hs] at h
    cases h
end Go.Proofs.YtlppeljofjomiaaDoor.X
