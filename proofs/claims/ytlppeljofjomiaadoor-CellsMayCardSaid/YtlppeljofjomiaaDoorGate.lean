/- What every row of this seat asks beside its walk: a world that lays the two tables; that the two tables hold what they list and internal/bytealg.MaxLen some number; a row of attributes opened: its elements, their sizes. No condition. -/
import Derived.Test.YtlppeljofjomiaaDoorRows
import Derived.Test.YtlppeljofjomiaaDoorEValue
import Derived.Test.YtlppeljofjomiaaDoorShelf
import Derived.WalkKit
import Derived.ProofKit
import Derived.OpenShut
import Derived.ShutString
import Derived.Carry
import Derived.SizedLaws
import Derived.Deep.DeepHandedRow
import Derived.Deep.Slices
import Derived.Lib.LaidU8T
import Derived.Shelf.Vars
namespace Go.Proofs.YtlppeljofjomiaaDoor.Gate
open Go.ChangeShapes Go.WideShapes Go.ChangeAt Go.RowKit Go.Proofs.YtlppeljofjomiaaDoor.X Go.Proofs.YtlppeljofjomiaaDoorW.PrintWords

set_option maxRecDepth 100000
theorem laidOut : laidOutB Tryd.prog = true := by kernel_rfl
theorem own : ownKnob Tryd.prog.godebug = none := by kernel_rfl
theorem u8t : U8Types Tryd.prog Tryd.lays230_ren := { t5 := Tryd.underlying5, t119 := Tryd.underlying90, t138 := Tryd.underlying92, t139 := Tryd.underlying93 }
theorem u8x : U8Extra Tryd.prog Tryd.lays230_ren := ⟨by kernel_rfl, by kernel_rfl, by kernel_rfl, by kernel_rfl, by kernel_rfl, by kernel_rfl, by kernel_rfl⟩
theorem first_is : Rows.laid_unicode_utf8_first = Lib.firstData := by kernel_rfl
theorem accept_is : (Rows.laid_unicode_utf8_acceptRanges : DataW Unit) = Lib.acceptData := by kernel_rfl
/-- What the row lists gives what the walks ask. -/
theorem tabs {W : World} (hL : laidMetH Tryd.prog [("unicode/utf8.acceptRanges", Rows.laid_unicode_utf8_acceptRanges), ("unicode/utf8.first", Rows.laid_unicode_utf8_first)] W) (hsh : W.ShapedOpen Tryd.prog) : Tabs W := by
  have h1 := Lib.laidMet.reads hL (.head _)
  have h2 := Lib.laidMet.reads hL (.tail _ (.head _))
  rw [accept_is] at h1
  rw [first_is] at h2
  exact ⟨utf8Tabs_of_readsT u8t u8x h2 h1, cell_of_shapedOpen_int (g := 2) (zero := #[.int .i64 0]) hsh (of_decide_eq_true (by kernel_rfl)) (by kernel_rfl) (by kernel_rfl) (by kernel_rfl) (by kernel_rfl) Tryd.underlying3⟩

/-- The settled world, the two tables holding what their initialisers lay. -/
noncomputable def laidWorld (os : Os) : World :=
  let put (h : Array Obj) (g : Nat) (cs : Array Value) : Array Obj := h.modify g fun
    | .cells _ t frozen => .cells cs t frozen
    | o => o
  let w0 := World.holding Tryd.prog os ⟨#[], #[], []⟩
  let h1 := put w0.heap 0 (Lib.firstTab.map fun z => Value.int .u8 z).toArray
  let h2 := put h1 1 ((List.range 16).flatMap fun i => [Value.int .u8 (Lib.accLo i), Value.int .u8 (Lib.accHi i)]).toArray
  { w0 with heap := h2 }

/-! ### a row of attributes -/
section
variable {H : Type} {enc : TypeId × Value → H} {W : World}
instance : Inhabited S27 := ⟨z27⟩
theorem len_two {α : Type} {l : List α} (h : l.length = 2) : ∃ a b, l = [a, b] := by
  cases l with
  | nil => cases h
  | cons a l =>
    cases l with
    | nil => cases h
    | cons b l =>
      cases l with
      | nil => exact ⟨a, b, rfl⟩
      | cons c l => simp at h
theorem open_attr {sp : Nat → Bool} {held : Bool} {fuel base : Nat} {cs : List Value} {x : DataW H × List MemPlace} (h : DataW.trod enc Tryd.prog W base sp held fuel 27 cs = some x) :
    ∃ a : S27, cs = [.string a.f0, .string a.f1] ∧ x = (.agg [.lit (.string a.f0.data.toList), .lit (.string a.f1.data.toList)], []) := by
  obtain ⟨xs, n, rfl, rfl, hl, hx, hf⟩ := DataW.trod_struct Tryd.underlying27 h
  have hl2 : cs.length = 2 := hl.trans (by kernel_rfl)
  have hx2 : xs.length = 2 := hx
  obtain ⟨c0, c1, rfl⟩ := len_two hl2
  obtain ⟨x0, x1, rfl⟩ := len_two hx2
  have h0 : DataW.trod enc Tryd.prog W base sp held n 9 (([c0, c1].drop 0).take (Tryd.prog.cellsOf 9)) = some x0 := hf 0 _ rfl
  have h1 : DataW.trod enc Tryd.prog W base sp held n 9 (([c0, c1].drop 1).take (Tryd.prog.cellsOf 9)) = some x1 := hf 1 _ rfl
  have e1 : Tryd.prog.cellsOf 9 = 1 := by kernel_rfl
  rw [e1] at h0 h1
  obtain ⟨s0, e0, rfl, _⟩ := DataW.trod_string Tryd.underlying9 h0
  obtain ⟨s1, e1, rfl, _⟩ := DataW.trod_string Tryd.underlying9 h1
  simp at e0 e1
  subst e0
  subst e1
  exact ⟨⟨s0, s1⟩, rfl, rfl⟩
theorem cells_get {base : Nat} {a : Addr} {n : Nat} {cs : List Value} (h : W.cells? base a n = some cs) (i : Nat) (hi : i < n) : W.cell? (a.add i) = cs[i]? := by
  unfold World.cells? at h
  split at h
  · exact mapM_some_get h i i (by simp [hi])
  · cases h
theorem weights_slice {e t : TypeId} {elems spare : List (DataW H)} (hu : Tryd.prog.underlying t = some (.slice e)) (hw : ∀ n ∈ DataW.weights Tryd.prog t (.slice elems spare), n ≤ reachBytes) :
    (elems.length + spare.length) * Tryd.prog.bytesOf e ≤ reachBytes ∧ ∀ d ∈ elems, ∀ n ∈ d.weights Tryd.prog e, n ≤ reachBytes := by
  have hall : ∀ (l : List (DataW H)) d, d ∈ l → ∀ n ∈ d.weights Tryd.prog e, n ∈ DataW.weightsAll Tryd.prog e l := by
    intro l
    induction l with
    | nil => intro d hd; cases hd
    | cons x l ih =>
      intro d hd n hn
      simp only [DataW.weightsAll, List.mem_append]
      rcases List.mem_cons.1 hd with rfl | hd
      · exact .inl hn
      · exact .inr (ih d hd n hn)
  refine ⟨hw _ (by simp [DataW.weights, hu]), fun d hd n hn => hw n ?_⟩
  simp only [DataW.weights, hu, List.mem_cons, List.mem_append]
  exact .inr (.inl (hall _ _ hd n hn))
theorem open_attrs {r : Reach} {b0 : Nat} {v : Value} {d : DataW H} {ps : List MemPlace} (hv : Value.okWide Tryd.prog W r b0 22 v) (hd : DataW.Trod enc Tryd.prog W 0 (fun _ => true) true 22 v d ps) (hw : ∀ n ∈ d.weights Tryd.prog 22, n ≤ reachBytes) :
    ∃ A c xs, v = .slice A xs.length c ∧ xs.length ≤ c ∧ Kd.C k27 W A xs.length xs ∧ (∀ a ∈ xs, a.f0.size ≤ 140737488351232 ∧ a.f1.size ≤ 140737488351232) ∧ xs.length * 32 ≤ 140737488351232 := by
  obtain ⟨A, n, c, rfl⟩ := okWide_slice Tryd.underlying22 hv
  obtain ⟨fuel, hf⟩ := hd
  rcases DataW.trod_slice Tryd.underlying22 hf with ⟨h0, hx⟩ | ⟨a, len, cap, elems, rest, m, rfl, hcs, hx, hb, hlc, hcap, hlen, hel, hsp, hns⟩
  · simp [Value.cells] at h0
    obtain ⟨rfl, rfl, rfl⟩ := h0
    exact ⟨none, 0, [], rfl, Nat.le_refl _, ⟨rfl, by decide, fun h => absurd h (by simp)⟩, by simp, by decide⟩
  · simp [Value.cells] at hcs
    obtain ⟨rfl, rfl, rfl⟩ := hcs
    have hd : d = .slice (elems.map (·.1)) (rest.map (·.1)) := congrArg Prod.fst hx
    subst hd
    obtain ⟨w1, w2⟩ := weights_slice Tryd.underlying22 hw
    have e27 : Tryd.prog.cellsOf 27 = 2 := by kernel_rfl
    have b27 : Tryd.prog.bytesOf 27 = 32 := by kernel_rfl
    rw [b27] at w1
    simp only [List.length_map, reachBytes] at w1
    have each : ∀ i, i < n → ∃ x : S27, W.cell? (a.add (i * 2 + 0)) = some (.string x.f0) ∧ W.cell? (a.add (i * 2 + 1)) = some (.string x.f1) ∧ elems[i]? = some (.agg [.lit (.string x.f0.data.toList), .lit (.string x.f1.data.toList)], []) := fun i hi => by
      have h1 := hel i hi
      rw [e27] at h1
      rw [List.getElem?_eq_getElem (by omega)] at h1 ⊢
      obtain ⟨cs, hc, ht⟩ := Option.bind_eq_some_iff.1 h1
      obtain ⟨x, rfl, hx2⟩ := open_attr ht
      refine ⟨x, ?_, ?_, by rw [hx2]⟩
      · rw [← Deep.add_add]
        exact cells_get hc 0 (by decide)
      · rw [← Deep.add_add]
        exact cells_get hc 1 (by decide)
    obtain ⟨X, hX⟩ := Deep.choose_lt each
    have hl : ((List.range n).map X).length = n := by simp
    refine ⟨some a, c, (List.range n).map X, by rw [hl], by rw [hl]; exact hlc, ⟨rfl, by rw [hl]; unfold maxLen at hcap; omega, fun _ => ⟨a, rfl, fun j p hj => ?_⟩⟩, fun x hx2 => ?_, by rw [hl]; omega⟩
    · rw [List.getElem?_map] at hj
      obtain ⟨i, hi, rfl⟩ := Option.map_eq_some_iff.1 hj
      have hlt : j < n := by
        have := (List.getElem?_eq_some_iff.1 hi).1
        simpa using this
      rw [List.getElem?_range hlt] at hi
      obtain rfl := Option.some.inj hi
      obtain ⟨h1, h2, _⟩ := hX j hlt
      refine ⟨_, rfl, k27_mk W (X j), fun q u hq => ?_⟩
      match q, hq with
      | 0, hq => obtain rfl := Option.some.inj hq; exact h1
      | 1, hq => obtain rfl := Option.some.inj hq; exact h2
      | q + 2, hq => simp at hq
    · obtain ⟨i, hi, rfl⟩ := List.mem_map.1 hx2
      have hlt : i < n := by simpa using hi
      obtain ⟨_, _, h3⟩ := hX i hlt
      have h4 := w2 (.agg [.lit (.string (X i).f0.data.toList), .lit (.string (X i).f1.data.toList)]) (List.mem_map.2 ⟨_, List.mem_of_getElem? h3, rfl⟩)
      have h5 := h4 (X i).f0.data.toList.length (by simp [DataW.weights, Tryd.underlying27, DataW.weightsEach])
      have h6 := h4 (X i).f1.data.toList.length (by simp [DataW.weights, Tryd.underlying27, DataW.weightsEach])
      rw [← Lib.size_eq] at h5 h6
      exact ⟨h5, h6⟩
end
/-- The weights of one of the values that came in. -/
theorem weight_at {H : Type} {ts : List TypeId} {ds : List (DataW H)} (h : (DataW.weightsEach Tryd.prog ts ds).all (· ≤ reachBytes) = true) {j : Nat} {t : TypeId} {d : DataW H} (ht : ts[j]? = some t) (hd : ds[j]? = some d) : ∀ n ∈ d.weights Tryd.prog t, n ≤ reachBytes := fun n hn => by
  have := List.all_eq_true.1 h _ (DataW.weights_mem_each ht hd n hn)
  simpa using this
end Go.Proofs.YtlppeljofjomiaaDoor.Gate
