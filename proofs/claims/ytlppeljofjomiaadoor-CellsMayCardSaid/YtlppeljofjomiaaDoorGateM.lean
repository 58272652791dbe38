/- What the rows of this seat ask beside their walks: a row of cells opened: its elements, their sizes. No condition. -/
import Derived.Test.YtlppeljofjomiaaDoorRows
import Derived.Test.YtlppeljofjomiaaDoorXmx0
import Derived.WalkKit
import Derived.ProofKit
import Derived.OpenShut
import Derived.ShutString
import Derived.ChangeArms
import Derived.Carry
import Derived.SizedLaws
import Derived.Deep.DeepHandedRow
import Derived.Deep.Slices
import Derived.Lib.Strings
namespace Go.Proofs.YtlppeljofjomiaaDoor.GateM
open Go.ChangeShapes Go.WideShapes Go.ChangeAt Go.RowKit Go.Proofs.YtlppeljofjomiaaDoor.Xm Go.Proofs.YtlppeljofjomiaaDoorW.PrintWords

set_option maxRecDepth 100000
theorem laidOut : laidOutB Tryd.prog = true := by kernel_rfl

/-! ### a row of cells -/
section
variable {H : Type} {enc : TypeId × Value → H} {W : World}
instance : Inhabited S51 := ⟨z51⟩
theorem len_three {α : Type} {l : List α} (h : l.length = 3) : ∃ a b c, l = [a, b, c] := by
  cases l with
  | nil => cases h
  | cons a l =>
    cases l with
    | nil => cases h
    | cons b l =>
      cases l with
      | nil => cases h
      | cons c l =>
        cases l with
        | nil => exact ⟨a, b, c, rfl⟩
        | cons d l => simp at h
def cellD {H : Type} (x : S51) : DataW H := .agg [.lit (.int .i32 x.f0), .lit (.int .i64 x.f1), .lit (.string x.f2.data.toList)]
theorem open_cell {sp : Nat → Bool} {held : Bool} {fuel base : Nat} {cs : List Value} {x : DataW H × List MemPlace} (h : DataW.trod enc Tryd.prog W base sp held fuel 51 cs = some x) :
    ∃ a : S51, cs = [.int .i32 a.f0, .int .i64 a.f1, .string a.f2] ∧ x = (cellD a, []) := by
  obtain ⟨xs, n, rfl, rfl, hl, hx, hf⟩ := DataW.trod_struct Tryd.underlying51 h
  have hl2 : cs.length = 3 := hl.trans (by kernel_rfl)
  have hx2 : xs.length = 3 := hx
  obtain ⟨c0, c1, c2, rfl⟩ := len_three hl2
  obtain ⟨x0, x1, x2, rfl⟩ := len_three hx2
  have e1 : Tryd.prog.cellsOf 21 = 1 := by kernel_rfl
  have e2 : Tryd.prog.cellsOf 3 = 1 := by kernel_rfl
  have e3 : Tryd.prog.cellsOf 9 = 1 := by kernel_rfl
  have h0 : DataW.trod enc Tryd.prog W base sp held n 21 (([c0, c1, c2].drop 0).take (Tryd.prog.cellsOf 21)) = some x0 := hf 0 _ rfl
  have h1 : DataW.trod enc Tryd.prog W base sp held n 3 (([c0, c1, c2].drop 1).take (Tryd.prog.cellsOf 3)) = some x1 := hf 1 _ rfl
  have h2 : DataW.trod enc Tryd.prog W base sp held n 9 (([c0, c1, c2].drop 2).take (Tryd.prog.cellsOf 9)) = some x2 := hf 2 _ rfl
  rw [e1] at h0
  rw [e2] at h1
  rw [e3] at h2
  obtain ⟨s0, q0, rfl, _⟩ := DataW.trod_int Tryd.underlying21 h0
  obtain ⟨s1, q1, rfl, _⟩ := DataW.trod_int Tryd.underlying3 h1
  obtain ⟨s2, q2, rfl, _⟩ := DataW.trod_string Tryd.underlying9 h2
  simp at q0 q1 q2
  subst q0
  subst q1
  subst q2
  exact ⟨⟨s0, s1, s2⟩, rfl, rfl⟩
theorem cells_get {base : Nat} {a : Addr} {n : Nat} {cs : List Value} (h : W.cells? base a n = some cs) (i : Nat) (hi : i < n) : W.cell? (a.add i) = cs[i]? := by
  unfold World.cells? at h
  split at h
  · exact mapM_some_get h i i (by simp [hi])
  · cases h
theorem weights_slice {e t : TypeId} {elems spare : List (DataW H)} (hu : Tryd.prog.underlying t = some (.slice e)) (hw : ∀ n ∈ DataW.weights Tryd.prog t (.slice elems spare), n ≤ reachBytes) :
    (elems.length + spare.length) * Tryd.prog.bytesOf e ≤ reachBytes ∧ ∀ d ∈ elems, ∀ n ∈ d.weights Tryd.prog e, n ≤ reachBytes := by
  have hall : ∀ (l : List (DataW H)) d, d ∈ l → ∀ n ∈ d.weights Tryd.prog e, n ∈ DataW.weightsAll Tryd.prog e l := by
    intro l
    induction l with
    | nil => intro d hd; cases hd
    | cons x l ih =>
      intro d hd n hn
      simp only [DataW.weightsAll, List.mem_append]
      rcases List.mem_cons.1 hd with rfl | hd
      · exact .inl hn
      · exact .inr (ih d hd n hn)
  refine ⟨hw _ (by simp [DataW.weights, hu]), fun d hd n hn => hw n ?_⟩
  simp only [DataW.weights, hu, List.mem_cons, List.mem_append]
  exact .inr (.inl (hall _ _ hd n hn))
theorem open_cells {r : Reach} {b0 : Nat} {v : Value} {d : DataW H} {ps : List MemPlace} (hv : Value.okWide Tryd.prog W r b0 30 v) (hd : DataW.Trod enc Tryd.prog W 0 (fun _ => true) true 30 v d ps) (hw : ∀ n ∈ d.weights Tryd.prog 30, n ≤ reachBytes) :
    ∃ A c xs, v = .slice A xs.length c ∧ xs.length ≤ c ∧ Kd.C k51 W A xs.length xs ∧ (∀ a ∈ xs, a.f2.size ≤ 140737488351232) ∧ xs.length * 32 ≤ 140737488351232 := by
  obtain ⟨A, n, c, rfl⟩ := okWide_slice Tryd.underlying30 hv
  obtain ⟨fuel, hf⟩ := hd
  rcases DataW.trod_slice Tryd.underlying30 hf with ⟨h0, hx⟩ | ⟨a, len, cap, elems, rest, m, rfl, hcs, hx, hb, hlc, hcap, hlen, hel, hsp, hns⟩
  · simp [Value.cells] at h0
    obtain ⟨rfl, rfl, rfl⟩ := h0
    exact ⟨none, 0, [], rfl, Nat.le_refl _, ⟨rfl, by decide, fun h => absurd h (by simp)⟩, by simp, by decide⟩
  · simp [Value.cells] at hcs
    obtain ⟨rfl, rfl, rfl⟩ := hcs
    have hd : d = .slice (elems.map (·.1)) (rest.map (·.1)) := congrArg Prod.fst hx
    subst hd
    obtain ⟨w1, w2⟩ := weights_slice Tryd.underlying30 hw
    have e27 : Tryd.prog.cellsOf 51 = 3 := by kernel_rfl
    have b27 : Tryd.prog.bytesOf 51 = 32 := by kernel_rfl
    rw [b27] at w1
    simp only [List.length_map, reachBytes] at w1
    have each : ∀ i, i < n → ∃ x : S51, W.cell? (a.add (i * 3 + 0)) = some (.int .i32 x.f0) ∧ W.cell? (a.add (i * 3 + 1)) = some (.int .i64 x.f1) ∧ W.cell? (a.add (i * 3 + 2)) = some (.string x.f2) ∧ elems[i]? = some (cellD x, []) := fun i hi => by
      have h1 := hel i hi
      rw [e27] at h1
      rw [List.getElem?_eq_getElem (by omega)] at h1 ⊢
      obtain ⟨cs, hc, ht⟩ := Option.bind_eq_some_iff.1 h1
      obtain ⟨x, rfl, hx2⟩ := open_cell ht
      refine ⟨x, ?_, ?_, ?_, by rw [hx2]⟩
      · rw [← Deep.add_add]
        exact cells_get hc 0 (by decide)
      · rw [← Deep.add_add]
        exact cells_get hc 1 (by decide)
      · rw [← Deep.add_add]
        exact cells_get hc 2 (by decide)
    obtain ⟨X, hX⟩ := Deep.choose_lt each
    have hl : ((List.range n).map X).length = n := by simp
    refine ⟨some a, c, (List.range n).map X, by rw [hl], by rw [hl]; exact hlc, ⟨rfl, by rw [hl]; unfold maxLen at hcap; omega, fun _ => ⟨a, rfl, fun j p hj => ?_⟩⟩, fun x hx2 => ?_, by rw [hl]; omega⟩
    · rw [List.getElem?_map] at hj
      obtain ⟨i, hi, rfl⟩ := Option.map_eq_some_iff.1 hj
      have hlt : j < n := by
        have := (List.getElem?_eq_some_iff.1 hi).1
        simpa using this
      rw [List.getElem?_range hlt] at hi
      obtain rfl := Option.some.inj hi
      obtain ⟨h1, h2, h3, _⟩ := hX j hlt
      refine ⟨_, rfl, k51_mk W (X j), fun q u hq => ?_⟩
      match q, hq with
      | 0, hq => obtain rfl := Option.some.inj hq; exact h1
      | 1, hq => obtain rfl := Option.some.inj hq; exact h2
      | 2, hq => obtain rfl := Option.some.inj hq; exact h3
      | q + 3, hq => simp at hq
    · obtain ⟨i, hi, rfl⟩ := List.mem_map.1 hx2
      have hlt : i < n := by simpa using hi
      obtain ⟨_, _, _, h3⟩ := hX i hlt
      have h4 := w2 (cellD (X i)) (List.mem_map.2 ⟨_, List.mem_of_getElem? h3, rfl⟩)
      have h5 := h4 (X i).f2.data.toList.length (by simp [cellD, DataW.weights, Tryd.underlying51, DataW.weightsEach])
      rw [← Lib.size_eq] at h5
      exact h5
end
/-- The weights of one of the values that came in. -/
theorem weight_at {H : Type} {ts : List TypeId} {ds : List (DataW H)} (h : (DataW.weightsEach Tryd.prog ts ds).all (· ≤ reachBytes) = true) {j : Nat} {t : TypeId} {d : DataW H} (ht : ts[j]? = some t) (hd : ds[j]? = some d) : ∀ n ∈ d.weights Tryd.prog t, n ≤ reachBytes := fun n hn => by
  have := List.all_eq_true.1 h _ (DataW.weights_mem_each ht hd n hn)
  simpa using this
end Go.Proofs.YtlppeljofjomiaaDoor.GateM
