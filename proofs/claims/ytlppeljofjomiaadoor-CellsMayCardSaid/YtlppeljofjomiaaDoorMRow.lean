/- slices.Clone at rows of cells: the same row in memory of its own; []rune(s): a text's characters. At every row of fewer than 2^42 cells, every text of fewer than 2^45 bytes. -/
import Derived.Test.YtlppeljofjomiaaDoorXmx0
import Derived.Test.YtlppeljofjomiaaDoorRunes
import Derived.WalkKit
import Derived.WalkSpells
import Derived.Lib.SliceRun
import Derived.Lib.Hide
namespace Go.Proofs.YtlppeljofjomiaaDoor.Xm
open Go.RowKit
open Go.Proofs.YtlppeljofjomiaaDoorW.PrintWords Go.Proofs.YtlppeljofjomiaaDoorW.PrintLast Go.Proofs.YtlppeljofjomiaaDoorW.PrintMore
open Go.Proofs.YtlppeljofjomiaaDoor.Pl

set_option maxHeartbeats 1000000 in
theorem clone_walk (A0 : Option Addr) (c0 : Nat) (l0 : List S51) (w : World) (hr0 : Kd.C k51 w A0 l0.length l0) (hl : l0.length < 4398046511104) :
    Calls Tryd.prog 88 #[.slice A0 l0.length c0] w fun e w' => ∃ v0_ : Value, e = .returned (v0_) ∧ Kd.R k51 51 w' w.heap.size (fun _ => True) v0_ l0 ∧ Below w.heap.size w w' := by
  have hs0 := fun (W : World) (a : Option Addr) (n c : Nat) => Lib.run_eql_slice_nil (P := Tryd.prog) W 30 51 a n c 0 0 Tryd.underlying30
  cases A0 with
  | none =>
    have h0 : l0 = [] := by
      cases l0 with
      | nil => rfl
      | cons x l => obtain ⟨ad, e, _⟩ := at_T51 hr0 0 (by omega) (by simp); cases e
    subst h0
    go_enter Tryd.func88, Tryd.ntmps88
    go_wp2
    go_ret
    exact ⟨_, rfl, Kd.R_nil _ _ _ _ _, Below.refl _ _⟩
  | some ad =>
    have HR0 := Aside0.mk hr0
    have HL := Aside0.mk hl
    have HB := Aside0.mk (Below.refl w.heap.size w)
    obtain ⟨y0, hy0⟩ : ∃ y0 : List S51, y0 = [] := ⟨_, rfl⟩
    have Ny0 := Aside0.mk hy0
    clear hr0 hl hy0
    go_enter Tryd.func88, Tryd.ntmps88
    go_wp2_with (first | ((with_reducible refine gate_dst (N := 5) rfl ?_); refine Kd.R_lit k51 _ 51 ?hg (N := 5) ?hd (xs := ([] : List (S51))) (inner := []) (ok := fun _ => True) (okp := fun _ => True) ?hr ?hp (fun _ hk => hk) trivial (Below.refl _ _) (Nat.le_refl _) (by simp) ?_; (case hd => rfl); (case hg => rfl); (case hr => first | (go_simp; done) | (go_simp; rfl)); (case hp => exact (Reps.none _ _)); intro v274 w3 ho4 hb hg_ hnew_; clear hg_ hnew_; (first | rw [← Ny0.out] at ho4 | (simp only [Int.reduceToNat] at ho4; rw [← Ny0.out] at ho4)); have n0_ := Aside0.mk (Kd.R_lower ho4 (below_size HB.out)); have n1_ := Aside0.mk (below_step HB.out hb); clear HB; have HO275 := n0_; have HB := n1_; clear n0_ n1_; clear hb ho4) | ((with_reducible refine gate_builtin (b := .append) (xs := #[.tmp 5, .tmp 6]) rfl ?_); at_builtin; refine Kd.R_append_rows k51 (w0 := w) w.heap.size rfl (.tmp 5) (.tmp 6) 30 51 (.agg #[(.int .i32 0), (.int .i64 0), (.string ⟨#[]⟩)]) 32 rfl Tryd.underlying30 info51 rfl (by decide) (by omega) v274 y0 l0 _ _ _ (fun _ => True) (fun _ => False) rfl rfl ?aO ?aR (fun _ _ h => h) (fun _ h => h.elim) ?aF ?aB ?aS ?aL ?_; (case aR => exact Kd.C_below HR0.out HB.out); (case aB => exact HB.out); (case aF => exact (fun _ _ => trivial)); (case aO => exact HO275.out); (case aS => exact below_size HB.out); (case aL => rw [Ny0.out, List.length_nil]; have := HL.out; omega); intro v277 w5 ho hb hg hat; have n0_ := Aside0.mk (hb); have n1_ := Aside0.mk (ho); clear HB; clear HO275; have HB := n0_; have HO278 := n1_; clear n0_ n1_; clear ho hb hg hat))
    go_ret
    have h1 := HO278.out
    rw [Ny0.out, List.nil_append] at h1
    exact ⟨_, rfl, h1, HB.out⟩

set_option maxHeartbeats 1000000 in
theorem runes_walk (s : ByteArray) (w : World) (hs : s.size < 35184372088832) :
    Calls Tryd.prog 55 #[.string s] w fun e w' => ∃ v0_ : Value, e = .returned (v0_) ∧ Kd.R (Kd.int .i32) 21 w' w.heap.size (fun _ => True) v0_ (runesI s.data.toList) ∧ Below w.heap.size w w' := by
  have hle := runesI_le s.data.toList.length s.data.toList (Nat.le_refl _)
  rw [← Lib.size_eq] at hle
  have hcv := fun (W : World) => run_runes_of_string (P := Tryd.prog) W 9 65 21 s Tryd.underlying9 Tryd.underlying65 Tryd.underlying21 (by rw [runesAll_eq]; simp; omega)
  simp only [runesAll_eq, List.size_toArray, List.length_map] at hcv
  generalize runesI s.data.toList = rs at hcv hle ⊢
  have HL := Lib.hid hle
  have hcap := grownCap_ge w rs.length 0 21
  have HC := Lib.hid hcap
  have HM := Lib.hid (grownCap_le_maxLen w rs.length 0 21 (by unfold maxLen; omega))
  clear hle hs hcap
  go_enter Tryd.func55, Tryd.ntmps55
  go_wp2
  go_ret
  refine ⟨.slice (some ⟨w.heap.size, 0, none⟩) rs.length (grownCap w rs.length 0 21), rfl, ?_, (Below.refl _ _).drew.alloc (Nat.le_refl _) _⟩
  refine Kd.R_of_own (enc := Value.int .i32) (e := 21) ⟨by rw [Nat.mul_one]; exact List.length_map .., .inr ⟨w.heap.size, grownCap w rs.length 0 21, _, rfl, Nat.le_refl _, (show (w.heap.push _)[w.heap.size]? = _ from Array.getElem?_push_size), HC.out, HM.out, ?_, ?_⟩⟩ (fun _ _ => trivial)
  · have h1 := HC.out
    rw [Array.size_append, List.size_toArray, List.length_map, Array.size_replicate]
    omega
  · rw [Array.toList_append, List.take_append_of_le_length (by rw [List.length_map]; omega), List.take_of_length_le (by rw [List.length_map]; omega)]
    rfl
end Go.Proofs.YtlppeljofjomiaaDoor.Xm
