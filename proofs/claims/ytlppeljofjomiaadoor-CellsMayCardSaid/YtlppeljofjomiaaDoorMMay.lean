/- cells.May at every row of cells (fewer than 2^42): whether each cell may be, over a contract of cells.link; and the reference's Text at every row of cells: the bytes of their characters; nothing that lay has turned. The condition: cells.link tells K of each href. -/
import Derived.Test.YtlppeljofjomiaaDoorMMayA
import Derived.Test.YtlppeljofjomiaaDoorRunes
import Derived.Lib.SliceRun
import Derived.Shelf.GgClosure.Gives
namespace Go.Proofs.YtlppeljofjomiaaDoor.Xm
open Go.RowKit
open Go.Proofs.YtlppeljofjomiaaDoorW.PrintWords Go.Proofs.YtlppeljofjomiaaDoorW.PrintLast Go.Proofs.YtlppeljofjomiaaDoorW.PrintMore
open Go.Proofs.YtlppeljofjomiaaDoor.Pl

/-- The place of the first one that a predicate takes, from place k on, of the n that are left; or -1. -/
def findFrom (p : S51 → Bool) (l : List S51) : Nat → Nat → Int
  | 0, _ => -1
  | n + 1, k => if p (rd_T51 l k) then k else findFrom p l n (k + 1)
theorem findFrom_any (p : S51 → Bool) (l : List S51) : ∀ (n k : Nat), n + k = l.length → decide (0 ≤ findFrom p l n k) = (l.drop k).any p
  | 0, k, h => by
    rw [List.drop_eq_nil_of_le (by omega)]
    rfl
  | n + 1, k, h => by
    have hk : k < l.length := by omega
    have hr : rd_T51 l (k : Int) = l[k] := by
      unfold rd_T51
      rw [Int.toNat_natCast]
      simp [List.getD, List.getElem?_eq_getElem hk]
    rw [List.drop_eq_getElem_cons hk, List.any_cons, ← findFrom_any p l n (k + 1) (by omega), ← hr]
    have hs : findFrom p l (n + 1) k = if p (rd_T51 l (k : Int)) = true then (k : Int) else findFrom p l n (k + 1) := rfl
    rw [hs]
    cases hp : p (rd_T51 l (k : Int))
    · rw [if_neg (by simp)]; simp
    · rw [if_pos rfl]; simp
def mayX (K : ByteArray → Bool) (x : S51) : Bool := mayR x.f0 x.f1 (K x.f2)

set_option maxHeartbeats 4000000 in
set_option maxRecDepth 100000 in
theorem mayindex_walk (K : ByteArray → Bool) (A0 : Option Addr) (c0 : Nat) (l0 : List S51) (w : World) (hr0 : Kd.C k51 w A0 l0.length l0) (hl : l0.length < 4398046511104)
    (cL : ∀ x ∈ l0, ∀ W, Below w.heap.size w W → Calls Tryd.prog 49 #[.string x.f2] W fun e w' => e = .returned (.bool (K x.f2)) ∧ Below W.heap.size W w') :
    Calls Tryd.prog 73 #[.slice A0 l0.length c0, .func (.func 47) #[] #[]] w fun e w' => e = .returned (.int .i64 (findFrom (fun x => !mayX K x) l0 l0.length 0)) ∧ Below w.heap.size w w' := by
  have eg : ∀ args w, (callFunc 47 args).run Tryd.prog w = .ok (.enter 47 args) w := enters_of Tryd.func47 (by kernel_rfl) rfl
  have HR0 := Lib.hid hr0
  have CL := Lib.hid cL
  obtain ⟨R, hR⟩ : ∃ R, findFrom (fun x => !mayX K x) l0 l0.length 0 = R := ⟨_, rfl⟩
  rw [hR]
  have HR := Lib.hid hR
  obtain ⟨n, hn⟩ : ∃ n, l0.length = n := ⟨_, rfl⟩
  have Hn := Lib.hid hn
  rw [hn] at hl ⊢
  clear hr0 cL hR hn
  go_enter Tryd.func73, Tryd.ntmps73
  go_wp2
  go_loopw [8] (fun v8 wr => ∃ k : Nat, k ≤ n ∧ v8 = .int .i64 k ∧ Below w.heap.size w wr ∧ Hid (findFrom (fun x => !mayX K x) l0 (n - k) k = R)) (fun v8 _ => n - (intOf v8).toNat)
  case atStart => exact ⟨0, Nat.zero_le _, rfl, Below.refl _ _, by rw [← Hn.out]; exact HR.out⟩
  case round =>
    obtain ⟨k, hk, rfl, hb, Hf⟩ := hrel
    by_cases hlt : k < n
    · have hrw := Kd.C_below HR0.out hb
      obtain ⟨ad, e, h1, h2, h3⟩ := at_T51 hrw (k : Int) (by omega) (by rw [Hn.out]; omega)
      rw [Int.toNat_natCast] at h1 h2 h3
      have hmem : rd_T51 l0 (k : Int) ∈ l0 := by
        have hk2 : k < l0.length := by rw [Hn.out]; exact hlt
        unfold rd_T51
        rw [Int.toNat_natCast]
        simp [List.getD, List.getElem?_eq_getElem hk2]
      obtain ⟨x, hx⟩ : ∃ x, rd_T51 l0 k = x := ⟨_, rfl⟩
      rw [hx] at h1 h2 h3 hmem
      have hst : findFrom (fun x => !mayX K x) l0 (n - k) k = if (!mayX K x) = true then (k : Int) else findFrom (fun x => !mayX K x) l0 (n - (k + 1)) (k + 1) := by
        rw [show n - k = (n - (k + 1)) + 1 by omega, ← hx]; rfl
      have Hst := Lib.hid hst
      have cA := fun (W : World) (hb2 : Below w.heap.size w W) => may1_at x.f0 x.f1 x.f2 (K x.f2) W (fun W2 hb3 => CL.out x hmem W2 (below_step hb2 hb3))
      have CA := Lib.hid (show ∀ (W : World), Below w.heap.size w W → Calls Tryd.prog 47 #[.agg #[.int .i32 x.f0, .int .i64 x.f1, .string x.f2]] W fun e w' => e = .returned (.bool (!mayX K x)) ∧ Below W.heap.size W w' from cA)
      subst e
      clear hrw hx hst cA hmem
      cases hp : (!mayX K x)
      · have Hp := Lib.hid hp
        have CA2 := Lib.hid (hp ▸ CA.out)
        clear hp CA
        go_wp2_with fail
        refine (CA2.out _ hb).mono ?_
        rintro e W1 ⟨rfl, hb1⟩
        have Hb1 := Lib.hid (hb.trans (hb1.mono hb.size))
        clear hb1
        go_wp2
        go_roundw
        case rel => exact ⟨k + 1, by omega, by go_num, Hb1.out, by show _ = _; rw [← Hf.out, Hst.out, Hp.out]; rfl⟩
        case measure => simp [intOf]; omega
      · have Hp := Lib.hid hp
        have CA2 := Lib.hid (hp ▸ CA.out)
        clear hp CA
        go_wp2_with fail
        refine (CA2.out _ hb).mono ?_
        rintro e W1 ⟨rfl, hb1⟩
        have Hb1 := Lib.hid (hb.trans (hb1.mono hb.size))
        clear hb1
        go_wp2
        go_ret
        exact ⟨by rw [← Hf.out, Hst.out, Hp.out]; rfl, Hb1.out⟩
    · go_wp2
      go_ret
      exact ⟨by rw [← Hf.out, show n - k = 0 by omega]; rfl, hb⟩

set_option maxHeartbeats 1000000 in
set_option maxRecDepth 100000 in
theorem maycontains_walk (K : ByteArray → Bool) (A0 : Option Addr) (c0 : Nat) (l0 : List S51) (w : World) (hr0 : Kd.C k51 w A0 l0.length l0) (hl : l0.length < 4398046511104)
    (cL : ∀ x ∈ l0, ∀ W, Below w.heap.size w W → Calls Tryd.prog 49 #[.string x.f2] W fun e w' => e = .returned (.bool (K x.f2)) ∧ Below W.heap.size W w') :
    Calls Tryd.prog 46 #[.slice A0 l0.length c0, .func (.func 47) #[] #[]] w fun e w' => e = .returned (.bool (l0.any fun x => !mayX K x)) ∧ Below w.heap.size w w' := by
  have cI := mayindex_walk K A0 c0 l0 w hr0 hl cL
  have hA := findFrom_any (fun x => !mayX K x) l0 l0.length 0 (by omega)
  rw [List.drop_zero] at hA
  generalize findFrom (fun x => !mayX K x) l0 l0.length 0 = R at cI hA
  rw [← hA]
  generalize l0.length = n at cI ⊢
  have CI := Lib.hid cI
  clear hr0 hl cL hA cI
  go_enter Tryd.func46, Tryd.ntmps46
  go_wp2_with (go_at_call 73; refine CI.out.mono ?_; rintro e w' ⟨rfl, hb⟩; have HB := Lib.hid hb; clear hb)
  go_ret
  exact ⟨rfl, HB.out⟩
set_option maxHeartbeats 1000000 in
set_option maxRecDepth 100000 in
theorem may_walk (K : ByteArray → Bool) (A0 : Option Addr) (c0 : Nat) (l0 : List S51) (w : World) (hr0 : Kd.C k51 w A0 l0.length l0) (hl : l0.length < 4398046511104)
    (cL : ∀ x ∈ l0, ∀ W, Below w.heap.size w W → Calls Tryd.prog 49 #[.string x.f2] W fun e w' => e = .returned (.bool (K x.f2)) ∧ Below W.heap.size W w') :
    Calls Tryd.prog 15 #[.slice A0 l0.length c0] w fun e w' => e = .returned (.bool (l0.all fun x => mayX K x)) ∧ Below w.heap.size w w' := by
  have cI := maycontains_walk K A0 c0 l0 w hr0 hl cL
  have hA : (l0.all fun x => mayX K x) = !(l0.any fun x => !mayX K x) := by rw [List.not_any_eq_all_not]; simp
  rw [hA]
  generalize (l0.any fun x => !mayX K x) = R at cI ⊢
  generalize l0.length = n at cI ⊢
  have CI := Lib.hid cI
  clear hr0 hl cL hA cI
  go_enter Tryd.func15, Tryd.ntmps15
  go_wp2_with (go_at_call 46; refine CI.out.mono ?_; rintro e w' ⟨rfl, hb⟩; have HB := Lib.hid hb; clear hb)
  go_ret
  exact ⟨rfl, HB.out⟩

set_option maxHeartbeats 4000000 in
set_option maxRecDepth 100000 in
theorem reftext_walk (A0 : Option Addr) (c0 : Nat) (l0 : List S51) (w : World) (hr0 : Kd.C k51 w A0 l0.length l0) (hl : l0.length < 35184372088832) :
    Calls Tryd.prog 18 #[.slice A0 l0.length c0] w fun e w' => e = .returned (.string (runesBytes (l0.map (·.f0)))) ∧ Below w.heap.size w w' := by
  have HR0 := Lib.hid hr0
  obtain ⟨RS, hRS⟩ : ∃ RS, l0.map (·.f0) = RS := ⟨_, rfl⟩
  rw [hRS]
  have HRS := Lib.hid hRS
  obtain ⟨n, hn⟩ : ∃ n, l0.length = n := ⟨_, rfl⟩
  have Hn := Lib.hid hn
  rw [hn] at hl ⊢
  have HL := Lib.hid hl
  clear hr0 hn hRS
  go_enter Tryd.func18, Tryd.ntmps18
  go_wp2
  go_loopw [3, 4] (fun v3 v4 wr => Below w.heap.size w wr ∧ ∃ k : Nat, k ≤ n ∧ v4 = .int .i64 k ∧ Hid (Kd.R (Kd.int .i32) 21 wr w.heap.size (fun _ => True) v3 ((l0.take k).map (·.f0)))) (fun _ v4 _ => n - (intOf v4).toNat)
  case atStart => exact ⟨Below.refl _ _, 0, Nat.zero_le _, rfl, Kd.R_nil _ _ _ _ _⟩
  case round =>
    obtain ⟨hb, k, hk, rfl, HO⟩ := hrel
    have HB := Lib.hid hb
    clear hb
    by_cases hlt : k < n
    · have hrw := Kd.C_below HR0.out HB.out
      obtain ⟨ad, e, h1, h2, h3⟩ := at_T51 hrw (k : Int) (by omega) (by rw [Hn.out]; omega)
      rw [Int.toNat_natCast] at h1 h2 h3
      have hk2 : k < l0.length := by rw [Hn.out]; exact hlt
      have hx : rd_T51 l0 (k : Int) = l0[k] := by
        unfold rd_T51
        rw [Int.toNat_natCast]
        simp [List.getD, List.getElem?_eq_getElem hk2]
      have hst : (l0.take (k + 1)).map (·.f0) = (l0.take k).map (·.f0) ++ [(rd_T51 l0 (k : Int)).f0] := by
        rw [List.take_add_one, List.getElem?_eq_getElem hk2, hx, List.map_append]
        rfl
      have Hst := Lib.hid hst
      have hll : ((l0.take k).map (·.f0)).length = k := by rw [List.length_map, List.length_take]; omega
      have Hll := Lib.hid hll
      generalize rd_T51 l0 (k : Int) = x at h1 h2 h3 Hst
      subst e
      clear hrw hx hst hll hk2
      go_wp2_with ((with_reducible refine gate_builtin (b := .append) (xs := #[.tmp 11, .tmp 17]) rfl ?_); at_builtin; refine Kd.R_append (Kd.int .i32) (w0 := w) w.heap.size rfl (.tmp 11) (.tmp 17) 65 21 (.int .i32 0) 4 rfl Tryd.underlying65 info21 rfl (by decide) (by omega) u3 ((l0.take k).map (·.f0)) x.f0 [.int .i32 x.f0] (fun _ => True) (fun _ => False) rfl rfl ?aP (fun _ hk => hk.elim) ?aF ?aO ?aB ?aS ?aL ?_; (case aP => exact rfl); (case aB => exact HB.out); (case aF => exact (fun _ _ => trivial)); (case aO => exact HO.out); (case aS => exact HB.out.size); (case aL => have h1 := Hll.out; have h2 := HL.out; omega); intro v1 w11 ho hb3 hg hat; have HO3 := Lib.hid ho; have HB3 := Lib.hid hb3; clear ho hb3 hg hat)
      go_roundw
      case rel => exact ⟨HB3.out, k + 1, hlt, by go_num, by show Kd.R _ _ _ _ _ _ _; rw [Hst.out]; exact HO3.out⟩
      case measure => simp [intOf]; omega
    · obtain rfl : k = n := by omega
      have ht : l0.take k = l0 := List.take_of_length_le (by rw [Hn.out]; exact Nat.le_refl _)
      rw [ht, HRS.out] at HO
      obtain ⟨A, c, hv, hlc, hC⟩ := Kd.R_reads HO.out
      subst hv
      cases A with
      | none =>
        have h0 : RS = [] := by
          cases RS with
          | nil => rfl
          | cons x l => obtain ⟨ad, e, _⟩ := Kd.at_int hC 0 (by omega) (by simp); cases e
        subst h0
        have hst := fun (W : World) => run_convert_runes_nil (P := Tryd.prog) W 65 9 21 0 c Tryd.underlying65 Tryd.underlying21 Tryd.underlying9
        clear hC HO
        go_wp2
        go_ret
        exact ⟨rfl, HB.out⟩
      | some ad =>
        have hst := run_convert_runes (P := Tryd.prog) wr 65 9 21 ad RS.length c RS (Nat.le_refl _) Tryd.underlying65 Tryd.underlying21 Tryd.underlying9 (fun j hj => by
          obtain ⟨ad2, e, h1⟩ := Kd.at_int hC (j : Int) (by omega) (by omega)
          obtain rfl := Option.some.inj e
          rw [Int.toNat_natCast] at h1
          exact h1)
        rw [List.take_length] at hst
        clear hC HO
        go_wp2_with (simp only [hst])
        go_ret
        exact ⟨rfl, HB.out⟩
end Go.Proofs.YtlppeljofjomiaaDoor.Xm
