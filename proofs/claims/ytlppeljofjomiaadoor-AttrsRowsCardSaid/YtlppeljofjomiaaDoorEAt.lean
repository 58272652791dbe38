/- attrs.at at every row (of fewer than 2^42 attributes) and every name: the place of the first attribute of that name, or -1; and slices.Clone at rows of attributes: the same row in memory of its own. -/
import Derived.Test.YtlppeljofjomiaaDoorXx0
import Derived.Test.YtlppeljofjomiaaDoorPlain
import Derived.WalkKit
import Derived.WalkSpells
import Derived.Lib.SliceRun
import Derived.Shelf.GgClosure.Gives
import Derived.Lib.Hide
namespace Go.Proofs.YtlppeljofjomiaaDoor.X
open Go.RowKit
open Go.Proofs.YtlppeljofjomiaaDoorW.PrintWords Go.Proofs.YtlppeljofjomiaaDoorW.PrintLast Go.Proofs.YtlppeljofjomiaaDoorW.PrintMore

/-- The place of the first one that a predicate takes, from place k on, of the n that are left; or -1. -/
def findFrom (p : S27 → Bool) (l : List S27) : Nat → Nat → Int
  | 0, _ => -1
  | n + 1, k => if p (rd_T27 l k) then k else findFrom p l n (k + 1)
def findI (p : S27 → Bool) (l : List S27) : Int := findFrom p l l.length 0
def isName (name : ByteArray) (a : S27) : Bool := a.f0.toList == name.toList

theorem cells27 {w : World} {A : Option Addr} {n : Nat} {xs : List S27} (h : Kd.C k27 w A n xs) (ad : Addr) (hA : A = some ad) (i : Nat) (hi : i < n) :
    w.cell? (ad.add (i * 2)) = some (.string (rd_T27 xs i).f0) ∧ w.cell? ⟨(ad.add (i * 2)).block, (ad.add (i * 2)).off + 1, none⟩ = some (.string (rd_T27 xs i).f1) := by
  obtain ⟨ad2, e, h1, h2⟩ := at_T27 h (i : Int) (by omega) (by omega)
  rw [hA] at e
  obtain rfl := Option.some.inj e
  rw [Int.toNat_natCast] at h1 h2
  exact ⟨h1, h2⟩

set_option maxHeartbeats 1000000 in
/-- The function that tells whether an attribute bears a name. -/
theorem at1_pays (name : ByteArray) (B : Nat) (a : S27) (w : World) (hB : B < w.heap.size) (hc : w.cell? ⟨B, 0, none⟩ = some (.string name)) :
    Calls Tryd.prog 64 #[.agg #[.string a.f0, .string a.f1], .pointer (some ⟨B, 0, none⟩)] w fun e w' => e = .returned (.bool (isName name a)) ∧ Below w.heap.size w w' := by
  have hne : B ≠ w.heap.size := by omega
  unfold isName
  go_enter Tryd.func64, Tryd.ntmps64
  go_wp2
  go_ret
  exact ⟨rfl, (Below.refl _ _).alloc (Nat.le_refl _) _⟩

set_option maxHeartbeats 4000000 in
set_option maxRecDepth 100000 in
theorem index_walk (name : ByteArray) (B : Nat) (A0 : Option Addr) (c0 : Nat) (l0 : List S27) (w : World) (hr0 : Kd.C k27 w A0 l0.length l0) (hl : l0.length < 4398046511104) (hB : B < w.heap.size) (hc : w.cell? ⟨B, 0, none⟩ = some (.string name)) :
    Calls Tryd.prog 63 #[.slice A0 l0.length c0, .func (.func 64) #[] #[.pointer (some ⟨B, 0, none⟩)]] w fun e w' => e = .returned (.int .i64 (findI (isName name) l0)) ∧ Below w.heap.size w w' := by
  have eg : ∀ args w, (callFunc 64 args).run Tryd.prog w = .ok (.enter 64 args) w := enters_of Tryd.func64 (by kernel_rfl) rfl
  have HR0 := Lib.hid hr0
  have HC := Lib.hid hc
  obtain ⟨R, hR⟩ : ∃ R, findI (isName name) l0 = R := ⟨_, rfl⟩
  rw [hR]
  have HR := Lib.hid (show findFrom (isName name) l0 l0.length 0 = R from hR)
  obtain ⟨n, hn⟩ : ∃ n, l0.length = n := ⟨_, rfl⟩
  have Hn := Lib.hid hn
  rw [hn] at hl ⊢
  clear hr0 hc hR hn
  go_enter Tryd.func63, Tryd.ntmps63
  go_wp2
  go_loopw [8] (fun v8 wr => ∃ k : Nat, k ≤ n ∧ v8 = .int .i64 k ∧ Below w.heap.size w wr ∧ Hid (findFrom (isName name) l0 (n - k) k = R)) (fun v8 _ => n - (intOf v8).toNat)
  case atStart => exact ⟨0, Nat.zero_le _, rfl, Below.refl _ _, by rw [← Hn.out]; exact HR.out⟩
  case round =>
    obtain ⟨k, hk, rfl, hb, Hf⟩ := hrel
    by_cases hlt : k < n
    · have hrw := Kd.C_below HR0.out hb
      obtain ⟨ad, e, h1, h2⟩ := at_T27 hrw (k : Int) (by omega) (by rw [Hn.out]; omega)
      rw [Int.toNat_natCast] at h1 h2
      obtain ⟨x, hx⟩ : ∃ x, rd_T27 l0 k = x := ⟨_, rfl⟩
      rw [hx] at h1 h2
      have Hx := Lib.hid hx
      have hst : findFrom (isName name) l0 (n - k) k = if isName name x then (k : Int) else findFrom (isName name) l0 (n - (k + 1)) (k + 1) := by
        rw [show n - k = (n - (k + 1)) + 1 by omega, ← hx]; rfl
      have Hst := Lib.hid hst
      have cA := fun (W : World) (hb2 : Below w.heap.size w W) => at1_pays name B x W (Nat.lt_of_lt_of_le hB hb2.size) ((hb2.cell (p := ⟨B, 0, none⟩) hB).trans HC.out)
      have CA := Lib.hid cA
      subst e
      clear hrw hx hst cA
      cases hp : isName name x
      · have Hp := Lib.hid hp
        have CA2 := Lib.hid (hp ▸ CA.out)
        clear hp CA
        go_wp2_with fail
        refine (CA2.out _ hb).mono ?_
        rintro e W1 ⟨rfl, hb1⟩
        have Hb1 := Lib.hid (hb.trans (hb1.mono hb.size))
        clear hb1
        go_wp2
        go_roundw
        case rel => exact ⟨k + 1, by omega, by go_num, Hb1.out, by show _ = _; rw [← Hf.out, Hst.out, Hp.out]; rfl⟩
        case measure => simp [intOf]; omega
      · have Hp := Lib.hid hp
        have CA2 := Lib.hid (hp ▸ CA.out)
        clear hp CA
        go_wp2_with fail
        refine (CA2.out _ hb).mono ?_
        rintro e W1 ⟨rfl, hb1⟩
        have Hb1 := Lib.hid (hb.trans (hb1.mono hb.size))
        clear hb1
        go_wp2
        go_ret
        exact ⟨by rw [← Hf.out, Hst.out, Hp.out]; rfl, Hb1.out⟩
    · go_wp2
      go_ret
      exact ⟨by rw [← Hf.out, show n - k = 0 by omega]; rfl, hb⟩

set_option maxHeartbeats 1000000 in
theorem at_walk (A0 : Option Addr) (c0 : Nat) (l0 : List S27) (name : ByteArray) (w : World) (hr0 : Kd.C k27 w A0 l0.length l0) (hl : l0.length < 4398046511104) :
    Calls Tryd.prog 40 #[.slice A0 l0.length c0, .string name] w fun e w' => e = .returned (.int .i64 (findI (isName name) l0)) ∧ Below w.heap.size w w' := by
  have cI := index_walk name w.heap.size A0 c0 l0 (w.alloc (.cells #[.string name] 9)) (Kd.C_alloc hr0 _) hl (by simp) (by simp)
  generalize findI (isName name) l0 = R at cI ⊢
  generalize l0.length = n at cI ⊢
  clear hr0 hl
  go_enter Tryd.func40, Tryd.ntmps40
  go_wp2_with (go_at_call 63; refine cI.mono ?_; rintro e w' ⟨rfl, hb⟩)
  go_ret
  exact ⟨rfl, ((Below.refl _ w).alloc (Nat.le_refl _) _).trans (hb.mono (by simp))⟩

set_option maxHeartbeats 4000000 in
set_option maxRecDepth 100000 in
theorem clone_walk (A0 : Option Addr) (c0 : Nat) (l0 : List S27) (w : World) (hr0 : Kd.C k27 w A0 l0.length l0) (hl : l0.length < 4398046511104) :
    Calls Tryd.prog 60 #[.slice A0 l0.length c0] w fun e w' => ∃ v0_ : Value, e = .returned (v0_) ∧ Kd.R k27 27 w' w.heap.size (fun _ => True) v0_ l0 ∧ Below w.heap.size w w' := by
  have hs0 := fun (W : World) (a : Option Addr) (n c : Nat) => Lib.run_eql_slice_nil (P := Tryd.prog) W 22 27 a n c 0 0 Tryd.underlying22
  cases A0 with
  | none =>
    have h0 : l0 = [] := by
      cases l0 with
      | nil => rfl
      | cons x l => obtain ⟨ad, e, _⟩ := at_T27 hr0 0 (by omega) (by simp); cases e
    subst h0
    go_enter Tryd.func60, Tryd.ntmps60
    go_wp2
    go_ret
    exact ⟨_, rfl, Kd.R_nil _ _ _ _ _, Below.refl _ _⟩
  | some ad =>
    have HR0 := Aside0.mk hr0
    have HL := Aside0.mk hl
    have HB := Aside0.mk (Below.refl w.heap.size w)
    obtain ⟨y0, hy0⟩ : ∃ y0 : List S27, y0 = [] := ⟨_, rfl⟩
    have Ny0 := Aside0.mk hy0
    clear hr0 hl hy0
    go_enter Tryd.func60, Tryd.ntmps60
    go_wp2_with (first | ((with_reducible refine gate_dst (N := 5) rfl ?_); refine Kd.R_lit k27 _ 27 ?hg (N := 5) ?hd (xs := ([] : List (S27))) (inner := []) (ok := fun _ => True) (okp := fun _ => True) ?hr ?hp (fun _ hk => hk) trivial (Below.refl _ _) (Nat.le_refl _) (by simp) ?_; (case hd => rfl); (case hg => rfl); (case hr => first | (go_simp; done) | (go_simp; rfl)); (case hp => exact (Reps.none _ _)); intro v274 w3 ho4 hb hg_ hnew_; clear hg_ hnew_; (first | rw [← Ny0.out] at ho4 | (simp only [Int.reduceToNat] at ho4; rw [← Ny0.out] at ho4)); have n0_ := Aside0.mk (Kd.R_lower ho4 (below_size HB.out)); have n1_ := Aside0.mk (below_step HB.out hb); clear HB; have HO275 := n0_; have HB := n1_; clear n0_ n1_; clear hb ho4) | ((with_reducible refine gate_builtin (b := .append) (xs := #[.tmp 5, .tmp 6]) rfl ?_); at_builtin; refine Kd.R_append_rows k27 (w0 := w) w.heap.size rfl (.tmp 5) (.tmp 6) 22 27 (.agg #[(.string ⟨#[]⟩), (.string ⟨#[]⟩)]) 32 rfl Tryd.underlying22 info27 rfl (by decide) (by omega) v274 y0 l0 _ _ _ (fun _ => True) (fun _ => False) rfl rfl ?aO ?aR (fun _ _ h => h) (fun _ h => h.elim) ?aF ?aB ?aS ?aL ?_; (case aR => exact Kd.C_below HR0.out HB.out); (case aB => exact HB.out); (case aF => exact (fun _ _ => trivial)); (case aO => exact HO275.out); (case aS => exact below_size HB.out); (case aL => rw [Ny0.out, List.length_nil]; have := HL.out; omega); intro v277 w5 ho hb hg hat; have n0_ := Aside0.mk (hb); have n1_ := Aside0.mk (ho); clear HB; clear HO275; have HB := n0_; have HO278 := n1_; clear n0_ n1_; clear ho hb hg hat))
    go_ret
    have h1 := HO278.out
    rw [Ny0.out, List.nil_append] at h1
    exact ⟨_, rfl, h1, HB.out⟩
end Go.Proofs.YtlppeljofjomiaaDoor.X
