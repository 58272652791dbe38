/- cells.Insert and cells.Cut at any rows of cells, any places: the rows that there are then, in memory of their own. The condition: fewer than 2^42 cells together. -/
import Derived.Test.YtlppeljofjomiaaEConcat
import Derived.StillTailTactics
namespace Go.Proofs.Ytlppeljofjomiaa.X
open Go.RowKit
open Go.Proofs.YtlppeljofjomiaaW.PrintWords Go.Proofs.YtlppeljofjomiaaW.PrintLast Go.Proofs.YtlppeljofjomiaaW.PrintMore

theorem span_yes (A : Option Addr) (n c : Nat) (a b : Int) (w : World) (h0 : 0 ≤ a) (h1 : a ≤ b) (h2 : b ≤ n) : Calls Try.prog 24 #[.slice A n c, .int .i64 a, .int .i64 b] w fun e w' => e = .returned (.bool true) ∧ w = w' := by
  go_enter Try.func24, Try.ntmps24
  go_wp2
  go_ret
  exact ⟨rfl, rfl⟩
theorem span_no (A : Option Addr) (n c : Nat) (a b : Int) (w : World) (h : ¬ (0 ≤ a ∧ a ≤ b ∧ b ≤ n)) : Calls Try.prog 24 #[.slice A n c, .int .i64 a, .int .i64 b] w fun e w' => e = .returned (.bool false) ∧ w = w' := by
  by_cases h0 : 0 ≤ a
  · by_cases h1 : a ≤ b
    · have h2 : ¬ b ≤ n := fun h2 => h ⟨h0, h1, h2⟩
      clear h
      go_enter Try.func24, Try.ntmps24
      go_wp2
      go_ret
      exact ⟨rfl, rfl⟩
    · clear h
      go_enter Try.func24, Try.ntmps24
      go_wp2
      go_ret
      exact ⟨rfl, rfl⟩
  · clear h
    go_enter Try.func24, Try.ntmps24
    go_wp2
    go_ret
    exact ⟨rfl, rfl⟩

theorem parts_new (W : World) (vs : List SL) (hr : ∀ (i : Nat) (x : SL), vs[i]? = some x → Kd.C k40 W x.A x.l.length x.l ∧ x.l.length ≤ x.c) : PartsAt (W.alloc (.cells (vs.map SL.v).toArray 24)) ⟨W.heap.size, 0, none⟩ vs :=
  ⟨fun i x hx => by
    have h := World.news_of_block (cs := (vs.map SL.v).toArray) (t := 24) (fr := (0, 0)) (heap_alloc_new W (.cells (vs.map SL.v).toArray 24)) i x.v
    simp only [List.toList_toArray] at h
    exact h (by rw [List.getElem?_map, hx]; rfl), fun i x hx => ⟨Kd.C_alloc (hr i x hx).1 _, (hr i x hx).2⟩⟩
theorem concat_new (W : World) (vs : List SL) (hv : vs.length ≤ 100) (hr : ∀ (i : Nat) (x : SL), vs[i]? = some x → Kd.C k40 W x.A x.l.length x.l ∧ x.l.length ≤ x.c) (hl : (joined vs).length < 4398046511104) :
    Calls Try.prog 25 #[.slice (some ⟨W.heap.size, 0, none⟩) vs.length vs.length] (W.alloc (.cells (vs.map SL.v).toArray 24)) fun e w' => ∃ v0_ : Value, e = .returned (v0_) ∧ Kd.R k40 40 w' W.heap.size (fun _ => True) v0_ (joined vs) ∧ Below W.heap.size W w' := by
  refine (concat_walk ⟨W.heap.size, 0, none⟩ vs.length vs _ hv (parts_new W vs hr) hl).mono ?_
  rintro e w' ⟨v, rfl, ho, hb⟩
  have h0 : Below W.heap.size W (W.alloc (.cells (vs.map SL.v).toArray 24)) := (Below.refl _ W).alloc (Nat.le_refl _) _
  exact ⟨v, rfl, Kd.R_lower ho h0.size, below_step h0 hb⟩

def insertR (l : List S40) (at_ : Int) (more : List S40) : List S40 × Int := if 0 ≤ at_ ∧ at_ ≤ l.length then (l.take at_.toNat ++ more ++ l.drop at_.toNat, 0) else ([], 1)
def cutR (l : List S40) (a b : Int) : List S40 × Int := if 0 ≤ a ∧ a ≤ b ∧ b ≤ l.length then (l.take a.toNat ++ l.drop b.toNat, 0) else ([], 1)

set_option maxHeartbeats 4000000 in
set_option maxRecDepth 100000 in
theorem insert_walk (A0 : Option Addr) (c0 : Nat) (l0 : List S40) (a1 : Int) (A2 : Option Addr) (c2 : Nat) (l2 : List S40) (w : World) (hr0 : Kd.C k40 w A0 l0.length l0) (hc0 : l0.length ≤ c0) (hr2 : Kd.C k40 w A2 l2.length l2) (hc2 : l2.length ≤ c2) (hl : l0.length + l2.length < 4398046511104) :
    Calls Try.prog 11 #[.slice A0 l0.length c0, .int .i64 a1, .slice A2 l2.length c2] w fun e w' => ∃ v0_ : Value, e = .returned (.tuple #[v0_, .int .i64 (insertR l0 a1 l2).2]) ∧ Kd.R k40 40 w' w.heap.size (fun _ => True) v0_ (insertR l0 a1 l2).1 ∧ Below w.heap.size w w' := by
  by_cases h : 0 ≤ a1 ∧ a1 ≤ l0.length
  · rw [insertR, if_pos h]
    obtain ⟨h0, h1⟩ := h
    obtain ⟨m, rfl⟩ : ∃ m : Nat, a1 = m := ⟨a1.toNat, by omega⟩
    rw [Int.toNat_natCast]
    have hm : m ≤ l0.length := by omega
    obtain ⟨i0, hi0, _, hs0, _⟩ := info_parts info40
    have hcL := cut_to (P := Try.prog) 24 40 .i64 Try.underlying24 hi0 A0 l0.length c0 (m : Int) h0 h1 hc0
    have hcR := cut_from (P := Try.prog) 24 40 .i64 Try.underlying24 hi0 3 hs0 A0 l0.length c0 (m : Int) h0 h1
    rw [Int.toNat_natCast] at hcL hcR
    have hrL := Kd.C_take (m := m) hr0 hm
    have hrR := Kd.C_drop (m := m) (c := c0) hr0 hm hc0
    have hlL : (l0.take m).length = m := by rw [List.length_take]; omega
    have hlR : (l0.drop m).length = l0.length - m := List.length_drop
    have hcR2 : (l0.drop m).length ≤ c0 - m := by rw [hlR]; omega
    have hcL2 : (l0.take m).length ≤ c0 := by rw [hlL]; omega
    generalize hA3 : (if c0 = m then A0 else A0.map (·.add (m * 3))) = A3 at hcR
    replace hrR : Kd.C k40 w A3 (l0.drop m).length (l0.drop m) := by rw [← hA3]; exact hrR
    generalize hc3 : c0 - m = c3 at hcR hcR2
    have hlr : (joined [⟨A0, c0, l0.take m⟩, ⟨A2, c2, l2⟩, ⟨A3, c3, l0.drop m⟩]).length < 4398046511104 := by
      simp only [joined, List.flatMap_cons, List.flatMap_nil, List.length_append, hlL, hlR, List.length_nil]
      omega
    have CS := Lib.hid (fun (W : World) => span_yes A0 l0.length c0 (m : Int) (m : Int) W h0 (Int.le_refl _) h1)
    have hrs : ∀ (i : Nat) (x : SL), [(⟨A0, c0, l0.take m⟩ : SL), ⟨A2, c2, l2⟩, ⟨A3, c3, l0.drop m⟩][i]? = some x → Kd.C k40 w x.A x.l.length x.l ∧ x.l.length ≤ x.c := by
      intro i x hx
      match i with
      | 0 => obtain rfl := Option.some.inj hx; exact ⟨hrL, hcL2⟩
      | 1 => obtain rfl := Option.some.inj hx; exact ⟨hr2, hc2⟩
      | 2 => obtain rfl := Option.some.inj hx; exact ⟨hrR, hcR2⟩
      | (j + 3) => cases hx
    have CC := Lib.hid (show Calls Try.prog 25 #[.slice (some ⟨w.heap.size, 0, none⟩) 3 3] ((w.alloc (.cells #[.slice A0 m c0, .slice A2 l2.length c2, .slice A3 (l0.length - m) c3] 24)).drew) (fun e w' => ∃ v0_ : Value, e = .returned (v0_) ∧ Kd.R k40 40 w' w.heap.size (fun _ => True) v0_ (l0.take m ++ l2 ++ l0.drop m) ∧ Below w.heap.size w w') from by
      have h := concat_new w.drew [⟨A0, c0, l0.take m⟩, ⟨A2, c2, l2⟩, ⟨A3, c3, l0.drop m⟩] (by show 3 ≤ 100; decide) (fun i x hx => ⟨Kd.C_drew (hrs i x hx).1, (hrs i x hx).2⟩) hlr
      rw [show joined [⟨A0, c0, l0.take m⟩, ⟨A2, c2, l2⟩, ⟨A3, c3, l0.drop m⟩] = l0.take m ++ l2 ++ l0.drop m by simp [joined]] at h
      simp only [List.map_cons, List.map_nil, SL.v, hlL, hlR] at h
      refine Calls.mono h ?_
      rintro e w' ⟨v, rfl, ho, hb⟩
      exact ⟨v, rfl, ho, below_step (Below.refl _ w).drew hb⟩)
    clear hrs hrL hrR hlL hlR hcL2 hcR2 hlr hA3 hc3 hr0 hr2 hi0 hs0 hl hc0 hc2 h0 h1
    go_enter Try.func11, Try.ntmps11
    go_wp2_with (go_at_call 24; refine (CS.out _).mono ?_; rintro e W1 ⟨rfl, rfl⟩)
    refine wp_region_still_tail 7 (by kernel_rfl) (by kernel_rfl) ?_
    simp only [List.take_succ_cons, List.take_zero, List.drop_succ_cons, List.drop_zero]
    repeat still_step
    try refine wpStill_nil ?_
    go_wp2_with (go_at_call 25; refine CC.out.mono ?_; rintro e W1 ⟨v0, rfl, ho, hb⟩; have HO := Lib.hid ho; have HB := Lib.hid hb; clear ho hb)
    go_ret2
    exact ⟨_, rfl, HO.out, HB.out⟩
  · rw [insertR, if_neg h]
    have CS := Lib.hid (fun (W : World) => span_no A0 l0.length c0 a1 a1 W (fun h2 => h ⟨h2.1, h2.2.2⟩))
    clear h hr0 hc0 hr2 hc2 hl
    go_enter Try.func11, Try.ntmps11
    go_wp2_with (go_at_call 24; refine (CS.out _).mono ?_; rintro e W1 ⟨rfl, rfl⟩)
    go_ret2
    exact ⟨_, rfl, Kd.R_nil _ _ _ _ _, Below.refl _ _⟩

set_option maxHeartbeats 4000000 in
set_option maxRecDepth 100000 in
theorem cut_walk (A0 : Option Addr) (c0 : Nat) (l0 : List S40) (a1 a2 : Int) (w : World) (hr0 : Kd.C k40 w A0 l0.length l0) (hc0 : l0.length ≤ c0) (hl : l0.length < 4398046511104) :
    Calls Try.prog 13 #[.slice A0 l0.length c0, .int .i64 a1, .int .i64 a2] w fun e w' => ∃ v0_ : Value, e = .returned (.tuple #[v0_, .int .i64 (cutR l0 a1 a2).2]) ∧ Kd.R k40 40 w' w.heap.size (fun _ => True) v0_ (cutR l0 a1 a2).1 ∧ Below w.heap.size w w' := by
  by_cases h : 0 ≤ a1 ∧ a1 ≤ a2 ∧ a2 ≤ l0.length
  · rw [cutR, if_pos h]
    obtain ⟨h0, h1, h2⟩ := h
    obtain ⟨m, rfl⟩ : ∃ m : Nat, a1 = m := ⟨a1.toNat, by omega⟩
    obtain ⟨k, rfl⟩ : ∃ k : Nat, a2 = k := ⟨a2.toNat, by omega⟩
    rw [Int.toNat_natCast, Int.toNat_natCast]
    have hm : m ≤ l0.length := by omega
    have hk : k ≤ l0.length := by omega
    have hmk : m ≤ k := by omega
    obtain ⟨i0, hi0, _, hs0, _⟩ := info_parts info40
    have hcL := cut_to (P := Try.prog) 24 40 .i64 Try.underlying24 hi0 A0 l0.length c0 (m : Int) h0 (by omega) hc0
    have hcR := cut_from (P := Try.prog) 24 40 .i64 Try.underlying24 hi0 3 hs0 A0 l0.length c0 (k : Int) (by omega) h2
    rw [Int.toNat_natCast] at hcL hcR
    have hrL := Kd.C_take (m := m) hr0 hm
    have hrR := Kd.C_drop (m := k) (c := c0) hr0 hk hc0
    have hlL : (l0.take m).length = m := by rw [List.length_take]; omega
    have hlR : (l0.drop k).length = l0.length - k := List.length_drop
    have hcR2 : (l0.drop k).length ≤ c0 - k := by rw [hlR]; omega
    have hcL2 : (l0.take m).length ≤ c0 := by rw [hlL]; omega
    generalize hA3 : (if c0 = k then A0 else A0.map (·.add (k * 3))) = A3 at hcR
    replace hrR : Kd.C k40 w A3 (l0.drop k).length (l0.drop k) := by rw [← hA3]; exact hrR
    generalize hc3 : c0 - k = c3 at hcR hcR2
    have hlr : (joined [⟨A0, c0, l0.take m⟩, ⟨A3, c3, l0.drop k⟩]).length < 4398046511104 := by
      simp only [joined, List.flatMap_cons, List.flatMap_nil, List.length_append, hlL, hlR, List.length_nil]
      omega
    have CS := Lib.hid (fun (W : World) => span_yes A0 l0.length c0 (m : Int) (k : Int) W h0 h1 h2)
    have hrs : ∀ (i : Nat) (x : SL), [(⟨A0, c0, l0.take m⟩ : SL), ⟨A3, c3, l0.drop k⟩][i]? = some x → Kd.C k40 w x.A x.l.length x.l ∧ x.l.length ≤ x.c := by
      intro i x hx
      match i with
      | 0 => obtain rfl := Option.some.inj hx; exact ⟨hrL, hcL2⟩
      | 1 => obtain rfl := Option.some.inj hx; exact ⟨hrR, hcR2⟩
      | (j + 2) => cases hx
    have CC := Lib.hid (show Calls Try.prog 25 #[.slice (some ⟨w.heap.size, 0, none⟩) 2 2] ((w.alloc (.cells #[.slice A0 m c0, .slice A3 (l0.length - k) c3] 24)).drew) (fun e w' => ∃ v0_ : Value, e = .returned (v0_) ∧ Kd.R k40 40 w' w.heap.size (fun _ => True) v0_ (l0.take m ++ l0.drop k) ∧ Below w.heap.size w w') from by
      have h := concat_new w.drew [⟨A0, c0, l0.take m⟩, ⟨A3, c3, l0.drop k⟩] (by show 2 ≤ 100; decide) (fun i x hx => ⟨Kd.C_drew (hrs i x hx).1, (hrs i x hx).2⟩) hlr
      rw [show joined [⟨A0, c0, l0.take m⟩, ⟨A3, c3, l0.drop k⟩] = l0.take m ++ l0.drop k by simp [joined]] at h
      simp only [List.map_cons, List.map_nil, SL.v, hlL, hlR] at h
      refine Calls.mono h ?_
      rintro e w' ⟨v, rfl, ho, hb⟩
      exact ⟨v, rfl, ho, below_step (Below.refl _ w).drew hb⟩)
    clear hrs hrL hrR hlL hlR hcL2 hcR2 hlr hA3 hc3 hr0 hi0 hs0 hl hc0 h0 h1 h2
    go_enter Try.func13, Try.ntmps13
    go_wp2_with (go_at_call 24; refine (CS.out _).mono ?_; rintro e W1 ⟨rfl, rfl⟩)
    refine wp_region_still_tail 6 (by kernel_rfl) (by kernel_rfl) ?_
    simp only [List.take_succ_cons, List.take_zero, List.drop_succ_cons, List.drop_zero]
    repeat still_step
    try refine wpStill_nil ?_
    go_wp2_with (go_at_call 25; refine CC.out.mono ?_; rintro e W1 ⟨v0, rfl, ho, hb⟩; have HO := Lib.hid ho; have HB := Lib.hid hb; clear ho hb)
    go_ret2
    exact ⟨_, rfl, HO.out, HB.out⟩
  · rw [cutR, if_neg h]
    have CS := Lib.hid (fun (W : World) => span_no A0 l0.length c0 a1 a2 W h)
    clear h hr0 hc0 hl
    go_enter Try.func13, Try.ntmps13
    go_wp2_with (go_at_call 24; refine (CS.out _).mono ?_; rintro e W1 ⟨rfl, rfl⟩)
    go_ret2
    exact ⟨_, rfl, Kd.R_nil _ _ _ _ _, Below.refl _ _⟩
end Go.Proofs.Ytlppeljofjomiaa.X
