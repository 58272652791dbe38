/- chars.Clean at every text of fewer than 2^45 bytes: the characters that are kept, in memory of its own; nothing that lay has turned. -/
import Derived.Test.YtlppeljofjomiaaDoorXmx0
import Derived.Test.YtlppeljofjomiaaDoorLx1
import Derived.Test.YtlppeljofjomiaaDoorRunes
import Derived.WalkKit
import Derived.WalkSpells
import Derived.Lib.OthersKept
import Derived.Shelf.GgClosure.Gives
import Derived.Lib.Hide
namespace Go.Proofs.YtlppeljofjomiaaDoor.Xm
open Go.RowKit
open Go.Proofs.YtlppeljofjomiaaDoorW.PrintWords Go.Proofs.YtlppeljofjomiaaDoorW.PrintLast Go.Proofs.YtlppeljofjomiaaDoorW.PrintMore
open Go.Proofs.YtlppeljofjomiaaDoor.Pl

theorem valid_f (c : Int) : L.utf8_ValidRune.f 1 c = some (decide ((0 ≤ c ∧ c < 55296) ∨ (57343 < c ∧ c ≤ 1114111))) := by
  unfold L.utf8_ValidRune.f
  by_cases h0 : 0 ≤ c
  · rw [if_pos h0]
    simp only [L.utf8_ValidRune.j0]
    by_cases h1 : c < 55296
    · simp [h0, h1]
    · by_cases h2 : 57343 < c
      · by_cases h3 : c ≤ 1114111
        · simp [h1, h2, h3]
        · simp [h1, h2, h3]
      · simp [h1, h2]
  · rw [if_neg h0]
    simp only [L.utf8_ValidRune.j0]
    have h2 : ¬ 57343 < c := by omega
    simp [h0, h2]
theorem valid_k (c : Int) (k : Nat) : L.utf8_ValidRune.f (k + 1) c = some (decide ((0 ≤ c ∧ c < 55296) ∨ (57343 < c ∧ c ≤ 1114111))) := by
  induction k with
  | zero => exact valid_f c
  | succ k ih => exact L.utf8_ValidRune.mono c (k + 1) _ ih
theorem class_f (c : Int) : L.chars_Class.f 4 c = some (classZ c) := by
  unfold L.chars_Class.f classZ
  rw [valid_k c 3]
  simp only [Option.bind_some, decide_eq_true_eq]
  by_cases hv : (0 ≤ c ∧ c < 55296) ∨ (57343 < c ∧ c ≤ 1114111)
  · rw [if_pos hv, if_neg (not_not_intro hv)]
    by_cases h1 : c < 32
    · rw [if_pos h1, if_pos (.inl h1)]
    · rw [if_neg h1]
      by_cases h2 : c = 127
      · rw [if_pos h2, if_pos (.inr h2)]
      · rw [if_neg h2, if_neg (by omega : ¬ (c < 32 ∨ c = 127))]
        have key : ∀ b : Bool, b = decide (c = 32 ∨ c = 160) → L.chars_Class.j0 4 c b = some (if c = 32 ∨ c = 160 then 2 else if c = 65533 then 5 else if (97 ≤ c ∧ c ≤ 122) ∨ (65 ≤ c ∧ c ≤ 90) ∨ 128 ≤ c then 3 else if 48 ≤ c ∧ c ≤ 57 then 4 else 5) := by
          intro b hb
          subst hb
          simp only [L.chars_Class.j0, L.chars_Class.j1, L.chars_Class.j2, decide_eq_true_eq]
          repeat' split
          all_goals first | rfl | (exfalso; simp_all; done) | (exfalso; simp_all; omega)
        by_cases h3 : c = 32
        · rw [if_pos h3]
          exact key _ (by simp [h3])
        · rw [if_neg h3]
          exact key _ (by simp [h3]; rfl)
  · rw [if_neg hv, if_pos hv]

/-- What stands for a character, and whether it is kept. -/
def plainP (c : Int) : Int × Bool := if c = 9 ∨ c = 12 ∨ c = 13 then (32, true) else if c = 10 then (c, true) else (c, classZ c != 1)
def plainZ (c : Int) : Option Int := if (plainP c).2 = true then some (plainP c).1 else none
def cleanI (l : List UInt8) : List Int := (runesI l).filterMap plainZ
theorem plain_f (c : Int) : L.chars_plain.f 5 c = some (plainP c) := by
  have key : ∀ b : Bool, b = decide (c = 9 ∨ c = 12 ∨ c = 13) → L.chars_plain.j0 5 c c b = some (plainP c) := by
    intro b hb
    subst hb
    simp only [L.chars_plain.j0, decide_eq_true_eq]
    unfold plainP
    by_cases h : c = 9 ∨ c = 12 ∨ c = 13
    · rw [if_pos h, if_pos h]
    · rw [if_neg h, if_neg h]
      by_cases h2 : c = 10
      · rw [if_pos h2, if_pos h2]
      · rw [if_neg h2, if_neg h2, class_f]
        rfl
  unfold L.chars_plain.f
  by_cases h1 : c = 9
  · rw [if_pos h1]; exact key _ (by simp [h1])
  · rw [if_neg h1]
    by_cases h2 : c = 12
    · rw [if_pos h2]; exact key _ (by simp [h2])
    · rw [if_neg h2]
      refine key _ ?_
      simp only [h1, h2, false_or]
      rfl
theorem plain_calls (c : Int) (w : World) : Calls Tryd.prog 87 #[.int .i32 c] w fun e w' => e = .returned (.tuple #[.int .i32 (plainP c).1, .bool (plainP c).2]) ∧ Drawn0 w w' :=
  L.chars_plain.calls 5 c (plainP c).1 (plainP c).2 w (plain_f c)

theorem drop_ne (s : ByteArray) (pos : Nat) (hp : pos < s.size) : s.data.toList.drop pos ≠ [] := by
  intro h0
  have h := congrArg List.length h0
  rw [List.length_drop, ← Lib.size_eq, List.length_nil] at h
  omega
theorem drop_end (s : ByteArray) (pos : Nat) (hp : ¬ pos < s.size) : s.data.toList.drop pos = [] := List.drop_eq_nil_of_le (by rw [← Lib.size_eq]; omega)
theorem clean_at (s : ByteArray) (pos : Nat) (hp : pos < s.size) : cleanI (s.data.toList.drop pos) = (if (plainP ((Utf8.decode s pos).1 : Int)).2 = true then [(plainP ((Utf8.decode s pos).1 : Int)).1] else []) ++ cleanI (s.data.toList.drop (pos + (Utf8.decode s pos).2)) := by
  unfold cleanI runesI
  rw [runesD_step _ (drop_ne s pos hp), Lib.decodeL_drop, List.drop_drop, List.map_cons, List.filterMap_cons]
  unfold plainZ
  split <;> (rename_i h; split <;> simp_all)
theorem clean_nil : cleanI [] = [] := by simp [cleanI, runesI, runesD_nil]

set_option maxHeartbeats 4000000 in
set_option maxRecDepth 100000 in
theorem each_walk (s : ByteArray) (w : World) (hs : s.size < 35184372088832) :
    Calls Tryd.prog 86 #[.string s, .func (.func 87) #[] #[]] w fun e w' => ∃ v0_ : Value, e = .returned (v0_) ∧ Kd.R (Kd.int .i32) 21 w' w.heap.size (fun _ => True) v0_ (cleanI s.data.toList) ∧ Below w.heap.size w w' := by
  have eg : ∀ args w, (callFunc 87 args).run Tryd.prog w = .ok (.enter 87 args) w := enters_of Tryd.func87 (by kernel_rfl) rfl
  obtain ⟨R, hR⟩ : ∃ R, cleanI s.data.toList = R := ⟨_, rfl⟩
  rw [hR]
  have HR := Lib.hid (show cleanI (s.data.toList.drop 0) = R from hR)
  have HS := Lib.hid hs
  clear hR hs
  go_enter Tryd.func86, Tryd.ntmps86
  go_wp2
  go_loopw [5] (fun v5 wr => ∃ (pos : Nat) (xs : List Int), wr.heap[w.heap.size]? = some (.stringIter s pos) ∧ Below w.heap.size w wr ∧ Hid (Kd.R (Kd.int .i32) 21 wr w.heap.size (fun k => k ≠ w.heap.size) v5 xs) ∧ Hid (xs ++ cleanI (s.data.toList.drop pos) = R) ∧ Hid (xs.length ≤ pos)) (fun _ wr => s.size - wr.iterPos w.heap.size)
  case atStart => exact ⟨0, [], World.iter_heap w s 0, (Below.refl _ _).alloc (Nat.le_refl _) _, Kd.R_nil _ _ _ _ _, HR.out, Nat.le_refl _⟩
  case round =>
    obtain ⟨pos, xs, hit, hb, HO, HX, HL⟩ := hrel
    have Hit := Lib.hid hit
    by_cases hp : pos < s.size
    · have hwd := Lib.width_pos s pos
      obtain ⟨n, hn⟩ : ∃ n, n = (Utf8.decode s pos).1 := ⟨_, rfl⟩
      obtain ⟨q, hq⟩ : ∃ q, q = pos + (Utf8.decode s pos).2 := ⟨_, rfl⟩
      have hnx : ∀ ty, (Instr.next (.pointer (some ⟨w.heap.size, 0, none⟩)) true ty).run Tryd.prog wr = .ok (.tuple #[.bool true, .int .i64 pos, .int .i32 n]) (wr.iterAt w.heap.size s q) := fun ty => by
        rw [hn, hq]; exact Lib.run_next_any_at wr w.heap.size s pos ty hit hp
      have hst := clean_at s pos hp
      rw [← hn, ← hq] at hst
      have Hst := Lib.hid hst
      have hpq : pos < q := by omega
      have Hpq := Lib.hid hpq
      have hlt : w.heap.size < wr.heap.size := (Array.getElem?_eq_some_iff.1 hit).1
      have Hlt := Lib.hid hlt
      have hit2 := Lib.iterAt_heap wr w.heap.size s pos q hit
      have Hit2 := Lib.hid hit2
      have hb2 := Lib.below_iterAt hb (k := w.heap.size) (Nat.le_refl _) s q
      have Hb2 := Lib.hid hb2
      have ho2 := Kd.R_step (w1 := wr.iterAt w.heap.size s q) HO.out (fun k hk _ => Lib.iterAt_other wr w.heap.size k s q hk)
      have HO2 := Lib.hid ho2
      have cA := fun (W : World) => plain_calls (n : Int) W
      have CA := Lib.hid cA
      obtain ⟨W2, hW2⟩ : ∃ W2, wr.iterAt w.heap.size s q = W2 := ⟨_, rfl⟩
      have hsz2 : W2.heap.size = wr.heap.size := by rw [← hW2, Lib.iterAt_size]
      rw [hW2] at hnx hit2 Hit2 Hb2 HO2
      have Hsz2 := Lib.hid hsz2
      clear hn hq hst hpq hlt hit2 hb2 ho2 cA hwd hit hW2 hsz2 HO
      obtain ⟨c, hc⟩ : ∃ c, (plainP (n : Int)).1 = c := ⟨_, rfl⟩
      cases hok : (plainP (n : Int)).2
      · have Hst2 := Lib.hid (show cleanI (s.data.toList.drop pos) = cleanI (s.data.toList.drop q) from by have h := Hst.out; rw [hok] at h; exact h)
        have CA2 := Lib.hid (show ∀ W, Calls Tryd.prog 87 #[.int .i32 (n : Int)] W fun e w' => e = .returned (.tuple #[.int .i32 c, .bool false]) ∧ Drawn0 W w' from by have h := CA.out; rw [hok, hc] at h; exact h)
        clear hok CA Hst hc
        go_wp2_with fail
        refine (CA2.out _).mono ?_
        rintro e W1 ⟨rfl, ⟨nd, rfl⟩⟩
        go_wp2
        go_roundw
        case rel => exact ⟨q, xs, Hit2.out, pw_below_drewN Hb2.out nd, Kd.R_drewN HO2.out nd, by show _ = _; rw [← HX.out, Hst2.out], by show _ ≤ _; have := HL.out; have := Hpq.out; omega⟩
        case measure => simp only [World.iterPos, Hit.out, show (W2.drewN nd).heap[w.heap.size]? = _ from Hit2.out]; have := Hpq.out; omega
      · have Hst2 := Lib.hid (show cleanI (s.data.toList.drop pos) = [c] ++ cleanI (s.data.toList.drop q) from by have h := Hst.out; rw [hok, hc] at h; exact h)
        have CA2 := Lib.hid (show ∀ W, Calls Tryd.prog 87 #[.int .i32 (n : Int)] W fun e w' => e = .returned (.tuple #[.int .i32 c, .bool true]) ∧ Drawn0 W w' from by have h := CA.out; rw [hok, hc] at h; exact h)
        clear hok CA Hst hc
        go_wp2_with fail
        refine (CA2.out _).mono ?_
        rintro e W1 ⟨rfl, ⟨nd, rfl⟩⟩
        go_wp2_with (((with_reducible refine gate_builtin (b := .append) (xs := #[.tmp 22, .tmp 24]) rfl ?_); at_builtin; refine Kd.R_append (Kd.int .i32) (w0 := w) w.heap.size rfl (.tmp 22) (.tmp 24) 65 21 (.int .i32 0) 4 rfl Tryd.underlying65 info21 rfl (by decide) (by omega) u5 xs c [.int .i32 c] (fun k => k ≠ w.heap.size) (fun _ => False) rfl rfl ?aP (fun _ hk => hk.elim) ?aF ?aO ?aB ?aS ?aL ?_; (case aP => exact rfl); (case aB => exact pw_below_drewN Hb2.out nd); (case aF => exact fun k hk => by have h1 := Hlt.out; have h2 := Hsz2.out; have h3 : (W2.drewN nd).heap.size = W2.heap.size := rfl; omega); (case aO => exact Kd.R_drewN HO2.out nd); (case aS => exact (pw_below_drewN Hb2.out nd).size); (case aL => have h1 := HL.out; have h2 := HS.out; omega); intro v1 w11 ho hb3 hg hat; have HO3 := Lib.hid ho; have HB3 := Lib.hid hb3; have HG := Lib.hid hg; clear ho hb3 hg hat))
        have hit3 : w11.heap[w.heap.size]? = some (.stringIter s q) := (HG.out.block w.heap.size (by have h1 := Hlt.out; have h2 := Hsz2.out; show _ < W2.heap.size; omega) (fun e => HO2.out.1 _ e.symm rfl)).trans Hit2.out
        have Hit3 := Lib.hid hit3
        clear hit3
        go_roundw
        case rel => exact ⟨q, xs ++ [c], Hit3.out, HB3.out, HO3.out, by show _ = _; rw [← HX.out, Hst2.out, List.append_assoc], by show _ ≤ _; rw [List.length_append, List.length_singleton]; have := HL.out; have := Hpq.out; omega⟩
        case measure => simp only [World.iterPos, Hit.out, Hit3.out]; have := Hpq.out; omega
    · have hnx : ∀ ty, (Instr.next (.pointer (some ⟨w.heap.size, 0, none⟩)) true ty).run Tryd.prog wr = _ := fun ty => Lib.run_next_end_at wr w.heap.size s pos ty hit hp
      have HX2 := Lib.hid (show xs = R from by have h := HX.out; rw [drop_end s pos hp, clean_nil, List.append_nil] at h; exact h)
      clear hit
      go_wp2
      go_ret
      exact ⟨_, rfl, by rw [← HX2.out]; exact Kd.R_mono HO.out (fun _ _ => trivial), hb⟩
set_option maxHeartbeats 1000000 in
theorem clean_walk (s : ByteArray) (w : World) (hs : s.size < 35184372088832) :
    Calls Tryd.prog 65 #[.string s] w fun e w' => ∃ v0_ : Value, e = .returned (v0_) ∧ Kd.R (Kd.int .i32) 21 w' w.heap.size (fun _ => True) v0_ (cleanI s.data.toList) ∧ Below w.heap.size w w' := by
  have cA := each_walk s w hs
  have CA := Lib.hid cA
  clear cA
  go_enter Tryd.func65, Tryd.ntmps65
  go_wp2_with (go_at_call 86; refine CA.out.mono ?_; rintro e W1 ⟨v0, rfl, ho, hb⟩; have HO := Lib.hid ho; have HB := Lib.hid hb; clear ho hb)
  go_ret
  exact ⟨_, rfl, HO.out, HB.out⟩
end Go.Proofs.YtlppeljofjomiaaDoor.Xm
