/- quillworkref03.Value at every text shorter than 2^32 - 15 bytes: what it hands back; nothing that lay has turned. -/
import Derived.Test.YtlppeljofjomiaaDoorXx0
import Derived.Test.YtlppeljofjomiaaDoorLx2
import Derived.Test.YtlppeljofjomiaaDoorEValue
import Derived.Test.YtlppeljofjomiaaDoorRunes
namespace Go.Proofs.YtlppeljofjomiaaDoor.X
open Go.RowKit
open Go.Proofs.YtlppeljofjomiaaDoorW.PrintWords (Drawn0)
open Go.Proofs.YtlppeljofjomiaaDoor.Pl

theorem refclass_f (c : Int) : L.quillworkref01_Class.f 5 c = some (classZ c) := by
  have key : ∀ b : Bool, b = decide (¬ ((0 ≤ c ∧ c < 55296) ∨ (57343 < c ∧ c ≤ 1114111))) → L.quillworkref01_Class.j0 5 c b = some (classZ c) := by
    intro b hb
    subst hb
    unfold classZ
    by_cases hv : (0 ≤ c ∧ c < 55296) ∨ (57343 < c ∧ c ≤ 1114111)
    · rw [if_neg (not_not_intro hv), decide_eq_false (not_not_intro hv)]
      simp only [L.quillworkref01_Class.j0, L.quillworkref01_Class.j1, L.quillworkref01_Class.j2, L.quillworkref01_Class.j3, Bool.false_eq_true, if_false, if_true, beq_iff_eq, bne_iff_ne]
      rcases (show c < 32 ∨ c = 32 ∨ (33 ≤ c ∧ c ≤ 47) ∨ (48 ≤ c ∧ c ≤ 57) ∨ (58 ≤ c ∧ c ≤ 64) ∨ (65 ≤ c ∧ c ≤ 90) ∨ (91 ≤ c ∧ c ≤ 96) ∨ (97 ≤ c ∧ c ≤ 122) ∨ (123 ≤ c ∧ c ≤ 126) ∨ c = 127 ∨ (128 ≤ c ∧ c ≤ 159) ∨ c = 160 ∨ (161 ≤ c ∧ c ≤ 65532) ∨ c = 65533 ∨ 65534 ≤ c by omega) with h | h | h | h | h | h | h | h | h | h | h | h | h | h | h
      all_goals (simp (disch := omega) only [if_pos, if_neg])
    · rw [if_pos hv, decide_eq_true hv]
      simp only [L.quillworkref01_Class.j0, if_true]
  unfold L.quillworkref01_Class.f
  repeat' split
  all_goals (refine key _ ?_)
  · rw [decide_eq_true (by omega)]
  · rw [decide_eq_true (by omega)]
  · by_cases h : c ≤ 57343
    · rw [decide_eq_true h, decide_eq_true (by omega)]
    · rw [decide_eq_false h, decide_eq_false (by omega)]
  · rw [decide_eq_false (by omega)]
theorem refmay_f (c : Int) : L.quillworkref01_May.f 5 c = some (mayZ c) := by
  unfold L.quillworkref01_May.f mayZ
  rw [refclass_f]
  simp only [Option.bind_some]
  rfl

/-- []rune(s). -/
theorem runes_walk (s : ByteArray) (w : World) (hs : s.size < 4294967281) :
    Calls Tryd.prog 55 #[.string s] w fun e w' => ∃ g cap, e = .returned (.slice (some ⟨g, 0, none⟩) (runesI s.data.toList).length cap) ∧ w.heap.size ≤ g ∧ g < w'.heap.size ∧ (runesI s.data.toList).length ≤ cap ∧
      (∀ j, j < (runesI s.data.toList).length → w'.cell? ⟨g, j, none⟩ = some (.int .i32 ((runesI s.data.toList).getD j 0))) ∧ Below w.heap.size w w' := by
  have hle := runesI_le s.data.toList.length s.data.toList (Nat.le_refl _)
  rw [← Lib.size_eq] at hle
  have hcv := fun (W : World) => run_runes_of_string (P := Tryd.prog) W 9 65 21 s Tryd.underlying9 Tryd.underlying65 Tryd.underlying21 (by rw [runesAll_eq]; simp; omega)
  simp only [runesAll_eq, List.size_toArray, List.length_map] at hcv
  generalize runesI s.data.toList = rs at hcv hle ⊢
  have HL := Lib.hid hle
  have hcap := grownCap_ge w rs.length 0 21
  have HC := Lib.hid hcap
  clear hle hs hcap
  go_enter Tryd.func55, Tryd.ntmps55
  go_wp2
  go_ret
  refine ⟨_, _, rfl, Nat.le_refl _, by simp, HC.out, fun j hj => ?_, (Below.refl _ _).drew.alloc (Nat.le_refl _) _⟩
  have h1 : ∀ (C : Array Value), (w.drew.alloc (.cells C 21)).cell? ⟨w.heap.size, j, none⟩ = C[j]? := fun C => World.cell?_alloc_mark w.drew C 21 (0, 0) j
  have h2 := h1 ((rs.map (Value.int .i32)).toArray ++ Array.replicate (grownCap w rs.length 0 21 - rs.length) (.int .i32 0))
  rw [Array.getElem?_append_left (by simpa using hj)] at h2
  simp only [List.getElem?_toArray, List.getElem?_map, List.getElem?_eq_getElem hj, Option.map_some] at h2
  rw [List.getD_eq_getElem?_getD, List.getElem?_eq_getElem hj]
  exact h2

theorem getD_at (rs : List Int) (k : Nat) (h : k < rs.length) : (rs.drop k).all mayZ = (mayZ (rs.getD k 0) && (rs.drop (k + 1)).all mayZ) := by
  rw [List.drop_eq_getElem_cons h, List.all_cons, List.getD_eq_getElem?_getD, List.getElem?_eq_getElem h]
  rfl

set_option maxHeartbeats 4000000 in
set_option maxRecDepth 100000 in
theorem refvalue_walk (s : ByteArray) (w : World) (hs : s.size < 4294967281) :
    Calls Tryd.prog 24 #[.string s] w fun e w' => e = .returned (.bool (valueB s.data.toList)) ∧ Below w.heap.size w w' := by
  have cR := runes_walk s w hs
  have hle := runesI_le s.data.toList.length s.data.toList (Nat.le_refl _)
  rw [← Lib.size_eq] at hle
  obtain ⟨R, hR⟩ : ∃ R, valueB s.data.toList = R := ⟨_, rfl⟩
  rw [hR]
  have hv := valid_text s.data.toList
  have hR2 : R = ((runesI s.data.toList).all mayZ && (decide (s.size ≤ 200) && (textL (runesI s.data.toList) == s.data.toList))) := by
    rw [← hR, value_eq, allMay_runes, ← hv, Lib.size_eq]
  clear hR hv
  obtain ⟨rs, hrs⟩ : ∃ rs, runesI s.data.toList = rs := ⟨_, rfl⟩
  rw [hrs] at cR hle hR2
  clear hrs
  obtain ⟨n, hn⟩ : ∃ n, rs.length = n := ⟨_, rfl⟩
  rw [hn] at cR hle
  obtain ⟨D, hD⟩ : ∃ D, (textL rs == s.data.toList) = D := ⟨_, rfl⟩
  rw [hD] at hR2
  have HR := Lib.hid hR2
  have HD := Lib.hid (show ((runesBytes rs).toList == s.toList) = D by rw [Lib.toList_data, Lib.toList_data, runesBytes_eq]; exact hD)
  have hcv := fun (W : World) (g cap : Nat) (hc : ∀ j, j < n → W.cell? ⟨g, j, none⟩ = some (.int .i32 (rs.getD j 0))) =>
    run_convert_runes (P := Tryd.prog) W 65 9 21 ⟨g, 0, none⟩ n cap rs (by omega) Tryd.underlying65 Tryd.underlying21 Tryd.underlying9 (fun j hj => by rw [Addr.add_lit, Nat.zero_add]; exact hc j (by omega))
  rw [← hn, List.take_length] at hcv
  rw [hn] at hcv
  have HCV := Lib.hid hcv
  have Hn := Lib.hid hn
  clear hR2 hD hcv hn
  by_cases h2 : 200 < s.size
  · have hF := Lib.hid (show R = false by rw [HR.out, decide_eq_false (by omega)]; simp)
    clear HR HD HCV
    go_enter Tryd.func24, Tryd.ntmps24
    go_wp2_with (go_at_call 55; refine cR.mono ?_; rintro e W1 ⟨g, cap, rfl, hg, hg2, hnc, hc, hb⟩)
    have d1 : decide ((200 : Int) < s.size) = true := by rw [decide_eq_true_iff]; omega
    clear hc
    go_wp2
    go_ret
    exact ⟨by rw [hF.out]; rfl, hb⟩
  · have HR2 := Lib.hid (show R = (rs.all mayZ && D) by rw [HR.out, decide_eq_true (by omega), Bool.true_and])
    clear HR
    go_enter Tryd.func24, Tryd.ntmps24
    go_wp2_with (go_at_call 55; refine cR.mono ?_; rintro e W1 ⟨g, cap, rfl, hg, hg2, hnc, hc, hb⟩)
    have hst := HCV.out W1 g cap hc
    have Hc := Lib.hid hc
    have d1 : decide ((200 : Int) < s.size) = false := by rw [decide_eq_false_iff_not]; omega
    clear hc HCV
    cases hDD : D
    · have hF := Lib.hid (show R = false by rw [HR2.out, hDD, Bool.and_false])
      have hne : ((runesBytes rs).toList == s.toList) = false := by rw [HD.out, hDD]
      clear hDD HR2 HD
      go_wp2_with (simp only [hst])
      go_ret
      exact ⟨by rw [hF.out]; rfl, hb⟩
    · have hF := Lib.hid (show rs.all mayZ = R by rw [HR2.out, hDD, Bool.and_true])
      have hne : ((runesBytes rs).toList == s.toList) = true := by rw [HD.out, hDD]
      clear hDD HR2 HD
      go_wp2_with (simp only [hst])
      clear hst
      go_loopw [4] (fun v4 wr => ∃ k : Nat, k ≤ n ∧ v4 = .int .i64 k ∧ Below w.heap.size w wr ∧ Below W1.heap.size W1 wr ∧ Hid ((rs.drop k).all mayZ = R)) (fun v4 _ => n - (intOf v4).toNat)
      case atStart => exact ⟨0, Nat.zero_le _, rfl, hb, Below.refl _ _, by show _ = _; rw [List.drop_zero]; exact hF.out⟩
      case round =>
        obtain ⟨k, hk, rfl, hbr, hb1, Hf⟩ := hrel
        by_cases hlt : k < n
        · obtain ⟨x, hx⟩ : ∃ x, rs.getD k 0 = x := ⟨_, rfl⟩
          have hc := (hb1.cell (p := ⟨g, k, none⟩) hg2).trans (Hc.out k hlt)
          have hst2 := getD_at rs k (by rw [Hn.out]; exact hlt)
          rw [hx] at hc hst2
          have Hst := Lib.hid hst2
          have cM := L.quillworkref01_May.calls 5 x _ wr (refmay_f x)
          clear hx hst2
          cases hm : mayZ x <;> rw [hm] at cM
          · have Hm := Lib.hid hm
            clear hm
            go_wp2_with (go_at_call 50; refine cM.mono ?_; rintro e W2 ⟨rfl, hd⟩)
            go_ret
            exact ⟨by rw [← Hf.out, Hst.out, Hm.out]; rfl, hbr.trans ((drawn_below hd).mono hbr.size)⟩
          · have Hm := Lib.hid hm
            clear hm
            go_wp2_with (go_at_call 50; refine cM.mono ?_; rintro e W2 ⟨rfl, hd⟩)
            have hk2 := drawn_below hd
            go_roundw
            case rel => exact ⟨k + 1, by omega, by go_num, hbr.trans (hk2.mono hbr.size), hb1.trans (hk2.mono hb1.size), by show _ = _; rw [← Hf.out, Hst.out, Hm.out, Bool.true_and]⟩
            case measure => simp [intOf]; omega
        · go_wp2
          go_ret
          have hd0 : rs.drop k = [] := List.drop_eq_nil_of_le (by rw [Hn.out]; omega)
          exact ⟨by rw [← Hf.out, hd0]; rfl, hbr⟩
end Go.Proofs.YtlppeljofjomiaaDoor.X
