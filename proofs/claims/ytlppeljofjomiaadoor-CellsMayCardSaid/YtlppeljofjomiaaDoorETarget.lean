/- attrs.Target at every text shorter than 2^32 - 15 bytes: what it hands back; nothing that lay has turned. The condition: 'Tabs'. -/
import Derived.Test.YtlppeljofjomiaaDoorEValue
import Derived.Test.YtlppeljofjomiaaDoorEName
namespace Go.Proofs.YtlppeljofjomiaaDoor.X
open Go.RowKit
open Go.Proofs.YtlppeljofjomiaaDoorW.PrintWords (Drawn0)
open Go.Proofs.YtlppeljofjomiaaDoor.Pl

set_option maxHeartbeats 1000000 in
set_option maxRecDepth 100000 in
/-- The function that makes great letters little. -/
theorem low_pays (w : World) : MapGrows Tryd.prog 58 #[] lowZ w := by
  intro W x hx _
  show Calls Tryd.prog 58 #[.int .i32 (x : Int)] W _
  unfold lowZ
  by_cases h1 : 65 ≤ (x : Int)
  · by_cases h2 : (x : Int) ≤ 90
    · rw [if_pos ⟨h1, h2⟩]
      go_enter Tryd.func58, Tryd.ntmps58
      go_wp2
      go_ret
      exact ⟨rfl, Below.refl _ _⟩
    · rw [if_neg (by omega)]
      have d2 : decide ((x : Int) ≤ 90) = false := by rw [decide_eq_false_iff_not]; omega
      go_enter Tryd.func58, Tryd.ntmps58
      go_wp2
      go_ret
      exact ⟨rfl, Below.refl _ _⟩
  · rw [if_neg (by omega)]
    have d1 : decide (65 ≤ (x : Int)) = false := by rw [decide_eq_false_iff_not]; omega
    go_enter Tryd.func58, Tryd.ntmps58
    go_wp2
    go_ret
    exact ⟨rfl, Below.refl _ _⟩
theorem low_range (x : Nat) (hx : x ≤ 1114111) : -2147483648 ≤ lowZ x ∧ lowZ x ≤ 2147483647 := by
  unfold lowZ
  split <;> omega

theorem ne32 (b : UInt8) : (b != 32) = !decide (b.toNat = 32) := by
  rw [Bool.eq_iff_iff]
  simp only [bne_iff_ne, ne_eq, Bool.not_eq_true', decide_eq_false_iff_not]
  exact not_congr ⟨fun h => by rw [h]; rfl, fun h => UInt8.toNat_inj.1 h⟩

set_option maxHeartbeats 4000000 in
set_option maxRecDepth 100000 in
theorem target_walk (s : ByteArray) (w : World) (hs : s.size < 4294967281) (hT : Tabs w) :
    Calls Tryd.prog 25 #[.string s] w fun e w' => e = .returned (.bool (targetB s.data.toList)) ∧ Below w.heap.size w w' := by
  obtain ⟨R, hR⟩ : ∃ R, targetB s.data.toList = R := ⟨_, rfl⟩
  rw [hR]
  obtain ⟨m, hm⟩ := hT.2
  have cC := Tryd.strings_Cut s ⟨#[58]⟩ m w hs hm
  obtain ⟨A, hA⟩ : ∃ A, (Lib.cut s.data.toList [58]).1 = A := ⟨_, rfl⟩
  have hAl : A.length ≤ s.size := by rw [← hA, cut_head, Lib.size_eq]; exact headB_le _
  have hJ := script_eq s.data.toList
  rw [hA] at hJ
  obtain ⟨J, hJ2⟩ : ∃ J, ((headB s.data.toList).map lowB == jsL) = J := ⟨_, rfl⟩
  rw [hJ2] at hJ
  have cC2 : Calls Tryd.prog 56 #[.string s, .string ⟨#[58]⟩] w fun e w' => ∃ B c, e = .returned (.tuple #[.string ⟨A.toArray⟩, .string B, .bool c]) ∧ Below w.heap.size w w' := cC.mono fun e w' ⟨he, n, hn⟩ => ⟨_, _, he.trans (by rw [← hA]), by rw [hn]; exact below_drewNv (Below.refl _ _) n⟩
  have cM := fun (W : World) (hb : Below w.heap.size w W) => Tryd.strings_Map_grows 58 #[] (enters_of Tryd.func58 (by kernel_rfl) rfl) lowZ ⟨A.toArray⟩ W (by show A.toArray.size < _; simp; omega) (low_pays W) low_range (Tabs_below hT hb).1
  obtain ⟨M, hM⟩ : ∃ M, Lib.mapD lowZ A = M := ⟨_, rfl⟩
  simp only [hM] at cM
  rw [hM] at hJ
  have cV := fun (W : World) (hb : Below w.heap.size w W) => value_walk s W (by omega) (Tabs_below hT hb)
  have HM := Lib.hid cM
  have HV := Lib.hid cV
  clear cC cM cV hm
  have hJs : (M == [106, 97, 118, 97, 115, 99, 114, 105, 112, 116]) = J := hJ
  have HJ := Lib.hid hJs
  have HR := Lib.hid (show R = (valueB s.data.toList && (!s.data.toList.isEmpty && (s.data.toList.getD 0 0 != 32) && (s.data.toList.getD (s.data.toList.length - 1) 0 != 32)) && !J) from by rw [← hR, ← hJ2]; rfl)
  clear hT hA hM hJ hJs hR hJ2
  go_enter Tryd.func25, Tryd.ntmps25
  go_wp2_with (go_at_call 56; refine cC2.mono ?_; rintro e W1 ⟨B, c, rfl, hb1⟩)
  refine (HM.out _ hb1).mono ?_
  rintro e W2 ⟨rfl, hb2⟩
  have Hb12 := Lib.hid (hb1.trans (hb2.mono hb1.size))
  clear hb1 hb2 HM
  go_wp2_with fail
  refine (HV.out _ Hb12.out).mono ?_
  rintro e W3 ⟨rfl, hb3⟩
  have Hb := Lib.hid (Hb12.out.trans (hb3.mono Hb12.out.size))
  clear hb3 HV Hb12
  rw [HJ.out]
  clear HJ
  cases hV : valueB s.data.toList
  · have HV := Lib.hid hV
    clear hV
    go_wp2
    go_ret
    exact ⟨by rw [HR.out, HV.out]; rfl, Hb.out⟩
  · have HV := Lib.hid hV
    clear hV
    by_cases h0 : s.size = 0
    · have he : s.data.toList = [] := List.eq_nil_of_length_eq_zero (by rw [← Lib.size_eq]; exact h0)
      have he2 : s.toList = [] := by rw [Lib.toList_data]; exact he
      have he3 : (!s.toList.isEmpty) = false := by rw [he2]; rfl
      have HE := Lib.hid he
      clear he h0
      go_wp2
      go_ret
      exact ⟨by rw [HR.out, HE.out]; simp, Hb.out⟩
    · have hp : 0 < s.size := by omega
      have hq : s.size - 1 < s.size := by omega
      have hne : ¬ s.toList = [] := by rw [Lib.toList_data]; intro e; have h9 := congrArg List.length e; rw [← Lib.size_eq, List.length_nil] at h9; omega
      have he3 : (!s.toList.isEmpty) = true := by simpa using hne
      have he4 : s.toList.isEmpty = false := by simpa using hne
      have g0 := getD_zero s hp
      have g1 : s.data.toList.getD (s.data.toList.length - 1) 0 = s[s.size - 1]'hq := by
        rw [← Lib.size_eq, ← byte_at s (s.size - 1) hq]
        simp [List.getD, List.getElem?_eq_getElem (show s.size - 1 < s.data.toList.length by rw [← Lib.size_eq]; omega)]
      have hE : s.data.toList.isEmpty = false := by rw [← Lib.toList_data]; exact he4
      have HR2 := Lib.hid (show R = (((s[0]'hp) != 32) && ((s[s.size - 1]'hq) != 32) && !J) from by rw [HR.out, HV.out, hE, g0, g1]; simp)
      clear HR HV g0 g1 hE hne h0
      by_cases e0 : (s[0]'hp).toNat = 32
      · have f0 : (((s[0]'hp).toNat : Int) != 32) = false := by rw [e0]; rfl
        have hF := Lib.hid (show R = false from by rw [HR2.out, ne32 _, e0]; rfl)
        clear e0 HR2
        go_wp2
        go_ret
        exact ⟨by rw [hF.out]; rfl, Hb.out⟩
      · have f0 : (((s[0]'hp).toNat : Int) != 32) = true := by rw [bne_iff_ne]; omega
        by_cases e1 : (s[s.size - 1]'hq).toNat = 32
        · have f1 : (((s[s.size - 1]'hq).toNat : Int) != 32) = false := by rw [e1]; rfl
          have hF := Lib.hid (show R = false from by rw [HR2.out, ne32 (s[s.size - 1]'hq), e1]; simp)
          clear e0 e1 HR2
          go_wp2
          go_ret
          exact ⟨by rw [hF.out]; rfl, Hb.out⟩
        · have f1 : (((s[s.size - 1]'hq).toNat : Int) != 32) = true := by rw [bne_iff_ne]; omega
          have hF := Lib.hid (show R = !J from by rw [HR2.out, ne32 (s[s.size - 1]'hq), ne32 (s[0]'hp), decide_eq_false e0, decide_eq_false e1]; simp)
          clear e0 e1 HR2
          go_wp2
          go_ret
          exact ⟨by rw [hF.out]; rfl, Hb.out⟩
end Go.Proofs.YtlppeljofjomiaaDoor.X
