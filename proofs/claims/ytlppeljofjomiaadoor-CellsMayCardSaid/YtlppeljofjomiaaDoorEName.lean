/- attrs.Name at every text: it hands back whether the text is a name; nothing that lay has turned. No condition. -/
import Derived.Test.YtlppeljofjomiaaDoorXx0
import Derived.Test.YtlppeljofjomiaaDoorPlain
import Derived.WalkKit
import Derived.Lib.OthersKept
import Derived.Lib.Hide
namespace Go.Proofs.YtlppeljofjomiaaDoor.X
open Go.RowKit
open Go.Proofs.YtlppeljofjomiaaDoor.Pl (nameB okByte lowByte)

theorem jsSize : (((⟨#[106, 97, 118, 97, 115, 99, 114, 105, 112, 116]⟩ : ByteArray).size : Nat) : Int) = 10 := rfl
theorem isEmpty_bne (l : List UInt8) : l.isEmpty = !(l != []) := by cases l <;> rfl
theorem nameB_size (s : ByteArray) (h : s.size < 1 ∨ 16 < s.size) : nameB s.data.toList = false := by
  unfold nameB
  rw [← Lib.size_eq, decide_eq_false (by omega)]
  rfl
theorem byte_at (s : ByteArray) (pos : Nat) (hp : pos < s.size) : s.data.toList[pos]'(by rw [← Lib.size_eq]; exact hp) = s[pos]'hp := by
  have := Lib.data_getElem? s pos hp
  rw [List.getElem?_eq_getElem (by rw [← Lib.size_eq]; exact hp)] at this
  exact Option.some.inj this
theorem take_all (s : ByteArray) (pos : Nat) (hp : pos < s.size) (h : (s.data.toList.take pos).all okByte = true) (hb : okByte (s[pos]'hp) = true) : (s.data.toList.take (pos + 1)).all okByte = true := by
  rw [List.take_succ_eq_append_getElem (by rw [← Lib.size_eq]; exact hp), List.all_append, h, byte_at s pos hp]
  simp [hb]
theorem nameB_bad (s : ByteArray) (pos : Nat) (hp : pos < s.size) (hb : okByte (s[pos]'hp) = false) : nameB s.data.toList = false := by
  have hm : (s[pos]'hp) ∈ s.data.toList := by rw [← byte_at s pos hp]; exact List.getElem_mem _
  have : s.data.toList.all okByte = false := by
    rw [List.all_eq_false]
    exact ⟨_, hm, by rw [hb]; simp⟩
  unfold nameB
  rw [this, Bool.and_false]
theorem nameB_low (s : ByteArray) (hp : 0 < s.size) (hb : lowByte (s[0]'hp) = false) : nameB s.data.toList = false := by
  have : s.data.toList.getD 0 0 = s[0]'hp := by
    rw [← byte_at s 0 hp]
    simp [List.getD, List.getElem?_eq_getElem (show 0 < s.data.toList.length by rw [← Lib.size_eq]; exact hp)]
  unfold nameB
  rw [this, hb]
  simp
theorem getD_zero (s : ByteArray) (hp : 0 < s.size) : s.data.toList.getD 0 0 = s[0]'hp := by
  rw [← byte_at s 0 hp]
  simp [List.getD, List.getElem?_eq_getElem (show 0 < s.data.toList.length by rw [← Lib.size_eq]; exact hp)]
theorem nameB_yes (s : ByteArray) (h1 : 1 ≤ s.size) (h2 : s.size ≤ 16) (h : (s.data.toList.take s.size).all okByte = true) (hl : lowByte (s.data.toList.getD 0 0) = true) : nameB s.data.toList = true := by
  rw [Lib.size_eq, List.take_length] at h
  unfold nameB
  rw [h, hl, ← Lib.size_eq, decide_eq_true ⟨h1, h2⟩]
  rfl

set_option maxHeartbeats 4000000 in
set_option maxRecDepth 100000 in
theorem name_walk (s : ByteArray) (w : World) :
    Calls Tryd.prog 21 #[.string s] w fun e w' => e = .returned (.bool (nameB s.data.toList)) ∧ Below w.heap.size w w' := by
  by_cases h1 : s.size < 1
  · rw [nameB_size s (.inl h1)]
    go_enter Tryd.func21, Tryd.ntmps21
    go_wp2
    go_ret
    exact ⟨rfl, Below.refl _ _⟩
  by_cases h2 : 16 < s.size
  · rw [nameB_size s (.inr h2)]
    go_enter Tryd.func21, Tryd.ntmps21
    go_wp2
    go_ret
    exact ⟨rfl, Below.refl _ _⟩
  have hv0 := Lib.hid (rfl : nameB s.data.toList = nameB s.data.toList)
  obtain ⟨R, hR⟩ : ∃ R, nameB s.data.toList = R := ⟨_, rfl⟩
  rw [hR]
  have HR := Lib.hid hR
  clear hR hv0
  go_enter Tryd.func21, Tryd.ntmps21
  go_wp2
  go_loopw [] (fun wr => ∃ pos : Nat, wr.heap[w.heap.size]? = some (.stringIter s pos) ∧ Below w.heap.size w wr ∧ (s.data.toList.take pos).all okByte = true ∧ (0 < pos → lowByte (s.data.toList.getD 0 0) = true)) (fun wr => s.size - wr.iterPos w.heap.size)
  case atStart => exact ⟨0, World.iter_heap w s 0, (Below.refl _ _).alloc (Nat.le_refl _) _, by simp, fun h => by omega⟩
  case round =>
    obtain ⟨pos, hit, hb, hall, hlow⟩ := hrel
    have Hall := Lib.hid hall
    have Hlow := Lib.hid hlow
    have Hit := Lib.hid hit
    clear hall hlow
    by_cases hp : pos < s.size
    · have hit2 := fun q => Lib.iterAt_heap wr w.heap.size s pos q hit
      have Hit2 := Lib.hid hit2
      have hb2 := fun q => Lib.below_iterAt hb (k := w.heap.size) (Nat.le_refl _) s q
      have Hb2 := Lib.hid hb2
      by_cases ha : (s[pos]'hp).toNat < 128
      · obtain ⟨n, hn⟩ : ∃ n, n = (s[pos]'hp).toNat := ⟨_, rfl⟩
        have hnx : ∀ ty, (Instr.next (.pointer (some ⟨w.heap.size, 0, none⟩)) true ty).run Tryd.prog wr = .ok (.tuple #[.bool true, .int .i64 pos, .int .i32 n]) (wr.iterAt w.heap.size s (pos + 1)) := fun ty => by
          rw [hn]; exact Lib.run_next_ascii_at wr w.heap.size s pos ty hit hp ha
        have hok : okByte (s[pos]'hp) = decide ((97 ≤ n ∧ n ≤ 122) ∨ (48 ≤ n ∧ n ≤ 57) ∨ n = 45) := by rw [hn]; rfl
        have hlo : lowByte (s[pos]'hp) = decide (97 ≤ n ∧ n ≤ 122) := by rw [hn]; rfl
        have Hok := Lib.hid hok
        have Hlo := Lib.hid hlo
        rw [← hn] at ha
        clear hn hit hok hlo hit2 hb2
        by_cases hc : 97 ≤ n ∧ n ≤ 122
        · obtain ⟨c1, c2⟩ := hc
          go_wp2
          go_roundw
          case rel =>
            refine ⟨pos + 1, Hit2.out _, Hb2.out _, take_all s pos hp Hall.out (by rw [Hok.out]; simp [c1, c2]), fun _ => ?_⟩
            by_cases h0 : pos = 0
            · subst h0; rw [getD_zero s hp, Hlo.out]; simp [c1, c2]
            · exact Hlow.out (by omega)
          case measure => simp only [World.iterPos, Hit2.out, Hit.out]; omega
        · by_cases h0 : pos = 0
          · subst h0
            have hN := nameB_low s hp (by rw [Hlo.out]; simp only [decide_eq_false_iff_not]; exact hc)
            have HN := Lib.hid hN
            clear hN
            rcases (show (n < 97 ∧ n ≤ 122) ∨ (97 ≤ n ∧ 122 < n) by omega) with ⟨c, c'⟩ | ⟨c, c'⟩
            · clear hc
              go_wp2
              go_ret
              exact ⟨by rw [← HR.out, HN.out]; rfl, Hb2.out _⟩
            · clear hc
              have d1 : decide ((n : Int) ≤ 122) = false := by rw [decide_eq_false_iff_not]; omega
              go_wp2
              go_ret
              exact ⟨by rw [← HR.out, HN.out]; rfl, Hb2.out _⟩
          · have h0i : ((pos : Int) == 0) = false := by rw [beq_eq_false_iff_ne]; omega
            by_cases hd : 48 ≤ n ∧ n ≤ 57
            · obtain ⟨c1, c2⟩ := hd
              have c3 : n < 97 := by omega
              clear hc
              go_wp2
              go_roundw
              case rel => exact ⟨pos + 1, Hit2.out _, Hb2.out _, take_all s pos hp Hall.out (by rw [Hok.out]; simp [c1, c2]), fun _ => Hlow.out (by omega)⟩
              case measure => simp only [World.iterPos, Hit2.out, Hit.out]; omega
            · by_cases h45 : n = 45
              · subst h45
                clear hc hd
                go_wp2
                go_roundw
                case rel => exact ⟨pos + 1, Hit2.out _, Hb2.out _, take_all s pos hp Hall.out (by rw [Hok.out]; rfl), fun _ => Hlow.out (by omega)⟩
                case measure => simp only [World.iterPos, Hit2.out, Hit.out]; omega
              · have hN := nameB_bad s pos hp (by rw [Hok.out]; simp only [decide_eq_false_iff_not]; omega)
                have HN := Lib.hid hN
                clear hN
                have h45i : ((n : Int) != 45) = true := by rw [bne_iff_ne]; omega
                rcases (show n < 48 ∨ (57 < n ∧ n < 97) ∨ (57 < n ∧ 122 < n) by omega) with c | ⟨c, c'⟩ | ⟨c, c'⟩
                · clear hc hd h45
                  have d1 : decide ((n : Int) < 48) = true := by rw [decide_eq_true_iff]; omega
                  go_wp2
                  go_ret
                  exact ⟨by rw [← HR.out, HN.out]; rfl, Hb2.out _⟩
                · clear hc hd h45
                  have d1 : decide ((57 : Int) < n) = true := by rw [decide_eq_true_iff]; omega
                  go_wp2
                  go_ret
                  exact ⟨by rw [← HR.out, HN.out]; rfl, Hb2.out _⟩
                · clear hc hd h45
                  have d1 : decide ((n : Int) ≤ 122) = false := by rw [decide_eq_false_iff_not]; omega
                  have d2 : decide ((57 : Int) < n) = true := by rw [decide_eq_true_iff]; omega
                  go_wp2
                  go_ret
                  exact ⟨by rw [← HR.out, HN.out]; rfl, Hb2.out _⟩
      · obtain ⟨n, hn⟩ : ∃ n, n = (Utf8.decode s pos).1 := ⟨_, rfl⟩
        have hnx : ∀ ty, (Instr.next (.pointer (some ⟨w.heap.size, 0, none⟩)) true ty).run Tryd.prog wr = .ok (.tuple #[.bool true, .int .i64 pos, .int .i32 n]) (wr.iterAt w.heap.size s (pos + (Utf8.decode s pos).2)) := fun ty => by
          rw [hn]; exact Lib.run_next_any_at wr w.heap.size s pos ty hit hp
        have hge : 128 ≤ n := by rw [hn]; exact (decode_high s pos hp (by omega)).1
        have hN := nameB_bad s pos hp (by unfold okByte; rw [decide_eq_false (by omega)])
        have HN := Lib.hid hN
        have h45i : ((n : Int) != 45) = true := by rw [bne_iff_ne]; omega
        have d1 : decide ((n : Int) ≤ 122) = false := by rw [decide_eq_false_iff_not]; omega
        have d2 : decide ((57 : Int) < n) = true := by rw [decide_eq_true_iff]; omega
        clear hn hit ha hN hit2 hb2
        by_cases h0 : pos = 0
        · subst h0
          go_wp2
          go_ret
          exact ⟨by rw [← HR.out, HN.out]; rfl, Hb2.out _⟩
        · have h0i : ((pos : Int) == 0) = false := by rw [beq_eq_false_iff_ne]; omega
          go_wp2
          go_ret
          exact ⟨by rw [← HR.out, HN.out]; rfl, Hb2.out _⟩
    · have hnx : ∀ ty, (Instr.next (.pointer (some ⟨w.heap.size, 0, none⟩)) true ty).run Tryd.prog wr = _ := fun ty => Lib.run_next_end_at wr w.heap.size s pos ty hit hp
      clear hit
      go_wp2
      go_ret
      have e1 : s.data.toList.take pos = s.data.toList.take s.size := by rw [List.take_of_length_le (by rw [← Lib.size_eq]; omega), List.take_of_length_le (by rw [← Lib.size_eq]; omega)]
      have h3 := Hall.out
      rw [e1] at h3
      rw [← HR.out, nameB_yes s (by omega) (by omega) h3 (Hlow.out (by omega))]
      exact ⟨rfl, hb⟩
end Go.Proofs.YtlppeljofjomiaaDoor.X
