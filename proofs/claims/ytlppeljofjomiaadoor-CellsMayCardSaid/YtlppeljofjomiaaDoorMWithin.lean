/- cells.Within at three cells, the second and the third in one link, the place 2: from 1 to 3; nothing turns. The condition: the cells hold these three. -/
import Derived.Test.YtlppeljofjomiaaDoorXmx0
import Derived.WalkKit
import Derived.OwnWalk
import Derived.Lib.Hide
namespace Go.Proofs.YtlppeljofjomiaaDoor.Xm
open Go.RowKit
open Go.Proofs.YtlppeljofjomiaaDoorW.PrintWords Go.Proofs.YtlppeljofjomiaaDoorW.PrintLast Go.Proofs.YtlppeljofjomiaaDoorW.PrintMore
theorem sides_at (ad : Addr) (c : Nat) (w : World) : Calls Tryd.prog 72 #[.slice (some ad) 3 c, .int .i64 2] w fun e w' => e = .returned (.tuple #[.int .i64 2, .pointer (some ⟨ad.block, ad.off + 3, none⟩), .pointer (some ⟨ad.block, ad.off + 6, none⟩)]) ∧ w' = w := by
  go_enter Tryd.func72, Tryd.ntmps72
  go_wp2
  refine bodyPost_ret (results_tmp3 rfl _ _ _) rfl ?_
  exact ⟨rfl, rfl⟩
set_option maxHeartbeats 4000000 in
theorem within_at (ad : Addr) (c : Nat) (w : World) (x : ByteArray) (hx : x.toList.isEmpty = false) (hx2 : (([] : List UInt8) == x.toList) = false)
    (h2 : w.cell? ⟨ad.block, ad.off + 2, none⟩ = some (.string ⟨#[]⟩))
    (h5 : w.cell? ⟨ad.block, ad.off + 5, none⟩ = some (.string x))
    (h8 : w.cell? ⟨ad.block, ad.off + 8, none⟩ = some (.string x)) :
    Calls Tryd.prog 45 #[.slice (some ad) 3 c, .int .i64 2] w fun e w' => e = .returned (.tuple #[.int .i64 1, .int .i64 3]) ∧ w' = w := by
  have CA := Lib.hid (sides_at ad c w)
  go_enter Tryd.func45, Tryd.ntmps45
  go_wp2_with (go_at_call 72; refine CA.out.mono ?_; rintro e W1 ⟨rfl, rfl⟩)
  go_loopw [4] (fun v4 wr => wr = W1 ∧ (v4 = .int .i64 2 ∨ v4 = .int .i64 1)) (fun v4 _ => (intOf v4).toNat)
  case atStart => exact ⟨rfl, .inl rfl⟩
  case round =>
    obtain ⟨rfl, rfl | rfl⟩ := hrel
    · go_wp2
      go_roundw
      case rel => exact ⟨trivial, .inr (by go_num)⟩
      case measure => first | (simp [intOf]; done) | (simp [intOf]; omega)
    · go_wp2
      go_loopw [5] (fun v5 wr2 => wr2 = wr ∧ (v5 = .int .i64 2 ∨ v5 = .int .i64 3)) (fun v5 _ => 3 - (intOf v5).toNat)
      case atStart => exact ⟨rfl, .inl rfl⟩
      case round =>
        obtain ⟨rfl, rfl | rfl⟩ := hrel
        · go_wp2
          go_roundw
          case rel => exact ⟨trivial, .inr (by go_num)⟩
          case measure => first | (simp [intOf]; done) | (simp [intOf]; omega)
        · go_wp2
          go_ret2
          exact ⟨rfl, rfl⟩
end Go.Proofs.YtlppeljofjomiaaDoor.Xm
