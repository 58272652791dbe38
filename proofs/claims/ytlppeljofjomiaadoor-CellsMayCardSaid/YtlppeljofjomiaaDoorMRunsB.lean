/- cells.runs (31): it hands back its iterator, which captures a box of the row; and the iterator stops as a range over it asks. -/
import Derived.Test.YtlppeljofjomiaaDoorMRuns
namespace Go.Proofs.YtlppeljofjomiaaDoor.Xm
open Go.RowKit Go.Shelf
attribute [local go_sem] Oper.semAt_some
theorem runs_in (n : Nat) (v : Value) (hv : v.cells = #[v]) (ad : Addr) (c0 : Nat) (hvv : v = .slice (some ad) 3 c0) (w : World) :
    CallsIn Fence.wide n Tryd.prog 69 #[v] w fun e w' => e = .returned (.func (.func 89) #[] #[.pointer (some ⟨w.heap.size, 0, none⟩)]) ∧ w' = w.alloc (.cells #[v] 30) := by
  subst hvv
  refine callsIn_of_wp Tryd.func69 rfl trivial ?_
  simp only [Tryd.ntmps69, List.size_toArray, List.length_cons, List.length_nil, Nat.reduceAdd, Nat.reduceSub, Array.replicate_succ, Array.replicate_zero, List.push_toArray, List.append_toArray, List.nil_append, List.cons_append]
  gi_wp2
  go_ret
  exact ⟨rfl, rfl⟩
theorem runs_stops (n : Nat) (hn : 1 ≤ n) (Bn n₀ O : Nat) (ad : Addr) (c0 : Nat) (w : World) (hc : w.cell? ⟨Bn, 0, none⟩ = some (.slice (some ad) 3 c0)) (hR : RunsR O w Bn) (hG : RunsG O w) (hO : O < w.heap.size) (had : ad.block < n₀) (hL : ThreeAt w ad) :
    SeqStopsK Fence.wide n Tryd.prog 89 #[.pointer (some ⟨Bn, 0, none⟩)] (fun x : RunV => #[x.enc]) (RunsK n₀ O) (fun ys => ys = runsOf) (fun pre => pre <+: runsOf) 2 w := fun l J Jx W hW hJ hJx hY h0 => by
  have k : ∀ {p : Addr} {v : Value}, w.cell? p = some v → W.cell? p = some v := fun {p v} hp => (hW.cell (p := p) (World.block_lt_of_cell? w p hp)).trans hp
  have hOc : W.cell? ⟨O, 0, none⟩ = w.cell? ⟨O, 0, none⟩ := hW.cell (p := ⟨O, 0, none⟩) hO
  have rB : RunsR O W Bn := by
    obtain ⟨c', t', f', h1⟩ := hR.cells
    exact ⟨Nat.lt_of_lt_of_le hR.lt hW.size, hR.ne, ⟨c', t', f', (hW.block Bn hR.lt).trans h1⟩, fun v hv => hR.own v (hOc ▸ hv)⟩
  obtain ⟨h0', h1, h2, h3, h4, h5, h6, h7, h8⟩ := hL
  exact runs1_in n hn l Bn n₀ O ad c0 J Jx hY W (k hc) rB (fun v k hv hk => Nat.lt_of_lt_of_le (hG v k (hOc ▸ hv) hk) hW.size) (Nat.lt_of_lt_of_le hO hW.size) hJ had ⟨k h0', k h1, k h2, k h3, k h4, k h5, k h6, k h7, k h8⟩ h0
end Go.Proofs.YtlppeljofjomiaaDoor.Xm
