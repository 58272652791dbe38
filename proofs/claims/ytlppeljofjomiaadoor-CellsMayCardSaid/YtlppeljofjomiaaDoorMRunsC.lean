/- cells.Runs (19) at the three cells of awake. -/
import Derived.Test.YtlppeljofjomiaaDoorMRunsB
import Derived.Maps.OwnIn
namespace Go.Proofs.YtlppeljofjomiaaDoor.Xm
open Go.RowKit Go.Shelf
attribute [local go_sem] Oper.semAt_some
def RunV.cells (x : RunV) : List Value := [.int .i64 x.a, .int .i64 x.b, .int .i64 x.c, .string x.d, .int .i64 x.e]
def runCells (xs : List RunV) : List Value := xs.flatMap RunV.cells
theorem runCells_snoc (pre : List RunV) (x : RunV) : runCells (pre ++ [x]) = runCells pre ++ x.cells := by simp [runCells]
/-- The loop's variable, in a box of its own. -/
def RunBox (W : World) (B : Nat) (x : RunV) : Prop := W.heap[B]? = some (.cells x.cells.toArray 61 (0, 0))
theorem info61 : (Tryd.prog.info? 61).map (fun i => (i.zero, i.size, i.bytes)) = some (some (.agg #[.int .i64 0, .int .i64 0, .int .i64 0, .string ⟨#[]⟩, .int .i64 0]), 5, 48) := by kernel_rfl
theorem RunsK.appended {W w1 : World} {n₀ O : Nat} {v v' : Value} {tmp : Obj} {k m : Nat} {xs ys : List Value} (hv : Boxed W O 55 v) (hrow : W.ownsRow n₀ 61 5 v k xs) (hn₀ : n₀ ≤ W.heap.size) (hB : n₀ ≤ O)
    (hown' : w1.ownsRow n₀ 61 5 v' m ys) (hgrow : (W.alloc tmp).grownBy w1 v.ownBlock) (hat : v'.ownBlock = v.ownBlock ∨ v'.ownBlock = some (W.alloc tmp).heap.size) : RunsK n₀ O W (w1.setCell ⟨O, 0, none⟩ v') := by
  obtain ⟨hv1, hv2, hr2, hk2, hb2⟩ := hv.appended (by decide) hrow hn₀ hB hown' hgrow
  have hOc := hv2.cell
  have hsz : W.heap.size + 1 ≤ (w1.setCell ⟨O, 0, none⟩ v').heap.size := by
    have h1 := hgrow.size
    rw [World.size_alloc] at h1
    exact Nat.le_trans h1 (KeepsWalks.setCell w1 _ v').size
  refine ⟨hb2, fun _ u q hu hq => ?_, fun q hq => ?_⟩
  · rw [hOc] at hu
    cases hu
    rcases hr2.2 with ⟨rfl, _⟩ | ⟨g, cap, cur, rfl, _, hgb, _⟩
    · simp [Value.ownBlock] at hq
    · obtain rfl : g = q := by simpa [Value.ownBlock] using hq
      exact (Array.getElem?_eq_some_iff.1 hgb).1
  · have hne : v.ownBlock ≠ some q := hq.own v hv.cell
    have hb : (w1.setCell ⟨O, 0, none⟩ v').heap[q]? = W.heap[q]? :=
      (Below.heap_setCell _ _ _ q hq.ne).trans ((hgrow.block q (by rw [World.size_alloc]; exact Nat.lt_succ_of_lt hq.lt) (fun e => hne e.symm)).trans (Below.heap_alloc _ _ _ hq.lt))
    obtain ⟨c, t, f, h1⟩ := hq.cells
    refine ⟨⟨Nat.lt_of_lt_of_le hq.lt (Nat.le_of_succ_le hsz), hq.ne, ⟨c, t, f, hb.trans h1⟩, fun u hu he => ?_⟩, hb⟩
    rw [hOc] at hu
    cases hu
    rcases hat with h2 | h2
    · exact hne (h2.symm.trans he)
    · rw [h2, World.size_alloc] at he
      have := Option.some.inj he
      have := hq.lt
      omega
set_option maxRecDepth 100000 in
set_option maxHeartbeats 1000000 in
theorem runsAll_in (n : Nat) (hn : 6 ≤ n) (ad : Addr) (c0 : Nat) (w : World) (hL : ThreeAt w ad) :
    CallsIn Fence.wide n Tryd.prog 43 #[.slice (some ad) 3 c0] w fun e W' => ∃ v, e = .returned v ∧ W'.ownsRow w.heap.size 61 5 v runsOf.length (runCells runsOf) ∧ Below w.heap.size w W' := by
  have h1 : 1 ≤ n := by omega
  refine callsIn_of_wp_marks Tryd.func43 rfl trivial ?_ rfl
  simp only [Tryd.ntmps43, List.size_toArray, List.length_cons, List.length_nil, Nat.reduceAdd, Nat.reduceSub, Array.replicate_succ, Array.replicate_zero, List.push_toArray, List.append_toArray, List.nil_append, List.cons_append]
  gi_wp2_with (refine ⟨trivial, ?_⟩; gi_at_call 69; refine (runs_in (n - 1) _ rfl ad c0 rfl _).mono ?_; rintro e w' ⟨rfl, rfl⟩)
  obtain ⟨i0, hi, hz0, hz1, hz2⟩ := info_parts info61
  have bO := (Boxed.new w 55 (.slice none 0 0)).alloc (.cells #[.slice (some ad) 3 c0] 30)
  have bN := Boxed.new (w.alloc (.cells #[.slice none 0 0] 55)) 30 (.slice (some ad) 3 c0)
  rw [World.size_alloc] at bN
  have hB0 : Below w.heap.size w ((w.alloc (.cells #[.slice none 0 0] 55)).alloc (.cells #[.slice (some ad) 3 c0] 30)) := ((Below.refl _ w).alloc (Nat.le_refl _) _).alloc (by simp) _
  have hsz : ((w.alloc (.cells #[.slice none 0 0] 55)).alloc (.cells #[.slice (some ad) 3 c0] 30)).heap.size = w.heap.size + 2 := by simp
  have hL0 := (hL.grown (World.grownBy_alloc w (.cells #[.slice none 0 0] 55) none)).grown (World.grownBy_alloc _ (.cells #[.slice (some ad) 3 c0] 30) none)
  have had : ad.block < w.heap.size := World.block_lt_of_cell? w ad hL.c0
  obtain ⟨W0, hW0⟩ : ∃ W0, (w.alloc (.cells #[.slice none 0 0] 55)).alloc (.cells #[.slice (some ad) 3 c0] 30) = W0 := ⟨_, rfl⟩
  rw [hW0] at bO bN hB0 hsz hL0
  simp only [hW0, World.size_alloc]
  clear hW0
  have hOc := bO.cell
  refine wpIn_rangeFunc_ownH rfl h1 (gf := 89) (lb := #[.pointer (some ⟨w.heap.size + 1, 0, none⟩)]) rfl trivial (enters_of Tryd.func89 (by kernel_rfl) rfl)
    (runs_stops (n - 1) (by omega) (w.heap.size + 1) w.heap.size w.heap.size ad c0 W0 bN.cell ⟨by omega, by omega, ⟨_, _, _, bN⟩, fun v hv => by rw [hOc] at hv; cases hv; simp [Value.ownBlock]⟩ (fun v k hv hk => by rw [hOc] at hv; cases hv; simp [Value.ownBlock] at hk) (by omega) had hL0) RunsK.trans (RunsK.putObj (by omega) (by omega)) (Below.refl _ _) (fun _ => rfl)
    (fun pre W => (∃ v, Boxed W w.heap.size 55 v ∧ W.ownsRow w.heap.size 61 5 v pre.length (runCells pre) ∧ True) ∧ Below w.heap.size w W)
    (fun _ _ _ => False)
    (OwnFrom.and (Own.from (holdsRow_own w.heap.size w.heap.size 55 61 5 (fun pre => pre.length) (fun pre => runCells pre) (fun _ _ => True)) _) (ownFrom_below (Nat.le_refl _) (by omega)))
    (fun _ _ _ _ _ hs _ _ => hs)
    ⟨⟨_, bO, World.ownsRow_nil _ _ _ _, trivial⟩, hB0⟩
    (fun x a' W => ∃ Bx, w.heap.size < Bx ∧ RunBox W Bx x ∧ a' = { tmps := #[.slice (some ad) 3 c0, undef, .slice none 0 0, .pointer (some ⟨w.heap.size, 0, none⟩), .pointer (some ⟨Bx, 0, none⟩), .slice (some ad) 3 c0, .func (.func 89) #[] #[.pointer (some ⟨w.heap.size + 1, 0, none⟩)], x.enc, undef, undef, undef, undef, undef], defers := [] })
    (fun x a' _ X Y row hs hg hr => by
      obtain ⟨Bx, h1, h2, h3⟩ := hs
      refine ⟨Bx, h1, (hg.block Bx (Array.getElem?_eq_some_iff.1 h2).1 (fun e => ?_)).trans h2, h3⟩
      obtain ⟨_, o, ho, hc⟩ := hr Bx e.symm
      rw [show X.heap[Bx]? = _ from h2] at ho
      cases ho
      cases hc)
    ?assign ?body ?done ?stop
  case assign =>
    rintro l pre x W K ⟨⟨v, bv, hrow, -⟩, hB1⟩ hK
    obtain ⟨a, b, c, d, e⟩ := x
    dsimp only [RunV.enc]
    gi_wp2
    exact hK _ _ ((KeepsOthers.alloc _ _).from _) (RunsK.of_grown (World.grownBy_alloc W _ none) hB1.size bv.lt (fun r e => by cases e)) ⟨⟨v, bv.alloc _, hrow.alloc _, trivial⟩, hB1.alloc hB1.size _⟩ ⟨W.heap.size, bv.lt, World.alloc_heap_new W _, rfl⟩
  case body =>
    rintro l pre x a' W hl ⟨r, hr⟩ ⟨⟨v, bv, hrow, -⟩, hB1⟩ ⟨Bx, hBx, bX, rfl⟩ hlt
    have hc := bv.cell
    have bX' : W.heap[Bx]? = _ := bX
    have x0 : W.cell? ⟨Bx, 0, none⟩ = some (.int .i64 x.a) := by simp [World.cell?, bX', RunV.cells]
    have x1 : W.cell? ⟨Bx, 1, none⟩ = some (.int .i64 x.b) := by simp [World.cell?, bX', RunV.cells]
    have x2 : W.cell? ⟨Bx, 2, none⟩ = some (.int .i64 x.c) := by simp [World.cell?, bX', RunV.cells]
    have x3 : W.cell? ⟨Bx, 3, none⟩ = some (.string x.d) := by simp [World.cell?, bX', RunV.cells]
    have x4 : W.cell? ⟨Bx, 4, none⟩ = some (.int .i64 x.e) := by simp [World.cell?, bX', RunV.cells]
    have hnews : ∀ (j : Nat) (u : Value), x.cells[j]? = some u → (W.alloc (.cells #[.int .i64 x.a, .int .i64 x.b, .int .i64 x.c, .string x.d, .int .i64 x.e] 61)).cell? (Addr.add ⟨W.heap.size, 0, none⟩ j) = some u := by
      have h := World.news_of_block (cs := x.cells.toArray) (t := 61) (fr := (0, 0)) (World.alloc_heap_new W (.cells x.cells.toArray 61))
      simp only [List.toList_toArray] at h
      exact h
    have HN := Lib.hid hnews
    clear hnews
    gi_wp2_with (gi_at_builtin; refine Hid.out ?_)
    refine Lib.hid ?_
    (refine wpListIn_append_own_at _ rfl _ _ 55 rfl w.heap.size 61 i0 (.agg #[.int .i64 0, .int .i64 0, .int .i64 0, .string ⟨#[]⟩, .int .i64 0]) 5 48 Tryd.underlying55 hi hz0 hz1 hz2 rfl (by decide) _ _ _ rfl (hrow.alloc _) ⟨W.heap.size, 0, none⟩ 1 1 x.cells rfl rfl HN.out (fun u hu => by simp [RunV.cells] at hu; rcases hu with rfl | rfl | rfl | rfl | rfl <;> rfl) (by unfold maxLen; omega) (by omega) (by have := hB1.size; simp; omega) ?_; intro v' w1 hown' hgrow _ hat; obtain ⟨g', cap', rfl⟩ := ownsRow_succ hown'; obtain ⟨hv1, hv2, hr2, hk2, hb2⟩ := bv.appended (by decide) hrow hB1.size (Nat.le_refl _) hown' hgrow; have hR2 := RunsK.appended bv hrow hB1.size (Nat.le_refl _) hown' hgrow hat; have hc1 := hv1.cell; have hf1 := hv1.frozen)
    gi_wp2
    exact ⟨hk2.from _, hR2, ⟨_, hv2, by rw [runCells_snoc, List.length_append]; exact hr2, trivial⟩, hB1.trans hb2⟩
  case done =>
    rintro D ys W hD rfl ⟨⟨v, hv, hrow, -⟩, hB⟩ hK
    have hc := hv.cell
    gi_wp2
    refine ⟨by simp, .inl ⟨_, _, rfl, run_takeDeferred hK, ?_⟩⟩
    exact ⟨_, results_tmp rfl _ _ _, v, rfl, ownsRow_putObj hrow _ hK rfl, hB.trans (belowK_b (w := w) (Nat.le_refl _) W D _ _ (by omega) hK rfl rfl)⟩
  case stop =>
    rintro D c pre W _ _ h _
    exact h.elim
end Go.Proofs.YtlppeljofjomiaaDoor.Xm
