/- cells.Runs at the three cells of awake: the two runs. -/
import Derived.RangeFuncNested
import Derived.RangeFuncBox
import Derived.RangeFuncBound
import Derived.RangeFuncCalls
import Derived.RangeFuncLeaves
import Derived.Shelf.Abstract
import Derived.Shelf.RegionOpen
import Derived.WalkKit
import Derived.OwnWalkIn
import Derived.TacticsInMore
import Derived.LoopNIn
import Derived.LoopIn
import Derived.Maps.AppendAt
import Derived.Lib.Hide
import Derived.Test.YtlppeljofjomiaaDoorXmx0
namespace Go.Proofs.YtlppeljofjomiaaDoor.Xm
open Go.RowKit Go.Shelf
attribute [local go_sem] Oper.semAt_some

/-- What a round keeps: all below n₀; and each block of cells that is neither the box O nor the own row of what O holds. -/
structure RunsR (O : Nat) (W : World) (k : Nat) : Prop where
  lt : k < W.heap.size
  ne : k ≠ O
  cells : ∃ c t f, W.heap[k]? = some (.cells c t f)
  own : ∀ v, W.cell? ⟨O, 0, none⟩ = some v → v.ownBlock ≠ some k
def RunsG (O : Nat) (W : World) : Prop := ∀ v k, W.cell? ⟨O, 0, none⟩ = some v → v.ownBlock = some k → k < W.heap.size
structure RunsK (n₀ O : Nat) (W W' : World) : Prop where
  below : Below n₀ W W'
  g : RunsG O W → RunsG O W'
  keep : ∀ k, RunsR O W k → RunsR O W' k ∧ W'.heap[k]? = W.heap[k]?
theorem RunsK.trans {n₀ O : Nat} {A B C : World} (h : RunsK n₀ O A B) (k : RunsK n₀ O B C) : RunsK n₀ O A C :=
  ⟨h.below.trans k.below, fun hg => k.g (h.g hg), fun q hq => ⟨(k.keep q (h.keep q hq).1).1, ((k.keep q (h.keep q hq).1).2).trans (h.keep q hq).2⟩⟩
/-- A step that turns no block that lay, or one alone that is no cells. -/
theorem RunsK.of_grown {n₀ O : Nat} {W W' : World} {row : Option Nat} (hg : W.grownBy W' row) (hn : n₀ ≤ W.heap.size) (hO : O < W.heap.size) (hr : ∀ r, row = some r → n₀ ≤ r ∧ r ≠ O ∧ ∃ o : Obj, W.heap[r]? = some o ∧ o.isCells = false) : RunsK n₀ O W W' := by
  have hOc : W'.cell? ⟨O, 0, none⟩ = W.cell? ⟨O, 0, none⟩ := World.cell?_of_block (hg.block O hO (fun e => (hr O e.symm).2.1 rfl))
  refine ⟨(Below.refl n₀ W).grown hg hn (fun r e => (hr r e).1), fun h v k hv hk => ?_, fun k hk => ?_⟩
  · rw [hOc] at hv
    exact Nat.lt_of_lt_of_le (h v k hv hk) hg.size
  · have hne : some k ≠ row := fun e => by
      obtain ⟨_, _, o, ho, hc⟩ := hr k e.symm
      obtain ⟨c, t, f, h1⟩ := hk.cells
      rw [h1] at ho
      cases ho
      cases hc
    have hb := hg.block k hk.lt hne
    obtain ⟨c, t, f, h1⟩ := hk.cells
    exact ⟨⟨Nat.lt_of_lt_of_le hk.lt hg.size, hk.ne, ⟨c, t, f, hb.trans h1⟩, fun v hv => hk.own v (hOc ▸ hv)⟩, hb⟩
theorem RunsK.putObj {n₀ O : Nat} {w : World} (hn : n₀ ≤ w.heap.size) (hO : O < w.heap.size) (W : World) (l : Nat) (o o' : Obj) (hl : w.heap.size ≤ l) (h : W.heap[l]? = some o) (hc : o.isCells = false) (_ : o.isWalk = false) : RunsK n₀ O W (W.putObj l o') := by
  have hlt := (Array.getElem?_eq_some_iff.1 h).1
  exact RunsK.of_grown (grownBy_putObj' W l o') (by omega) (by omega) (fun r e => by cases e; exact ⟨by omega, by omega, o, h, hc⟩)

theorem cell_alloc_l' {W : World} {a : Addr} {v : Value} (o : Obj) (h : W.cell? a = some v) : (W.alloc o).cell? a = some v := (World.cell?_alloc_lt _ _ _ (World.block_lt_of_cell? W a h)).trans h
structure RunV where
  a : Int
  b : Int
  c : Int
  d : ByteArray
  e : Int
def RunV.enc (x : RunV) : Value := .agg #[.int .i64 x.a, .int .i64 x.b, .int .i64 x.c, .string x.d, .int .i64 x.e]
def runsOf : List RunV := [⟨0, 2, 1, ⟨#[]⟩, 0⟩, ⟨2, 3, 0, ⟨#[]⟩, 1⟩]
/-- The three cells lie at ad. -/
structure ThreeAt (W : World) (ad : Addr) : Prop where
  c0 : W.cell? ad = some (.int .i32 97)
  c1 : W.cell? ⟨ad.block, ad.off + 1, none⟩ = some (.int .i64 1)
  c2 : W.cell? ⟨ad.block, ad.off + 2, none⟩ = some (.string ⟨#[]⟩)
  c3 : W.cell? ⟨ad.block, ad.off + 3, none⟩ = some (.int .i32 241)
  c4 : W.cell? ⟨ad.block, ad.off + 4, none⟩ = some (.int .i64 1)
  c5 : W.cell? ⟨ad.block, ad.off + 5, none⟩ = some (.string ⟨#[]⟩)
  c6 : W.cell? ⟨ad.block, ad.off + 6, none⟩ = some (.int .i32 10)
  c7 : W.cell? ⟨ad.block, ad.off + 7, none⟩ = some (.int .i64 0)
  c8 : W.cell? ⟨ad.block, ad.off + 8, none⟩ = some (.string ⟨#[]⟩)

theorem ThreeAt.grown {W W' : World} {ad : Addr} (h : ThreeAt W ad) (hg : W.grownBy W' none) : ThreeAt W' ad := by
  obtain ⟨h0, h1, h2, h3, h4, h5, h6, h7, h8⟩ := h
  have k : ∀ {p : Addr} {v : Value}, W.cell? p = some v → W'.cell? p = some v := fun {p v} hp => (World.cell?_of_block (hg.block p.block (World.block_lt_of_cell? W p hp) (by simp))).trans hp
  exact ⟨k h0, k h1, k h2, k h3, k h4, k h5, k h6, k h7, k h8⟩
/-- A variable of the run's type in block r. -/
def RunAt (W : World) (r : Nat) (a b c : Int) (e : Int) : Prop := W.heap[r]? = some (.cells #[.int .i64 a, .int .i64 b, .int .i64 c, .string ⟨#[]⟩, .int .i64 e] 61 (0, 0))
structure RunCells (W : World) (r : Nat) (a b c : Int) (e : Int) : Prop where
  t0 : W.cell? ⟨r, 0, none⟩ = some (.int .i64 a)
  t1 : W.cell? ⟨r, 1, none⟩ = some (.int .i64 b)
  t2 : W.cell? ⟨r, 2, none⟩ = some (.int .i64 c)
  t3 : W.cell? ⟨r, 3, none⟩ = some (.string ⟨#[]⟩)
  t4 : W.cell? ⟨r, 4, none⟩ = some (.int .i64 e)
  f1 : W.frozen? ⟨r, 1, none⟩ = false
  f4 : W.frozen? ⟨r, 4, none⟩ = false
theorem RunAt.cells {W : World} {r : Nat} {a b c e : Int} (h : RunAt W r a b c e) : RunCells W r a b c e := by
  have h' : W.heap[r]? = _ := h
  refine ⟨?_, ?_, ?_, ?_, ?_, ?_, ?_⟩ <;> simp [World.cell?, World.frozen?, h']
theorem RunAt.setB {W : World} {r : Nat} {a b c e : Int} (h : RunAt W r a b c e) (b' : Int) : RunAt (W.setCell ⟨r, 1, none⟩ (.int .i64 b')) r a b' c e := by
  obtain ⟨hlt, hk⟩ := Array.getElem?_eq_some_iff.1 h
  show (W.heap.modify r _)[r]? = _
  rw [Array.getElem?_eq_getElem (by rw [Array.size_modify]; exact hlt), Array.getElem_modify_self, hk]
  rfl
theorem grown_setB {W : World} {r : Nat} {a b c e : Int} (h : RunAt W r a b c e) (b' : Int) : RunAt (W.setCell ⟨r, 1, none⟩ (.int .i64 b')).drew r a b' c e := h.setB b'
theorem RunAt.setE {W : World} {r : Nat} {a b c e : Int} (h : RunAt W r a b c e) (e' : Int) : RunAt (W.setCell ⟨r, 4, none⟩ (.int .i64 e')) r a b c e' := by
  obtain ⟨hlt, hk⟩ := Array.getElem?_eq_some_iff.1 h
  show (W.heap.modify r _)[r]? = _
  rw [Array.getElem?_eq_getElem (by rw [Array.size_modify]; exact hlt), Array.getElem_modify_self, hk]
  rfl
theorem grown_far {W W1 : World} {r : Nat} (h : W.grownBy W1 none) (hr : W.heap.size ≤ r) (j : Nat) (v : Value) : W.grownBy (W1.setCell ⟨r, j, none⟩ v) none :=
  ⟨h.os, h.tape, h.output, Nat.le_trans h.size (KeepsWalks.setCell W1 _ v).size, fun k hk hn => (Below.heap_setCell _ _ _ k (by show k ≠ r; omega)).trans (h.block k hk hn)⟩
theorem grown_drew {W W1 : World} (h : W.grownBy W1 none) : W.grownBy W1.drew none := ⟨h.os, h.tape, h.output, h.size, h.block⟩

theorem runs_step {n₀ O Bn r : Nat} {ad : Addr} {c0 : Nat} {wr W : World} {a b c e : Int} (hr : r = wr.heap.size) (hg : wr.grownBy W none) (hA : RunAt W r a b c e) (cB : wr.cell? ⟨Bn, 0, none⟩ = some (.slice (some ad) 3 c0)) (hR : RunsR O wr Bn) (hG : RunsG O wr) (hO : O < wr.heap.size) (hL : ThreeAt wr ad) (had : ad.block < n₀) (W' : World) (hK : RunsK n₀ O W W') :
    RunAt W' r a b c e ∧ W'.cell? ⟨Bn, 0, none⟩ = some (.slice (some ad) 3 c0) ∧ RunsR O W' Bn ∧ RunsG O W' ∧ O < W'.heap.size ∧ ThreeAt W' ad := by
  subst hr
  have hOc : W.cell? ⟨O, 0, none⟩ = wr.cell? ⟨O, 0, none⟩ := World.cell?_of_block (hg.block O hO (by simp))
  have hlt : wr.heap.size < W.heap.size := (Array.getElem?_eq_some_iff.1 hA).1
  have rB : RunsR O W Bn := by
    obtain ⟨c', t', f', hc⟩ := hR.cells
    exact ⟨Nat.lt_of_lt_of_le hR.lt hg.size, hR.ne, ⟨c', t', f', (hg.block Bn hR.lt (by simp)).trans hc⟩, fun v hv => hR.own v (hOc ▸ hv)⟩
  have rr : RunsR O W wr.heap.size := ⟨hlt, by omega, ⟨_, _, _, hA⟩, fun v hv e => by
    have := hG v _ (hOc ▸ hv) e
    omega⟩
  have gW : RunsG O W := fun v k hv hk => Nat.lt_of_lt_of_le (hG v k (hOc ▸ hv) hk) hg.size
  have kB := hK.keep Bn rB
  have kr := hK.keep _ rr
  refine ⟨kr.2.trans hA, ?_, kB.1, hK.g gW, Nat.lt_of_lt_of_le (Nat.lt_of_lt_of_le hO hg.size) hK.below.size, ?_⟩
  · exact (World.cell?_of_block (a := ⟨Bn, 0, none⟩) (kB.2.trans (hg.block Bn hR.lt (by simp)))).trans cB
  · obtain ⟨h0, h1, h2, h3, h4, h5, h6, h7, h8⟩ := hL.grown hg
    have k : ∀ {p : Addr} {v : Value}, p.block = ad.block → W.cell? p = some v → W'.cell? p = some v := fun {p v} he hp => (hK.below.cell (p := p) (by rw [he]; exact had)).trans hp
    exact ⟨k rfl h0, k rfl h1, k rfl h2, k rfl h3, k rfl h4, k rfl h5, k rfl h6, k rfl h7, k rfl h8⟩

set_option maxRecDepth 100000 in
set_option maxHeartbeats 4000000 in
theorem runs1_in (n : Nat) (hn : 1 ≤ n) (l Bn n₀ O : Nat) (ad : Addr) (c0 : Nat) (J Jx : List RunV → World → Prop)
    (hY : ∀ pre x W, J pre W → pre.length < 2 → YieldAt Fence.wide (n - 1) Tryd.prog l #[x.enc] W fun e W' =>
      (e = .returned (.bool true) ∧ J (pre ++ [x]) W' ∧ RunsK n₀ O W W') ∨ (e = .returned (.bool false) ∧ Jx (pre ++ [x]) W'))
    (W : World) (hBn : W.cell? ⟨Bn, 0, none⟩ = some (.slice (some ad) 3 c0)) (hR : RunsR O W Bn) (hG : RunsG O W) (hO : O < W.heap.size) (hJa : AbidesFrom W.heap.size J) (had : ad.block < n₀) (hL : ThreeAt W ad) (h0 : J [] W) :
    CallsIn Fence.wide n Tryd.prog 89 #[.func (.yield l) #[] #[], .pointer (some ⟨Bn, 0, none⟩)] W fun e W' => (∃ v, e = .returned v) ∧
      ((∃ ys, ys = runsOf ∧ J ys W') ∨ (∃ pre, pre <+: runsOf ∧ Jx pre W')) := by
  refine callsIn_of_wp Tryd.func89 rfl trivial ?_
  simp only [Tryd.ntmps89, List.size_toArray, List.length_cons, List.length_nil, Nat.reduceAdd, Nat.reduceSub, Array.replicate_succ, Array.replicate_zero, List.push_toArray, List.append_toArray, List.nil_append, List.cons_append]
  gi_wp2
  gi_loopw [3] (fun p wr => ∃ pre : List RunV, ((p = .int .i64 0 ∧ pre = []) ∨ (p = .int .i64 2 ∧ pre = [⟨0, 2, 1, ⟨#[]⟩, 0⟩]) ∨ (p = .int .i64 3 ∧ pre = runsOf)) ∧ J pre wr ∧ wr.cell? ⟨Bn, 0, none⟩ = some (.slice (some ad) 3 c0) ∧ RunsR O wr Bn ∧ RunsG O wr ∧ O < wr.heap.size ∧ ThreeAt wr ad) (fun p _ => 3 - (intOf p).toNat)
  case atStart => exact ⟨[], .inl ⟨rfl, rfl⟩, h0, hBn, hR, hG, hO, hL⟩
  case round =>
    obtain ⟨wo, rfl⟩ : ∃ wo, wo = wr := ⟨_, rfl⟩
    obtain ⟨pre, hp, hJ, cB, hR, hG, hO, hL⟩ := hrel
    have hL0 := hL
    have cB0 := cB
    obtain ⟨c0', c1, c2, c3, c4, c5, c6, c7, c8⟩ := hL
    have nB := World.new_ne wo _ cB
    have n0 := World.new_ne wo _ c0'
    have aB := fun o => cell_alloc_l' o cB
    have a1 := fun o => cell_alloc_l' o c1
    have a2 := fun o => cell_alloc_l' o c2
    have a7 := fun o => cell_alloc_l' o c7
    have a8 := fun o => cell_alloc_l' o c8
    rcases hp with ⟨rfl, rfl⟩ | ⟨rfl, rfl⟩ | ⟨rfl, rfl⟩
    · gi_wp2
      gi_region
      obtain ⟨W1, hW1⟩ : ∃ W1, (wo.alloc (.cells #[.int .i64 0, .int .i64 1, .int .i64 1, .string ⟨#[]⟩, .int .i64 0] 61)).drew = W1 := ⟨_, rfl⟩
      have hA : RunAt W1 wo.heap.size 0 1 1 0 := by rw [← hW1]; exact World.alloc_heap_new wo _
      have hg1 : wo.grownBy W1 none := by rw [← hW1]; exact grown_drew (World.grownBy_alloc wo _ none)
      have hL1 := ThreeAt.grown ⟨c0', c1, c2, c3, c4, c5, c6, c7, c8⟩ hg1
      have cB1 : W1.cell? ⟨Bn, 0, none⟩ = some (.slice (some ad) 3 c0) := (World.cell?_of_block (hg1.block Bn (World.block_lt_of_cell? wo _ cB) (by simp))).trans cB
      rw [hW1]
      clear hW1 aB a1 a2 a7 a8 cB c0' c1 c2 c3 c4 c5 c6 c7 c8 nB n0
      obtain ⟨c0', c1, c2, c3, c4, c5, c6, c7, c8⟩ := hL1
      gi_wp2
      gi_loopw [] (fun w2 => (RunAt w2 wo.heap.size 0 1 1 0 ∨ RunAt w2 wo.heap.size 0 2 1 0) ∧ wo.grownBy w2 none ∧ w2.cell? ⟨Bn, 0, none⟩ = some (.slice (some ad) 3 c0) ∧ ThreeAt w2 ad) (fun w2 => 3 - (intOf ((w2.cell? ⟨wo.heap.size, 1, none⟩).getD undef)).toNat)
      case atStart => exact ⟨.inl hA, hg1, cB1, ⟨c0', c1, c2, c3, c4, c5, c6, c7, c8⟩⟩
      case round =>
        clear hA hg1 cB1 c0' c1 c2 c3 c4 c5 c6 c7 c8
        obtain ⟨hA, hg1, cB1, hL1⟩ := hrel
        have hL2 := hL1
        obtain ⟨c0', c1, c2, c3, c4, c5, c6, c7, c8⟩ := hL1
        rcases hA with hA | hA
        · obtain ⟨t0, t1, t2, t3, t4, f1, f4⟩ := hA.cells
          gi_wp2
          refine wpIn_wide.2 ?_
          go_region
          gi_wp2
          go_roundw
          case rel =>
            refine ⟨.inr (grown_setB hA 2), grown_drew (grown_far hg1 (Nat.le_refl _) 1 _), ?_, ?_⟩
            · exact (World.cell?_of_block (a := ⟨Bn, 0, none⟩) ((grown_drew (grown_far hg1 (Nat.le_refl _) 1 _)).block Bn hR.lt (by simp))).trans cB0
            · exact hL0.grown (grown_drew (grown_far hg1 (Nat.le_refl _) 1 _))
          case measure =>
            have e1 := (RunAt.cells (grown_setB hA 2)).t1
            rw [e1, t1]
            simp [intOf]
        · obtain ⟨t0, t1, t2, t3, t4, f1, f4⟩ := hA.cells
          gi_wp2
          refine wpIn_wide.2 ?_
          go_region
          have hJ2 : J [] wr.drew := hJa [] _ _ none hJ (grown_drew hg1) (fun r e => by cases e)
          obtain ⟨fn, tmps, assign, body, hy, hYR⟩ := hY [] ⟨0, 2, 1, ⟨#[]⟩, 0⟩ wr.drew hJ2 (by decide)
          have hS := runs_step (n₀ := n₀) rfl (grown_drew hg1) (show RunAt wr.drew _ 0 2 1 0 from hA) cB0 hR hG hO hL0 had
          dsimp only [RunV.enc] at hy
          obtain ⟨W2, hW2⟩ : ∃ W2, wr.drew = W2 := ⟨_, rfl⟩
          have hA2 : RunAt W2 wo.heap.size 0 2 1 0 := by rw [← hW2]; exact hA
          rw [hW2] at hJ2 hy hYR hS ⊢
          clear hW2 hA t0 t1 t2 t3 t4 f1 f4 c0' c1 c2 c3 c4 c5 c6 c7 c8 hL2 hL0 cB1 cB0 hg1
          obtain ⟨t0, t1, t2, t3, t4, f1, f4⟩ := hA2.cells
          gi_wp2
          refine hYR.mono ?_
          clear t0 t1 t2 t3 t4 f1 f4 hYR hA2
          rintro e W3 (⟨rfl, hJ3, hk3⟩ | ⟨rfl, hJx3⟩)
          · obtain ⟨hA3, cB3, rB3, gB3, hO3, hL3⟩ := hS W3 hk3
            obtain ⟨t0, t1, t2, t3, t4, f1, f4⟩ := hA3.cells
            gi_wp2
            go_roundw
            case rel => exact ⟨_, .inr (.inl ⟨by first | rfl | go_num, rfl⟩), hJ3, cB3, rB3, gB3, hO3, hL3⟩
            case measure => first | (simp [intOf]; done) | (simp [intOf]; omega)
          · gi_wp2
            refine bodyPost_ret (results_none rfl _ _ _) rfl ?_
            exact ⟨⟨_, rfl⟩, .inr ⟨[⟨0, 2, 1, ⟨#[]⟩, 0⟩], ⟨[⟨2, 3, 0, ⟨#[]⟩, 1⟩], rfl⟩, hJx3⟩⟩
    · gi_wp2
      gi_region
      obtain ⟨W1, hW1⟩ : ∃ W1, (wo.alloc (.cells #[.int .i64 2, .int .i64 3, .int .i64 0, .string ⟨#[]⟩, .int .i64 0] 61)).drew = W1 := ⟨_, rfl⟩
      have hA : RunAt W1 wo.heap.size 2 3 0 0 := by rw [← hW1]; exact World.alloc_heap_new wo _
      have hg1 : wo.grownBy W1 none := by rw [← hW1]; exact grown_drew (World.grownBy_alloc wo _ none)
      have hL1 := ThreeAt.grown ⟨c0', c1, c2, c3, c4, c5, c6, c7, c8⟩ hg1
      have cB1 : W1.cell? ⟨Bn, 0, none⟩ = some (.slice (some ad) 3 c0) := (World.cell?_of_block (hg1.block Bn (World.block_lt_of_cell? wo _ cB) (by simp))).trans cB
      rw [hW1]
      clear hW1 aB a1 a2 a7 a8 cB c0' c1 c2 c3 c4 c5 c6 c7 c8 nB n0
      obtain ⟨c0', c1, c2, c3, c4, c5, c6, c7, c8⟩ := hL1
      obtain ⟨t0, t1, t2, t3, t4, f1, f4⟩ := hA.cells
      gi_wp2
      gi_loopw [] (fun w2 => RunAt w2 wo.heap.size 2 3 0 1 ∧ wo.grownBy w2 none) (fun _ => 0)
      case atStart => exact ⟨hA.setE 1, grown_far hg1 (Nat.le_refl _) 4 _⟩
      case round =>
        clear hA hg1 cB1 c0' c1 c2 c3 c4 c5 c6 c7 c8 t0 t1 t2 t3 t4 f1 f4
        obtain ⟨hA, hg1⟩ := hrel
        obtain ⟨t0, t1, t2, t3, t4, f1, f4⟩ := hA.cells
        gi_wp2
        refine wpIn_wide.2 ?_
        go_region
        have hJ2 : J [⟨0, 2, 1, ⟨#[]⟩, 0⟩] wr.drew := hJa _ _ _ none hJ (grown_drew hg1) (fun r e => by cases e)
        obtain ⟨fn, tmps, assign, body, hy, hYR⟩ := hY [⟨0, 2, 1, ⟨#[]⟩, 0⟩] ⟨2, 3, 0, ⟨#[]⟩, 1⟩ wr.drew hJ2 (by decide)
        have hS := runs_step (n₀ := n₀) rfl (grown_drew hg1) (show RunAt wr.drew _ 2 3 0 1 from hA) cB0 hR hG hO hL0 had
        dsimp only [RunV.enc] at hy
        obtain ⟨W2, hW2⟩ : ∃ W2, wr.drew = W2 := ⟨_, rfl⟩
        have hA2 : RunAt W2 wo.heap.size 2 3 0 1 := by rw [← hW2]; exact hA
        rw [hW2] at hJ2 hy hYR hS ⊢
        clear hW2 hA t0 t1 t2 t3 t4 f1 f4 hL0 cB0 hg1
        obtain ⟨t0, t1, t2, t3, t4, f1, f4⟩ := hA2.cells
        gi_wp2
        refine hYR.mono ?_
        clear t0 t1 t2 t3 t4 f1 f4 hYR hA2
        rintro e W3 (⟨rfl, hJ3, hk3⟩ | ⟨rfl, hJx3⟩)
        · obtain ⟨hA3, cB3, rB3, gB3, hO3, hL3⟩ := hS W3 hk3
          obtain ⟨t0, t1, t2, t3, t4, f1, f4⟩ := hA3.cells
          gi_wp2
          go_roundw
          case rel => exact ⟨_, .inr (.inr ⟨by first | rfl | go_num, rfl⟩), hJ3, cB3, rB3, gB3, hO3, hL3⟩
          case measure => first | (simp [intOf]; done) | (simp [intOf]; omega)
        · gi_wp2
          refine bodyPost_ret (results_none rfl _ _ _) rfl ?_
          exact ⟨⟨_, rfl⟩, .inr ⟨runsOf, List.prefix_refl _, hJx3⟩⟩
    · gi_wp2
      go_end0
      exact ⟨⟨_, rfl⟩, .inl hJ⟩
end Go.Proofs.YtlppeljofjomiaaDoor.Xm
