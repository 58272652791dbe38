/- attrs.Drop at every row (of fewer than 2^42 attributes) and every name: the row without the first attribute of that name, in memory of its own; or none, and ErrNone. -/
import Derived.Test.YtlppeljofjomiaaDoorEAt
import Derived.Deep.RegionLaw
import Derived.Lib.SliceRun
namespace Go.Proofs.YtlppeljofjomiaaDoor.X
open Go.RowKit
open Go.Proofs.YtlppeljofjomiaaDoorW.PrintWords Go.Proofs.YtlppeljofjomiaaDoorW.PrintLast Go.Proofs.YtlppeljofjomiaaDoorW.PrintMore

/-- Values laid over a row from place o on. -/
def putL (cur : Array Value) : Nat → List Value → Array Value
  | _, [] => cur
  | o, v :: r => putL (cur.setIfInBounds o v) (o + 1) r
theorem putL_size (cur : Array Value) : ∀ (vs : List Value) (o : Nat), (putL cur o vs).size = cur.size := by
  intro vs
  induction vs generalizing cur with
  | nil => intro o; rfl
  | cons v r ih => intro o; show (putL (cur.setIfInBounds o v) (o + 1) r).size = _; rw [ih]; simp
theorem putL_get : ∀ (vs : List Value) (cur : Array Value) (o j : Nat), o + vs.length ≤ cur.size → (putL cur o vs)[j]? = if o ≤ j ∧ j < o + vs.length then vs[j - o]? else cur[j]?
  | [], cur, o, j, _ => by rw [if_neg (by simp)]; rfl
  | v :: r, cur, o, j, h => by
    rw [List.length_cons] at h ⊢
    show (putL (cur.setIfInBounds o v) (o + 1) r)[j]? = _
    rw [putL_get r _ (o + 1) j (by simp; omega)]
    by_cases h2 : j = o
    · subst h2
      rw [if_neg (by omega), if_pos (by omega), Nat.sub_self]
      simp [show j < cur.size by omega]
    · by_cases h3 : o + 1 ≤ j ∧ j < o + 1 + r.length
      · rw [if_pos h3, if_pos (by omega), show j - o = (j - (o + 1)) + 1 by omega, List.getElem?_cons_succ]
      · rw [if_neg h3, if_neg (by omega)]
        simp [Ne.symm h2]
theorem heap_setCells (g : Nat) (t : TypeId) (fr : Nat × Nat) : ∀ (vs : List Value) (o : Nat) (cur : Array Value) (w : World), w.heap[g]? = some (.cells cur t fr) → (w.setCells g o vs).heap[g]? = some (.cells (putL cur o vs) t fr)
  | [], _, _, _, h => h
  | v :: r, o, cur, w, h => by
    show ((w.setCell ⟨g, o, none⟩ v).setCells g (o + 1) r).heap[g]? = _
    refine heap_setCells g t fr r (o + 1) _ _ ?_
    simp only [World.setCell, Array.getElem?_modify, h]
    simp
theorem below_setCellsD {B g : Nat} (hg : B ≤ g) : ∀ (vs : List Value) (o : Nat) {a w : World}, Below B a w → Below B a (w.setCells g o vs)
  | [], _, _, _, h => h
  | v :: r, o, _, _, h => below_setCellsD hg r (o + 1) (h.setCell (p := ⟨g, o, none⟩) hg v)
theorem cell_heap {w : World} {g : Nat} {cur : Array Value} {t : TypeId} {fr : Nat × Nat} (h : w.heap[g]? = some (.cells cur t fr)) (j : Nat) : w.cell? ⟨g, j, none⟩ = cur[j]? := by simp [World.cell?, h]
theorem frozen_heap {w : World} {g : Nat} {cur : Array Value} {t : TypeId} (h : w.heap[g]? = some (.cells cur t (0, 0))) (j : Nat) : w.frozen? ⟨g, j, none⟩ = false := by simp [World.frozen?, h]

/-- clear of one attribute. -/
theorem run_clear27 (w : World) (ty : TypeId) (g o c : Nat) (hc : ∀ j, j < 2 → (w.cell? ⟨g, o + j, none⟩).isSome = true) (hf : ∀ j, j < 2 → w.frozen? ⟨g, o + j, none⟩ = false) :
    (Builtin.clear_ #[22] ty #[.slice (some ⟨g, o, none⟩) 1 c]).run Tryd.prog w = .ok (.tuple #[]) (w.setCells g o [.string ⟨#[]⟩, .string ⟨#[]⟩]) := by
  have hst := run_storeCells_cells (P := Tryd.prog) g o [.string ⟨#[]⟩, .string ⟨#[]⟩] 0 w (by simpa using hc) (by simpa using hf) (by intro v hv; simp at hv; subst hv; rfl)
  simp only [Nat.add_zero] at hst
  have hz : ∀ w, (zeroValue 27).run Tryd.prog w = .ok (.agg #[.string ⟨#[]⟩, .string ⟨#[]⟩]) w := Tryd.zeroValue27
  have hzc : (Builtin.zeroCells (Value.agg #[.string ⟨#[]⟩, .string ⟨#[]⟩]).cells 1).toList = [.string ⟨#[]⟩, .string ⟨#[]⟩] := by kernel_rfl
  simp [Builtin.clear_, run_underlying Tryd.underlying22, hz, hzc, hst]

theorem reps_any {l : List S27} {inner : List Value} {w w1 : World} {b b1 : Nat} {ok ok1 : Nat → Prop} (h : Reps (k27.M w b ok) 2 l inner) : Reps (k27.M w1 b1 ok1) 2 l inner :=
  h.imp_ (fun x c hx => by rw [k27_openM hx]; exact k27_mkM _ _ _ x)
theorem reps_one {l : List S27} {inner : List Value} {w : World} {b : Nat} {ok : Nat → Prop} (h : Reps (k27.M w b ok) 2 l inner) : ∀ u ∈ inner, u.oneCell' = true := by
  intro u hu
  obtain ⟨j, hj, rfl⟩ := List.mem_iff_getElem.1 hu
  have hlen := h.1
  have hjl : j / 2 < l.length := by omega
  have hr := k27_openM (h.2 (j / 2) l[j / 2] (List.getElem?_eq_getElem hjl))
  have e : inner[j]? = ((inner.drop (j / 2 * 2)).take 2)[j % 2]? := by
    rw [List.getElem?_take_of_lt (by omega), List.getElem?_drop, show j / 2 * 2 + j % 2 = j by omega]
  rw [List.getElem?_eq_getElem hj, hr] at e
  rcases (show j % 2 = 0 ∨ j % 2 = 1 by omega) with h2 | h2 <;> rw [h2] at e <;> simp at e <;> rw [e] <;> rfl

set_option maxHeartbeats 4000000 in
set_option maxRecDepth 100000 in
theorem delete_walk (base : Nat) (l : List S27) (i : Nat) (hi : i < l.length) (v : Value) (w : World) (hO : Kd.R k27 27 w base (fun _ => True) v l) :
    Calls Tryd.prog 61 #[v, .int .i64 i, .int .i64 ((i : Int) + 1)] w fun e w' => ∃ v1, e = .returned v1 ∧ Kd.R k27 27 w' base (fun _ => True) v1 (l.eraseIdx i) ∧ Below base w w' := by
  obtain ⟨_, inner, ho, hr⟩ := hO
  obtain ⟨hlen, hv⟩ := ho
  have hsz2 : k27.sz = 2 := rfl
  rw [hsz2] at hlen hv hr
  rcases hv with ⟨_, hn⟩ | ⟨g, cap, cur, rfl, hg, hh, hnc, hcm, hcs, hct⟩
  · omega
  obtain ⟨n, hn⟩ : ∃ n, l.length = n := ⟨_, rfl⟩
  rw [hn] at hi hlen hnc hct ⊢
  have hcur : ∀ j, j < n * 2 → cur[j]? = inner[j]? := fun j hj => by
    rw [← hct, List.getElem?_take_of_lt hj]; simp
  obtain ⟨news, hnews⟩ : ∃ news, news = inner.drop ((i + 1) * 2) := ⟨_, rfl⟩
  have hnl : news.length = (n - (i + 1)) * 2 := by rw [hnews, List.length_drop, hlen]; omega
  obtain ⟨W1, hW1⟩ : ∃ W1, W1 = w.drew.setCells g (0 + i * 2) news := ⟨_, rfl⟩
  have hh1 : W1.heap[g]? = some (.cells (putL cur (0 + i * 2) news) 27 (0, 0)) := by rw [hW1]; exact heap_setCells g 27 (0, 0) news _ _ _ hh
  have hb1 : Below base w W1 := by rw [hW1]; exact below_setCellsD hg _ _ (Below.refl _ _).drew
  obtain ⟨W2, hW2⟩ : ∃ W2, W2 = W1.setCells g ((n - 1) * 2) [.string ⟨#[]⟩, .string ⟨#[]⟩] := ⟨_, rfl⟩
  have hh2 : W2.heap[g]? = some (.cells (putL (putL cur (0 + i * 2) news) ((n - 1) * 2) [.string ⟨#[]⟩, .string ⟨#[]⟩]) 27 (0, 0)) := by rw [hW2]; exact heap_setCells g 27 (0, 0) _ _ _ _ hh1
  have hb2 : Below base w W2 := by rw [hW2]; exact below_setCellsD hg _ _ hb1
  have hs1 : (putL cur (0 + i * 2) news).size = cap * 2 := by rw [putL_size, hcs]
  have hcl : ∀ ty, (Builtin.clear_ #[22] ty #[.slice (some ⟨g, (n - 1) * 2, none⟩) 1 (cap - (n - 1))]).run Tryd.prog W1 = .ok (.tuple #[]) W2 := fun ty => by
    rw [hW2]
    exact run_clear27 W1 ty g _ _ (fun j hj => by rw [cell_heap hh1, Array.getElem?_eq_getElem (by rw [hs1]; omega)]; rfl) (fun j hj => frozen_heap hh1 _)
  have hfin : Kd.R k27 27 W2 base (fun _ => True) (.slice (some ⟨g, 0, none⟩) (n - 1) cap) (l.eraseIdx i) := by
    have hel : (l.eraseIdx i).length = n - 1 := by rw [List.length_eraseIdx, if_pos (by omega), hn]
    refine ⟨fun _ _ => trivial, inner.take (i * 2) ++ inner.drop ((i + 1) * 2), ⟨?_, .inr ⟨g, cap, _, by rw [hel], hg, hh2, by omega, hcm, by rw [putL_size, hs1]; rfl, ?_⟩⟩, ?_⟩
    · show _ = (l.eraseIdx i).length * 2
      rw [List.length_append, List.length_take, List.length_drop, hlen, hel]; omega
    · show List.take ((l.eraseIdx i).length * 2) _ = _
      rw [hel]
      apply List.ext_getElem?
      intro j
      by_cases hj : j < (n - 1) * 2
      · rw [List.getElem?_take_of_lt hj, Array.getElem?_toList, putL_get _ _ _ _ (by rw [hs1]; simp; omega), if_neg (by omega), putL_get _ _ _ _ (by rw [hcs, hnl]; omega)]
        by_cases h2 : j < i * 2
        · rw [if_neg (by omega), List.getElem?_append_left (by rw [List.length_take, hlen]; omega), List.getElem?_take_of_lt h2, hcur j (by omega)]
        · rw [if_pos (by rw [hnl]; omega), List.getElem?_append_right (by rw [List.length_take, hlen]; omega), List.length_take, hlen, hnews]
          congr 1
          omega
      · rw [List.getElem?_eq_none (by rw [List.length_take]; omega), List.getElem?_eq_none (by rw [List.length_append, List.length_take, List.length_drop, hlen]; omega)]
    · rw [List.eraseIdx_eq_take_drop_succ]
      exact reps_any (w := w) (b := base) (ok := fun _ => True) (Kd.reps_append (Kd.reps_take (m := i) (reps_any hr) (by omega)) (Kd.reps_drop (m := i + 1) (reps_any hr)))
  have s1 := Lib.hid hnl
  have s2 : Hid (∀ u ∈ news, u.oneCell' = true) := fun u hu => reps_one hr u (by rw [hnews] at hu; exact List.mem_of_mem_drop hu)
  have s3 : Hid (∀ t, t < news.length → (w.drew.cell? ⟨g, 0 + i * 2 + t, none⟩).isSome = true ∧ w.drew.frozen? ⟨g, 0 + i * 2 + t, none⟩ = false) := by
    intro t ht
    rw [hnl] at ht
    refine ⟨?_, frozen_heap (w := w.drew) hh _⟩
    rw [cell_heap (w := w.drew) hh, Array.getElem?_eq_getElem (by rw [hcs]; omega)]; rfl
  have HF := Lib.hid hfin
  have HB2 := Lib.hid hb2
  have HW1 := Lib.hid hW1
  have hsrc : ∀ A : Addr, A.block = g → A.spot = none → (news ≠ [] → A.off = (i + 1) * 2) → Hid (∀ j u, news[j]? = some u → w.drew.cell? (A.add j) = some u) := by
    intro A hA1 hA2 hA3 j u hu
    have hj : j < news.length := (List.getElem?_eq_some_iff.1 hu).1
    have hne : news ≠ [] := by intro e; rw [e] at hj; simp at hj
    have hadd : A.add j = ⟨g, (i + 1) * 2 + j, none⟩ := by cases A with | mk b o s => simp only at hA1 hA2; subst hA1 hA2; have h9 := hA3 hne; simp only at h9; subst h9; exact Addr.add_lit _ _ _
    rw [hadd, cell_heap (w := w.drew) hh, hcur _ (by rw [hnl] at hj; omega), ← hu, hnews, List.getElem?_drop]
  have hicap : i + 1 ≤ cap := by omega
  have hincl : (i : Int) + 1 ≤ n := by omega
  have hcap0 : n ≤ cap := hnc
  unfold maxLen at hcm
  clear hfin hb2 hb1 hh1 hh2 hs1 hW1 hW2 hcur hct hcs hr hh hnews hnl hn hlen
  obtain ⟨i0, hi0, _, hz1, _⟩ := info_parts info27
  by_cases hcj : cap = i + 1
  · obtain ⟨rfl⟩ : n = i + 1 := by omega
    subst hcj
    have q1 : (i : Int) ≤ (i : Int) + 1 := by omega
    have q0 : (0 : Int) ≤ (i : Int) + 1 := by omega
    have s1z : Hid (news.length = 0 * 2) := by show _ = _; rw [s1.out]; omega
    have hA := hsrc ⟨g, 0, none⟩ rfl rfl (fun h => absurd (List.eq_nil_of_length_eq_zero (by rw [s1.out]; omega)) h)
    clear hsrc
    go_enter Tryd.func61, Tryd.ntmps61
    go_wp2_with fail
    go_region_law (refine step_append_room rfl (.tmp 22) (.tmp 25) 22 rfl 27 i0 2 Tryd.underlying22 hi0 hz1 g 0 i (i + 1) (by simp [Act.eval, Act.put]) ⟨g, 0, none⟩ 0 0 news (by simp [Act.eval, Act.put]) s1z.out hA.out s2.out (by omega) s3.out ?_; rw [← HW1.out])
    rw [Nat.add_zero]
    have hcl' : ∀ ty, (Builtin.clear_ #[22] ty #[.slice (some ⟨g, i * 2, none⟩) 1 1]).run Tryd.prog W1 = .ok (.tuple #[]) W2 := fun ty => by
      have h9 := hcl ty
      rw [show i + 1 - 1 = i by omega, show i + 1 - i = 1 by omega] at h9
      exact h9
    have e9 : i + 1 - 1 = i := by omega
    rw [e9] at HF
    clear hcl e9 HW1 hA s1 s1z s2 s3
    go_wp2
    go_ret
    exact ⟨_, rfl, HF.out, HB2.out⟩
  · have q1 : (i : Int) ≤ (cap : Int) := by omega
    have q2 : (i : Int) + 1 ≤ (cap : Int) := by omega
    have q0 : (0 : Int) ≤ (i : Int) + 1 := by omega
    have hA := hsrc ⟨g, (i + 1) * 2, none⟩ rfl rfl (fun _ => rfl)
    clear hsrc
    go_enter Tryd.func61, Tryd.ntmps61
    go_wp2_with fail
    go_region_law (refine step_append_room rfl (.tmp 22) (.tmp 25) 22 rfl 27 i0 2 Tryd.underlying22 hi0 hz1 g 0 i cap (by simp [Act.eval, Act.put]) ⟨g, (i + 1) * 2, none⟩ (n - (i + 1)) (cap - (i + 1)) news (by simp [Act.eval, Act.put]) s1.out hA.out s2.out (by omega) s3.out ?_; rw [← HW1.out])
    have e9 : i + (n - (i + 1)) = n - 1 := by omega
    rw [e9]
    have e8 : n - (n - 1) = 1 := by omega
    have hcl' : ∀ ty, (Builtin.clear_ #[22] ty #[.slice (some ⟨g, (n - 1) * 2, none⟩) (n - (n - 1)) (cap - (n - 1))]).run Tryd.prog W1 = .ok (.tuple #[]) W2 := by rw [e8]; exact hcl
    clear hcl e8 e9 HW1 hA s1 s2 s3
    go_wp2
    go_ret
    exact ⟨_, rfl, HF.out, HB2.out⟩

theorem findFrom_cases (p : S27 → Bool) (l : List S27) : ∀ (n k : Nat), k + n ≤ l.length → findFrom p l n k = -1 ∨ ∃ i : Nat, i < l.length ∧ findFrom p l n k = i
  | 0, _, _ => .inl rfl
  | n + 1, k, h => by
    unfold findFrom
    split
    · exact .inr ⟨k, by omega, rfl⟩
    · exact findFrom_cases p l n (k + 1) (by omega)
theorem findI_cases (p : S27 → Bool) (l : List S27) : findI p l = -1 ∨ ∃ i : Nat, i < l.length ∧ findI p l = i := findFrom_cases p l l.length 0 (by omega)

/-- The row without the first attribute of a name; and which error. -/
def dropR (l : List S27) (name : ByteArray) : List S27 × Int := if findI (isName name) l < 0 then ([], 2) else (l.eraseIdx (findI (isName name) l).toNat, 0)

set_option maxHeartbeats 4000000 in
set_option maxRecDepth 100000 in
theorem drop_walk (A0 : Option Addr) (c0 : Nat) (l0 : List S27) (name : ByteArray) (w : World) (hr0 : Kd.C k27 w A0 l0.length l0) (hl : l0.length < 4398046511104) :
    Calls Tryd.prog 31 #[.slice A0 l0.length c0, .string name] w fun e w' => ∃ v0_ : Value, e = .returned (.tuple #[v0_, .int .i64 (dropR l0 name).2]) ∧ Kd.R k27 27 w' w.heap.size (fun _ => True) v0_ (dropR l0 name).1 ∧ Below w.heap.size w w' := by
  have cA := at_walk A0 c0 l0 name w hr0 hl
  rcases findI_cases (isName name) l0 with h | ⟨i, hi, h⟩
  · have hd : dropR l0 name = ([], 2) := by unfold dropR; rw [h]; rfl
    rw [hd]
    rw [h] at cA
    clear h hd hr0
    go_enter Tryd.func31, Tryd.ntmps31
    go_wp2_with (go_at_call 40; refine cA.mono ?_; rintro e w' ⟨rfl, hb⟩)
    go_ret2
    exact ⟨_, rfl, Kd.R_nil _ _ _ _ _, hb⟩
  · have hd : dropR l0 name = (l0.eraseIdx i, 0) := by unfold dropR; rw [h, if_neg (by omega), Int.toNat_natCast]
    rw [hd]
    rw [h] at cA
    have HC := Lib.hid (fun (W : World) (hb : Below w.heap.size w W) => clone_walk A0 c0 l0 W (Kd.C_below hr0 hb) hl)
    obtain ⟨L', hL'⟩ : ∃ L', l0.eraseIdx i = L' := ⟨_, rfl⟩
    have HD := Lib.hid (fun (base : Nat) (v : Value) (W : World) (hO : Kd.R k27 27 W base (fun _ => True) v l0) => hL' ▸ delete_walk base l0 i hi v W hO)
    rw [hL']
    obtain ⟨N, hN⟩ : ∃ N, l0.length = N := ⟨_, rfl⟩
    rw [hN] at hi hl cA HC ⊢
    dsimp only
    clear h hd hr0 hL' hN
    go_enter Tryd.func31, Tryd.ntmps31
    go_wp2_with (go_at_call 40; refine cA.mono ?_; rintro e W1 ⟨rfl, hb⟩)
    refine (HC.out _ hb).mono ?_
    rintro e W2 ⟨v0, rfl, hO, hb2⟩
    have HO := Lib.hid (Kd.R_lower hO hb.size)
    have HB := Lib.hid (hb.trans (hb2.mono hb.size))
    clear hO hb hb2 HC
    go_wp2_with fail
    refine (HD.out w.heap.size v0 _ HO.out).mono ?_
    rintro e W3 ⟨v1, rfl, hO, hb3⟩
    have HO2 := Lib.hid hO
    have HB3 := Lib.hid (HB.out.trans (hb3.mono (Nat.le_refl _)))
    clear hO hb3 HO HB HD
    go_wp2
    go_ret2
    exact ⟨_, rfl, HO2.out, HB3.out⟩
end Go.Proofs.YtlppeljofjomiaaDoor.X
