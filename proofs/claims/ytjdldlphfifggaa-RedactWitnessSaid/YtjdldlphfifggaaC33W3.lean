import Derived.Test.YtjdldlphfifggaaC33W2
import Derived.Maps.Own
import Derived.Maps.OwnOps
import Derived.Maps.OwnSet
import Derived.Maps.Views
import Derived.Deep.RegionWith
import Derived.Lib.Hide
import Derived.WalkKit
import Derived.Sort.OwnSorted
import Derived.Lib.Strings
import Derived.WalkMore
import Derived.ScopeJumps
import Derived.Lib.ConvBytes
import Derived.RangeFuncBox
import Derived.RangeFuncRecord
import Derived.RangeFuncOwn
section
namespace Go.Proofs.Ytjdldlphfifggaa.X
open Go.RowKit Go.Proofs.YtjdldlphfifggaaW.PrintWords Go.Proofs.YtjdldlphfifggaaW.PrintLast Go.Proofs.YtjdldlphfifggaaW.PrintMore
set_option linter.unusedVariables false
set_option linter.unusedSimpArgs false
structure Bxs (w W : World) (l : List (Array Value × TypeId)) : Prop where
  B : Below w.heap.size w W
  at_ : ∀ (i : Nat) (p : Array Value × TypeId), l[i]? = some p → W.heap[w.heap.size + i]? = some (.cells p.1 p.2 (0, 0))
section
variable {w W W1 : World} {l : List (Array Value × TypeId)}
theorem Bxs.start (w : World) : Bxs w w [] := ⟨Below.refl _ _, fun i p h => by simp at h⟩
theorem Bxs.alloc (h : Bxs w W l) (hs : W.heap.size = w.heap.size + l.length) (c : Array Value) (t : TypeId) : Bxs w (W.alloc (.cells c t)) (l ++ [(c, t)]) := by
  refine ⟨below_alloc h.B _, fun i p hp => ?_⟩
  by_cases hi : i < l.length
  · rw [List.getElem?_append_left hi] at hp
    exact blk_alloc (h.at_ i p hp) _
  · rw [List.getElem?_append_right (by omega)] at hp
    have h1 := (List.getElem?_eq_some_iff.1 hp).1
    simp only [List.length_singleton] at h1
    have h0 : i - l.length = 0 := by omega
    rw [h0] at hp
    simp only [List.getElem?_cons_zero, Option.some.injEq] at hp
    subst hp
    have : w.heap.size + i = W.heap.size := by omega
    rw [this]
    exact blk_new _ _
theorem Bxs.step (h : Bxs w W l) (hb : Below W.heap.size W W1) : Bxs w W1 l := ⟨below_then h.B h.B.size hb, fun i p hp => blk_below (h.at_ i p hp) hb⟩
theorem Bxs.grown {b : Nat} (h : Bxs w W l) (hg : W.grownBy W1 (some b)) (hb : w.heap.size + l.length ≤ b) : Bxs w W1 l :=
  ⟨h.B.grown hg h.B.size (fun k hk => by injection hk with hk; omega), fun i p hp => blk_grown (h.at_ i p hp) hg (fun e => by injection e with e; have := (List.getElem?_eq_some_iff.1 hp).1; omega)⟩
theorem Bxs.drew (h : Bxs w W l) : Bxs w W.drew l := h.step (below_drew (Below.refl _ _))
theorem Bxs.cell (h : Bxs w W l) (i q : Nat) {p : Array Value × TypeId} (hp : l[i]? = some p) : W.cell? ⟨w.heap.size + i, q, none⟩ = p.1[q]? := blk_cell (h.at_ i p hp) q
theorem Bxs.lt (h : Bxs w W l) (i : Nat) {p : Array Value × TypeId} (hp : l[i]? = some p) : w.heap.size + i < W.heap.size := blk_lt (h.at_ i p hp)
end
theorem V_base {α : Type} {d : Kd α} {e base base' : Nat} {W : World} {ok : Nat → Prop} {v : Value} {xs : List α} (h : Kd.V d e W base ok v xs) : Kd.V d e W base' ok v xs := h
theorem size_alloc (w : World) (o : Obj) : (w.alloc o).heap.size = w.heap.size + 1 := by unfold World.alloc; exact Array.size_push _
structure Bx0 (w W : World) (l : List (Array Value × TypeId)) : Prop where
  x : Bxs w W l
  s : W.heap.size = w.heap.size + l.length
theorem Bx0.start (w : World) : Bx0 w w [] := ⟨Bxs.start w, rfl⟩
theorem Bx0.alloc {w W : World} {l : List (Array Value × TypeId)} (h : Bx0 w W l) (c : Array Value) (t : TypeId) : Bx0 w (W.alloc (.cells c t)) (l ++ [(c, t)]) :=
  ⟨h.x.alloc h.s c t, by rw [size_alloc, h.s, List.length_append, List.length_singleton]; omega⟩
section
variable {P : Program} {W : World} {g : Nat} {cs : Array Value} {tb t : TypeId} {oi : Oper} {a : Act} {p x : Operand} {v0 v1 v2 v3 v4 : Value}
theorem five_cells (h : ([v0, v1, v2, v3, v4] : List Value).all (·.oneCell') = true) : (Value.agg #[v0, v1, v2, v3, v4]).cells.toList = [v0, v1, v2, v3, v4] := rfl
theorem set5 (hb : W.heap[g]? = some (.cells cs tb (0, 0))) (hc : cs.size = 5) : (W.setCells g 0 [v0, v1, v2, v3, v4]).heap[g]? = some (.cells #[v0, v1, v2, v3, v4] tb (0, 0)) ∧ W.grownBy (W.setCells g 0 [v0, v1, v2, v3, v4]) (some g) := by
  obtain ⟨s1, s2, s3, s4⟩ := setCells_same g [v0, v1, v2, v3, v4] 0 W
  obtain ⟨cur', h3, h4, h5⟩ := setCells_row [v0, v1, v2, v3, v4] 0 W cs hb (by rw [hc]; exact Nat.le_refl _)
  refine ⟨?_, s1, s2, s3, by rw [s4]; exact Nat.le_refl _, fun k _ hk => setCells_far _ _ k (fun he => hk (by rw [he]))⟩
  rw [h3]
  have : cur'.toList = [v0, v1, v2, v3, v4] := by
    rw [h5, List.take_zero, List.nil_append, List.drop_eq_nil_of_le (by rw [Array.length_toList, hc]; exact Nat.le_refl _), List.append_nil]
  have h6 : cur' = #[v0, v1, v2, v3, v4] := by rw [← Array.toArray_toList (xs := cur'), this]
  rw [h6]
theorem run5 (ho : oi.op = .store t p x) (hp : a.eval p = .pointer (some ⟨g, 0, none⟩)) (hx : a.eval x = .agg #[v0, v1, v2, v3, v4]) (hb : W.heap[g]? = some (.cells cs tb (0, 0))) (hc : cs.size = 5) (ht : (P.info? t).map (·.size) = some 5) (h1 : ([v0, v1, v2, v3, v4] : List Value).all (·.oneCell') = true) :
    (execOp a.eval oi).run P W = .ok .skip (W.setCells g 0 [v0, v1, v2, v3, v4]) := by
  have hrun := run_store_run (P := P) (o := 0) t (.agg #[v0, v1, v2, v3, v4]) [v0, v1, v2, v3, v4] hb (five_cells h1) ht (by rw [hc]; exact Nat.le_refl _) (List.all_eq_true.1 h1)
  unfold execOp
  simp only [ho, hp, hx, Sem.run_bind, Sem.run_pure, Result.andThen_ok, hrun]
variable {K : Act → World → Prop} {Q : Exit → Act → World → Prop} {ops : Array Oper} {rest : List Oper}
theorem skip5_ (hw : Region.wanted oi (yielded ops a.tmps) = true) (hN : oi.dst = none) (ho : oi.op = .store t p x) (hp : a.eval p = .pointer (some ⟨g, 0, none⟩)) (hx : a.eval x = .agg #[v0, v1, v2, v3, v4]) (hb : W.heap[g]? = some (.cells cs tb (0, 0))) (hc : cs.size = 5) (ht : (P.info? t).map (·.size) = some 5) (h1 : ([v0, v1, v2, v3, v4] : List Value).all (·.oneCell') = true)
    (h : ∀ W1, W1.heap[g]? = some (.cells #[v0, v1, v2, v3, v4] tb (0, 0)) → W.grownBy W1 (some g) → K a W1) : if Region.wanted oi (yielded ops a.tmps) = true then Oper.wp P oi a W K Q else K (a.put none undef) W :=
  skip_ hw hN (run5 ho hp hx hb hc ht h1) (h _ (set5 hb hc).1 (set5 hb hc).2)
theorem store5 (hgd : oi.guard = none) (hN : oi.dst = none) (ho : oi.op = .store t p x) (hp : a.eval p = .pointer (some ⟨g, 0, none⟩)) (hx : a.eval x = .agg #[v0, v1, v2, v3, v4]) (hb : W.heap[g]? = some (.cells cs tb (0, 0))) (hc : cs.size = 5) (ht : (P.info? t).map (·.size) = some 5) (h1 : ([v0, v1, v2, v3, v4] : List Value).all (·.oneCell') = true)
    (h : ∀ W1, W1.heap[g]? = some (.cells #[v0, v1, v2, v3, v4] tb (0, 0)) → W.grownBy W1 (some g) → wpList P ops Q rest a W1) : wpList P ops Q (oi :: rest) a W := by
  refine wpList_plain hgd fun K' hK => ?_
  unfold Oper.wp
  rw [run5 ho hp hx hb hc ht h1]
  show K' (a.put oi.dst undef) _
  rw [hN]
  exact hK a _ (h _ (set5 hb hc).1 (set5 hb hc).2)
end
section
variable {w w' : World} {Q : Nat → Prop} {v : Value}
theorem rowK_V {b : Nat} {l : List ByteArray} (h : rowK w w' v l) (hQ : ∀ k, w.heap.size ≤ k → Q k) : Kd.V Kd.string 9 w' b Q v l :=
  Kd.R_V (Kd.R_of_own h (fun k hk => hQ k (own_base h k hk)))
theorem rowL_V {b n : Nat} {P : Nat → Prop} {l : List S92} {lr : List (List Value)} (h : rowL w w' v lr) (hm : Meant w P l l.length lr) (hb : Below w.heap.size w w') (hQ : ∀ k, w.heap.size ≤ k → Q k) (hP : ∀ k, P k → Q k) : Kd.V k25 nodeT w' b Q v (l.map (·.f1)) := by
  have hN : Kd.N k25 nodeT w' w.heap.size Q v (l.map (·.f1)) := by
    refine ⟨fun k hk => hQ k (by have := h.1 k hk; omega), lr, by rw [List.length_map]; exact hm.1, Kd.raw_tight h, fun j x c hx hc => ?_⟩
    rw [List.getElem?_map] at hx
    obtain ⟨y, hy, rfl⟩ := Option.map_eq_some_iff.1 hx
    have hf := hm.2 j y c (by rw [List.take_length]; exact hy) hc
    refine Kd.FK_mono (Kd.FK_below (Kd.FK_bound hf) hb) (fun k hk => ⟨hP k hk.1, fun e => ?_⟩)
    have := h.1 k e.symm
    have := hk.2
    omega
  exact Kd.N_V hN
end
theorem of_V (a0_0 a0_1 : Int) (a0_2 : ByteArray) (A3 : Option Addr) (n3 c3 : Nat) (A4 : Option Addr) (n4 c4 : Nat) (v : Value) (l : List S92) (P Q : Nat → Prop) (b : Nat) (w : World)
    (hs : Kd.V k92 92 w w.heap.size P v l) (hl : l.length < 1000000000) (hP : ∀ k, P k → Q k) (hQ : ∀ k, w.heap.size ≤ k → Q k) :
    Calls Try.prog 73 #[.agg #[.int .i64 a0_0, .int .i64 a0_1, .string a0_2, .slice A3 n3 c3, .slice A4 n4 c4], v] w fun e w' => ∃ v3 v4 : Value, e = .returned (.agg #[.int .i64 a0_0, .int .i64 a0_1, .string a0_2, v3, v4]) ∧ Kd.V Kd.string 9 w' b Q v3 (l.map (·.f0)) ∧ Kd.V k25 nodeT w' b Q v4 (l.map (·.f1)) ∧ Below w.heap.size w w' := by
  obtain ⟨A, c, rfl⟩ := Kd.V_slice hs
  refine (of_calls a0_0 a0_1 a0_2 A3 n3 c3 A4 n4 c4 A c l P w hs hl).mono ?_
  rintro e w' ⟨v3, v4, rfl, h1, lr, h2, h3, h4⟩
  exact ⟨v3, v4, rfl, rowK_V h1 hQ, rowL_V (n := 0) h2 h3 h4 hQ hP, h4⟩
end Go.Proofs.Ytjdldlphfifggaa.X
end
section
namespace Go.Proofs.Ytjdldlphfifggaa.X
open Go.RowKit Go.Proofs.YtjdldlphfifggaaW.PrintWords Go.Proofs.YtjdldlphfifggaaW.PrintLast Go.Proofs.YtjdldlphfifggaaW.PrintMore
set_option linter.unusedVariables false
set_option linter.unusedSimpArgs false
def withoutL (K : List ByteArray) (L : List S25) (keys : List ByteArray) : List S92 := (ents K L).filter fun x => !Lib.containsS keys x.f0
def tree_Without.f (a0_0 a0_1 : Int) (a0_2 : ByteArray) (l0_3 : List ByteArray) (l0_4 : List S25) (l1 : List ByteArray) : Option (Int × Int × ByteArray × List ByteArray × List (S25)) :=
  if l0_3.length < 1000000000 ∧ l0_4.length < 1000000000 then (if a0_0 = 6 then some (a0_0, a0_1, a0_2, (withoutL l0_3 l0_4 l1).map (·.f0), (withoutL l0_3 l0_4 l1).map (·.f1)) else some (a0_0, a0_1, a0_2, l0_3, l0_4)) else none
set_option maxHeartbeats 3200000 in
set_option maxRecDepth 100000 in
theorem tree_Without.calls (a0_0 : Int) (a0_1 : Int) (a0_2 : ByteArray) (P0_3_ : Nat → Prop) (A0_3 : Option Addr) (c0_3 : Nat) (l0_3 : List ByteArray) (P0_4_ : Nat → Prop) (A0_4 : Option Addr) (c0_4 : Nat) (l0_4 : List (S25)) (A1 : Option Addr) (c1 : Nat) (l1 : List ByteArray) (r1 : Int) (r2 : Int) (r3 : ByteArray) (r4 : List ByteArray) (r5 : List (S25)) (w : World)
    (hs0_3 : Kd.V Kd.string 9 w w.heap.size (fun k_ => P0_3_ k_) (.slice A0_3 l0_3.length c0_3) l0_3) (hs0_4 : Kd.V k25 25 w w.heap.size (fun k_ => P0_4_ k_) (.slice A0_4 l0_4.length c0_4) l0_4) (hr1 : Kd.C Kd.string w A1 l1.length l1) (hc1 : l1.length ≤ c1)
    (h : tree_Without.f a0_0 a0_1 a0_2 l0_3 l0_4 l1 = some (r1, r2, r3, r4, r5)) :
    Calls Try.prog 35 #[.agg #[.int .i64 a0_0, .int .i64 a0_1, .string a0_2, .slice A0_3 l0_3.length c0_3, .slice A0_4 l0_4.length c0_4], .slice A1 l1.length c1] w fun e w' => ∃ v3_ v4_ : Value, e = .returned (.agg #[.int .i64 r1, .int .i64 r2, .string r3, v3_, v4_]) ∧ Kd.V Kd.string 9 w' w.heap.size (fun k_ => ((P0_3_ k_ ∨ P0_4_ k_) ∨ w.heap.size ≤ k_)) v3_ r4 ∧ Kd.V k25 25 w' w.heap.size (fun k_ => ((P0_3_ k_ ∨ P0_4_ k_) ∨ w.heap.size ≤ k_)) v4_ r5 ∧ Below w.heap.size w w' := by
  unfold tree_Without.f at h
  by_cases hb : l0_3.length < 1000000000 ∧ l0_4.length < 1000000000
  · rw [if_pos hb] at h
    obtain ⟨hb3, hb4⟩ := hb
    have HS3 := Aside0.mk hs0_3
    have HS4 := Aside0.mk hs0_4
    have HR1 := Aside0.mk hr1
    clear hs0_3 hs0_4 hr1
    by_cases c6 : a0_0 = 6
    · rw [if_pos c6] at h
      subst c6
      obtain ⟨ke, hke⟩ := (entries_ev 6 a0_1 a0_2 l0_3 l0_4 (by omega)).rounds
      have HKE := Aside0.mk hke
      injection h with h
      simp only [Prod.mk.injEq] at h
      obtain ⟨rfl, rfl, rfl, rfl, rfl⟩ := h
      clear hke
      go_enter Try.func35, Try.ntmps35
      go_wp2
      have hB0 : Bxs w (((w.alloc (.cells #[.int .i64 6, .int .i64 a0_1, .string a0_2, .slice A0_3 l0_3.length c0_3, .slice A0_4 l0_4.length c0_4] 25)).alloc (.cells #[.slice A1 l1.length c1] 22)).alloc (.cells #[.int .i64 0, .int .i64 0, .string ⟨#[]⟩, .slice none 0 0, .slice none 0 0] 25)).drew [(#[.int .i64 6, .int .i64 a0_1, .string a0_2, .slice A0_3 l0_3.length c0_3, .slice A0_4 l0_4.length c0_4], 25), (#[.slice A1 l1.length c1], 22), (#[.int .i64 0, .int .i64 0, .string ⟨#[]⟩, .slice none 0 0, .slice none 0 0], 25)] := ((((Bx0.start w).alloc _ _).alloc _ _).alloc _ _).x.drew
      refine start_ (n := 7) (S := (fun W' : World => W'.cell? ⟨w.heap.size, 0, none⟩ = some (.int .i64 6) ∧ W'.cell? ⟨w.heap.size, 1, none⟩ = some (.int .i64 a0_1) ∧ W'.cell? ⟨w.heap.size, 2, none⟩ = some (.string a0_2) ∧ W'.cell? ⟨w.heap.size, 3, none⟩ = some (.slice A0_3 l0_3.length c0_3) ∧ W'.cell? ⟨w.heap.size, 4, none⟩ = some (.slice A0_4 l0_4.length c0_4) ∧ W'.cell? ⟨w.heap.size + 1, 0, none⟩ = some (.slice A1 l1.length c1))) (ds := [6]) #[false, false, false, false, false, false, false] (by kernel_rfl) rfl rfl ⟨hB0.cell 0 0 rfl, hB0.cell 0 1 rfl, hB0.cell 0 2 rfl, hB0.cell 0 3 rfl, hB0.cell 0 4 rfl, hB0.cell 1 0 rfl⟩ (fun hHeld => ?_)
      generalize (((w.alloc (.cells #[.int .i64 6, .int .i64 a0_1, .string a0_2, .slice A0_3 l0_3.length c0_3, .slice A0_4 l0_4.length c0_4] 25)).alloc (.cells #[.slice A1 l1.length c1] 22)).alloc (.cells #[.int .i64 0, .int .i64 0, .string ⟨#[]⟩, .slice none 0 0, .slice none 0 0] 25)).drew = W0 at hB0 hHeld ⊢
      refine take_ (i := 0) (N := some 9) (v := ?_) (a' := ?_) #[true, false, false, false, false, false, false] rfl rfl (by kernel_rfl) (fun _ _ _ h => h) (Or.inl ⟨by rfl, ?_⟩) hHeld ?_ ?_
      rotate_left
      · rintro w' ⟨s0, s1, s2, s3, s4, s5⟩
        go_simp
        with_reducible rfl
      rotate_left
      · simp only [Act.put, List.setIfInBounds_toArray, List.set_cons_zero, List.set_cons_succ]
        rfl
      refine take_ (i := 1) (N := some 10) (v := ?_) (a' := ?_) #[true, true, false, false, false, false, false] rfl rfl (by kernel_rfl) (fun _ _ _ h => h) (Or.inl ⟨by rfl, ?_⟩) hHeld ?_ ?_
      rotate_left
      · rintro w' ⟨s0, s1, s2, s3, s4, s5⟩
        go_simp
        with_reducible rfl
      rotate_left
      · simp only [Act.put, List.setIfInBounds_toArray, List.set_cons_zero, List.set_cons_succ]
        rfl
      refine pure_ (i := 3) (N := some 12) (v := ?_) (a' := ?_) #[true, true, false, true, false, false, false] rfl rfl (by kernel_rfl) (fun _ _ _ h => h) (Or.inl ⟨by rfl, ?_⟩) ?_ ?_
      rotate_left
      · intro w'
        go_simp
        with_reducible rfl
      rotate_left
      · simp only [Act.put, List.setIfInBounds_toArray, List.set_cons_zero, List.set_cons_succ]
        rfl
      refine one_ (i := 2) (N := some 11) #[true, true, true, true, false, false, false] rfl rfl (by kernel_rfl) (by decide) (fun K hK => ?_)
      refine goes_ Try.func69 (by kernel_rfl) rfl #[.agg #[.int .i64 6, .int .i64 a0_1, .string a0_2, .slice A0_3 l0_3.length c0_3, .slice A0_4 l0_4.length c0_4]] (by rfl) rfl rfl (by (try simp only [List.map_toArray, List.map_cons, List.map_nil]); first | done | rfl) ?_
      with_reducible refine (tree_entries.calls ke 6 a0_1 a0_2 A0_3 c0_3 l0_3 (fun k_ => P0_4_ k_ ∧ k_ < w.heap.size) A0_4 c0_4 l0_4 (ents l0_3 l0_4) W0 (Kd.C_below (Kd.V_reads' HS3.out).2.2 hB0.B) (Kd.V_reads' HS3.out).2.1 (V_base (Kd.V_below (Kd.V_bound HS4.out) hB0.B)) HKE.out).mono ?_
      rintro e W1 ⟨v1, rfl, hN1, hb1⟩
      have hB1 := hB0.step hb1
      refine ⟨_, rfl, ?_⟩
      refine hK.out _ _ ⟨hB1.cell 0 0 rfl, hB1.cell 0 1 rfl, hB1.cell 0 2 rfl, hB1.cell 0 3 rfl, hB1.cell 0 4 rfl, hB1.cell 1 0 rfl⟩ (fun hHeld => ?_)
      clear hK K
      refine norm_ (a' := ?_) ?_ ?_
      rotate_left
      · show Act.put _ (some 11) _ = _
        simp only [Act.put, List.setIfInBounds_toArray, List.set_cons_zero, List.set_cons_succ]
        rfl
      refine one_ (i := 4) (N := some 13) #[true, true, true, true, true, false, false] rfl rfl (by kernel_rfl) (by decide) (fun K hK => ?_)
      refine goes_ Try.func80 (by kernel_rfl) rfl #[v1, .func (.func 81) #[] #[.pointer (some ⟨w.heap.size + 1, 0, none⟩)]] (by rfl) rfl rfl (by (try simp only [List.map_toArray, List.map_cons, List.map_nil]); first | done | rfl) ?_
      have hle1 : w.heap.size + 1 < W1.heap.size := hB1.lt 1 rfl
      refine (delete_without (fun x => Lib.containsS l1 x.f0) ⟨w.heap.size + 1, 0, none⟩ v1 (ents l0_3 l0_4) _ W0 W1 hb1 hN1 (by rw [ents_len]; omega) (fun W hW hk x A3 c3 A4 c4 => ?_)).mono ?_
      · have hfar : ∀ k, k < W0.heap.size → W.heap[k]? = W0.heap[k]? := fun k hk0 => (hk k (Nat.lt_of_lt_of_le hk0 hb1.size) (fun e => by have := Kd.N_base hN1 k e.symm; omega)).trans (hb1.block k hk0)
        exact without1 x.f0 l1 A1 c1 x.f1.f0 x.f1.f1 x.f1.f2 A3 x.f1.f3.length c3 A4 x.f1.f4.length c4 ⟨w.heap.size + 1, 0, none⟩ W (by have h0 := hB0.at_ 1 _ rfl; have h1 := (hfar _ (hB0.lt 1 rfl)).trans h0; exact blk_cell h1 0) (Kd.Heap.C Kd.heap_string (fun k hk0 => (hfar k (Nat.lt_of_lt_of_le hk0 hB0.B.size)).trans (hB0.B.block k hk0)) HR1.out)
      rintro e W2 ⟨v2, rfl, hN2, hb2⟩
      have hB2 := hB0.step hb2
      refine ⟨_, rfl, ?_⟩
      refine hK.out _ _ ⟨hB2.cell 0 0 rfl, hB2.cell 0 1 rfl, hB2.cell 0 2 rfl, hB2.cell 0 3 rfl, hB2.cell 0 4 rfl, hB2.cell 1 0 rfl⟩ (fun hHeld => ?_)
      clear hK K
      refine norm_ (a' := ?_) ?_ ?_
      rotate_left
      · show Act.put _ (some 13) _ = _
        simp only [Act.put, List.setIfInBounds_toArray, List.set_cons_zero, List.set_cons_succ]
        rfl
      refine one_ (i := 5) (N := some 14) #[true, true, true, true, true, true, false] rfl rfl (by kernel_rfl) (by decide) (fun K hK => ?_)
      refine goes_ Try.func73 (by kernel_rfl) rfl #[.agg #[.int .i64 6, .int .i64 a0_1, .string a0_2, .slice A0_3 l0_3.length c0_3, .slice A0_4 l0_4.length c0_4], v2] (by rfl) rfl rfl (by (try simp only [List.map_toArray, List.map_cons, List.map_nil]); first | done | rfl) ?_
      refine (of_V 6 a0_1 a0_2 A0_3 l0_3.length c0_3 A0_4 l0_4.length c0_4 v2 (withoutL l0_3 l0_4 l1) _ (fun k_ => (P0_4_ k_ ∧ k_ < w.heap.size) ∨ W0.heap.size ≤ k_) w.heap.size W2 (Kd.N_V hN2) (Nat.lt_of_le_of_lt (List.length_filter_le _ _) (by rw [ents_len]; omega)) (fun k hk => hk) (fun k hk => .inr (Nat.le_trans hb2.size hk))).mono ?_
      rintro e W3 ⟨v3, v4, rfl, hV3, hV4, hb3'⟩
      have hB3 := hB2.step hb3'
      refine ⟨_, rfl, ?_⟩
      refine hK.out _ _ ⟨hB3.cell 0 0 rfl, hB3.cell 0 1 rfl, hB3.cell 0 2 rfl, hB3.cell 0 3 rfl, hB3.cell 0 4 rfl, hB3.cell 1 0 rfl⟩ (fun hHeld => ?_)
      clear hK K
      refine norm_ (a' := ?_) ?_ ?_
      rotate_left
      · show Act.put _ (some 14) _ = _
        simp only [Act.put, List.setIfInBounds_toArray, List.set_cons_zero, List.set_cons_succ]
        rfl
      obtain ⟨A3, c3, e3⟩ := Kd.V_slice hV3
      generalize (List.map (fun x : S92 => x.f0) (withoutL l0_3 l0_4 l1)).length = n3 at e3
      subst e3
      obtain ⟨A4, c4, e4⟩ := Kd.V_slice hV4
      generalize (List.map (fun x : S92 => x.f1) (withoutL l0_3 l0_4 l1)).length = n4 at e4
      subst e4
      have HV3 := Aside0.mk hV3
      have HV4 := Aside0.mk hV4
      clear hV3 hV4
      have b4 := hB3.at_ 2 _ rfl
      refine last_ (i := 6) (N := none) #[true, true, true, true, true, true, true] rfl rfl (by kernel_rfl) (by decide) (fun K hK => ?_)
      refine skip5_ (by rfl) rfl rfl rfl rfl b4 rfl (by kernel_rfl) (by rfl) (fun W4 hb4 hg4 => ?_)
      refine hK.out _ _ ?_
      clear hK K b4
      refine done_ (by kernel_rfl) ?_
      have HB4 := Aside0.mk hb4
      have HG4 := Aside0.mk hg4
      have z0 := blk_cell hb4 0
      have z1 := blk_cell hb4 1
      have z2 := blk_cell hb4 2
      have z3 := blk_cell hb4 3
      have z4 := blk_cell hb4 4
      simp only [List.getElem?_toArray, List.getElem?_cons_zero, List.getElem?_cons_succ] at z0 z1 z2 z3 z4
      clear hb4 hg4
      go_wp2
      have hlt2 : w.heap.size + 2 < W0.heap.size := hB0.lt 2 rfl
      refine bodyPost_ret (v := .agg #[.int .i64 6, .int .i64 a0_1, .string a0_2, .slice A3 n3 c3, .slice A4 n4 c4]) (by simp [results, Try.results35, go_sem, z0, z1, z2, z3, z4]) rfl ⟨_, _, rfl, ?_, ?_, hB3.B.grown HG4.out hB3.B.size (fun k hk => by injection hk with hk; omega)⟩
      · exact Kd.V_mono (Kd.V_grown HV3.out HG4.out (fun k hk e => by injection e with e; have hk' : (P0_4_ k ∧ k < w.heap.size) ∨ W0.heap.size ≤ k := hk; omega)) (fun k hk => hk.elim (fun h => .inl (.inr h.1)) (fun h => .inr (Nat.le_trans hB0.B.size h)))
      · exact Kd.V_mono (Kd.V_grown HV4.out HG4.out (fun k hk e => by injection e with e; have hk' : (P0_4_ k ∧ k < w.heap.size) ∨ W0.heap.size ≤ k := hk; omega)) (fun k hk => hk.elim (fun h => .inl (.inr h.1)) (fun h => .inr (Nat.le_trans hB0.B.size h)))
    · rw [if_neg c6] at h
      injection h with h
      simp only [Prod.mk.injEq] at h
      obtain ⟨rfl, rfl, rfl, rfl, rfl⟩ := h
      have c6b : (a0_0 == 6) = false := by simpa using c6
      have c6c : (a0_0 != 6) = true := by simpa using c6
      go_enter Try.func35, Try.ntmps35
      go_wp2
      refine bodyPost_ret (v := .agg #[.int .i64 a0_0, .int .i64 a0_1, .string a0_2, .slice A0_3 l0_3.length c0_3, .slice A0_4 l0_4.length c0_4]) (by simp [results, Try.results35, go_sem]) rfl ⟨_, _, rfl, Kd.V_mono (Kd.V_alloc (Kd.V_alloc (Kd.V_alloc HS3.out _) _) _) (fun k hk => .inl (.inl hk)), Kd.V_mono (Kd.V_alloc (Kd.V_alloc (Kd.V_alloc HS4.out _) _) _) (fun k hk => .inl (.inr hk)), below_alloc (below_alloc (below_alloc (Below.refl _ _) _) _) _⟩
  · rw [if_neg hb] at h
    cases h
end Go.Proofs.Ytjdldlphfifggaa.X
end
section
namespace Go.Proofs.Ytjdldlphfifggaa.X
open Go.RowKit Go.Proofs.YtjdldlphfifggaaW.PrintWords Go.Proofs.YtjdldlphfifggaaW.PrintLast Go.Proofs.YtjdldlphfifggaaW.PrintMore
set_option linter.unusedVariables false
set_option linter.unusedSimpArgs false
def putL : List S92 → ByteArray → S25 → List S92
  | [], k, v => [⟨k, v⟩]
  | x :: r, k, v => if x.f0.toList == k.toList then ⟨x.f0, v⟩ :: r else x :: putL r k v
theorem putL_none (k : ByteArray) (v : S25) : ∀ l : List S92, (∀ j (h : j < l.length), (l[j].f0.toList == k.toList) = false) → putL l k v = l ++ [⟨k, v⟩]
  | [], _ => rfl
  | x :: r, h => by
    have h0 : (x.f0.toList == k.toList) = false := h 0 (by simp)
    rw [putL, h0, if_neg (by simp), putL_none k v r (fun j hj => by have := h (j + 1) (by simpa using hj); simpa using this)]
    rfl
theorem putL_at (k : ByteArray) (v : S25) : ∀ (l : List S92) (i : Nat) (hi : i < l.length), (∀ j (h : j < l.length), j < i → (l[j].f0.toList == k.toList) = false) → (l[i].f0.toList == k.toList) = true → putL l k v = l.set i ⟨l[i].f0, v⟩
  | x :: r, 0, _, _, h => by
    have h0 : (x.f0.toList == k.toList) = true := h
    rw [putL, if_pos h0]
    rfl
  | x :: r, i + 1, hi, hn, h => by
    have h0 : (x.f0.toList == k.toList) = false := hn 0 (by simp) (by omega)
    rw [putL, h0, if_neg (by simp), putL_at k v r i (by simpa using hi) (fun j hj hji => by have := hn (j + 1) (by simpa using hj) (by omega); simpa using this) (by simpa using h)]
    rfl
def tree_Put.f (a0_0 a0_1 : Int) (a0_2 : ByteArray) (l0_3 : List ByteArray) (l0_4 : List S25) (a1 : ByteArray) (a2_0 a2_1 : Int) (a2_2 : ByteArray) (l2_3 : List ByteArray) (l2_4 : List S25) : Option (Int × Int × ByteArray × List ByteArray × List (S25)) :=
  if l0_3.length < 999999999 ∧ l0_4.length < 999999999 then (if a0_0 = 6 then some (a0_0, a0_1, a0_2, (putL (ents l0_3 l0_4) a1 ⟨a2_0, a2_1, a2_2, l2_3, l2_4⟩).map (·.f0), (putL (ents l0_3 l0_4) a1 ⟨a2_0, a2_1, a2_2, l2_3, l2_4⟩).map (·.f1)) else some (a0_0, a0_1, a0_2, l0_3, l0_4)) else none
set_option maxHeartbeats 6400000 in
set_option maxRecDepth 100000 in
theorem tree_Put.calls (a0_0 : Int) (a0_1 : Int) (a0_2 : ByteArray) (P0_3_ : Nat → Prop) (A0_3 : Option Addr) (c0_3 : Nat) (l0_3 : List ByteArray) (P0_4_ : Nat → Prop) (A0_4 : Option Addr) (c0_4 : Nat) (l0_4 : List (S25)) (a1 : ByteArray) (a2_0 : Int) (a2_1 : Int) (a2_2 : ByteArray) (P2_3_ : Nat → Prop) (A2_3 : Option Addr) (c2_3 : Nat) (l2_3 : List ByteArray) (P2_4_ : Nat → Prop) (A2_4 : Option Addr) (c2_4 : Nat) (l2_4 : List (S25)) (r1 : Int) (r2 : Int) (r3 : ByteArray) (r4 : List ByteArray) (r5 : List (S25)) (w : World)
    (hs0_3 : Kd.V Kd.string 9 w w.heap.size (fun k_ => P0_3_ k_) (.slice A0_3 l0_3.length c0_3) l0_3) (hs0_4 : Kd.V k25 25 w w.heap.size (fun k_ => P0_4_ k_) (.slice A0_4 l0_4.length c0_4) l0_4) (hs2_3 : Kd.V Kd.string 9 w w.heap.size (fun k_ => P2_3_ k_) (.slice A2_3 l2_3.length c2_3) l2_3) (hs2_4 : Kd.V k25 25 w w.heap.size (fun k_ => P2_4_ k_) (.slice A2_4 l2_4.length c2_4) l2_4)
    (h : tree_Put.f a0_0 a0_1 a0_2 l0_3 l0_4 a1 a2_0 a2_1 a2_2 l2_3 l2_4 = some (r1, r2, r3, r4, r5)) :
    Calls Try.prog 32 #[.agg #[.int .i64 a0_0, .int .i64 a0_1, .string a0_2, .slice A0_3 l0_3.length c0_3, .slice A0_4 l0_4.length c0_4], .string a1, .agg #[.int .i64 a2_0, .int .i64 a2_1, .string a2_2, .slice A2_3 l2_3.length c2_3, .slice A2_4 l2_4.length c2_4]] w fun e w' => ∃ v3_ v4_ : Value, e = .returned (.agg #[.int .i64 r1, .int .i64 r2, .string r3, v3_, v4_]) ∧ Kd.V Kd.string 9 w' w.heap.size (fun k_ => ((P0_3_ k_ ∨ P0_4_ k_ ∨ P2_3_ k_ ∨ P2_4_ k_) ∨ w.heap.size ≤ k_)) v3_ r4 ∧ Kd.V k25 25 w' w.heap.size (fun k_ => ((P0_3_ k_ ∨ P0_4_ k_ ∨ P2_3_ k_ ∨ P2_4_ k_) ∨ w.heap.size ≤ k_)) v4_ r5 ∧ Below w.heap.size w w' := by
  unfold tree_Put.f at h
  by_cases hb : l0_3.length < 999999999 ∧ l0_4.length < 999999999
  · rw [if_pos hb] at h
    obtain ⟨hb3, hb4⟩ := hb
    have HS03 := Aside0.mk hs0_3
    have HS04 := Aside0.mk hs0_4
    have HS23 := Aside0.mk hs2_3
    have HS24 := Aside0.mk hs2_4
    clear hs0_3 hs0_4 hs2_3 hs2_4
    by_cases c6 : a0_0 = 6
    · rw [if_pos c6] at h
      subst c6
      obtain ⟨ke, hke⟩ := (entries_ev 6 a0_1 a0_2 l0_3 l0_4 (by omega)).rounds
      have HKE := Aside0.mk hke
      injection h with h
      simp only [Prod.mk.injEq] at h
      obtain ⟨rfl, rfl, rfl, rfl, rfl⟩ := h
      clear hke
      have HFV : ∀ (ky : ByteArray) W, Below w.heap.size w W → Kd.FK k92 W (fun k => (P2_3_ k ∨ P2_4_ k) ∧ k < w.heap.size) (⟨ky, ⟨a2_0, a2_1, a2_2, l2_3, l2_4⟩⟩ : S92) [.string ky, .int .i64 a2_0, .int .i64 a2_1, .string a2_2, .slice A2_3 l2_3.length c2_3, .slice A2_4 l2_4.length c2_4] := fun ky W hW =>
        k92_mkF W _ ⟨ky, ⟨a2_0, a2_1, a2_2, l2_3, l2_4⟩⟩ (Kd.V_reads' HS23.out).2.1 (Kd.F_mono (Kd.V_F (Kd.V_below (Kd.V_bound HS23.out) hW)) (fun k hk => ⟨.inl hk.1, hk.2⟩)) (Kd.V_reads' HS24.out).2.1 (Kd.F_mono (Kd.V_F (Kd.V_below (Kd.V_bound HS24.out) hW)) (fun k hk => ⟨.inr hk.1, hk.2⟩))
      have HFVA := Aside0.mk HFV
      clear HFV
      have hB0 : Bxs w ((((w.alloc (.cells #[.int .i64 6, .int .i64 a0_1, .string a0_2, .slice A0_3 l0_3.length c0_3, .slice A0_4 l0_4.length c0_4] 25)).alloc (.cells #[.string a1] 9)).alloc (.cells #[.int .i64 a2_0, .int .i64 a2_1, .string a2_2, .slice A2_3 l2_3.length c2_3, .slice A2_4 l2_4.length c2_4] 25)).alloc (.cells #[.int .i64 0, .int .i64 0, .string ⟨#[]⟩, .slice none 0 0, .slice none 0 0] 25)) [(#[.int .i64 6, .int .i64 a0_1, .string a0_2, .slice A0_3 l0_3.length c0_3, .slice A0_4 l0_4.length c0_4], 25), (#[.string a1], 9), (#[.int .i64 a2_0, .int .i64 a2_1, .string a2_2, .slice A2_3 l2_3.length c2_3, .slice A2_4 l2_4.length c2_4], 25), (#[.int .i64 0, .int .i64 0, .string ⟨#[]⟩, .slice none 0 0, .slice none 0 0], 25)] := (((((Bx0.start w).alloc _ _).alloc _ _).alloc _ _).alloc _ _).x
      have HB0 := Aside0.mk hB0
      have HBXA : Aside0 (∀ W, Bxs w W [(#[.int .i64 6, .int .i64 a0_1, .string a0_2, .slice A0_3 l0_3.length c0_3, .slice A0_4 l0_4.length c0_4], 25), (#[.string a1], 9), (#[.int .i64 a2_0, .int .i64 a2_1, .string a2_2, .slice A2_3 l2_3.length c2_3, .slice A2_4 l2_4.length c2_4], 25), (#[.int .i64 0, .int .i64 0, .string ⟨#[]⟩, .slice none 0 0, .slice none 0 0], 25)] → W.cell? ⟨w.heap.size + 1, 0, none⟩ = some (.string a1)) := ⟨fun W h => h.cell 1 0 rfl⟩
      clear hB0
      rcases idxP_cases (fun x : S92 => x.f0.toList == a1.toList) (ents l0_3 l0_4) with ⟨hix, hall⟩ | ⟨i, hi, hix, hbef, hpi⟩
      · have HALL := Aside0.mk hall
        have HIX := Aside0.mk hix
        clear hall hix
        go_enter Try.func32, Try.ntmps32
        go_wp2_with fail
        generalize (((w.alloc (.cells #[.int .i64 6, .int .i64 a0_1, .string a0_2, .slice A0_3 l0_3.length c0_3, .slice A0_4 l0_4.length c0_4] 25)).alloc (.cells #[.string a1] 9)).alloc (.cells #[.int .i64 a2_0, .int .i64 a2_1, .string a2_2, .slice A2_3 l2_3.length c2_3, .slice A2_4 l2_4.length c2_4] 25)).alloc (.cells #[.int .i64 0, .int .i64 0, .string ⟨#[]⟩, .slice none 0 0, .slice none 0 0] 25) = W0 at HB0 ⊢
        go_wp2_with (first
          | (go_at_call 69; with_reducible refine (tree_entries.calls ke 6 a0_1 a0_2 A0_3 c0_3 l0_3 (fun k_ => P0_4_ k_ ∧ k_ < w.heap.size) A0_4 c0_4 l0_4 (ents l0_3 l0_4) W0 (Kd.C_below (Kd.V_reads' HS03.out).2.2 HB0.out.B) (Kd.V_reads' HS03.out).2.1 (V_base (Kd.V_below (Kd.V_bound HS04.out) HB0.out.B)) HKE.out).mono ?_; rintro e W1 ⟨v1, rfl, hN1, hb1⟩; have HN1 := Aside0.mk hN1; have HB1 := Aside0.mk hb1; clear hN1 hb1)
          | (go_at_call 78; obtain ⟨A1, c1, rfl⟩ := Kd.N_slice HN1.out; with_reducible refine (index_put (fun x : S92 => x.f0.toList == a1.toList) ⟨w.heap.size + 1, 0, none⟩ A1 c1 (ents l0_3 l0_4) _ W1 (Kd.N_V HN1.out) (by rw [ents_len]; omega) (fun W hW x A3 c3 A4 c4 => put1 x.f0 a1 x.f1.f0 x.f1.f1 x.f1.f2 A3 x.f1.f3.length c3 A4 x.f1.f4.length c4 ⟨w.heap.size + 1, 0, none⟩ W (HBXA.out W ((HB0.out.step HB1.out).step hW)))).mono ?_; rw [HIX.out]; rintro e W2 ⟨rfl, hb2⟩; have HB2 := Aside0.mk hb2; clear hb2))
        have hB2 := ((HB0.out.step HB1.out).step HB2.out).drew
        have hN2 := Kd.N_drew (Kd.N_below HN1.out HB2.out)
        have hb02 : Below W0.heap.size W0 W2.drew := below_drew (below_then HB1.out HB1.out.size HB2.out)
        refine start_ (n := 9) (S := (fun W' : World => W'.cell? ⟨w.heap.size, 0, none⟩ = some (.int .i64 6) ∧ W'.cell? ⟨w.heap.size, 1, none⟩ = some (.int .i64 a0_1) ∧ W'.cell? ⟨w.heap.size, 2, none⟩ = some (.string a0_2) ∧ W'.cell? ⟨w.heap.size, 3, none⟩ = some (.slice A0_3 l0_3.length c0_3) ∧ W'.cell? ⟨w.heap.size, 4, none⟩ = some (.slice A0_4 l0_4.length c0_4) ∧ W'.cell? ⟨w.heap.size + 1, 0, none⟩ = some (.string a1) ∧ W'.cell? ⟨w.heap.size + 1 + 1, 0, none⟩ = some (.int .i64 a2_0) ∧ W'.cell? ⟨w.heap.size + 1 + 1, 1, none⟩ = some (.int .i64 a2_1) ∧ W'.cell? ⟨w.heap.size + 1 + 1, 2, none⟩ = some (.string a2_2) ∧ W'.cell? ⟨w.heap.size + 1 + 1, 3, none⟩ = some (.slice A2_3 l2_3.length c2_3) ∧ W'.cell? ⟨w.heap.size + 1 + 1, 4, none⟩ = some (.slice A2_4 l2_4.length c2_4))) (ds := [8]) #[false, false, false, false, false, false, false, false, false] (by kernel_rfl) rfl rfl ⟨hB2.cell 0 0 rfl, hB2.cell 0 1 rfl, hB2.cell 0 2 rfl, hB2.cell 0 3 rfl, hB2.cell 0 4 rfl, hB2.cell 1 0 rfl, hB2.cell 2 0 rfl, hB2.cell 2 1 rfl, hB2.cell 2 2 rfl, hB2.cell 2 3 rfl, hB2.cell 2 4 rfl⟩ (fun hHeld => ?_)
        generalize W2.drew = W3 at hB2 hN2 hb02 hHeld ⊢
        refine take_ (i := 0) (N := some 20) (v := ?_) (a' := ?_) #[true, false, false, false, false, false, false, false, false] rfl rfl (by kernel_rfl) (fun _ _ _ h => h) (Or.inl ⟨by rfl, ?_⟩) hHeld ?_ ?_
        rotate_left
        · rintro w' ⟨s0, s1, s2, s3, s4, s5, s6, s7, s8, s9, s10⟩
          go_simp
          with_reducible rfl
        rotate_left
        · simp only [Act.put, List.setIfInBounds_toArray, List.set_cons_zero, List.set_cons_succ]
          rfl
        refine take_ (i := 2) (N := some 22) (v := ?_) (a' := ?_) #[true, false, true, false, false, false, false, false, false] rfl rfl (by kernel_rfl) (fun _ _ _ h => h) (Or.inl ⟨by rfl, ?_⟩) hHeld ?_ ?_
        rotate_left
        · rintro w' ⟨s0, s1, s2, s3, s4, s5, s6, s7, s8, s9, s10⟩
          go_simp
          with_reducible rfl
        rotate_left
        · simp only [Act.put, List.setIfInBounds_toArray, List.set_cons_zero, List.set_cons_succ]
          rfl
        refine take_ (i := 3) (N := some 23) (v := ?_) (a' := ?_) #[true, false, true, true, false, false, false, false, false] rfl rfl (by kernel_rfl) (fun _ _ _ h => h) (Or.inl ⟨by rfl, ?_⟩) hHeld ?_ ?_
        rotate_left
        · rintro w' ⟨s0, s1, s2, s3, s4, s5, s6, s7, s8, s9, s10⟩
          go_simp
          with_reducible rfl
        rotate_left
        · simp only [Act.put, List.setIfInBounds_toArray, List.set_cons_zero, List.set_cons_succ]
          rfl
        refine pure_ (i := 1) (N := some 21) (v := ?_) (a' := ?_) #[true, true, true, true, false, false, false, false, false] rfl rfl (by kernel_rfl) (fun _ _ _ h => h) (Or.inl ⟨by rfl, ?_⟩) ?_ ?_
        rotate_left
        · intro w'
          go_simp
          with_reducible rfl
        rotate_left
        · simp only [Act.put, List.setIfInBounds_toArray, List.set_cons_zero, List.set_cons_succ]
          rfl
        refine pure_ (i := 4) (N := some 24) (v := ?_) (a' := ?_) #[true, true, true, true, true, false, false, false, false] rfl rfl (by kernel_rfl) (fun _ _ _ h => h) (Or.inl ⟨by rfl, ?_⟩) ?_ ?_
        rotate_left
        · intro w'
          go_simp
          with_reducible rfl
        rotate_left
        · simp only [Act.put, List.setIfInBounds_toArray, List.set_cons_zero, List.set_cons_succ]
          rfl
        refine one_ (i := 5) (N := some 25) #[true, true, true, true, true, true, false, false, false] rfl rfl (by kernel_rfl) (by decide) (fun K hK => ?_)
        refine value_ (w1 := W3.alloc (.cells #[.string a1, .int .i64 a2_0, .int .i64 a2_1, .string a2_2, .slice A2_3 l2_3.length c2_3, .slice A2_4 l2_4.length c2_4] 92)) (v := .slice (some ⟨W3.heap.size, 0, none⟩) 1 1) (by rfl) rfl (by go_simp) ?_
        have hB3 := hB2.step (below_alloc (Below.refl _ W3) (.cells #[.string a1, .int .i64 a2_0, .int .i64 a2_1, .string a2_2, .slice A2_3 l2_3.length c2_3, .slice A2_4 l2_4.length c2_4] 92))
        refine hK.out _ _ ⟨hB3.cell 0 0 rfl, hB3.cell 0 1 rfl, hB3.cell 0 2 rfl, hB3.cell 0 3 rfl, hB3.cell 0 4 rfl, hB3.cell 1 0 rfl, hB3.cell 2 0 rfl, hB3.cell 2 1 rfl, hB3.cell 2 2 rfl, hB3.cell 2 3 rfl, hB3.cell 2 4 rfl⟩ (fun hHeld => ?_)
        clear hK K
        refine norm_ (a' := ?_) ?_ ?_
        rotate_left
        · show Act.put _ (some 25) _ = _
          simp only [Act.put, List.setIfInBounds_toArray, List.set_cons_zero, List.set_cons_succ]
          rfl
        have HFV := HFVA.out a1 W3 hB2.B
        have hN3 := Kd.N_mono hN2 (ok' := (fun k_ => ((P0_4_ k_ ∨ P2_3_ k_ ∨ P2_4_ k_) ∧ k_ < w.heap.size) ∨ W0.heap.size ≤ k_)) (fun k hk => hk.elim (fun h => .inl ⟨.inl h.1, h.2⟩) .inr)
        refine one_ (i := 6) (N := some 26) #[true, true, true, true, true, true, true, false, false] rfl rfl (by kernel_rfl) (by decide) (fun K hK => ?_)
        refine Kd.N_append_step k92 (w0 := W0) W0.heap.size (by rfl) (.tmp 21) (.tmp 25) 88 92 (.agg #[.string ⟨#[]⟩, .int .i64 0, .int .i64 0, .string ⟨#[]⟩, .slice none 0 0, .slice none 0 0]) 96 rfl Try.underlying88 info92 rfl (by decide) (by omega) _ (ents l0_3 l0_4) ⟨a1, ⟨a2_0, a2_1, a2_2, l2_3, l2_4⟩⟩ [.string a1, .int .i64 a2_0, .int .i64 a2_1, .string a2_2, .slice A2_3 l2_3.length c2_3, .slice A2_4 l2_4.length c2_4] (fun k_ => ((P0_4_ k_ ∨ P2_3_ k_ ∨ P2_4_ k_) ∧ k_ < w.heap.size) ∨ W0.heap.size ≤ k_) (fun k => (P2_3_ k ∨ P2_4_ k) ∧ k < w.heap.size) rfl rfl HFV (fun k hk => ⟨.inl ⟨hk.1.elim (fun h => .inr (.inl h)) (fun h => .inr (.inr h)), hk.2⟩, fun e => by have := Kd.N_base hN3 k e.symm; have := hB2.B.size; have := HB0.out.B.size; omega⟩) (fun k hk => .inr (Nat.le_trans hb02.size hk)) hN3 hb02 hb02.size (by rw [ents_len]; omega) ?_
        intro v4 W4 hN4 hb4 hg4 hat4
        have hW34 : Below W0.heap.size W0 W4 := hb4
        have hB4 := HB0.out.step hW34
        refine hK.out _ _ ⟨hB4.cell 0 0 rfl, hB4.cell 0 1 rfl, hB4.cell 0 2 rfl, hB4.cell 0 3 rfl, hB4.cell 0 4 rfl, hB4.cell 1 0 rfl, hB4.cell 2 0 rfl, hB4.cell 2 1 rfl, hB4.cell 2 2 rfl, hB4.cell 2 3 rfl, hB4.cell 2 4 rfl⟩ (fun hHeld => ?_)
        clear hK K
        refine norm_ (a' := ?_) ?_ ?_
        rotate_left
        · show Act.put _ (some 26) _ = _
          simp only [Act.put, List.setIfInBounds_toArray, List.set_cons_zero, List.set_cons_succ]
          rfl
        refine one_ (i := 7) (N := some 27) #[true, true, true, true, true, true, true, true, false] rfl rfl (by kernel_rfl) (by decide) (fun K hK => ?_)
        refine goes_ Try.func73 (by kernel_rfl) rfl #[.agg #[.int .i64 6, .int .i64 a0_1, .string a0_2, .slice A0_3 l0_3.length c0_3, .slice A0_4 l0_4.length c0_4], v4] (by rfl) rfl rfl (by (try simp only [List.map_toArray, List.map_cons, List.map_nil]); first | done | rfl) ?_
        refine (of_V 6 a0_1 a0_2 A0_3 l0_3.length c0_3 A0_4 l0_4.length c0_4 v4 (ents l0_3 l0_4 ++ [⟨a1, ⟨a2_0, a2_1, a2_2, l2_3, l2_4⟩⟩]) _ (fun k_ => ((P0_4_ k_ ∨ P2_3_ k_ ∨ P2_4_ k_) ∧ k_ < w.heap.size) ∨ W0.heap.size ≤ k_) w.heap.size W4 (Kd.N_V hN4) (by rw [List.length_append, ents_len, List.length_singleton]; omega) (fun k hk => hk) (fun k hk => .inr (Nat.le_trans hW34.size hk))).mono ?_
        rintro e W5 ⟨v5, v6, rfl, hV5, hV6, hb5⟩
        have hB5 := hB4.step hb5
        refine ⟨_, rfl, ?_⟩
        refine hK.out _ _ ⟨hB5.cell 0 0 rfl, hB5.cell 0 1 rfl, hB5.cell 0 2 rfl, hB5.cell 0 3 rfl, hB5.cell 0 4 rfl, hB5.cell 1 0 rfl, hB5.cell 2 0 rfl, hB5.cell 2 1 rfl, hB5.cell 2 2 rfl, hB5.cell 2 3 rfl, hB5.cell 2 4 rfl⟩ (fun hHeld => ?_)
        clear hK K
        refine norm_ (a' := ?_) ?_ ?_
        rotate_left
        · show Act.put _ (some 27) _ = _
          simp only [Act.put, List.setIfInBounds_toArray, List.set_cons_zero, List.set_cons_succ]
          rfl
        rw [← putL_none a1 ⟨a2_0, a2_1, a2_2, l2_3, l2_4⟩ (ents l0_3 l0_4) HALL.out] at hV5 hV6
        obtain ⟨A5, c5, e5⟩ := Kd.V_slice hV5
        generalize (List.map (fun x : S92 => x.f0) (putL (ents l0_3 l0_4) a1 ⟨a2_0, a2_1, a2_2, l2_3, l2_4⟩)).length = n5 at e5
        subst e5
        obtain ⟨A6, c6, e6⟩ := Kd.V_slice hV6
        generalize (List.map (fun x : S92 => x.f1) (putL (ents l0_3 l0_4) a1 ⟨a2_0, a2_1, a2_2, l2_3, l2_4⟩)).length = n6 at e6
        subst e6
        have HV5 := Aside0.mk hV5
        have HV6 := Aside0.mk hV6
        clear hV5 hV6
        have b4 := hB5.at_ 3 _ rfl
        refine last_ (i := 8) (N := none) #[true, true, true, true, true, true, true, true, true] rfl rfl (by kernel_rfl) (by decide) (fun K hK => ?_)
        refine skip5_ (by rfl) rfl rfl rfl rfl b4 rfl (by kernel_rfl) (by rfl) (fun W6 hb6 hg6 => ?_)
        refine hK.out _ _ ?_
        clear hK K b4
        refine done_ (by kernel_rfl) ?_
        have HB6 := Aside0.mk hb6
        have HG6 := Aside0.mk hg6
        have z0 := blk_cell hb6 0
        have z1 := blk_cell hb6 1
        have z2 := blk_cell hb6 2
        have z3 := blk_cell hb6 3
        have z4 := blk_cell hb6 4
        simp only [List.getElem?_toArray, List.getElem?_cons_zero, List.getElem?_cons_succ] at z0 z1 z2 z3 z4
        clear hb6 hg6
        go_wp2
        have hlt3 : w.heap.size + 3 < W0.heap.size := HB0.out.lt 3 rfl
        refine bodyPost_ret (v := .agg #[.int .i64 6, .int .i64 a0_1, .string a0_2, .slice A5 n5 c5, .slice A6 n6 c6]) (by simp [results, Try.results32, go_sem, z0, z1, z2, z3, z4]) rfl ⟨_, _, rfl, ?_, ?_, hB5.B.grown HG6.out hB5.B.size (fun k hk => by injection hk with hk; omega)⟩
        · exact Kd.V_mono (Kd.V_grown HV5.out HG6.out (fun k hk e => by injection e with e; have hk' : ((P0_4_ k ∨ P2_3_ k ∨ P2_4_ k) ∧ k < w.heap.size) ∨ W0.heap.size ≤ k := hk; omega)) (fun k hk => hk.elim (fun h => .inl (.inr h.1)) (fun h => .inr (Nat.le_trans HB0.out.B.size h)))
        · exact Kd.V_mono (Kd.V_grown HV6.out HG6.out (fun k hk e => by injection e with e; have hk' : ((P0_4_ k ∨ P2_3_ k ∨ P2_4_ k) ∧ k < w.heap.size) ∨ W0.heap.size ≤ k := hk; omega)) (fun k hk => hk.elim (fun h => .inl (.inr h.1)) (fun h => .inr (Nat.le_trans HB0.out.B.size h)))
      · skip
        have HIX := Aside0.mk hix
        have HBEF := Aside0.mk hbef
        have HPI := Aside0.mk hpi
        clear hbef hpi hix
        go_enter Try.func32, Try.ntmps32
        go_wp2_with fail
        generalize (((w.alloc (.cells #[.int .i64 6, .int .i64 a0_1, .string a0_2, .slice A0_3 l0_3.length c0_3, .slice A0_4 l0_4.length c0_4] 25)).alloc (.cells #[.string a1] 9)).alloc (.cells #[.int .i64 a2_0, .int .i64 a2_1, .string a2_2, .slice A2_3 l2_3.length c2_3, .slice A2_4 l2_4.length c2_4] 25)).alloc (.cells #[.int .i64 0, .int .i64 0, .string ⟨#[]⟩, .slice none 0 0, .slice none 0 0] 25) = W0 at HB0 ⊢
        have c0n : decide ((i : Int) < 0) = false := decide_eq_false (by omega)
        have p6 : ((0 : Int) ≤ (i : Int)) = True := eq_true (by omega)
        have q6 : ((i : Int) < ((ents l0_3 l0_4).length : Int)) = True := eq_true (by omega)
        have HPUT : Aside0 ((ents l0_3 l0_4).set ((i : Int)).toNat ⟨((ents l0_3 l0_4).getD ((i : Int)).toNat z92).f0, ⟨a2_0, a2_1, a2_2, l2_3, l2_4⟩⟩ = putL (ents l0_3 l0_4) a1 ⟨a2_0, a2_1, a2_2, l2_3, l2_4⟩) := ⟨by rw [putL_at a1 ⟨a2_0, a2_1, a2_2, l2_3, l2_4⟩ (ents l0_3 l0_4) i hi HBEF.out HPI.out, Int.toNat_natCast, List.getD_eq_getElem?_getD, List.getElem?_eq_getElem hi]; rfl⟩
        go_wp2_with (first
          | (go_at_call 69; with_reducible refine (tree_entries.calls ke 6 a0_1 a0_2 A0_3 c0_3 l0_3 (fun k_ => P0_4_ k_ ∧ k_ < w.heap.size) A0_4 c0_4 l0_4 (ents l0_3 l0_4) W0 (Kd.C_below (Kd.V_reads' HS03.out).2.2 HB0.out.B) (Kd.V_reads' HS03.out).2.1 (V_base (Kd.V_below (Kd.V_bound HS04.out) HB0.out.B)) HKE.out).mono ?_; rintro e W1 ⟨v1, rfl, hN1, hb1⟩; have HN1 := Aside0.mk hN1; have HB1 := Aside0.mk hb1; clear hN1 hb1)
          | (go_at_call 78; obtain ⟨gE, c1, rfl, _, _, _⟩ := Kd.N_form HN1.out (by omega); with_reducible refine (index_put (fun x : S92 => x.f0.toList == a1.toList) ⟨w.heap.size + 1, 0, none⟩ (some ⟨gE, 0, none⟩) c1 (ents l0_3 l0_4) _ W1 (Kd.N_V HN1.out) (by rw [ents_len]; omega) (fun W hW x A3 c3 A4 c4 => put1 x.f0 a1 x.f1.f0 x.f1.f1 x.f1.f2 A3 x.f1.f3.length c3 A4 x.f1.f4.length c4 ⟨w.heap.size + 1, 0, none⟩ W (HBXA.out W ((HB0.out.step HB1.out).step hW)))).mono ?_; rw [HIX.out]; rintro e W2 ⟨rfl, hb2⟩; have HB2 := Aside0.mk hb2; clear hb2; have y0 := ((HB0.out.step HB1.out).step HB2.out).cell 2 0 rfl; have y1 := ((HB0.out.step HB1.out).step HB2.out).cell 2 1 rfl; have y2 := ((HB0.out.step HB1.out).step HB2.out).cell 2 2 rfl; have y3 := ((HB0.out.step HB1.out).step HB2.out).cell 2 3 rfl; have y4 := ((HB0.out.step HB1.out).step HB2.out).cell 2 4 rfl; simp at y0 y1 y2 y3 y4)
          | ((with_reducible refine gate_store (t := 25) (p := 32) rfl ?_); have hN2 := Kd.N_mono (Kd.N_below HN1.out HB2.out) (ok' := (fun k_ => ((P0_4_ k_ ∨ P2_3_ k_ ∨ P2_4_ k_) ∧ k_ < w.heap.size) ∨ W0.heap.size ≤ k_)) (fun k hk => hk.elim (fun h => .inl ⟨.inl h.1, h.2⟩) .inr); have hb02 := below_then HB1.out HB1.out.size HB2.out; have hbase := Kd.N_base HN1.out gE (by simp [Value.ownBlock]); obtain ⟨ce, hce, hFE, hcce, _⟩ := Kd.N_elem hN2 z92 (i : Int) (by omega) (by omega); obtain ⟨A7, c7, A8, c8, rfl, _, _, _, _⟩ := k92_openF hFE; have HCE := Aside0.mk hcce; have hF2 := HFVA.out ((ents l0_3 l0_4).getD ((i : Int)).toNat z92).f0 W2 (below_weaken HB0.out.B HB0.out.B.size hb02); refine Kd.N_store k92 (w0 := W0) W0.heap.size rfl rfl 25 (.tmp 32) (.tmp 30) rfl 92 (i : Int) 1 (ents l0_3 l0_4) ⟨((ents l0_3 l0_4).getD ((i : Int)).toNat z92).f0, ⟨a2_0, a2_1, a2_2, l2_3, l2_4⟩⟩ (.agg #[.int .i64 a2_0, .int .i64 a2_1, .string a2_2, .slice A2_3 l2_3.length c2_3, .slice A2_4 l2_4.length c2_4]) [.int .i64 a2_0, .int .i64 a2_1, .string a2_2, .slice A2_3 l2_3.length c2_3, .slice A2_4 l2_4.length c2_4] _ (fun k_ => ((P0_4_ k_ ∨ P2_3_ k_ ∨ P2_4_ k_) ∧ k_ < w.heap.size) ∨ W0.heap.size ≤ k_) (fun k => (P2_3_ k ∨ P2_4_ k) ∧ k < w.heap.size) rfl (by rw [Int.toNat_natCast]; rfl) rfl rfl (by kernel_rfl) (List.all_eq_true.1 (by rfl)) hN2 (by omega) (by omega) hce HCE.out (Nat.le_refl 6) hF2 (fun k hk => ⟨.inl ⟨hk.1.elim (fun h => .inr (.inl h)) (fun h => .inr (.inr h)), hk.2⟩, fun e => by have := HB0.out.B.size; omega⟩) hb02 ?_; intro W3 hN3 hb3 hg3; have HN3 := Aside0.mk hN3; have HB3 := Aside0.mk hb3; clear hN3 hb3 hg3 hF2 hN2 hb02 hFE hcce; have x0 := (HB0.out.step HB3.out).cell 0 0 rfl; have x1 := (HB0.out.step HB3.out).cell 0 1 rfl; have x2 := (HB0.out.step HB3.out).cell 0 2 rfl; have x3 := (HB0.out.step HB3.out).cell 0 3 rfl; have x4 := (HB0.out.step HB3.out).cell 0 4 rfl; simp at x0 x1 x2 x3 x4)
          | (go_at_call 73; refine (of_V 6 a0_1 a0_2 A0_3 l0_3.length c0_3 A0_4 l0_4.length c0_4 (.slice (some ⟨gE, 0, none⟩) (ents l0_3 l0_4).length c1) _ _ (fun k_ => ((P0_4_ k_ ∨ P2_3_ k_ ∨ P2_4_ k_) ∧ k_ < w.heap.size) ∨ W0.heap.size ≤ k_) w.heap.size W3 (Kd.N_V HN3.out) (by rw [List.length_set, ents_len]; omega) (fun k hk => hk) (fun k hk => .inr (Nat.le_trans HB3.out.size hk))).mono ?_; rintro e W5 ⟨v5, v6, rfl, hV5, hV6, hb5⟩; have hB5 := HB0.out.step (below_then HB3.out HB3.out.size hb5); rw [HPUT.out] at hV5 hV6; obtain ⟨A5, c5, e5⟩ := Kd.V_slice hV5; generalize (List.map (fun x : S92 => x.f0) (putL (ents l0_3 l0_4) a1 ⟨a2_0, a2_1, a2_2, l2_3, l2_4⟩)).length = n5 at e5; subst e5; obtain ⟨A6, c6, e6⟩ := Kd.V_slice hV6; generalize (List.map (fun x : S92 => x.f1) (putL (ents l0_3 l0_4) a1 ⟨a2_0, a2_1, a2_2, l2_3, l2_4⟩)).length = n6 at e6; subst e6; have HV5 := Aside0.mk hV5; have HV6 := Aside0.mk hV6; clear hV5 hV6; have HBB5 := Aside0.mk hB5; clear hB5)
          | ((with_reducible refine gate_store (t := 25) (p := 6) rfl ?_); refine store5 rfl rfl rfl rfl rfl (HBB5.out.at_ 3 _ rfl) rfl (by kernel_rfl) (by rfl) (fun W6 hb6 hg6 => ?_); have HB6 := Aside0.mk hb6; have HG6 := Aside0.mk hg6; have z0 := blk_cell hb6 0; have z1 := blk_cell hb6 1; have z2 := blk_cell hb6 2; have z3 := blk_cell hb6 3; have z4 := blk_cell hb6 4; simp only [List.getElem?_toArray, List.getElem?_cons_zero, List.getElem?_cons_succ] at z0 z1 z2 z3 z4; clear hb6 hg6))
        have hB5 := HBB5.out
        have hlt3 : w.heap.size + 3 < W0.heap.size := HB0.out.lt 3 rfl
        refine bodyPost_ret (v := .agg #[.int .i64 6, .int .i64 a0_1, .string a0_2, .slice A5 n5 c5, .slice A6 n6 c6]) (by simp [results, Try.results32, go_sem, z0, z1, z2, z3, z4]) rfl ⟨_, _, rfl, ?_, ?_, hB5.B.grown HG6.out hB5.B.size (fun k hk => by injection hk with hk; omega)⟩
        · exact Kd.V_mono (Kd.V_grown HV5.out HG6.out (fun k hk e => by injection e with e; have hk' : ((P0_4_ k ∨ P2_3_ k ∨ P2_4_ k) ∧ k < w.heap.size) ∨ W0.heap.size ≤ k := hk; omega)) (fun k hk => hk.elim (fun h => .inl (.inr h.1)) (fun h => .inr (Nat.le_trans HB0.out.B.size h)))
        · exact Kd.V_mono (Kd.V_grown HV6.out HG6.out (fun k hk e => by injection e with e; have hk' : ((P0_4_ k ∨ P2_3_ k ∨ P2_4_ k) ∧ k < w.heap.size) ∨ W0.heap.size ≤ k := hk; omega)) (fun k hk => hk.elim (fun h => .inl (.inr h.1)) (fun h => .inr (Nat.le_trans HB0.out.B.size h)))
    · rw [if_neg c6] at h
      injection h with h
      simp only [Prod.mk.injEq] at h
      obtain ⟨rfl, rfl, rfl, rfl, rfl⟩ := h
      have c6b : (a0_0 == 6) = false := by simpa using c6
      have c6c : (a0_0 != 6) = true := by simpa using c6
      go_enter Try.func32, Try.ntmps32
      go_wp2
      refine bodyPost_ret (v := .agg #[.int .i64 a0_0, .int .i64 a0_1, .string a0_2, .slice A0_3 l0_3.length c0_3, .slice A0_4 l0_4.length c0_4]) (by simp [results, Try.results32, go_sem]) rfl ⟨_, _, rfl, Kd.V_mono (Kd.V_alloc (Kd.V_alloc (Kd.V_alloc (Kd.V_alloc HS03.out _) _) _) _) (fun k hk => .inl (.inl hk)), Kd.V_mono (Kd.V_alloc (Kd.V_alloc (Kd.V_alloc (Kd.V_alloc HS04.out _) _) _) _) (fun k hk => .inl (.inr (.inl hk))), below_alloc (below_alloc (below_alloc (below_alloc (Below.refl _ _) _) _) _) _⟩
  · rw [if_neg hb] at h
    cases h
end Go.Proofs.Ytjdldlphfifggaa.X
end
section
namespace Go.Proofs.Ytjdldlphfifggaa.X
open Go.RowKit Go.Proofs.YtjdldlphfifggaaW.PrintWords Go.Proofs.YtjdldlphfifggaaW.PrintLast Go.Proofs.YtjdldlphfifggaaW.PrintMore
set_option linter.unusedVariables false
set_option linter.unusedSimpArgs false
def onlyK (K keys : List ByteArray) : List ByteArray := K.filter fun k => !Lib.containsS keys k
theorem onlyK_no {K keys : List ByteArray} {i : Nat} (h : i < K.length) (hc : Lib.containsS keys K[i] = true) : onlyK (K.take (i + 1)) keys = onlyK (K.take i) keys := by
  unfold onlyK
  rw [List.take_succ_eq_append_getElem h, List.filter_append, List.filter_cons_of_neg (by simp [hc]), List.filter_nil, List.append_nil]
theorem onlyK_yes {K keys : List ByteArray} {i : Nat} (h : i < K.length) (hc : Lib.containsS keys K[i] = false) : onlyK (K.take (i + 1)) keys = onlyK (K.take i) keys ++ [K[i]] := by
  unfold onlyK
  rw [List.take_succ_eq_append_getElem h, List.filter_append, List.filter_cons_of_pos (by simp [hc]), List.filter_nil]
def redact_Only.f (a0_0 a0_1 : Int) (a0_2 : ByteArray) (l0_3 : List ByteArray) (l0_4 : List S25) (l1 : List ByteArray) : Option (Int × Int × ByteArray × List ByteArray × List (S25)) :=
  if a0_0 = 6 then tree_Without.f a0_0 a0_1 a0_2 l0_3 l0_4 (onlyK l0_3 l1) else some (a0_0, a0_1, a0_2, l0_3, l0_4)
set_option maxHeartbeats 6400000 in
set_option maxRecDepth 100000 in
theorem redact_Only.calls (a0_0 : Int) (a0_1 : Int) (a0_2 : ByteArray) (P0_3_ : Nat → Prop) (A0_3 : Option Addr) (c0_3 : Nat) (l0_3 : List ByteArray) (P0_4_ : Nat → Prop) (A0_4 : Option Addr) (c0_4 : Nat) (l0_4 : List (S25)) (A1 : Option Addr) (c1 : Nat) (l1 : List ByteArray) (r1 : Int) (r2 : Int) (r3 : ByteArray) (r4 : List ByteArray) (r5 : List (S25)) (w : World)
    (hs0_3 : Kd.V Kd.string 9 w w.heap.size (fun k_ => P0_3_ k_) (.slice A0_3 l0_3.length c0_3) l0_3) (hs0_4 : Kd.V k25 25 w w.heap.size (fun k_ => P0_4_ k_) (.slice A0_4 l0_4.length c0_4) l0_4) (hr1 : Kd.C Kd.string w A1 l1.length l1) (hc1 : l1.length ≤ c1)
    (h : redact_Only.f a0_0 a0_1 a0_2 l0_3 l0_4 l1 = some (r1, r2, r3, r4, r5)) :
    Calls Try.prog 99 #[.agg #[.int .i64 a0_0, .int .i64 a0_1, .string a0_2, .slice A0_3 l0_3.length c0_3, .slice A0_4 l0_4.length c0_4], .slice A1 l1.length c1] w fun e w' => ∃ v3_ v4_ : Value, e = .returned (.agg #[.int .i64 r1, .int .i64 r2, .string r3, v3_, v4_]) ∧ Kd.V Kd.string 9 w' w.heap.size (fun k_ => ((P0_3_ k_ ∨ P0_4_ k_) ∨ w.heap.size ≤ k_)) v3_ r4 ∧ Kd.V k25 25 w' w.heap.size (fun k_ => ((P0_3_ k_ ∨ P0_4_ k_) ∨ w.heap.size ≤ k_)) v4_ r5 ∧ Below w.heap.size w w' := by
  unfold redact_Only.f at h
  have HS3 := Aside0.mk hs0_3
  have HS4 := Aside0.mk hs0_4
  have HR1 := Aside0.mk hr1
  clear hs0_3 hs0_4 hr1
  by_cases c6 : a0_0 = 6
  · rw [if_pos c6] at h
    subst c6
    have H := Aside0.mk h
    have hb3 : l0_3.length < 1000000000 := by
      unfold tree_Without.f at h
      split at h
      · rename_i hh; exact hh.1
      · cases h
    clear h
    have hB0 : Bxs w ((w.alloc (.cells #[.int .i64 6, .int .i64 a0_1, .string a0_2, .slice A0_3 l0_3.length c0_3, .slice A0_4 l0_4.length c0_4] 25)).alloc (.cells #[.int .i64 0, .int .i64 0, .string ⟨#[]⟩, .slice none 0 0, .slice none 0 0] 25)) [(#[.int .i64 6, .int .i64 a0_1, .string a0_2, .slice A0_3 l0_3.length c0_3, .slice A0_4 l0_4.length c0_4], 25), (#[.int .i64 0, .int .i64 0, .string ⟨#[]⟩, .slice none 0 0, .slice none 0 0], 25)] := (((Bx0.start w).alloc _ _).alloc _ _).x
    have HB0 := Aside0.mk hB0
    clear hB0
    go_enter Try.func99, Try.ntmps99
    go_wp2
    generalize (w.alloc (.cells #[.int .i64 6, .int .i64 a0_1, .string a0_2, .slice A0_3 l0_3.length c0_3, .slice A0_4 l0_4.length c0_4] 25)).alloc (.cells #[.int .i64 0, .int .i64 0, .string ⟨#[]⟩, .slice none 0 0, .slice none 0 0] 25) = W0 at HB0 ⊢
    go_loopg [5, 15] (l0_3.length + 1) (fun kq v5 v15 W => ∃ i : Nat, v15 = .int .i64 (i : Int) ∧ Aside0 (i + kq = l0_3.length + 1) ∧ Aside0 (i ≤ l0_3.length) ∧ Aside0 (Below W0.heap.size W0 W) ∧ Aside0 (Kd.string.R 9 W W0.heap.size (fun _ => True) v5 (onlyK (l0_3.take i) l1)))
    case atStart => exact ⟨0, rfl, ⟨by omega⟩, ⟨Nat.zero_le _⟩, ⟨Below.refl _ _⟩, ⟨Kd.R_nil _ _ _ _ _⟩⟩
    case round =>
      obtain ⟨i, rfl, hk, hi, hB, hO⟩ := hrel
      cases gk with
      | zero => exact absurd hk.out (by have := hi.out; omega)
      | succ k1 =>
        obtain ⟨Ao, co, eo⟩ := Kd.R_slice hO.out
        have hol : (onlyK (l0_3.take i) l1).length ≤ i := by
          have := List.length_filter_le (fun k => !Lib.containsS l1 k) (l0_3.take i)
          rw [List.length_take] at this
          unfold onlyK
          omega
        by_cases c5 : i < l0_3.length
        · have c5b : decide ((i : Int) < (l0_3.length : Int)) = true := decide_eq_true (by omega)
          have p5 : ((0 : Int) ≤ (i : Int)) = True := eq_true (by omega)
          have q5 : ((i : Int) < (l0_3.length : Int)) = True := eq_true (by omega)
          obtain ⟨ad, e7, x0⟩ := Kd.at_string (Kd.C_below (Kd.C_below (Kd.V_reads' HS3.out).2.2 HB0.out.B) hB.out) (i : Int) (by omega) (by omega)
          subst e7
          rw [rds l0_3 i c5] at x0
          simp only [Int.toNat_natCast] at x0
          have HX := Aside0.mk (rfl : l0_3[i] = l0_3[i])
          generalize hxi : l0_3[i] = x at x0
          have HXI := Aside0.mk hxi
          clear hxi HX
          have HC1 := Aside0.mk (Kd.C_below (Kd.C_below HR1.out HB0.out.B) hB.out)
          cases hp : Lib.containsS l1 x with
          | true =>
            have HP := Aside0.mk hp
            clear hp
            subst eo
            go_wp2_with (go_at_call 82; with_reducible refine (contains_calls A1 c1 l1 x _ HC1.out).mono ?_; rw [HP.out]; rintro e w1 ⟨rfl, rfl⟩)
            go_roundg k1
            case measure => omega
            case rel => exact ⟨i + 1, by go_num, ⟨by have := hk.out; omega⟩, ⟨c5⟩, hB, ⟨by rw [onlyK_no c5 (by rw [HXI.out]; exact HP.out)]; exact hO.out⟩⟩
          | false =>
            have HP := Aside0.mk hp
            clear hp
            subst eo
            go_wp2_with (first
              | (go_at_call 82; with_reducible refine (contains_calls A1 c1 l1 x _ HC1.out).mono ?_; rw [HP.out]; rintro e w1 ⟨rfl, rfl⟩)
              | ((with_reducible refine gate_builtin (b := .append) (xs := #[.tmp 23, .tmp 25]) rfl ?_); at_builtin; refine Kd.R_append Kd.string (w0 := W0) W0.heap.size rfl (.tmp 23) (.tmp 25) 22 9 (.string ⟨#[]⟩) 16 rfl Try.underlying22 info9 rfl (by decide) (by omega) _ (onlyK (l0_3.take i) l1) x [.string x] (fun _ => True) (fun _ => False) rfl rfl rfl (fun _ hk => hk.elim) (fun _ _ => trivial) hO.out hB.out hB.out.size (by omega) ?_; intro v1 w1 ho hb hg hat; have HO1 := Aside0.mk ho; have HB1 := Aside0.mk hb; clear ho hb hg hat))
            go_roundg k1
            case measure => omega
            case rel => exact ⟨i + 1, by go_num, ⟨by have := hk.out; omega⟩, ⟨c5⟩, HB1, ⟨by rw [onlyK_yes c5 (by rw [HXI.out]; exact HP.out), HXI.out]; exact HO1.out⟩⟩
        · have c5b : decide ((i : Int) < (l0_3.length : Int)) = false := decide_eq_false (by omega)
          have hil : i = l0_3.length := by have := hi.out; omega
          subst hil
          have HO := hO
          rw [List.take_length] at HO hol eo
          subst eo
          have hBx := HB0.out.step hB.out
          have x0 := hBx.cell 0 0 rfl
          have x1 := hBx.cell 0 1 rfl
          have x2 := hBx.cell 0 2 rfl
          have x3 := hBx.cell 0 3 rfl
          have x4 := hBx.cell 0 4 rfl
          simp only [List.getElem?_toArray, List.getElem?_cons_zero, List.getElem?_cons_succ, Nat.add_zero] at x0 x1 x2 x3 x4
          have HBX := Aside0.mk hBx
          clear hBx
          obtain ⟨hle, _, hCo⟩ := Kd.R_reads' HO.out
          have HCO := Aside0.mk hCo
          clear hCo
          go_wp2_with (first
            | (go_at_call 35; with_reducible refine (tree_Without.calls 6 a0_1 a0_2 (fun k_ => P0_3_ k_ ∧ k_ < w.heap.size) A0_3 c0_3 l0_3 (fun k_ => P0_4_ k_ ∧ k_ < w.heap.size) A0_4 c0_4 l0_4 Ao co (onlyK l0_3 l1) r1 r2 r3 r4 r5 _ (V_base (Kd.V_below (Kd.V_bound HS3.out) HBX.out.B)) (V_base (Kd.V_below (Kd.V_bound HS4.out) HBX.out.B)) HCO.out (by assumption) H.out).mono ?_; rintro e w5 ⟨v3, v4, rfl, hV3, hV4, hb5⟩; obtain ⟨A5, c5', e5⟩ := Kd.V_slice hV3; generalize r4.length = n5 at e5; subst e5; obtain ⟨A6, c6', e6⟩ := Kd.V_slice hV4; generalize r5.length = n6 at e6; subst e6; have HV3 := Aside0.mk hV3; have HV4 := Aside0.mk hV4; have HB5 := Aside0.mk hb5; clear hV3 hV4 hb5)
            | ((with_reducible refine gate_store (t := 25) (p := 4) rfl ?_); refine store5 rfl rfl rfl rfl rfl ((HBX.out.step HB5.out).at_ 1 _ rfl) rfl (by kernel_rfl) (by rfl) (fun W6 hb6 hg6 => ?_); have HB6 := Aside0.mk hb6; have HG6 := Aside0.mk hg6; have z0 := blk_cell hb6 0; have z1 := blk_cell hb6 1; have z2 := blk_cell hb6 2; have z3 := blk_cell hb6 3; have z4 := blk_cell hb6 4; simp only [List.getElem?_toArray, List.getElem?_cons_zero, List.getElem?_cons_succ] at z0 z1 z2 z3 z4; clear hb6 hg6))
          have hlt1 := HBX.out.lt 1 rfl
          refine bodyPost_ret (v := .agg #[.int .i64 r1, .int .i64 r2, .string r3, .slice A5 n5 c5', .slice A6 n6 c6']) (by simp [results, Try.results99, go_sem, z0, z1, z2, z3, z4]) rfl ⟨_, _, rfl, ?_, ?_, (HBX.out.step HB5.out).B.grown HG6.out (HBX.out.step HB5.out).B.size (fun k hk => by injection hk with hk; omega)⟩
          · exact Kd.V_mono (Kd.V_grown HV3.out HG6.out (fun k hk e => by injection e with e; have hk' : ((P0_3_ k ∧ k < w.heap.size) ∨ (P0_4_ k ∧ k < w.heap.size)) ∨ wr.heap.size ≤ k := hk; omega)) (fun k hk => hk.elim (fun h => .inl (h.elim (fun h => .inl h.1) (fun h => .inr h.1))) (fun h => .inr (Nat.le_trans HBX.out.B.size h)))
          · exact Kd.V_mono (Kd.V_grown HV4.out HG6.out (fun k hk e => by injection e with e; have hk' : ((P0_3_ k ∧ k < w.heap.size) ∨ (P0_4_ k ∧ k < w.heap.size)) ∨ wr.heap.size ≤ k := hk; omega)) (fun k hk => hk.elim (fun h => .inl (h.elim (fun h => .inl h.1) (fun h => .inr h.1))) (fun h => .inr (Nat.le_trans HBX.out.B.size h)))
  · rw [if_neg c6] at h
    injection h with h
    simp only [Prod.mk.injEq] at h
    obtain ⟨rfl, rfl, rfl, rfl, rfl⟩ := h
    have c6b : (a0_0 == 6) = false := by simpa using c6
    have c6c : (a0_0 != 6) = true := by simpa using c6
    go_enter Try.func99, Try.ntmps99
    go_wp2
    refine bodyPost_ret (v := .agg #[.int .i64 a0_0, .int .i64 a0_1, .string a0_2, .slice A0_3 l0_3.length c0_3, .slice A0_4 l0_4.length c0_4]) (by simp [results, Try.results99, go_sem]) rfl ⟨_, _, rfl, Kd.V_mono (Kd.V_alloc (Kd.V_alloc HS3.out _) _) (fun k hk => .inl (.inl hk)), Kd.V_mono (Kd.V_alloc (Kd.V_alloc HS4.out _) _) (fun k hk => .inl (.inr hk)), below_alloc (below_alloc (Below.refl _ _) _) _⟩
end Go.Proofs.Ytjdldlphfifggaa.X
end
section
namespace Go.Proofs.Ytjdldlphfifggaa.X
open Go.RowKit Go.Proofs.YtjdldlphfifggaaW.PrintWords Go.Proofs.YtjdldlphfifggaaW.PrintLast Go.Proofs.YtjdldlphfifggaaW.PrintMore
set_option linter.unusedVariables false
set_option linter.unusedSimpArgs false
abbrev Nd : Type := S25
def ofT : Option (Int × Int × ByteArray × List ByteArray × List Nd) → Option Nd := Option.map fun t => ⟨t.1, t.2.1, t.2.2.1, t.2.2.2.1, t.2.2.2.2⟩
def withoutN (n : Nd) (keys : List ByteArray) : Option Nd := ofT (tree_Without.f n.f0 n.f1 n.f2 n.f3 n.f4 keys)
def putN (n : Nd) (key : ByteArray) (v : Nd) : Option Nd := ofT (tree_Put.f n.f0 n.f1 n.f2 n.f3 n.f4 key v.f0 v.f1 v.f2 v.f3 v.f4)
def onlyN (n : Nd) (keys : List ByteArray) : Option Nd := ofT (redact_Only.f n.f0 n.f1 n.f2 n.f3 n.f4 keys)
theorem ofT_some {t : Option (Int × Int × ByteArray × List ByteArray × List Nd)} {n : Nd} (h : ofT t = some n) : t = some (n.f0, n.f1, n.f2, n.f3, n.f4) := by
  cases t with
  | none => cases h
  | some t =>
    obtain ⟨a, b, c, d, e⟩ := t
    simp only [ofT, Option.map_some, Option.some.injEq] at h
    subst h
    rfl
def NdV (Q : Nat → Prop) (W : World) (v : Value) (n : Nd) : Prop := ∃ A3 c3 A4 c4, v = .agg #[.int .i64 n.f0, .int .i64 n.f1, .string n.f2, .slice A3 n.f3.length c3, .slice A4 n.f4.length c4] ∧ Kd.V Kd.string 9 W 0 Q (.slice A3 n.f3.length c3) n.f3 ∧ Kd.V k25 nodeT W 0 Q (.slice A4 n.f4.length c4) n.f4
theorem NdV.mk_ {Q : Nat → Prop} {W : World} {n : Nd} {v3 v4 : Value} {b b' : Nat} (h3 : Kd.V Kd.string 9 W b Q v3 n.f3) (h4 : Kd.V k25 nodeT W b' Q v4 n.f4) : NdV Q W (.agg #[.int .i64 n.f0, .int .i64 n.f1, .string n.f2, v3, v4]) n := by
  obtain ⟨A3, c3, rfl⟩ := Kd.V_slice h3
  obtain ⟨A4, c4, rfl⟩ := Kd.V_slice h4
  exact ⟨A3, c3, A4, c4, rfl, h3, h4⟩
theorem NdV.step {Q : Nat → Prop} {W W1 : World} {v : Value} {n : Nd} (h : NdV Q W v n) (hm : ∀ k, Q k → k < W.heap.size → W1.heap[k]? = W.heap[k]?) : NdV Q W1 v n := by
  obtain ⟨A3, c3, A4, c4, e, h3, h4⟩ := h
  exact ⟨A3, c3, A4, c4, e, Kd.V_step h3 hm, Kd.V_step h4 hm⟩
theorem NdV.below {Q : Nat → Prop} {W W1 : World} {v : Value} {n : Nd} (h : NdV Q W v n) (hb : Below W.heap.size W W1) : NdV Q W1 v n := h.step fun k _ hk => hb.block k hk
theorem NdV.mono {Q Q' : Nat → Prop} {W : World} {v : Value} {n : Nd} (h : NdV Q W v n) (hq : ∀ k, Q k → Q' k) : NdV Q' W v n := by
  obtain ⟨A3, c3, A4, c4, e, h3, h4⟩ := h
  exact ⟨A3, c3, A4, c4, e, Kd.V_mono h3 hq, Kd.V_mono h4 hq⟩
theorem NdV.bound {Q : Nat → Prop} {W : World} {v : Value} {n : Nd} (h : NdV Q W v n) : NdV (fun k => Q k ∧ k < W.heap.size) W v n := by
  obtain ⟨A3, c3, A4, c4, e, h3, h4⟩ := h
  exact ⟨A3, c3, A4, c4, e, Kd.V_bound h3, Kd.V_bound h4⟩
theorem one_C (W : World) (key : ByteArray) (t : TypeId) (g : Nat) (hg : g = W.heap.size) : Kd.C Kd.string (W.alloc (.cells #[.string key] t)) (some ⟨g, 0, none⟩) [key].length [key] := by
  subst hg
  refine ⟨rfl, by simp, fun _ => ⟨_, rfl, fun j p hj => ?_⟩⟩
  have hj1 := (List.getElem?_eq_some_iff.1 hj).1
  have hj0 : j = 0 := by simpa using hj1
  subst hj0
  obtain rfl : key = p := by simpa using hj
  refine ⟨[.string key], rfl, rfl, fun i u hu => ?_⟩
  have hi1 := (List.getElem?_eq_some_iff.1 hu).1
  have hi0 : i = 0 := by simpa using hi1
  subst hi0
  obtain rfl : Value.string key = u := by simpa using hu
  exact blk_cell (blk_new _ _) 0
section
variable {Q : Nat → Prop} {w : World} {n : Nd} {v : Value}
theorem without_nd (h : NdV Q w v n) {A1 : Option Addr} {c1 : Nat} {l1 : List ByteArray} {r : Nd} (hr1 : Kd.C Kd.string w A1 l1.length l1) (hc1 : l1.length ≤ c1) (hf : withoutN n l1 = some r) (hQ : ∀ k, w.heap.size ≤ k → Q k) :
    Calls Try.prog 35 #[v, .slice A1 l1.length c1] w fun e w' => ∃ v', e = .returned v' ∧ NdV Q w' v' r ∧ Below w.heap.size w w' := by
  obtain ⟨A3, c3, A4, c4, rfl, h3, h4⟩ := h
  refine (tree_Without.calls n.f0 n.f1 n.f2 Q A3 c3 n.f3 Q A4 c4 n.f4 A1 c1 l1 r.f0 r.f1 r.f2 r.f3 r.f4 w h3 h4 hr1 hc1 (ofT_some hf)).mono ?_
  rintro e w' ⟨v3, v4, rfl, g3, g4, hb⟩
  have hq : ∀ k, ((Q k ∨ Q k) ∨ w.heap.size ≤ k) → Q k := fun k hk => hk.elim (fun h => h.elim id id) (hQ k)
  exact ⟨_, rfl, NdV.mk_ (Kd.V_mono g3 hq) (Kd.V_mono g4 hq), hb⟩
theorem only_nd (h : NdV Q w v n) {A1 : Option Addr} {c1 : Nat} {l1 : List ByteArray} {r : Nd} (hr1 : Kd.C Kd.string w A1 l1.length l1) (hc1 : l1.length ≤ c1) (hf : onlyN n l1 = some r) (hQ : ∀ k, w.heap.size ≤ k → Q k) :
    Calls Try.prog 99 #[v, .slice A1 l1.length c1] w fun e w' => ∃ v', e = .returned v' ∧ NdV Q w' v' r ∧ Below w.heap.size w w' := by
  obtain ⟨A3, c3, A4, c4, rfl, h3, h4⟩ := h
  refine (redact_Only.calls n.f0 n.f1 n.f2 Q A3 c3 n.f3 Q A4 c4 n.f4 A1 c1 l1 r.f0 r.f1 r.f2 r.f3 r.f4 w h3 h4 hr1 hc1 (ofT_some hf)).mono ?_
  rintro e w' ⟨v3, v4, rfl, g3, g4, hb⟩
  have hq : ∀ k, ((Q k ∨ Q k) ∨ w.heap.size ≤ k) → Q k := fun k hk => hk.elim (fun h => h.elim id id) (hQ k)
  exact ⟨_, rfl, NdV.mk_ (Kd.V_mono g3 hq) (Kd.V_mono g4 hq), hb⟩
theorem put_nd (h : NdV Q w v n) {key : ByteArray} {u : Value} {x r : Nd} (hu : NdV Q w u x) (hf : putN n key x = some r) (hQ : ∀ k, w.heap.size ≤ k → Q k) :
    Calls Try.prog 32 #[v, .string key, u] w fun e w' => ∃ v', e = .returned v' ∧ NdV Q w' v' r ∧ Below w.heap.size w w' := by
  obtain ⟨A3, c3, A4, c4, rfl, h3, h4⟩ := h
  obtain ⟨B3, d3, B4, d4, rfl, k3, k4⟩ := hu
  refine (tree_Put.calls n.f0 n.f1 n.f2 Q A3 c3 n.f3 Q A4 c4 n.f4 key x.f0 x.f1 x.f2 Q B3 d3 x.f3 Q B4 d4 x.f4 r.f0 r.f1 r.f2 r.f3 r.f4 w h3 h4 k3 k4 (ofT_some hf)).mono ?_
  rintro e w' ⟨v3, v4, rfl, g3, g4, hb⟩
  have hq : ∀ k, ((Q k ∨ Q k ∨ Q k ∨ Q k) ∨ w.heap.size ≤ k) → Q k := fun k hk => hk.elim (fun h => h.elim id (fun h => h.elim id (fun h => h.elim id id))) (hQ k)
  exact ⟨_, rfl, NdV.mk_ (Kd.V_mono g3 hq) (Kd.V_mono g4 hq), hb⟩
theorem get_nd (h : NdV Q w v n) (key : ByteArray) (hl : n.f4.length ≤ 1466015503700) (hQ : ∀ k, w.heap.size ≤ k → Q k) :
    Calls Try.prog 30 #[v, .string key] w fun e w' => ∃ v', e = .returned (.tuple #[v', .bool (get n.f0 n.f3 n.f4 key).isSome]) ∧ NdV Q w' v' ((get n.f0 n.f3 n.f4 key).getD ⟨0, 0, ⟨#[]⟩, [], []⟩) ∧ Below w.heap.size w w' := by
  obtain ⟨A3, c3, A4, c4, rfl, h3, h4⟩ := h
  obtain ⟨k, hk⟩ := (Get_ev n.f0 n.f1 n.f2 n.f3 n.f4 key hl).rounds
  have hg : tup (get n.f0 n.f3 n.f4 key) = (((get n.f0 n.f3 n.f4 key).getD ⟨0, 0, ⟨#[]⟩, [], []⟩).f0, ((get n.f0 n.f3 n.f4 key).getD ⟨0, 0, ⟨#[]⟩, [], []⟩).f1, ((get n.f0 n.f3 n.f4 key).getD ⟨0, 0, ⟨#[]⟩, [], []⟩).f2, ((get n.f0 n.f3 n.f4 key).getD ⟨0, 0, ⟨#[]⟩, [], []⟩).f3, ((get n.f0 n.f3 n.f4 key).getD ⟨0, 0, ⟨#[]⟩, [], []⟩).f4, (get n.f0 n.f3 n.f4 key).isSome) := by
    cases get n.f0 n.f3 n.f4 key <;> rfl
  rw [hg] at hk
  refine (tree_Get.calls k n.f0 n.f1 n.f2 A3 c3 n.f3 Q A4 c4 n.f4 key _ _ _ _ _ _ w (Kd.V_reads' h3).2.2 (Kd.V_reads' h3).2.1 h4 hk).mono ?_
  rintro e w' ⟨v3, v4, rfl, g3, g4, hb⟩
  have hq : ∀ k, (Q k ∨ w.heap.size ≤ k) → Q k := fun k hk => hk.elim id (hQ k)
  exact ⟨_, rfl, NdV.mk_ (Kd.V_mono g3 hq) (Kd.V_mono g4 hq), hb⟩
end
end Go.Proofs.Ytjdldlphfifggaa.X
end
section
namespace Go.Proofs.Ytjdldlphfifggaa.X
open Go.RowKit Go.Proofs.YtjdldlphfifggaaW.PrintWords Go.Proofs.YtjdldlphfifggaaW.PrintLast Go.Proofs.YtjdldlphfifggaaW.PrintMore
set_option linter.unusedVariables false
set_option linter.unusedSimpArgs false
def NdB (Q : Nat → Prop) (W : World) (g : Nat) (n : Nd) : Prop := ∃ cs, W.heap[g]? = some (.cells cs nodeT (0, 0)) ∧ NdV Q W (.agg cs) n
theorem NdB.below {Q : Nat → Prop} {W W1 : World} {g : Nat} {n : Nd} (h : NdB Q W g n) (hb : Below W.heap.size W W1) : NdB Q W1 g n := by
  obtain ⟨cs, h1, h2⟩ := h
  exact ⟨cs, blk_below h1 hb, h2.below hb⟩
def withinN (n : Nd) (key : ByteArray) (only : List ByteArray) : Option Nd :=
  if n.f4.length < 1000000000 then (match get n.f0 n.f3 n.f4 key with
  | none => some n
  | some x => if x.f0 = 6 then (onlyN x only).bind (putN n key) else withoutN n [key]) else none
theorem grown_then {W W1 W2 : World} {g : Nat} (hb : Below W.heap.size W W1) (hg : W1.grownBy W2 (some g)) : W.grownBy W2 (some g) :=
  ⟨hg.os.trans hb.os, hg.tape.trans hb.tape, hg.output.trans hb.output, Nat.le_trans hb.size hg.size, fun k hk hne => (hg.block k (Nat.lt_of_lt_of_le hk hb.size) hne).trans (hb.block k hk)⟩
theorem NdV.grown {Q : Nat → Prop} {W W1 : World} {g : Nat} {v : Value} {n : Nd} (h : NdV Q W v n) (hg : W.grownBy W1 (some g)) (hQ : ∀ k, Q k → k ≠ g) : NdV Q W1 v n :=
  h.step fun k hk hlt => hg.block k hlt (fun e => hQ k hk (by injection e))
set_option maxHeartbeats 6400000 in
set_option maxRecDepth 100000 in
theorem content1 (Q : Nat → Prop) (g : Nat) (hQg : ∀ k, Q k → k ≠ g) (key : ByteArray) (A1 : Option Addr) (c1 : Nat) (only : List ByteArray) (n r : Nd) (w : World) (hn : NdB Q w g n) (hr1 : Kd.C Kd.string w A1 only.length only) (hc1 : only.length ≤ c1) (hf : withinN n key only = some r) (hQ : ∀ k, w.heap.size ≤ k → Q k) :
    Calls Try.prog 127 #[.string key, .slice A1 only.length c1, .pointer (some ⟨g, 0, none⟩)] w fun e w' => e = .returned (.tuple #[]) ∧ NdB Q w' g r ∧ w.grownBy w' (some g) := by
  obtain ⟨cs, hg, A3, c3, A4, c4, e, h3, h4⟩ := hn
  injection e with e
  subst e
  have hlt : g < w.heap.size := blk_lt hg
  have hl : n.f4.length ≤ 1466015503700 := by
    unfold withinN at hf
    split at hf
    · omega
    · cases hf
  unfold withinN at hf
  rw [if_pos (by split at hf; assumption; cases hf)] at hf
  have x0 := blk_cell hg 0
  have x1 := blk_cell hg 1
  have x2 := blk_cell hg 2
  have x3 := blk_cell hg 3
  have x4 := blk_cell hg 4
  simp only [List.getElem?_toArray, List.getElem?_cons_zero, List.getElem?_cons_succ] at x0 x1 x2 x3 x4
  have HG := Aside0.mk hg
  have HN : Aside0 (NdV Q w (.agg #[.int .i64 n.f0, .int .i64 n.f1, .string n.f2, .slice A3 n.f3.length c3, .slice A4 n.f4.length c4]) n) := ⟨⟨A3, c3, A4, c4, rfl, h3, h4⟩⟩
  have HR1 := Aside0.mk hr1
  have HQ := Aside0.mk hQ
  have HQG := Aside0.mk hQg
  have HGET := Aside0.mk (get_nd HN.out key hl hQ)
  clear hg h3 h4 hr1 hQ hQg
  cases hx : get n.f0 n.f3 n.f4 key with
  | none =>
    rw [hx] at HGET hf
    injection hf with hf
    subst hf
    clear hx
    go_enter Try.func127, Try.ntmps127
    go_wp2_with (go_at_call 30; (with_reducible refine HGET.out.mono ?_); rintro e w1 ⟨v1, rfl, ⟨B3, d3, B4, d4, rfl, k3, k4⟩, hb1⟩; have HB1 := Aside0.mk hb1; clear hb1 k3 k4)
    go_end0
    have hb := below_alloc HB1.out (.cells #[.int .i64 0, .int .i64 0, .string ⟨#[]⟩, .slice B3 0 d3, .slice B4 0 d4] nodeT)
    exact ⟨rfl, ⟨_, blk_below HG.out hb, HN.out.below hb⟩, grown_of_below hb _⟩
  | some x =>
    rw [hx] at HGET hf
    simp only at hf
    clear hx
    by_cases hx6 : x.f0 = 6
    · rw [if_pos hx6] at hf
      obtain ⟨y, hy, hr⟩ := Option.bind_eq_some_iff.1 hf
      have HY := Aside0.mk hy
      have HRR := Aside0.mk hr
      clear hf hy hr
      have c6b : (x.f0 == 6) = true := by simpa using hx6
      have c6c : (x.f0 != 6) = false := by simpa using hx6
      have HX6 := Aside0.mk hx6
      clear hx6
      go_enter Try.func127, Try.ntmps127
      go_wp2_with (go_at_call 30; (with_reducible refine HGET.out.mono ?_); rintro e w1 ⟨v1, rfl, ⟨B3, d3, B4, d4, rfl, k3, k4⟩, hb1⟩; have HX : Aside0 (NdV Q w1 (.agg #[.int .i64 x.f0, .int .i64 x.f1, .string x.f2, .slice B3 x.f3.length d3, .slice B4 x.f4.length d4]) x) := ⟨⟨B3, d3, B4, d4, rfl, k3, k4⟩⟩; have HB1 := Aside0.mk hb1; clear hb1 k3 k4)
      have hbA : Below w.heap.size w (w1.alloc (.cells #[.int .i64 x.f0, .int .i64 x.f1, .string x.f2, .slice B3 x.f3.length d3, .slice B4 x.f4.length d4] nodeT)).drew := below_drew (below_alloc HB1.out _)
      have hG0 := blk_below HG.out hbA
      have hX0 : (w1.alloc (.cells #[.int .i64 x.f0, .int .i64 x.f1, .string x.f2, .slice B3 x.f3.length d3, .slice B4 x.f4.length d4] nodeT)).drew.heap[w1.heap.size]? = some (.cells #[.int .i64 x.f0, .int .i64 x.f1, .string x.f2, .slice B3 x.f3.length d3, .slice B4 x.f4.length d4] nodeT (0, 0)) := blk_new w1 _
      have hXV := HX.out.below (below_drew (below_alloc (Below.refl w1.heap.size w1) (.cells #[.int .i64 x.f0, .int .i64 x.f1, .string x.f2, .slice B3 x.f3.length d3, .slice B4 x.f4.length d4] nodeT)))
      refine start_ (n := 7) (S := (fun W' : World => W'.cell? ⟨g, 0, none⟩ = some (.int .i64 n.f0) ∧ W'.cell? ⟨g, 1, none⟩ = some (.int .i64 n.f1) ∧ W'.cell? ⟨g, 2, none⟩ = some (.string n.f2) ∧ W'.cell? ⟨g, 3, none⟩ = some (.slice A3 n.f3.length c3) ∧ W'.cell? ⟨g, 4, none⟩ = some (.slice A4 n.f4.length c4) ∧ W'.cell? ⟨w1.heap.size, 0, none⟩ = some (.int .i64 x.f0) ∧ W'.cell? ⟨w1.heap.size, 1, none⟩ = some (.int .i64 x.f1) ∧ W'.cell? ⟨w1.heap.size, 2, none⟩ = some (.string x.f2) ∧ W'.cell? ⟨w1.heap.size, 3, none⟩ = some (.slice B3 x.f3.length d3) ∧ W'.cell? ⟨w1.heap.size, 4, none⟩ = some (.slice B4 x.f4.length d4))) (ds := [6]) #[false, false, false, false, false, false, false] (by kernel_rfl) rfl rfl ⟨blk_cell hG0 0, blk_cell hG0 1, blk_cell hG0 2, blk_cell hG0 3, blk_cell hG0 4, blk_cell hX0 0, blk_cell hX0 1, blk_cell hX0 2, blk_cell hX0 3, blk_cell hX0 4⟩ (fun hHeld => ?_)
      generalize (w1.alloc (.cells #[.int .i64 x.f0, .int .i64 x.f1, .string x.f2, .slice B3 x.f3.length d3, .slice B4 x.f4.length d4] nodeT)).drew = W0 at hbA hG0 hX0 hXV hHeld ⊢
      refine take_ (i := 0) (N := some 13) (v := ?_) (a' := ?_) #[true, false, false, false, false, false, false] rfl rfl (by kernel_rfl) (fun _ _ _ h => h) (Or.inl ⟨by rfl, ?_⟩) hHeld ?_ ?_
      rotate_left
      · rintro w' ⟨s0, s1, s2, s3, s4, s5, s6, s7, s8, s9⟩
        go_simp
        with_reducible rfl
      rotate_left
      · simp only [Act.put, List.setIfInBounds_toArray, List.set_cons_zero, List.set_cons_succ]
        rfl
      refine take_ (i := 2) (N := some 15) (v := ?_) (a' := ?_) #[true, false, true, false, false, false, false] rfl rfl (by kernel_rfl) (fun _ _ _ h => h) (Or.inl ⟨by rfl, ?_⟩) hHeld ?_ ?_
      rotate_left
      · rintro w' ⟨s0, s1, s2, s3, s4, s5, s6, s7, s8, s9⟩
        go_simp
        with_reducible rfl
      rotate_left
      · simp only [Act.put, List.setIfInBounds_toArray, List.set_cons_zero, List.set_cons_succ]
        rfl
      refine pure_ (i := 1) (N := some 14) (v := ?_) (a' := ?_) #[true, true, true, false, false, false, false] rfl rfl (by kernel_rfl) (fun _ _ _ h => h) (Or.inl ⟨by rfl, ?_⟩) ?_ ?_
      rotate_left
      · intro w'
        go_simp
        with_reducible rfl
      rotate_left
      · simp only [Act.put, List.setIfInBounds_toArray, List.set_cons_zero, List.set_cons_succ]
        rfl
      refine pure_ (i := 3) (N := some 16) (v := ?_) (a' := ?_) #[true, true, true, true, false, false, false] rfl rfl (by kernel_rfl) (fun _ _ _ h => h) (Or.inl ⟨by rfl, ?_⟩) ?_ ?_
      rotate_left
      · intro w'
        go_simp
        with_reducible rfl
      rotate_left
      · simp only [Act.put, List.setIfInBounds_toArray, List.set_cons_zero, List.set_cons_succ]
        rfl
      refine one_ (i := 4) (N := some 17) #[true, true, true, true, true, false, false] rfl rfl (by kernel_rfl) (by decide) (fun K hK => ?_)
      refine goes_ Try.func99 (by kernel_rfl) rfl #[.agg #[.int .i64 x.f0, .int .i64 x.f1, .string x.f2, .slice B3 x.f3.length d3, .slice B4 x.f4.length d4], .slice A1 only.length c1] (by rfl) rfl rfl (by (try simp only [List.map_toArray, List.map_cons, List.map_nil]); first | done | rfl) ?_
      refine (only_nd (Q := Q) hXV (Kd.C_below HR1.out hbA) hc1 HY.out (fun k hk => HQ.out k (Nat.le_trans hbA.size hk))).mono ?_
      rintro e W1 ⟨v17, rfl, hy, hb2⟩
      have hG1 := blk_below hG0 hb2
      have hX1 := blk_below hX0 hb2
      have hbB := below_then hbA hbA.size hb2
      refine ⟨_, rfl, ?_⟩
      refine hK.out _ _ ⟨blk_cell hG1 0, blk_cell hG1 1, blk_cell hG1 2, blk_cell hG1 3, blk_cell hG1 4, blk_cell hX1 0, blk_cell hX1 1, blk_cell hX1 2, blk_cell hX1 3, blk_cell hX1 4⟩ (fun hHeld => ?_)
      clear hK K
      refine norm_ (a' := ?_) ?_ ?_
      rotate_left
      · show Act.put _ (some 17) _ = _
        simp only [Act.put, List.setIfInBounds_toArray, List.set_cons_zero, List.set_cons_succ]
        rfl
      refine one_ (i := 5) (N := some 18) #[true, true, true, true, true, true, false] rfl rfl (by kernel_rfl) (by decide) (fun K hK => ?_)
      refine goes_ Try.func32 (by kernel_rfl) rfl #[.agg #[.int .i64 n.f0, .int .i64 n.f1, .string n.f2, .slice A3 n.f3.length c3, .slice A4 n.f4.length c4], .string key, v17] (by rfl) rfl rfl (by (try simp only [List.map_toArray, List.map_cons, List.map_nil]); first | done | rfl) ?_
      refine (put_nd (Q := Q) (HN.out.below hbB) hy HRR.out (fun k hk => HQ.out k (Nat.le_trans hbB.size hk))).mono ?_
      rintro e W2 ⟨v18, rfl, hv, hb3⟩
      have hG2 := blk_below hG1 hb3
      have hX2 := blk_below hX1 hb3
      have hbC := below_then hbB hbB.size hb3
      refine ⟨_, rfl, ?_⟩
      refine hK.out _ _ ⟨blk_cell hG2 0, blk_cell hG2 1, blk_cell hG2 2, blk_cell hG2 3, blk_cell hG2 4, blk_cell hX2 0, blk_cell hX2 1, blk_cell hX2 2, blk_cell hX2 3, blk_cell hX2 4⟩ (fun hHeld => ?_)
      clear hK K
      refine norm_ (a' := ?_) ?_ ?_
      rotate_left
      · show Act.put _ (some 18) _ = _
        simp only [Act.put, List.setIfInBounds_toArray, List.set_cons_zero, List.set_cons_succ]
        rfl
      obtain ⟨D3, e3, D4, e4, rfl, q3, q4⟩ := hv
      have HV2 : Aside0 (NdV Q W2 (.agg #[.int .i64 r.f0, .int .i64 r.f1, .string r.f2, .slice D3 r.f3.length e3, .slice D4 r.f4.length e4]) r) := ⟨⟨D3, e3, D4, e4, rfl, q3, q4⟩⟩
      clear q3 q4
      refine last_ (i := 6) (N := none) #[true, true, true, true, true, true, true] rfl rfl (by kernel_rfl) (by decide) (fun K hK => ?_)
      refine skip5_ (by rfl) rfl rfl rfl rfl hG2 rfl (by kernel_rfl) (by rfl) (fun W6 hb6 hg6 => ?_)
      refine hK.out _ _ ?_
      clear hK K
      refine done_ (by kernel_rfl) ?_
      have HB6 := Aside0.mk hb6
      have HG6 := Aside0.mk hg6
      clear hb6 hg6
      go_wp2
      go_end0
      exact ⟨rfl, ⟨_, HB6.out, HV2.out.grown HG6.out HQG.out⟩, grown_then hbC HG6.out⟩
    · rw [if_neg hx6] at hf
      have HF := Aside0.mk hf
      clear hf
      have c6b : (x.f0 == 6) = false := by simpa using hx6
      have c6c : (x.f0 != 6) = true := by simpa using hx6
      go_enter Try.func127, Try.ntmps127
      go_wp2_with (first
        | (go_at_call 30; (with_reducible refine HGET.out.mono ?_); rintro e w1 ⟨v1, rfl, ⟨B3, d3, B4, d4, rfl, k3, k4⟩, hb1⟩; have HB1 := Aside0.mk hb1; have hy := blk_below HG.out hb1; have y0 := blk_cell hy 0; have y1 := blk_cell hy 1; have y2 := blk_cell hy 2; have y3 := blk_cell hy 3; have y4 := blk_cell hy 4; simp only [List.getElem?_toArray, List.getElem?_cons_zero, List.getElem?_cons_succ] at y0 y1 y2 y3 y4; have hlt1 := Nat.lt_of_lt_of_le hlt hb1.size; clear hb1 k3 k4 hy)
        | (go_at_call 35; have hbb := below_alloc (below_alloc HB1.out (.cells #[.int .i64 x.f0, .int .i64 x.f1, .string x.f2, .slice B3 x.f3.length d3, .slice B4 x.f4.length d4] nodeT)) (.cells #[.string key] 9); have hC1 := one_C (w1.alloc (.cells #[.int .i64 x.f0, .int .i64 x.f1, .string x.f2, .slice B3 x.f3.length d3, .slice B4 x.f4.length d4] nodeT)) key 9 (w1.heap.size + 1) (size_alloc _ _).symm; (with_reducible refine calls_of_args (args' := #[.agg #[.int .i64 n.f0, .int .i64 n.f1, .string n.f2, .slice A3 n.f3.length c3, .slice A4 n.f4.length c4], .slice (some ⟨w1.heap.size + 1, 0, none⟩) [key].length 1]) rfl ?_); (with_reducible refine (without_nd (Q := Q) (HN.out.below hbb) hC1 (Nat.le_refl 1) HF.out (fun k hk => HQ.out k (Nat.le_trans hbb.size hk))).mono ?_); rintro e w2 ⟨v2, rfl, hv2, hb2⟩; have HB2 := Aside0.mk (below_then hbb hbb.size hb2); obtain ⟨D3, e3, D4, e4, rfl, q3, q4⟩ := hv2; have HV2 : Aside0 (NdV Q w2 (.agg #[.int .i64 r.f0, .int .i64 r.f1, .string r.f2, .slice D3 r.f3.length e3, .slice D4 r.f4.length e4]) r) := ⟨⟨D3, e3, D4, e4, rfl, q3, q4⟩⟩; clear hb2 hbb q3 q4 hC1)
        | ((with_reducible refine gate_store (t := nodeT) (p := 2) rfl ?_); refine store5 rfl rfl rfl rfl rfl (blk_below HG.out HB2.out) rfl (by kernel_rfl) (by rfl) (fun W6 hb6 hg6 => ?_); have HB6 := Aside0.mk hb6; have HG6 := Aside0.mk hg6; clear hb6 hg6))
      go_end0
      exact ⟨rfl, ⟨_, HB6.out, HV2.out.grown HG6.out HQG.out⟩, grown_then HB2.out HG6.out⟩
end Go.Proofs.Ytjdldlphfifggaa.X
end
section
namespace Go.Proofs.Ytjdldlphfifggaa.X
open Go.RowKit Go.WideMaps Go.Maps
set_option linter.unusedVariables false
end Go.Proofs.Ytjdldlphfifggaa.X
end
section
namespace Go.Proofs.Ytjdldlphfifggaa.X
open Go.RowKit Go.Proofs.YtjdldlphfifggaaW.PrintWords Go.Proofs.YtjdldlphfifggaaW.PrintLast Go.Proofs.YtjdldlphfifggaaW.PrintMore Go.WideMaps Go.Maps
set_option linter.unusedVariables false
set_option linter.unusedSimpArgs false
def rawR (v : Value) : Option (DataW Value × List MemPlace) := some (.held v, [])
abbrev nilS : Value := .slice none 0 0
theorem keyT : Keyed Try.prog 9 := string_keyed Try.underlying9
theorem zeroSl (w : World) : (zeroValue 22).run Try.prog w = .ok nilS w := by kernel_rfl
structure KS (w0 W : World) (b xb : Nat) (f : List UInt8 → Value) (g : List UInt8 → List ByteArray) (N : Nat) : Prop where
  m : ∃ D : DataW Value, IsMap D ∧ W.ownsMap Try.prog 9 rawR b N D ∧ ∀ k, D.atKey (.string k) (.held nilS) = .held (f k)
  r : ∀ k, W.ownsRow w0.heap.size 9 1 (f k) (g k).length (encs Value.string (g k))
  d : ∀ k k', k ≠ k' → ∀ x, (f k).ownBlock = some x → (f k').ownBlock ≠ some x
  l : ∀ k, (g k).length ≤ N + 8
  hb : w0.heap.size ≤ b
  B : Below w0.heap.size w0 W
  nb : ∀ k q, (f k).ownBlock = some q → q ≠ xb
def upd {α : Type} (f : List UInt8 → α) (k : List UInt8) (v : α) : List UInt8 → α := fun x => if x = k then v else f x
theorem upd_same {α : Type} (f : List UInt8 → α) (k : List UInt8) (v : α) : upd f k v k = v := by unfold upd; rw [if_pos rfl]
theorem upd_other {α : Type} (f : List UInt8 → α) {k x : List UInt8} (v : α) (h : x ≠ k) : upd f k v x = f x := by unfold upd; rw [if_neg h]
section
variable {w0 W : World} {b xb N : Nat} {f : List UInt8 → Value} {g : List UInt8 → List ByteArray}
theorem KS.lt (h : KS w0 W b xb f g N) : b < W.heap.size := by obtain ⟨D, _, h1, _⟩ := h.m; exact h1.lt
theorem KS.ne (h : KS w0 W b xb f g N) (k : List UInt8) : some b ≠ (f k).ownBlock := fun e => by
  obtain ⟨cells, hc⟩ := own_typed (h.r k) b e.symm
  obtain ⟨D, _, ⟨es, clock, hm, _⟩, _⟩ := h.m
  rw [hm] at hc; cases hc
theorem KS.step {W1 : World} (h : KS w0 W b xb f g N) (hb : Below W.heap.size W W1) : KS w0 W1 b xb f g N := by
  obtain ⟨D, hi, hm, ha⟩ := h.m
  have hg : W.grownBy W1 none := ⟨hb.os, hb.tape, hb.output, hb.size, fun k hk _ => hb.block k hk⟩
  exact ⟨⟨D, hi, hm.kept hg (by simp), ha⟩, fun k => own_move (h.r k) (fun x hx => hb.block x (own_lt (h.r k) x hx)), h.d, h.l, h.hb, below_then h.B h.B.size hb, h.nb⟩
theorem look_of {D : DataW Value} (hm : W.ownsMap Try.prog 9 rawR b N D) {fv : Value} (k : ByteArray) (ha : D.atKey (.string k.data.toList) (.held nilS) = .held fv) (hk : k.size ≤ maxLen) :
    (Instr.lookup 172 (.map (some b)) (.string k) false).run Try.prog W = .ok fv W := by
  obtain ⟨v, ps, hrun, hv⟩ := hm.lookup keyT Try.underlying172 (zeroSl _) (zd := .held nilS) (zp := []) rfl (keyOf_string_mk Try.underlying9 hk)
  rw [ha] at hv
  rw [hrun]
  unfold rawR at hv
  simp only [Option.some.injEq, Prod.mk.injEq, DataW.held.injEq] at hv
  rw [hv.1]
theorem KS.look (h : KS w0 W b xb f g N) (k : ByteArray) (hk : k.size ≤ maxLen) :
    (Instr.lookup 172 (.map (some b)) (.string k) false).run Try.prog W = .ok (f k.data.toList) W := by
  obtain ⟨D, hi, hm, ha⟩ := h.m
  exact look_of hm k (ha _) hk
theorem KS.box (h : KS w0 W b xb f g N) {y : Nat} (hy : W.heap.size ≤ y) : KS w0 W b y f g N :=
  ⟨h.m, h.r, h.d, h.l, h.hb, h.B, fun k q hq e => by have := own_lt (h.r k) q hq; omega⟩
theorem KS.put {W1 : World} (h : KS w0 W b xb f g N) (hxb : xb < W.heap.size) (hN : N ≤ 1000) (k : ByteArray) (hk : k.size ≤ maxLen) {v' : Value} {l' : List ByteArray} (hg : W.grownBy W1 (f k.data.toList).ownBlock) (hB : Below w0.heap.size w0 W1)
    (ho : W1.ownsRow w0.heap.size 9 1 v' l'.length (encs Value.string l')) (hat : v'.ownBlock = (f k.data.toList).ownBlock ∨ ∃ x, v'.ownBlock = some x ∧ W.heap.size ≤ x) (hl : l'.length ≤ N + 1 + 8) :
    ∃ W2, (Instr.mapUpdate 172 (.map (some b)) (.string k) v').run Try.prog W1 = .ok () W2 ∧ KS w0 W2 b xb (upd f k.data.toList v') (upd g k.data.toList l') (N + 1) ∧ W1.grownBy W2 (some b) := by
  obtain ⟨D, hi, hm, ha⟩ := h.m
  have hne := h.ne k.data.toList
  have hm1 := hm.kept hg hne
  obtain ⟨W2, hrun, hm2, hg2⟩ := hm1.update (val := v') (d := .held v') (ps := []) keyT Try.underlying172 (by unfold maxLen; omega) (keyOf_string_mk Try.underlying9 hk) rfl
  refine ⟨W2, hrun, ⟨⟨_, hi.put _ _, hm2, fun x => ?_⟩, fun x => ?_, fun x y hxy z hz => ?_, fun x => ?_, h.hb, hB.grown hg2 hB.size (fun j hj => by cases hj; exact h.hb), fun x q hq => ?_⟩, hg2⟩
  · by_cases e : x = k.data.toList
    · subst e; rw [upd_same]; exact atKey_put_same hi (show WideAt.IsKeyLit (.string _) from trivial) _ _
    · rw [upd_other _ _ e, atKey_put_other (fun he => e (by injection he))]; exact ha x
  · have nb : ∀ {v : Value} {n : Nat} {xs : List Value}, W1.ownsRow w0.heap.size 9 1 v n xs → W2.ownsRow w0.heap.size 9 1 v n xs := fun ho => own_move ho (fun q hq => hg2.block q (own_lt ho q hq) (fun e => by
      obtain ⟨cells, hc⟩ := own_typed ho q hq
      obtain ⟨es, clock, hm3, _⟩ := hm1
      cases e
      rw [hm3] at hc; cases hc))
    by_cases e : x = k.data.toList
    · subst e; rw [upd_same, upd_same]; exact nb ho
    · rw [upd_other _ _ e, upd_other _ _ e]
      exact nb (own_move (h.r x) (fun q hq => hg.block q (own_lt (h.r x) q hq) (fun e2 => h.d x _ e q hq e2.symm)))
  · have fresh : ∀ y q, (f y).ownBlock = some q → y ≠ k.data.toList → v'.ownBlock ≠ some q := fun y q hq hy e => by
      rcases hat with hat | ⟨z, hz, hge⟩
      · rw [hat] at e; exact h.d y _ hy q hq e
      · rw [hz] at e; cases e; have := own_lt (h.r y) q hq; omega
    by_cases e : x = k.data.toList
    · subst e
      rw [upd_same] at hz
      rw [upd_other _ _ (fun e => hxy e.symm)]
      intro hy
      exact fresh y z hy (fun e => hxy e.symm) hz
    · rw [upd_other _ _ e] at hz
      by_cases e2 : y = k.data.toList
      · subst e2; rw [upd_same]; exact fresh x z hz e
      · rw [upd_other _ _ e2]; exact h.d x y hxy z hz
  · by_cases e : x = k.data.toList
    · subst e; rw [upd_same]; exact hl
    · rw [upd_other _ _ e]; have := h.l x; omega
  · by_cases e : x = k.data.toList
    · subst e
      rw [upd_same] at hq
      rcases hat with hat | ⟨z, hz, hge⟩
      · rw [hat] at hq; exact h.nb _ _ hq
      · rw [hz] at hq; cases hq; omega
    · rw [upd_other _ _ e] at hq; exact h.nb _ _ hq
end
theorem R_of_own' {w : World} {base : Nat} {v : Value} {xs : List ByteArray} (ho : w.ownsRow base 9 1 v xs.length (encs Value.string xs)) : Kd.string.R 9 w base (fun _ => True) v xs := Kd.R_of_own ho (fun _ _ => trivial)
theorem own_of_R' {w : World} {base : Nat} {v : Value} {xs : List ByteArray} (h : Kd.string.R 9 w base (fun _ => True) v xs) : w.ownsRow base 9 1 v xs.length (encs Value.string xs) := Kd.own_of_R h
def Far (W W' : World) (b : Nat) (v : Value) : Prop := W.heap.size ≤ W'.heap.size ∧ ∀ x, x < W.heap.size → x ≠ b → v.ownBlock ≠ some x → W'.heap[x]? = W.heap[x]?
set_option maxHeartbeats 1600000 in
theorem more_no (kind key : ByteArray) (bx : Addr) (w : World) :
    Calls Try.prog 147 #[.string kind, .string key, .bool false, .pointer (some bx)] w fun e w' => e = .returned (.tuple #[]) ∧ w' = w := by
  go_enter Try.func147, Try.ntmps147
  go_wp2
  go_end0
  exact ⟨rfl, rfl⟩
theorem cell_of_block {W W1 : World} {a : Addr} (h : W1.heap[a.block]? = W.heap[a.block]?) : W1.cell? a = W.cell? a := by
  unfold World.cell?
  rw [h]
set_option maxHeartbeats 3200000 in
set_option maxRecDepth 100000 in
theorem more_yes (kind key : ByteArray) (bx : Addr) (b N : Nat) (f : List UInt8 → Value) (g : List UInt8 → List ByteArray) (w0 w : World) (h : KS w0 w b bx.block f g N) (hN : N ≤ 1000) (hbx : w.cell? bx = some (.map (some b))) (hk : kind.size ≤ maxLen) :
    Calls Try.prog 147 #[.string kind, .string key, .bool true, .pointer (some bx)] w fun e w' => e = .returned (.tuple #[]) ∧ ∃ v', KS w0 w' b bx.block (upd f kind.data.toList v') (upd g kind.data.toList (g kind.data.toList ++ [key])) (N + 1) ∧ Far w w' b (f kind.data.toList) ∧ w'.cell? bx = some (.map (some b)) ∧ (v'.ownBlock = (f kind.data.toList).ownBlock ∨ ∃ x, v'.ownBlock = some x ∧ w.heap.size ≤ x) := by
  have hS0 : w.drew.cell? bx = some (.map (some b)) ∧ KS w0 w.drew b bx.block f g N := ⟨hbx, h.step (below_drew (Below.refl _ _))⟩
  have HF := Aside0.mk (below_drew (Below.refl w.heap.size w))
  have hlt0 : bx.block < w.drew.heap.size := World.block_lt_of_cell? _ _ hS0.1
  have hbb : bx.block ≠ b := fun e => by
    obtain ⟨D, _, ⟨es, clock, hm, _⟩, _⟩ := hS0.2.m
    have h1 := hS0.1
    unfold World.cell? at h1
    rw [e, hm] at h1
    simp at h1
  have hlk0 := hS0.2.look kind hk
  generalize hfv : f kind.data.toList = fv
  rw [hfv] at hlk0
  clear h hbx
  go_enter Try.func147, Try.ntmps147
  go_wp2
  refine start_ (n := 9) (S := fun W => W.cell? bx = some (.map (some b)) ∧ (Instr.lookup 172 (.map (some b)) (.string kind) false).run Try.prog W = .ok fv W) (ds := [8]) #[false, false, false, false, false, false, false, false, false] (by kernel_rfl) rfl rfl ⟨hS0.1, hlk0⟩ (fun hHeld => ?_)
  have hks := hS0.2
  have hBw := HF.out
  clear hS0 HF hlk0
  generalize w.drew = W at hks hBw hHeld hlt0 ⊢
  refine pure_ (i := 1) (N := some 9) (v := ?_) (a' := ?_) #[false, true, false, false, false, false, false, false, false] rfl rfl (by kernel_rfl) (fun _ _ _ h => h) (Or.inl ⟨by rfl, ?_⟩) ?_ ?_
  rotate_left
  · intro w'
    go_simp
    with_reducible rfl
  rotate_left
  · simp only [Act.put, List.setIfInBounds_toArray, List.set_cons_zero, List.set_cons_succ]
    rfl
  refine pure_ (i := 3) (N := some 11) (v := ?_) (a' := ?_) #[false, true, false, true, false, false, false, false, false] rfl rfl (by kernel_rfl) (fun _ _ _ h => h) (Or.inl ⟨by rfl, ?_⟩) ?_ ?_
  rotate_left
  · intro w'
    go_simp
    with_reducible rfl
  rotate_left
  · simp only [Act.put, List.setIfInBounds_toArray, List.set_cons_zero, List.set_cons_succ]
    rfl
  refine pure_ (i := 5) (N := some 13) (v := ?_) (a' := ?_) #[false, true, false, true, false, true, false, false, false] rfl rfl (by kernel_rfl) (fun _ _ _ h => h) (Or.inl ⟨by rfl, ?_⟩) ?_ ?_
  rotate_left
  · intro w'
    go_simp
    with_reducible rfl
  rotate_left
  · simp only [Act.put, List.setIfInBounds_toArray, List.set_cons_zero, List.set_cons_succ]
    rfl
  refine take_ (i := 0) (N := some 8) (v := ?_) (a' := ?_) #[true, true, false, true, false, true, false, false, false] rfl rfl (by kernel_rfl) (fun _ _ _ h => h) (Or.inl ⟨by rfl, ?_⟩) hHeld ?_ ?_
  rotate_left
  · rintro w' ⟨s0, s1⟩
    go_simp
    with_reducible rfl
  rotate_left
  · simp only [Act.put, List.setIfInBounds_toArray, List.set_cons_zero, List.set_cons_succ]
    rfl
  refine take_ (i := 2) (N := some 10) (v := ?_) (a' := ?_) #[true, true, true, true, false, true, false, false, false] rfl rfl (by kernel_rfl) (fun _ _ _ h => h) (Or.inl ⟨by rfl, ?_⟩) hHeld ?_ ?_
  rotate_left
  · rintro w' ⟨s0, s1⟩
    go_simp
    with_reducible rfl
  rotate_left
  · simp only [Act.put, List.setIfInBounds_toArray, List.set_cons_zero, List.set_cons_succ]
    rfl
  refine take_ (i := 4) (N := some 12) (v := ?_) (a' := ?_) #[true, true, true, true, true, true, false, false, false] rfl rfl (by kernel_rfl) (fun _ _ _ h => h) (Or.inl ⟨by rfl, ?_⟩) hHeld ?_ ?_
  rotate_left
  · rintro w' ⟨s0, s1⟩
    go_simp
    with_reducible rfl
  rotate_left
  · simp only [Act.put, List.setIfInBounds_toArray, List.set_cons_zero, List.set_cons_succ]
    rfl
  refine one_ (i := 6) (N := some 14) #[true, true, true, true, true, true, true, false, false] rfl rfl (by kernel_rfl) (by decide) (fun K hK => ?_)
  have hks1 := hks.step (below_alloc (Below.refl _ W) (.cells #[.string key] 9))
  have hlk1 := hks1.look kind hk
  rw [hfv] at hlk1
  have hc1 : (W.alloc (.cells #[.string key] 9)).cell? bx = some (.map (some b)) := (World.cell?_alloc_lt _ _ _ hlt0).trans hHeld.1
  refine value_ (w1 := W.alloc (.cells #[.string key] 9)) (v := .slice (some ⟨W.heap.size, 0, none⟩) 1 1) (by rfl) rfl ?_ ?_
  · go_simp
  refine hK.out _ _ ⟨hc1, hlk1⟩ (fun hHeld2 => ?_)
  clear hK K
  have hcW := hHeld.1
  clear hHeld
  refine norm_ (a' := ?_) ?_ ?_
  rotate_left
  · show Act.put _ (some 14) _ = _
    simp only [Act.put, List.setIfInBounds_toArray, List.set_cons_zero, List.set_cons_succ]
    rfl
  refine one_ (i := 7) (N := some 15) #[true, true, true, true, true, true, true, true, false] rfl rfl (by kernel_rfl) (by decide) (fun K hK => ?_)
  have hown := hks.r kind.data.toList
  rw [hfv] at hown
  have hgl := hks.l kind.data.toList
  have hne := hks.ne kind.data.toList
  rw [hfv] at hne
  have hnb := hks.nb kind.data.toList
  rw [hfv] at hnb
  refine Kd.R_append_step Kd.string (w0 := w0) w0.heap.size (by rfl) (.tmp 12) (.tmp 14) 22 9 (.string ⟨#[]⟩) 16 rfl Try.underlying22 info9 rfl (by decide) (by omega) fv (g kind.data.toList) key [.string key] (fun _ => True) (fun _ => False) rfl rfl ?aP (fun _ hk => hk.elim) (fun _ _ => trivial) ?aO hks.B hks.B.size ?aL ?_
  (case aP => exact rfl)
  (case aO => exact R_of_own' hown)
  (case aL => omega)
  intro v1 w1 hR1 hB1 hg1 hat1
  have hc2 : w1.cell? bx = some (.map (some b)) := (cell_of_block (hg1.block _ hlt0 (fun e => hnb _ e.symm rfl))).trans hcW
  have hlk2 : (Instr.lookup 172 (.map (some b)) (.string kind) false).run Try.prog w1 = .ok fv w1 := by
    obtain ⟨D, hi, hm, ha⟩ := hks.m
    rw [← hfv]
    exact look_of (hm.kept hg1 hne) kind (ha _) hk
  refine hK.out _ _ ⟨hc2, hlk2⟩ (fun _ => ?_)
  clear hK K
  obtain ⟨W2, hrun, hks2, hg2⟩ := hks.put hlt0 hN kind hk (v' := v1) (l' := g kind.data.toList ++ [key]) (by rw [hfv]; exact hg1) hB1 (own_of_R' hR1) (by rw [hfv]; exact hat1) (by rw [List.length_append, List.length_singleton]; omega)
  have hfar : Far w W2 b fv := ⟨Nat.le_trans hBw.size (Nat.le_trans hg1.size hg2.size), fun x hx hxb hxo => by
    rw [hg2.block x (by have := hBw.size; have := hg1.size; omega) (fun e => hxb (by cases e; rfl)), hg1.block x (by have := hBw.size; omega) (fun e => hxo e.symm)]
    exact hBw.block x hx⟩
  have hc3 : W2.cell? bx = some (.map (some b)) := (cell_of_block (hg2.block _ (World.block_lt_of_cell? _ _ hc2) (fun e => hbb (by cases e; rfl)))).trans hc2
  have HR2 := Aside0.mk hks2
  have HFAR := Aside0.mk hfar
  have HC3 := Aside0.mk hc3
  have HAT : Aside0 (v1.ownBlock = fv.ownBlock ∨ ∃ x, v1.ownBlock = some x ∧ w.heap.size ≤ x) := ⟨by
    rcases hat1 with e | ⟨x, e, hx⟩
    · exact .inl e
    · exact .inr ⟨x, e, Nat.le_trans hBw.size hx⟩⟩
  clear hks2 hfar hR1 hB1 hg1 hat1 hg2 hc3 hc2 hlk2 hne hnb hown hks hks1 hHeld2 hc1 hBw hcW
  refine norm_ (a' := ?_) ?_ ?_
  rotate_left
  · show Act.put _ (some 15) _ = _
    simp only [Act.put, List.setIfInBounds_toArray, List.set_cons_zero, List.set_cons_succ]
    rfl
  refine last_ (i := 8) (N := none) #[true, true, true, true, true, true, true, true, true] rfl rfl (by kernel_rfl) (by decide) (fun K hK => ?_)
  refine skip_ (w1 := W2) (by rfl) rfl ?_ ?_
  · go_simp
  refine hK.out _ _ ?_
  clear hK K
  refine done_ (by kernel_rfl) ?_
  go_wp2
  go_end0
  exact ⟨rfl, v1, HR2.out, HFAR.out, HC3.out, HAT.out⟩
end Go.Proofs.Ytjdldlphfifggaa.X
end
section
namespace Go.Proofs.Ytjdldlphfifggaa.X
open Go.RowKit Go.Proofs.YtjdldlphfifggaaW.PrintWords Go.Proofs.YtjdldlphfifggaaW.PrintLast Go.Proofs.YtjdldlphfifggaaW.PrintMore
set_option linter.unusedVariables false
set_option linter.unusedSimpArgs false
def version_Of.f (a0 : Int) : Option (Bool × Bool × Bool × Bool × Bool × Bool × Bool × Int) :=
  if a0 < 1 then some (false, false, false, false, false, false, false, 24) else if a0 > 11 then some (false, false, false, false, false, false, false, 24)
  else some (!decide (3 ≤ a0), !decide (3 ≤ a0), decide (4 ≤ a0), !decide (6 ≤ a0), decide (8 ≤ a0), decide (9 ≤ a0), decide (11 ≤ a0), 0)
set_option maxHeartbeats 800000 in
set_option maxRecDepth 100000 in
theorem version_Of.calls (a0 : Int) (r1 r2 r3 r4 r5 r6 r7 : Bool) (r8 : Int) (w : World) (h : version_Of.f a0 = some (r1, r2, r3, r4, r5, r6, r7, r8)) :
    Calls Try.prog 97 #[.int .i64 a0] w fun e w' => e = .returned (.tuple #[.agg #[.bool r1, .bool r2, .bool r3, .bool r4, .bool r5, .bool r6, .bool r7], .int .i64 r8]) ∧ Below w.heap.size w w' := by
  unfold version_Of.f at h
  by_cases c1 : a0 < 1
  · rw [if_pos c1] at h
    simp only [Option.some.injEq, Prod.mk.injEq] at h
    obtain ⟨rfl, rfl, rfl, rfl, rfl, rfl, rfl, rfl⟩ := h
    go_enter Try.func97, Try.ntmps97
    go_wp2
    refine bodyPost_ret (v := .tuple #[.agg #[.bool false, .bool false, .bool false, .bool false, .bool false, .bool false, .bool false], .int .i64 24]) (by simp [results, Try.results97, go_sem]) rfl ⟨rfl, ?_⟩
    exact below_alloc (below_alloc (Below.refl _ _) _) _
  · rw [if_neg c1] at h
    by_cases c2 : a0 > 11
    · rw [if_pos c2] at h
      simp only [Option.some.injEq, Prod.mk.injEq] at h
      obtain ⟨rfl, rfl, rfl, rfl, rfl, rfl, rfl, rfl⟩ := h
      go_enter Try.func97, Try.ntmps97
      go_wp2
      refine bodyPost_ret (v := .tuple #[.agg #[.bool false, .bool false, .bool false, .bool false, .bool false, .bool false, .bool false], .int .i64 24]) (by simp [results, Try.results97, go_sem]) rfl ⟨rfl, ?_⟩
      exact below_alloc (below_alloc (Below.refl _ _) _) _
    · rw [if_neg c2] at h
      simp only [Option.some.injEq, Prod.mk.injEq] at h
      obtain ⟨rfl, rfl, rfl, rfl, rfl, rfl, rfl, rfl⟩ := h
      go_enter Try.func97, Try.ntmps97
      go_wp2
      refine bodyPost_ret (v := .tuple #[.agg #[.bool (!decide (3 ≤ a0)), .bool (!decide (3 ≤ a0)), .bool (decide (4 ≤ a0)), .bool (!decide (6 ≤ a0)), .bool (decide (8 ≤ a0)), .bool (decide (9 ≤ a0)), .bool (decide (11 ≤ a0))], .int .i64 0]) (by simp [results, Try.results97, go_sem]) rfl ⟨rfl, ?_⟩
      exact below_alloc (below_alloc (Below.refl _ _) _) _
end Go.Proofs.Ytjdldlphfifggaa.X
end
section
namespace Go.Proofs.Ytjdldlphfifggaa.X
open Go.RowKit Go.Proofs.YtjdldlphfifggaaW.PrintWords Go.Proofs.YtjdldlphfifggaaW.PrintLast Go.Proofs.YtjdldlphfifggaaW.PrintMore Go.WideMaps Go.Maps
set_option linter.unusedVariables false
set_option linter.unusedSimpArgs false
def sortB (l : List ByteArray) : List ByteArray := ((l.map (·.data.toList)).mergeSort fun x y => decide (x ≤ y)).map fun b => ⟨b.toArray⟩
theorem encs_str (l : List ByteArray) : encs Value.string l = (l.map (·.data.toList)).map Go.Proofs.encStr := by
  rw [List.map_map]
  rfl
theorem encs_sortB (l : List ByteArray) : encs Value.string (sortB l) = ((l.map (·.data.toList)).mergeSort fun x y => decide (x ≤ y)).map Go.Proofs.encStr := by
  unfold sortB
  show List.map _ (List.map _ _) = _
  rw [List.map_map]
  rfl
theorem sortB_length (l : List ByteArray) : (sortB l).length = l.length := by unfold sortB; simp
theorem sort_own {base : Nat} {v : Value} {xs : List ByteArray} (w : World) (h : w.ownsRow base 9 1 v xs.length (encs Value.string xs)) (hl : xs.length < 4611686018427387904) :
    Calls Try.prog 122 #[v] w fun e w' => e = .returned (.tuple #[]) ∧ w'.ownsRow base 9 1 v (sortB xs).length (encs Value.string (sortB xs)) ∧ w.grownBy w' v.ownBlock := by
  rcases h.2 with ⟨rfl, h0⟩ | ⟨g, cap, cur, rfl, hbase, hb, h1, h2, h3, h4⟩
  · refine (Try.slices_Sort_string_none none 0 w).mono ?_
    rintro e w' ⟨rfl, rfl⟩
    have hx : xs = [] := List.length_eq_zero_iff.1 h0
    subst hx
    have hs : sortB [] = [] := List.length_eq_zero_iff.1 (by rw [sortB_length]; rfl)
    rw [hs]
    exact ⟨rfl, h, ⟨rfl, rfl, rfl, Nat.le_refl _, fun _ _ _ => rfl⟩⟩
  · have hm : xs.length = (xs.map (·.data.toList)).length := by simp
    have hw := Try.slices_Sort_string g 0 cap (xs.map (·.data.toList)) w (holds_of_block hb (by rw [← hm, ← encs_str, ← h4, Nat.mul_one])) (blk_lt hb) (by rw [← hm]; exact hl)
    rw [← hm] at hw
    refine hw.mono ?_
    rintro e w' ⟨rfl, n, os, rfl⟩
    refine ⟨rfl, ?_, grownBy_sorted _⟩
    rw [encs_sortB, sortB_length]
    have := ownsRow_sorted (os := os) (n := n) (ss := xs.map (·.data.toList)) (ts := (xs.map (·.data.toList)).mergeSort fun x y => decide (x ≤ y)) (by simp) hbase hb (by rw [← hm]; exact h1) h2 h3
    rw [← hm] at this
    exact this
def addG (g : List UInt8 → List ByteArray) (k : ByteArray) (x : ByteArray) (yes : Bool) : List UInt8 → List ByteArray := if yes = true then upd g k.data.toList (g k.data.toList ++ [x]) else g
def KX (w0 W : World) (gb b xb : Nat) (cs : Array Value) (g : List UInt8 → List ByteArray) (N : Nat) : Prop :=
  ∃ f n, n ≤ N ∧ KS w0 W b xb f g n ∧ (∀ k q, (f k).ownBlock = some q → q ≠ gb) ∧ W.heap[gb]? = some (.cells cs 120 (0, 0))
section
variable {w0 W : World} {gb b xb N : Nat} {cs : Array Value} {g : List UInt8 → List ByteArray}
theorem KX.step {W1 : World} (h : KX w0 W gb b xb cs g N) (hb : Below W.heap.size W W1) : KX w0 W1 gb b xb cs g N := by
  obtain ⟨f, n, hn, hk, hg, hc⟩ := h
  exact ⟨f, n, hn, hk.step hb, hg, blk_below hc hb⟩
theorem KX.cell (h : KX w0 W gb b xb cs g N) (i : Nat) : W.cell? ⟨gb, i, none⟩ = cs[i]? := by
  obtain ⟨f, n, hn, hk, hg, hc⟩ := h
  exact blk_cell hc i
theorem KX.box (h : KX w0 W gb b xb cs g N) {y : Nat} (hy : W.heap.size ≤ y) : KX w0 W gb b y cs g N := by
  obtain ⟨f, n, hn, hk, hg, hc⟩ := h
  exact ⟨f, n, hn, hk.box hy, hg, hc⟩
theorem KX.B (h : KX w0 W gb b xb cs g N) : Below w0.heap.size w0 W := by
  obtain ⟨f, n, hn, hk, hg, hc⟩ := h
  exact hk.B
theorem KX.lit (h : KX w0 W gb b b cs g N) (hN : N ≤ 1000) (k : ByteArray) (hk : k.size ≤ maxLen) (l : List ByteArray) (hl : l.length ≤ 8) (h0 : l ≠ []) :
    ∃ W2, (Instr.mapUpdate 172 (.map (some b)) (.string k) (.slice (some ⟨W.heap.size, 0, none⟩) l.length l.length)).run Try.prog (W.alloc (.cells (l.map Value.string).toArray 9)) = .ok () W2 ∧ KX w0 W2 gb b b cs (upd g k.data.toList l) (N + 1) := by
  obtain ⟨f, n, hn, hks, hg, hc⟩ := h
  have hgb : b ≠ gb := fun e => by
    obtain ⟨D, _, ⟨es, clock, hm, _⟩, _⟩ := hks.m
    rw [e, hc] at hm
    cases hm
  have hown : (W.alloc (.cells (l.map Value.string).toArray 9)).ownsRow w0.heap.size 9 1 (.slice (some ⟨W.heap.size, 0, none⟩) l.length l.length) l.length (encs Value.string l) :=
    ⟨by rw [Nat.mul_one]; exact List.length_map _, .inr ⟨W.heap.size, l.length, _, rfl, hks.B.size, blk_new _ _, Nat.le_refl _, by unfold maxLen; omega, by simp, by rw [Nat.mul_one]; exact List.take_of_length_le (by simp)⟩⟩
  have hgr : W.grownBy (W.alloc (.cells (l.map Value.string).toArray 9)) (f k.data.toList).ownBlock := ⟨rfl, rfl, rfl, by unfold World.alloc; simp, fun x hx _ => Below.heap_alloc W _ x hx⟩
  obtain ⟨W2, hrun, hks2, hg2⟩ := hks.put hks.lt (by omega) k hk (v' := .slice (some ⟨W.heap.size, 0, none⟩) l.length l.length) (l' := l) hgr (below_alloc hks.B _) hown (.inr ⟨_, rfl, Nat.le_refl _⟩) (by omega)
  refine ⟨W2, hrun, _, n + 1, by omega, hks2, fun x q hq => ?_, ?_⟩
  · by_cases e : x = k.data.toList
    · subst e
      rw [upd_same] at hq
      have e1 : W.heap.size = q := Option.some.inj hq
      have := blk_lt hc
      omega
    · rw [upd_other _ _ e] at hq
      exact hg x q hq
  · exact blk_grown (blk_alloc hc _) hg2 (fun e => hgb (by cases e; rfl))
theorem wpList_lit {ops : Array Oper} {rest : List Oper} {o : Oper} {a : Act} {Q : Exit → Act → World → Prop} (h : KX w0 W gb b b cs g N) (hN : N ≤ 1000) (k : ByteArray) (hk : k.size ≤ maxLen) (l : List ByteArray) (hl : l.length ≤ 8) (h0 : l ≠ [])
    (hg : o.guard = none) (m x v : Operand) (hop : o.op = Op.insert 172 m x v) (hm : a.eval m = .map (some b)) (hx : a.eval x = .string k) (hv : a.eval v = .slice (some ⟨W.heap.size, 0, none⟩) l.length l.length) {cells : Array Value} (hcs : cells = (l.map Value.string).toArray)
    (hK : ∀ w', KX w0 w' gb b b cs (upd g k.data.toList l) (N + 1) → wpList Try.prog ops Q rest (a.put o.dst undef) w') : wpList Try.prog ops Q (o :: rest) a (W.alloc (.cells cells 9)) := by
  subst hcs
  refine wpList_plain hg fun K' hK' => ?_
  obtain ⟨w', hrun, r1⟩ := h.lit hN k hk l hl h0
  unfold Oper.wp
  simp [execOp, hop, hm, hx, hv, hrun, Result.andThen]
  exact hK' _ _ (hK w' r1)
theorem more_all (kind key : ByteArray) (yes : Bool) (bx : Addr) (h : KX w0 W gb b bx.block cs g N) (hN : N ≤ 1000) (hbx : W.cell? bx = some (.map (some b))) (hk : kind.size ≤ maxLen) :
    Calls Try.prog 147 #[.string kind, .string key, .bool yes, .pointer (some bx)] W fun e w' => e = .returned (.tuple #[]) ∧ KX w0 w' gb b bx.block cs (addG g kind key yes) (N + 1) ∧ w'.cell? bx = some (.map (some b)) := by
  cases yes with
  | false =>
    refine (more_no kind key bx W).mono ?_
    rintro e w' ⟨rfl, rfl⟩
    obtain ⟨f, n, hn, hks, hg, hc⟩ := h
    exact ⟨rfl, ⟨f, n, by omega, hks, hg, hc⟩, hbx⟩
  | true =>
    obtain ⟨f, n, hn, hks, hg, hc⟩ := h
    refine (more_yes kind key bx b n f g w0 W hks (by omega) hbx hk).mono ?_
    rintro e w' ⟨rfl, v', hks', hfar, hbx', hat⟩
    have hgb : gb ≠ b := fun e => by
      obtain ⟨D, _, ⟨es, clock, hm, _⟩, _⟩ := hks.m
      rw [← e, hc] at hm
      cases hm
    refine ⟨rfl, ⟨_, n + 1, by omega, hks', fun x q hq => ?_, ?_⟩, hbx'⟩
    · by_cases e : x = kind.data.toList
      · subst e
        rw [upd_same] at hq
        rcases hat with e | ⟨y, e, hy⟩
        · rw [e] at hq; exact hg _ q hq
        · rw [e] at hq; cases hq; have := blk_lt hc; omega
      · rw [upd_other _ _ e] at hq
        exact hg x q hq
    · exact (hfar.2 gb (blk_lt hc) hgb (fun e => hg _ _ e rfl)).trans hc
end
end Go.Proofs.Ytjdldlphfifggaa.X
end
section
namespace Go.Proofs.Ytjdldlphfifggaa.X
open Go.RowKit Go.Proofs.YtjdldlphfifggaaW.PrintWords Go.Proofs.YtjdldlphfifggaaW.PrintLast Go.Proofs.YtjdldlphfifggaaW.PrintMore Go.WideMaps Go.Maps
set_option linter.unusedVariables false
set_option linter.unusedSimpArgs false
abbrev keepL0 : List ByteArray := [(⟨#[109, 101, 109, 98, 101, 114, 115, 104, 105, 112]⟩ : ByteArray)]
abbrev keepK0 : ByteArray := (⟨#[109, 46, 114, 111, 111, 109, 46, 109, 101, 109, 98, 101, 114]⟩ : ByteArray)
abbrev keepL1 : List ByteArray := [(⟨#[99, 114, 101, 97, 116, 111, 114]⟩ : ByteArray)]
abbrev keepK1 : ByteArray := (⟨#[109, 46, 114, 111, 111, 109, 46, 99, 114, 101, 97, 116, 101]⟩ : ByteArray)
abbrev keepL2 : List ByteArray := [(⟨#[106, 111, 105, 110, 95, 114, 117, 108, 101]⟩ : ByteArray)]
abbrev keepK2 : ByteArray := (⟨#[109, 46, 114, 111, 111, 109, 46, 106, 111, 105, 110, 95, 114, 117, 108, 101, 115]⟩ : ByteArray)
abbrev keepL3 : List ByteArray := [(⟨#[98, 97, 110]⟩ : ByteArray), (⟨#[101, 118, 101, 110, 116, 115]⟩ : ByteArray), (⟨#[101, 118, 101, 110, 116, 115, 95, 100, 101, 102, 97, 117, 108, 116]⟩ : ByteArray), (⟨#[107, 105, 99, 107]⟩ : ByteArray), (⟨#[114, 101, 100, 97, 99, 116]⟩ : ByteArray), (⟨#[115, 116, 97, 116, 101, 95, 100, 101, 102, 97, 117, 108, 116]⟩ : ByteArray), (⟨#[117, 115, 101, 114, 115]⟩ : ByteArray), (⟨#[117, 115, 101, 114, 115, 95, 100, 101, 102, 97, 117, 108, 116]⟩ : ByteArray)]
abbrev keepK3 : ByteArray := (⟨#[109, 46, 114, 111, 111, 109, 46, 112, 111, 119, 101, 114, 95, 108, 101, 118, 101, 108, 115]⟩ : ByteArray)
abbrev keepL4 : List ByteArray := [(⟨#[104, 105, 115, 116, 111, 114, 121, 95, 118, 105, 115, 105, 98, 105, 108, 105, 116, 121]⟩ : ByteArray)]
abbrev keepK4 : ByteArray := (⟨#[109, 46, 114, 111, 111, 109, 46, 104, 105, 115, 116, 111, 114, 121, 95, 118, 105, 115, 105, 98, 105, 108, 105, 116, 121]⟩ : ByteArray)
abbrev keepM0 : ByteArray := (⟨#[109, 46, 114, 111, 111, 109, 46, 109, 101, 109, 98, 101, 114]⟩ : ByteArray)
abbrev keepX0 : ByteArray := (⟨#[106, 111, 105, 110, 95, 97, 117, 116, 104, 111, 114, 105, 115, 101, 100, 95, 118, 105, 97, 95, 117, 115, 101, 114, 115, 95, 115, 101, 114, 118, 101, 114]⟩ : ByteArray)
abbrev keepM1 : ByteArray := (⟨#[109, 46, 114, 111, 111, 109, 46, 109, 101, 109, 98, 101, 114]⟩ : ByteArray)
abbrev keepX1 : ByteArray := (⟨#[116, 104, 105, 114, 100, 95, 112, 97, 114, 116, 121, 95, 105, 110, 118, 105, 116, 101]⟩ : ByteArray)
abbrev keepM2 : ByteArray := (⟨#[109, 46, 114, 111, 111, 109, 46, 106, 111, 105, 110, 95, 114, 117, 108, 101, 115]⟩ : ByteArray)
abbrev keepX2 : ByteArray := (⟨#[97, 108, 108, 111, 119]⟩ : ByteArray)
abbrev keepM3 : ByteArray := (⟨#[109, 46, 114, 111, 111, 109, 46, 112, 111, 119, 101, 114, 95, 108, 101, 118, 101, 108, 115]⟩ : ByteArray)
abbrev keepX3 : ByteArray := (⟨#[105, 110, 118, 105, 116, 101]⟩ : ByteArray)
abbrev keepM4 : ByteArray := (⟨#[109, 46, 114, 111, 111, 109, 46, 97, 108, 105, 97, 115, 101, 115]⟩ : ByteArray)
abbrev keepX4 : ByteArray := (⟨#[97, 108, 105, 97, 115, 101, 115]⟩ : ByteArray)
abbrev keepM5 : ByteArray := (⟨#[109, 46, 114, 111, 111, 109, 46, 114, 101, 100, 97, 99, 116, 105, 111, 110]⟩ : ByteArray)
abbrev keepX5 : ByteArray := (⟨#[114, 101, 100, 97, 99, 116, 115]⟩ : ByteArray)
def keepG1 : List UInt8 → List ByteArray := upd (fun _ => []) keepK0.data.toList keepL0
def keepG2 : List UInt8 → List ByteArray := upd keepG1 keepK1.data.toList keepL1
def keepG3 : List UInt8 → List ByteArray := upd keepG2 keepK2.data.toList keepL2
def keepG4 : List UInt8 → List ByteArray := upd keepG3 keepK3.data.toList keepL3
def keepG5 : List UInt8 → List ByteArray := upd keepG4 keepK4.data.toList keepL4
def keepG (r3 r4 r5 r6 : Bool) : List UInt8 → List ByteArray := (addG (addG (addG (addG (addG (addG keepG5 keepM0 keepX0 r5) keepM1 keepX1 r6) keepM2 keepX2 r4) keepM3 keepX3 r6) keepM4 keepX4 r3) keepM5 keepX5 r6)
def keep_Content.f (a0 : Int) (a1 : ByteArray) : Option (List ByteArray × Bool) :=
  (version_Of.f a0).bind fun t => if t.2.2.2.2.2.2.2 = 0 then (if a1.size ≤ maxLen then (if t.2.2.2.2.2.2.1 = true then (if a1.toList = ([109, 46, 114, 111, 111, 109, 46, 99, 114, 101, 97, 116, 101] : List UInt8) then some ([], true) else some (sortB (keepG t.2.2.2.1 t.2.2.2.2.1 t.2.2.2.2.2.1 t.2.2.2.2.2.2.1 a1.data.toList), false)) else some (sortB (keepG t.2.2.2.1 t.2.2.2.2.1 t.2.2.2.2.2.1 t.2.2.2.2.2.2.1 a1.data.toList), false)) else none) else some ([], false)
theorem KX.new {w w1 : World} (h : Below w.heap.size w w1) (cs : Array Value) : KX w ((w1.alloc (.cells cs 120)).alloc (.map #[] 0)) w1.heap.size (w1.heap.size + 1) (w1.heap.size + 1) cs (fun _ => []) 0 := by
  have e1 : (w1.alloc (.cells cs 120)).heap.size = w1.heap.size + 1 := by unfold World.alloc; simp
  have hm := World.ownsMap_made (H := Value) (w1.alloc (.cells cs 120)) Try.prog 9 rawR
  rw [e1] at hm
  have hB := below_alloc (below_alloc h (.cells cs 120)) (.map #[] 0)
  refine ⟨fun _ => nilS, 0, Nat.le_refl _, ?_, fun k q hq => (by cases hq), blk_alloc (blk_new _ _) _⟩
  refine { m := ⟨.map [], ⟨[], rfl⟩, hm, fun k => rfl⟩, r := fun k => ⟨rfl, .inl ⟨rfl, rfl⟩⟩, d := fun k k' _ x hx => (by cases hx), l := fun k => Nat.zero_le _, hb := Nat.le_succ_of_le h.size, B := hB, nb := fun k q hq => (by cases hq) }
theorem KX.open_ {w0 W : World} {gb b xb N : Nat} {cs : Array Value} {g : List UInt8 → List ByteArray} (h : KX w0 W gb b xb cs g N) : ∃ f n, KS w0 W b xb f g n ∧ n ≤ N := by
  obtain ⟨f, n, hn, hk, _⟩ := h
  exact ⟨f, n, hk, hn⟩
theorem grown_own {w0 W W1 : World} {v : Value} {n : Nat} {xs : List Value} (ho : W.ownsRow w0.heap.size 9 1 v n xs) (hB : Below w0.heap.size w0 W) (hg : W.grownBy W1 v.ownBlock) : Below w0.heap.size w0 W1 := hB.grown hg hB.size (fun j hj => (ho.lt j hj).1)
set_option maxHeartbeats 8000000 in
set_option maxRecDepth 100000 in
theorem keep_Content.calls (a0 : Int) (a1 : ByteArray) (r1 : List ByteArray) (r2 : Bool) (w : World) (h : keep_Content.f a0 a1 = some (r1, r2)) :
  Calls Try.prog 126 #[.int .i64 a0, .string a1] w fun e w' => ∃ v0_ : Value, e = .returned (.tuple #[v0_, .bool r2]) ∧ Kd.R Kd.string 9 w' w.heap.size (fun _ => True) v0_ r1 ∧ Below w.heap.size w w' := by
  have hmm := @run_makeMap Try.prog
  unfold keep_Content.f at h
  obtain ⟨⟨t0, t1, t2, t3, t4, t5, t6, t7⟩, A0, H⟩ := Option.bind_eq_some_iff.mp h
  clear h
  have A := Aside0.mk A0
  clear A0
  simp only at H
  by_cases c7 : t7 = 0
  case neg =>
    rw [if_neg c7] at H
    simp only [Option.some.injEq, Prod.mk.injEq] at H
    obtain ⟨rfl, rfl⟩ := H
    have c7a : (t7 == 0) = false := by simp [c7]
    have c7b : (t7 != 0) = true := by simp [c7]
    clear c7
    go_enter Try.func126, Try.ntmps126
    go_wp2_with (first | (go_at_call 97; with_reducible refine (version_Of.calls a0 t0 t1 t2 t3 t4 t5 t6 t7 _ A.out).mono ?_; rintro e w1 ⟨rfl, hb1⟩; have B1 := Aside0.mk hb1; clear hb1))
    go_ret2
    exact ⟨_, rfl, Kd.R_nil _ _ _ _ _, below_alloc B1.out _⟩
  subst c7
  rw [if_pos rfl] at H
  by_cases hsz : a1.size ≤ maxLen
  case neg => rw [if_neg hsz] at H; cases H
  rw [if_pos hsz] at H
  cases t6 with
  | false =>
    rw [if_neg (by decide)] at H
    simp only [Option.some.injEq, Prod.mk.injEq] at H
    obtain ⟨rfl, rfl⟩ := H
    go_enter Try.func126, Try.ntmps126
    go_wp2_with (first | (go_at_call 97; with_reducible refine (version_Of.calls a0 t0 t1 t2 t3 t4 t5 false 0 _ A.out).mono ?_; rintro e w1 ⟨rfl, hb1⟩; have B1 := Aside0.mk hb1; clear hb1) | ((with_reducible show wpList _ _ _ (⟨none, Op.insert _ _ _ _, _, _, _, _⟩ :: _) _ _); refine wpList_lit (KX.new B1.out #[.bool t0, .bool t1, .bool t2, .bool t3, .bool t4, .bool t5, .bool false]) (by decide) keepK0 (by decide) keepL0 (by decide) (by decide) rfl (.tmp 17) _ (.tmp 18) rfl ?hm rfl ?hv rfl ?_; (case hm => first | rfl | (go_simp; done) | (simp [World.alloc]; done)); (case hv => first | rfl | (go_simp; done) | (simp [World.alloc]; done)); intro v1 hk1; have K1 := Aside0.mk hk1; clear hk1) | ((with_reducible show wpList _ _ _ (⟨none, Op.insert _ _ _ _, _, _, _, _⟩ :: _) _ _); refine wpList_lit K1.out (by decide) keepK1 (by decide) keepL1 (by decide) (by decide) rfl (.tmp 17) _ (.tmp 19) rfl ?hm rfl ?hv rfl ?_; (case hm => first | rfl | (go_simp; done) | (simp [World.alloc]; done)); (case hv => first | rfl | (go_simp; done) | (simp [World.alloc]; done)); intro v2 hk2; have K2 := Aside0.mk hk2; clear hk2) | ((with_reducible show wpList _ _ _ (⟨none, Op.insert _ _ _ _, _, _, _, _⟩ :: _) _ _); refine wpList_lit K2.out (by decide) keepK2 (by decide) keepL2 (by decide) (by decide) rfl (.tmp 17) _ (.tmp 20) rfl ?hm rfl ?hv rfl ?_; (case hm => first | rfl | (go_simp; done) | (simp [World.alloc]; done)); (case hv => first | rfl | (go_simp; done) | (simp [World.alloc]; done)); intro v3 hk3; have K3 := Aside0.mk hk3; clear hk3) | ((with_reducible show wpList _ _ _ (⟨none, Op.insert _ _ _ _, _, _, _, _⟩ :: _) _ _); refine wpList_lit K3.out (by decide) keepK3 (by decide) keepL3 (by decide) (by decide) rfl (.tmp 17) _ (.tmp 21) rfl ?hm rfl ?hv rfl ?_; (case hm => first | rfl | (go_simp; done) | (simp [World.alloc]; done)); (case hv => first | rfl | (go_simp; done) | (simp [World.alloc]; done)); intro v4 hk4; have K4 := Aside0.mk hk4; clear hk4) | ((with_reducible show wpList _ _ _ (⟨none, Op.insert _ _ _ _, _, _, _, _⟩ :: _) _ _); refine wpList_lit K4.out (by decide) keepK4 (by decide) keepL4 (by decide) (by decide) rfl (.tmp 17) _ (.tmp 22) rfl ?hm rfl ?hv rfl ?_; (case hm => first | rfl | (go_simp; done) | (simp [World.alloc]; done)); (case hv => first | rfl | (go_simp; done) | (simp [World.alloc]; done)); intro v5 hk5; have K5 := Aside0.mk hk5; clear hk5; have q5 : v5.cell? ⟨w1.heap.size, 5, none⟩ = some (.bool t5) := (KX.cell K5.out 5).trans rfl; have q6 : w1.heap.size < v5.heap.size := World.block_lt_of_cell? _ _ q5) | (go_at_call 147; with_reducible refine (more_all keepM0 keepX0 t5 ⟨v5.heap.size, 0, none⟩ ((KX.box K5.out (Nat.le_refl _)).step (below_alloc (Below.refl _ _) (.cells #[.map (some (w1.heap.size + 1))] 172))) (by decide) ((blk_cell (blk_new _ _) 0).trans rfl) (by decide)).mono ?_; rintro e v6 ⟨rfl, hk6, hx6⟩; have K6 := Aside0.mk hk6; have X6 := Aside0.mk hx6; clear hk6 hx6; have q10 : v6.cell? ⟨w1.heap.size, 6, none⟩ = some (.bool false) := (KX.cell K6.out 6).trans rfl) | (go_at_call 147; with_reducible refine (more_all keepM1 keepX1 false ⟨v5.heap.size, 0, none⟩ K6.out (by decide) X6.out (by decide)).mono ?_; rintro e v7 ⟨rfl, hk7, hx7⟩; have K7 := Aside0.mk hk7; have X7 := Aside0.mk hx7; clear hk7 hx7; have q11 : v7.cell? ⟨w1.heap.size, 4, none⟩ = some (.bool t4) := (KX.cell K7.out 4).trans rfl) | (go_at_call 147; with_reducible refine (more_all keepM2 keepX2 t4 ⟨v5.heap.size, 0, none⟩ K7.out (by decide) X7.out (by decide)).mono ?_; rintro e v8 ⟨rfl, hk8, hx8⟩; have K8 := Aside0.mk hk8; have X8 := Aside0.mk hx8; clear hk8 hx8; have q12 : v8.cell? ⟨w1.heap.size, 6, none⟩ = some (.bool false) := (KX.cell K8.out 6).trans rfl) | (go_at_call 147; with_reducible refine (more_all keepM3 keepX3 false ⟨v5.heap.size, 0, none⟩ K8.out (by decide) X8.out (by decide)).mono ?_; rintro e v9 ⟨rfl, hk9, hx9⟩; have K9 := Aside0.mk hk9; have X9 := Aside0.mk hx9; clear hk9 hx9; have q13 : v9.cell? ⟨w1.heap.size, 3, none⟩ = some (.bool t3) := (KX.cell K9.out 3).trans rfl) | (go_at_call 147; with_reducible refine (more_all keepM4 keepX4 t3 ⟨v5.heap.size, 0, none⟩ K9.out (by decide) X9.out (by decide)).mono ?_; rintro e v10 ⟨rfl, hk10, hx10⟩; have K10 := Aside0.mk hk10; have X10 := Aside0.mk hx10; clear hk10 hx10; have q14 : v10.cell? ⟨w1.heap.size, 6, none⟩ = some (.bool false) := (KX.cell K10.out 6).trans rfl) | (go_at_call 147; with_reducible refine (more_all keepM5 keepX5 false ⟨v5.heap.size, 0, none⟩ K10.out (by decide) X10.out (by decide)).mono ?_; rintro e v11 ⟨rfl, hk11, hx11⟩; have K11 := Aside0.mk hk11; have X11 := Aside0.mk hx11; clear hk11 hx11; have q15 : v11.cell? ⟨w1.heap.size, 6, none⟩ = some (.bool false) := (KX.cell K11.out 6).trans rfl; have q20 := X11.out; obtain ⟨f, n, hks, hn⟩ := KX.open_ K11.out; have hlk := hks.look a1 hsz; have HN := Aside0.mk hn; clear hn; have HS := Aside0.mk hks; clear hks) | (go_at_call 122; with_reducible refine (sort_own _ (HS.out.r a1.data.toList) (by have := HS.out.l a1.data.toList; have := HN.out; omega)).mono ?_; rintro e v12 ⟨rfl, ho, hg⟩; have HO := Aside0.mk ho; have HG := Aside0.mk hg; clear ho hg))
    go_ret2
    exact ⟨_, rfl, R_of_own' HO.out, grown_own (HS.out.r _) HS.out.B HG.out⟩
  | true =>
    rw [if_pos rfl] at H
    by_cases c8 : a1.toList = ([109, 46, 114, 111, 111, 109, 46, 99, 114, 101, 97, 116, 101] : List UInt8)
    case pos =>
      rw [if_pos c8] at H
      simp only [Option.some.injEq, Prod.mk.injEq] at H
      obtain ⟨rfl, rfl⟩ := H
      have c8a : (a1.toList == ([109, 46, 114, 111, 111, 109, 46, 99, 114, 101, 97, 116, 101] : List UInt8)) = true := beq_iff_eq.mpr c8
      clear c8
      go_enter Try.func126, Try.ntmps126
      go_wp2_with (first | (go_at_call 97; with_reducible refine (version_Of.calls a0 t0 t1 t2 t3 t4 t5 true 0 _ A.out).mono ?_; rintro e w1 ⟨rfl, hb1⟩; have B1 := Aside0.mk hb1; clear hb1) | ((with_reducible show wpList _ _ _ (⟨none, Op.insert _ _ _ _, _, _, _, _⟩ :: _) _ _); refine wpList_lit (KX.new B1.out #[.bool t0, .bool t1, .bool t2, .bool t3, .bool t4, .bool t5, .bool true]) (by decide) keepK0 (by decide) keepL0 (by decide) (by decide) rfl (.tmp 17) _ (.tmp 18) rfl ?hm rfl ?hv rfl ?_; (case hm => first | rfl | (go_simp; done) | (simp [World.alloc]; done)); (case hv => first | rfl | (go_simp; done) | (simp [World.alloc]; done)); intro v1 hk1; have K1 := Aside0.mk hk1; clear hk1) | ((with_reducible show wpList _ _ _ (⟨none, Op.insert _ _ _ _, _, _, _, _⟩ :: _) _ _); refine wpList_lit K1.out (by decide) keepK1 (by decide) keepL1 (by decide) (by decide) rfl (.tmp 17) _ (.tmp 19) rfl ?hm rfl ?hv rfl ?_; (case hm => first | rfl | (go_simp; done) | (simp [World.alloc]; done)); (case hv => first | rfl | (go_simp; done) | (simp [World.alloc]; done)); intro v2 hk2; have K2 := Aside0.mk hk2; clear hk2) | ((with_reducible show wpList _ _ _ (⟨none, Op.insert _ _ _ _, _, _, _, _⟩ :: _) _ _); refine wpList_lit K2.out (by decide) keepK2 (by decide) keepL2 (by decide) (by decide) rfl (.tmp 17) _ (.tmp 20) rfl ?hm rfl ?hv rfl ?_; (case hm => first | rfl | (go_simp; done) | (simp [World.alloc]; done)); (case hv => first | rfl | (go_simp; done) | (simp [World.alloc]; done)); intro v3 hk3; have K3 := Aside0.mk hk3; clear hk3) | ((with_reducible show wpList _ _ _ (⟨none, Op.insert _ _ _ _, _, _, _, _⟩ :: _) _ _); refine wpList_lit K3.out (by decide) keepK3 (by decide) keepL3 (by decide) (by decide) rfl (.tmp 17) _ (.tmp 21) rfl ?hm rfl ?hv rfl ?_; (case hm => first | rfl | (go_simp; done) | (simp [World.alloc]; done)); (case hv => first | rfl | (go_simp; done) | (simp [World.alloc]; done)); intro v4 hk4; have K4 := Aside0.mk hk4; clear hk4) | ((with_reducible show wpList _ _ _ (⟨none, Op.insert _ _ _ _, _, _, _, _⟩ :: _) _ _); refine wpList_lit K4.out (by decide) keepK4 (by decide) keepL4 (by decide) (by decide) rfl (.tmp 17) _ (.tmp 22) rfl ?hm rfl ?hv rfl ?_; (case hm => first | rfl | (go_simp; done) | (simp [World.alloc]; done)); (case hv => first | rfl | (go_simp; done) | (simp [World.alloc]; done)); intro v5 hk5; have K5 := Aside0.mk hk5; clear hk5; have q5 : v5.cell? ⟨w1.heap.size, 5, none⟩ = some (.bool t5) := (KX.cell K5.out 5).trans rfl; have q6 : w1.heap.size < v5.heap.size := World.block_lt_of_cell? _ _ q5) | (go_at_call 147; with_reducible refine (more_all keepM0 keepX0 t5 ⟨v5.heap.size, 0, none⟩ ((KX.box K5.out (Nat.le_refl _)).step (below_alloc (Below.refl _ _) (.cells #[.map (some (w1.heap.size + 1))] 172))) (by decide) ((blk_cell (blk_new _ _) 0).trans rfl) (by decide)).mono ?_; rintro e v6 ⟨rfl, hk6, hx6⟩; have K6 := Aside0.mk hk6; have X6 := Aside0.mk hx6; clear hk6 hx6; have q10 : v6.cell? ⟨w1.heap.size, 6, none⟩ = some (.bool true) := (KX.cell K6.out 6).trans rfl) | (go_at_call 147; with_reducible refine (more_all keepM1 keepX1 true ⟨v5.heap.size, 0, none⟩ K6.out (by decide) X6.out (by decide)).mono ?_; rintro e v7 ⟨rfl, hk7, hx7⟩; have K7 := Aside0.mk hk7; have X7 := Aside0.mk hx7; clear hk7 hx7; have q11 : v7.cell? ⟨w1.heap.size, 4, none⟩ = some (.bool t4) := (KX.cell K7.out 4).trans rfl) | (go_at_call 147; with_reducible refine (more_all keepM2 keepX2 t4 ⟨v5.heap.size, 0, none⟩ K7.out (by decide) X7.out (by decide)).mono ?_; rintro e v8 ⟨rfl, hk8, hx8⟩; have K8 := Aside0.mk hk8; have X8 := Aside0.mk hx8; clear hk8 hx8; have q12 : v8.cell? ⟨w1.heap.size, 6, none⟩ = some (.bool true) := (KX.cell K8.out 6).trans rfl) | (go_at_call 147; with_reducible refine (more_all keepM3 keepX3 true ⟨v5.heap.size, 0, none⟩ K8.out (by decide) X8.out (by decide)).mono ?_; rintro e v9 ⟨rfl, hk9, hx9⟩; have K9 := Aside0.mk hk9; have X9 := Aside0.mk hx9; clear hk9 hx9; have q13 : v9.cell? ⟨w1.heap.size, 3, none⟩ = some (.bool t3) := (KX.cell K9.out 3).trans rfl) | (go_at_call 147; with_reducible refine (more_all keepM4 keepX4 t3 ⟨v5.heap.size, 0, none⟩ K9.out (by decide) X9.out (by decide)).mono ?_; rintro e v10 ⟨rfl, hk10, hx10⟩; have K10 := Aside0.mk hk10; have X10 := Aside0.mk hx10; clear hk10 hx10; have q14 : v10.cell? ⟨w1.heap.size, 6, none⟩ = some (.bool true) := (KX.cell K10.out 6).trans rfl) | (go_at_call 147; with_reducible refine (more_all keepM5 keepX5 true ⟨v5.heap.size, 0, none⟩ K10.out (by decide) X10.out (by decide)).mono ?_; rintro e v11 ⟨rfl, hk11, hx11⟩; have K11 := Aside0.mk hk11; have X11 := Aside0.mk hx11; clear hk11 hx11; have q15 : v11.cell? ⟨w1.heap.size, 6, none⟩ = some (.bool true) := (KX.cell K11.out 6).trans rfl; have q20 := X11.out; obtain ⟨f, n, hks, hn⟩ := KX.open_ K11.out; have hlk := hks.look a1 hsz; have HN := Aside0.mk hn; clear hn; have HS := Aside0.mk hks; clear hks))
      go_ret2
      exact ⟨_, rfl, Kd.R_nil _ _ _ _ _, K11.out.B⟩
    rw [if_neg c8] at H
    simp only [Option.some.injEq, Prod.mk.injEq] at H
    obtain ⟨rfl, rfl⟩ := H
    have c8a : (a1.toList == ([109, 46, 114, 111, 111, 109, 46, 99, 114, 101, 97, 116, 101] : List UInt8)) = false := beq_eq_false_iff_ne.mpr c8
    clear c8
    go_enter Try.func126, Try.ntmps126
    go_wp2_with (first | (go_at_call 97; with_reducible refine (version_Of.calls a0 t0 t1 t2 t3 t4 t5 true 0 _ A.out).mono ?_; rintro e w1 ⟨rfl, hb1⟩; have B1 := Aside0.mk hb1; clear hb1) | ((with_reducible show wpList _ _ _ (⟨none, Op.insert _ _ _ _, _, _, _, _⟩ :: _) _ _); refine wpList_lit (KX.new B1.out #[.bool t0, .bool t1, .bool t2, .bool t3, .bool t4, .bool t5, .bool true]) (by decide) keepK0 (by decide) keepL0 (by decide) (by decide) rfl (.tmp 17) _ (.tmp 18) rfl ?hm rfl ?hv rfl ?_; (case hm => first | rfl | (go_simp; done) | (simp [World.alloc]; done)); (case hv => first | rfl | (go_simp; done) | (simp [World.alloc]; done)); intro v1 hk1; have K1 := Aside0.mk hk1; clear hk1) | ((with_reducible show wpList _ _ _ (⟨none, Op.insert _ _ _ _, _, _, _, _⟩ :: _) _ _); refine wpList_lit K1.out (by decide) keepK1 (by decide) keepL1 (by decide) (by decide) rfl (.tmp 17) _ (.tmp 19) rfl ?hm rfl ?hv rfl ?_; (case hm => first | rfl | (go_simp; done) | (simp [World.alloc]; done)); (case hv => first | rfl | (go_simp; done) | (simp [World.alloc]; done)); intro v2 hk2; have K2 := Aside0.mk hk2; clear hk2) | ((with_reducible show wpList _ _ _ (⟨none, Op.insert _ _ _ _, _, _, _, _⟩ :: _) _ _); refine wpList_lit K2.out (by decide) keepK2 (by decide) keepL2 (by decide) (by decide) rfl (.tmp 17) _ (.tmp 20) rfl ?hm rfl ?hv rfl ?_; (case hm => first | rfl | (go_simp; done) | (simp [World.alloc]; done)); (case hv => first | rfl | (go_simp; done) | (simp [World.alloc]; done)); intro v3 hk3; have K3 := Aside0.mk hk3; clear hk3) | ((with_reducible show wpList _ _ _ (⟨none, Op.insert _ _ _ _, _, _, _, _⟩ :: _) _ _); refine wpList_lit K3.out (by decide) keepK3 (by decide) keepL3 (by decide) (by decide) rfl (.tmp 17) _ (.tmp 21) rfl ?hm rfl ?hv rfl ?_; (case hm => first | rfl | (go_simp; done) | (simp [World.alloc]; done)); (case hv => first | rfl | (go_simp; done) | (simp [World.alloc]; done)); intro v4 hk4; have K4 := Aside0.mk hk4; clear hk4) | ((with_reducible show wpList _ _ _ (⟨none, Op.insert _ _ _ _, _, _, _, _⟩ :: _) _ _); refine wpList_lit K4.out (by decide) keepK4 (by decide) keepL4 (by decide) (by decide) rfl (.tmp 17) _ (.tmp 22) rfl ?hm rfl ?hv rfl ?_; (case hm => first | rfl | (go_simp; done) | (simp [World.alloc]; done)); (case hv => first | rfl | (go_simp; done) | (simp [World.alloc]; done)); intro v5 hk5; have K5 := Aside0.mk hk5; clear hk5; have q5 : v5.cell? ⟨w1.heap.size, 5, none⟩ = some (.bool t5) := (KX.cell K5.out 5).trans rfl; have q6 : w1.heap.size < v5.heap.size := World.block_lt_of_cell? _ _ q5) | (go_at_call 147; with_reducible refine (more_all keepM0 keepX0 t5 ⟨v5.heap.size, 0, none⟩ ((KX.box K5.out (Nat.le_refl _)).step (below_alloc (Below.refl _ _) (.cells #[.map (some (w1.heap.size + 1))] 172))) (by decide) ((blk_cell (blk_new _ _) 0).trans rfl) (by decide)).mono ?_; rintro e v6 ⟨rfl, hk6, hx6⟩; have K6 := Aside0.mk hk6; have X6 := Aside0.mk hx6; clear hk6 hx6; have q10 : v6.cell? ⟨w1.heap.size, 6, none⟩ = some (.bool true) := (KX.cell K6.out 6).trans rfl) | (go_at_call 147; with_reducible refine (more_all keepM1 keepX1 true ⟨v5.heap.size, 0, none⟩ K6.out (by decide) X6.out (by decide)).mono ?_; rintro e v7 ⟨rfl, hk7, hx7⟩; have K7 := Aside0.mk hk7; have X7 := Aside0.mk hx7; clear hk7 hx7; have q11 : v7.cell? ⟨w1.heap.size, 4, none⟩ = some (.bool t4) := (KX.cell K7.out 4).trans rfl) | (go_at_call 147; with_reducible refine (more_all keepM2 keepX2 t4 ⟨v5.heap.size, 0, none⟩ K7.out (by decide) X7.out (by decide)).mono ?_; rintro e v8 ⟨rfl, hk8, hx8⟩; have K8 := Aside0.mk hk8; have X8 := Aside0.mk hx8; clear hk8 hx8; have q12 : v8.cell? ⟨w1.heap.size, 6, none⟩ = some (.bool true) := (KX.cell K8.out 6).trans rfl) | (go_at_call 147; with_reducible refine (more_all keepM3 keepX3 true ⟨v5.heap.size, 0, none⟩ K8.out (by decide) X8.out (by decide)).mono ?_; rintro e v9 ⟨rfl, hk9, hx9⟩; have K9 := Aside0.mk hk9; have X9 := Aside0.mk hx9; clear hk9 hx9; have q13 : v9.cell? ⟨w1.heap.size, 3, none⟩ = some (.bool t3) := (KX.cell K9.out 3).trans rfl) | (go_at_call 147; with_reducible refine (more_all keepM4 keepX4 t3 ⟨v5.heap.size, 0, none⟩ K9.out (by decide) X9.out (by decide)).mono ?_; rintro e v10 ⟨rfl, hk10, hx10⟩; have K10 := Aside0.mk hk10; have X10 := Aside0.mk hx10; clear hk10 hx10; have q14 : v10.cell? ⟨w1.heap.size, 6, none⟩ = some (.bool true) := (KX.cell K10.out 6).trans rfl) | (go_at_call 147; with_reducible refine (more_all keepM5 keepX5 true ⟨v5.heap.size, 0, none⟩ K10.out (by decide) X10.out (by decide)).mono ?_; rintro e v11 ⟨rfl, hk11, hx11⟩; have K11 := Aside0.mk hk11; have X11 := Aside0.mk hx11; clear hk11 hx11; have q15 : v11.cell? ⟨w1.heap.size, 6, none⟩ = some (.bool true) := (KX.cell K11.out 6).trans rfl; have q20 := X11.out; obtain ⟨f, n, hks, hn⟩ := KX.open_ K11.out; have hlk := hks.look a1 hsz; have HN := Aside0.mk hn; clear hn; have HS := Aside0.mk hks; clear hks) | (go_at_call 122; with_reducible refine (sort_own _ (HS.out.r a1.data.toList) (by have := HS.out.l a1.data.toList; have := HN.out; omega)).mono ?_; rintro e v12 ⟨rfl, ho, hg⟩; have HO := Aside0.mk ho; have HG := Aside0.mk hg; clear ho hg))
    go_ret2
    exact ⟨_, rfl, R_of_own' HO.out, grown_own (HS.out.r _) HS.out.B HG.out⟩
end Go.Proofs.Ytjdldlphfifggaa.X
end
section
namespace Go.Proofs.Ytjdldlphfifggaa.X
open Go.RowKit Go.Proofs.YtjdldlphfifggaaW.PrintWords Go.Proofs.YtjdldlphfifggaaW.PrintLast Go.Proofs.YtjdldlphfifggaaW.PrintMore
attribute [local go_sem] Go.Instr.field Go.asAgg max2_int min2_int max_two min_two max_three min_three max_four min_four
set_option linter.unusedVariables false
set_option linter.unusedSimpArgs false
def keep_Inner.f (a0 : Int) (a1 : ByteArray) (a2 : ByteArray) : Option (List ByteArray × Bool) := (version_Of.f a0).bind fun bt1030 => (if bt1030.2.2.2.2.2.2.1 = true then (if a1.toList = ([109, 46, 114, 111, 111, 109, 46, 109, 101, 109, 98, 101, 114] : List UInt8) then (if a2.toList = ([116, 104, 105, 114, 100, 95, 112, 97, 114, 116, 121, 95, 105, 110, 118, 105, 116, 101] : List UInt8) then (some ((([(⟨#[115, 105, 103, 110, 101, 100]⟩ : ByteArray)] : List ByteArray)), true)) else (some (([] : List ByteArray), false))) else (some (([] : List ByteArray), false))) else (some (([] : List ByteArray), false)))
set_option maxHeartbeats 8000000 in
set_option maxRecDepth 100000 in
theorem keep_Inner.calls (a0 : Int) (a1 : ByteArray) (a2 : ByteArray) (r1 : List ByteArray) (r2 : Bool) (w : World) (h : keep_Inner.f a0 a1 a2 = some (r1, r2)) :
    Calls Try.prog 128 #[.int .i64 a0, .string a1, .string a2] w fun e w' => ∃ v0_ : Value, e = .returned (.tuple #[v0_, .bool r2]) ∧ Kd.R Kd.string 9 w' w.heap.size (fun _ => True) v0_ r1 ∧ Below w.heap.size w w' := by
  have hu120 := Try.underlying120
  have HB := Aside0.mk (Below.refl w.heap.size w)
  have H : ((version_Of.f a0).bind fun bt1030 => (if bt1030.2.2.2.2.2.2.1 = true then (if a1.toList = ([109, 46, 114, 111, 111, 109, 46, 109, 101, 109, 98, 101, 114] : List UInt8) then (if a2.toList = ([116, 104, 105, 114, 100, 95, 112, 97, 114, 116, 121, 95, 105, 110, 118, 105, 116, 101] : List UInt8) then (some ((([(⟨#[115, 105, 103, 110, 101, 100]⟩ : ByteArray)] : List ByteArray)), true)) else (some (([] : List ByteArray), false))) else (some (([] : List ByteArray), false))) else (some (([] : List ByteArray), false)))) = some (r1, r2) := h
  clear h
  replace H := Option.bind_eq_some_iff.mp H
  obtain ⟨⟨t1030, t1031, t1032, t1033, t1034, t1035, t1036, t1037⟩, A40, H⟩ := H
  replace H : (if t1036 = true then (if a1.toList = ([109, 46, 114, 111, 111, 109, 46, 109, 101, 109, 98, 101, 114] : List UInt8) then (if a2.toList = ([116, 104, 105, 114, 100, 95, 112, 97, 114, 116, 121, 95, 105, 110, 118, 105, 116, 101] : List UInt8) then (some ((([(⟨#[115, 105, 103, 110, 101, 100]⟩ : ByteArray)] : List ByteArray)), true)) else (some (([] : List ByteArray), false))) else (some (([] : List ByteArray), false))) else (some (([] : List ByteArray), false))) = some (r1, r2) := H
  have A4 := Aside0.mk A40
  clear A40
  by_cases c5 : t1036 = true
  · subst c5
    have H1 : (if a1.toList = ([109, 46, 114, 111, 111, 109, 46, 109, 101, 109, 98, 101, 114] : List UInt8) then (if a2.toList = ([116, 104, 105, 114, 100, 95, 112, 97, 114, 116, 121, 95, 105, 110, 118, 105, 116, 101] : List UInt8) then (some ((([(⟨#[115, 105, 103, 110, 101, 100]⟩ : ByteArray)] : List ByteArray)), true)) else (some (([] : List ByteArray), false))) else (some (([] : List ByteArray), false))) = some (r1, r2) := by rw [if_pos rfl] at H; exact H
    clear H
    have H := H1
    clear H1
    by_cases c6 : a1.toList = ([109, 46, 114, 111, 111, 109, 46, 109, 101, 109, 98, 101, 114] : List UInt8)
    · rw [if_pos c6] at H
      have c6b0 : (a1.toList == ([109, 46, 114, 111, 111, 109, 46, 109, 101, 109, 98, 101, 114] : List UInt8)) = true := beq_iff_eq.mpr c6
      have c6b1 : (a1.toList != ([109, 46, 114, 111, 111, 109, 46, 109, 101, 109, 98, 101, 114] : List UInt8)) = false := bne_eq_false_iff_eq.mpr c6
      clear c6
      by_cases c7 : a2.toList = ([116, 104, 105, 114, 100, 95, 112, 97, 114, 116, 121, 95, 105, 110, 118, 105, 116, 101] : List UInt8)
      · rw [if_pos c7] at H
        have c7b0 : (a2.toList == ([116, 104, 105, 114, 100, 95, 112, 97, 114, 116, 121, 95, 105, 110, 118, 105, 116, 101] : List UInt8)) = true := beq_iff_eq.mpr c7
        have c7b1 : (a2.toList != ([116, 104, 105, 114, 100, 95, 112, 97, 114, 116, 121, 95, 105, 110, 118, 105, 116, 101] : List UInt8)) = false := bne_eq_false_iff_eq.mpr c7
        clear c7
        obtain ⟨y1039, hy1039⟩ : ∃ y_ : List ByteArray, y_ = (([(⟨#[115, 105, 103, 110, 101, 100]⟩ : ByteArray)] : List ByteArray)) := ⟨_, rfl⟩
        replace H : (some (y1039, true)) = some (r1, r2) := by first | (rw [hy1039]; with_reducible exact H) | (have H2_ := (Option.bind_some _ _).symm.trans H; rw [hy1039]; with_reducible exact H2_) | (have H2_ := (Option.bind_some _ _).symm.trans H; with_reducible exact H2_) | with_reducible exact H | (rw [hy1039]; exact H) | exact H
        have Ny1039 := Aside0.mk hy1039
        clear hy1039
        simp only [Option.some.injEq, Prod.mk.injEq] at H
        obtain ⟨rfl, rfl⟩ := H
        have hu120 := Try.underlying120
        go_enter Try.func128, Try.ntmps128
        go_wp2_with (first | ((with_reducible refine gate_callee (f := 97) rfl ?_); refine goesL_ (some 12) rfl rfl Try.func97 (by kernel_rfl) rfl #[.int .i64 a0] rfl (by (try simp only [List.map_toArray, List.map_cons, List.map_nil]); first | done | rfl | (simp only [List.length_drop, List.length_take]; rfl)) ?_; (with_reducible refine (version_Of.calls a0 t1030 t1031 t1032 t1033 t1034 t1035 true t1037 _ A4.out).mono ?_); rintro e w8 ⟨rfl, hb⟩; refine ⟨_, rfl, ?_⟩; have n0_ := Aside0.mk (below_step (by repeat (first | (with_reducible first | exact HB.out | apply below_alloc | apply pw_below_drewN | apply below_drew1) | exact HB.out)) hb); clear HB; have HB := n0_; clear n0_; (try clear hb); (try clear hb2); (try clear hk); (try clear hi)) | ((with_reducible refine gate_dst (N := 8) rfl ?_); refine box_event ?hg (N := 8) ?hd (cs := #[.bool false, .bool false, .bool false, .bool false, .bool false, .bool false, .bool false]) (t := 120) ?hr ?_; (case hd => rfl); (case hg => rfl); (case hr => first | (go_simp; done) | (go_simp; rfl)); intro gb1038 hg w9 hbox hb; have n0_ := Aside0.mk (below_step (by repeat (first | (with_reducible first | exact HB.out | apply below_alloc | apply pw_below_drewN | apply below_drew1) | exact HB.out)) hb); have n1_ := Aside0.mk (hbox); have n2_ := Aside0.mk ((by rw [hg]; exact (below_size (by repeat (first | (with_reducible first | exact HB.out | apply below_alloc | apply pw_below_drewN | apply below_drew1) | exact HB.out))) : w.heap.size ≤ gb1038)); have n3_ := Aside0.mk ((by rw [hg]; exact (below_size (by repeat (first | (with_reducible first | exact HB.out | apply below_alloc | apply pw_below_drewN | apply below_drew1) | exact HB.out))) : w.heap.size ≤ gb1038)); clear HB; have HB := n0_; have BK1038 := n1_; have GW1038 := n2_; have GE1038 := n3_; clear n0_ n1_ n2_ n3_; clear hb hbox hg; have hcz10_0 : w9.cell? ⟨gb1038, 0, none⟩ = some (.bool false) := (blk_cell BK1038.out 0).trans rfl; have hcz10_1 : w9.cell? ⟨gb1038, 1, none⟩ = some (.bool false) := (blk_cell BK1038.out 1).trans rfl; have hcz10_2 : w9.cell? ⟨gb1038, 2, none⟩ = some (.bool false) := (blk_cell BK1038.out 2).trans rfl; have hcz10_3 : w9.cell? ⟨gb1038, 3, none⟩ = some (.bool false) := (blk_cell BK1038.out 3).trans rfl; have hcz10_4 : w9.cell? ⟨gb1038, 4, none⟩ = some (.bool false) := (blk_cell BK1038.out 4).trans rfl; have hcz10_5 : w9.cell? ⟨gb1038, 5, none⟩ = some (.bool false) := (blk_cell BK1038.out 5).trans rfl; have hcz10_6 : w9.cell? ⟨gb1038, 6, none⟩ = some (.bool false) := (blk_cell BK1038.out 6).trans rfl; have hfz10_0 := blk_frozen BK1038.out 0; have hfz10_1 := blk_frozen BK1038.out 1; have hfz10_2 := blk_frozen BK1038.out 2; have hfz10_3 := blk_frozen BK1038.out 3; have hfz10_4 := blk_frozen BK1038.out 4; have hfz10_5 := blk_frozen BK1038.out 5; have hfz10_6 := blk_frozen BK1038.out 6) | ((with_reducible refine gate_dst (N := 25) rfl ?_); refine Kd.R_lit Kd.string _ 9 ?hg (N := 25) ?hd (xs := ([(⟨#[115, 105, 103, 110, 101, 100]⟩ : ByteArray)] : List ByteArray)) (inner := [.string (⟨#[115, 105, 103, 110, 101, 100]⟩ : ByteArray)]) (ok := fun _ => True) (okp := fun _ => True) ?hr ?hp (fun _ hk => hk) trivial (Below.refl _ _) (Nat.le_refl _) (by simp) ?_; (case hd => rfl); (case hg => rfl); (case hr => first | (go_simp; done) | (go_simp; rfl)); (case hp => exact (Reps.one (show Kd.M Kd.string _ _ _ (⟨#[115, 105, 103, 110, 101, 100]⟩ : ByteArray) [.string (⟨#[115, 105, 103, 110, 101, 100]⟩ : ByteArray)] from rfl) (Reps.none _ _))); intro v1040 w11 ho12 hb hg_ hnew_; clear hg_ hnew_; (first | rw [← Ny1039.out] at ho12 | (simp only [Int.reduceToNat] at ho12; rw [← Ny1039.out] at ho12)); have n0_ := Aside0.mk (Kd.R_lower ho12 (below_size (by repeat (first | (with_reducible first | exact HB.out | apply below_alloc | apply pw_below_drewN | apply below_drew1 | refine below_set ?_ GE1038.out) | exact HB.out)))); have n1_ := Aside0.mk (blk_below (g := gb1038) (o := .cells #[.bool t1030, .bool t1031, .bool t1032, .bool t1033, .bool t1034, .bool t1035, .bool true] 120 (0, 0)) (by (with_reducible repeat (first | refine blk_drewN ?_ _ | refine blk_drew ?_ | refine blk_alloc ?_ _)); refine blk_put (cs := #[.bool t1030, .bool t1031, .bool t1032, .bool t1033, .bool t1034, .bool t1035, .bool false]) ?_ 6 _ rfl; (with_reducible repeat (first | refine blk_drewN ?_ _ | refine blk_drew ?_ | refine blk_alloc ?_ _)); refine blk_put (cs := #[.bool t1030, .bool t1031, .bool t1032, .bool t1033, .bool t1034, .bool false, .bool false]) ?_ 5 _ rfl; (with_reducible repeat (first | refine blk_drewN ?_ _ | refine blk_drew ?_ | refine blk_alloc ?_ _)); refine blk_put (cs := #[.bool t1030, .bool t1031, .bool t1032, .bool t1033, .bool false, .bool false, .bool false]) ?_ 4 _ rfl; (with_reducible repeat (first | refine blk_drewN ?_ _ | refine blk_drew ?_ | refine blk_alloc ?_ _)); refine blk_put (cs := #[.bool t1030, .bool t1031, .bool t1032, .bool false, .bool false, .bool false, .bool false]) ?_ 3 _ rfl; (with_reducible repeat (first | refine blk_drewN ?_ _ | refine blk_drew ?_ | refine blk_alloc ?_ _)); refine blk_put (cs := #[.bool t1030, .bool t1031, .bool false, .bool false, .bool false, .bool false, .bool false]) ?_ 2 _ rfl; (with_reducible repeat (first | refine blk_drewN ?_ _ | refine blk_drew ?_ | refine blk_alloc ?_ _)); refine blk_put (cs := #[.bool t1030, .bool false, .bool false, .bool false, .bool false, .bool false, .bool false]) ?_ 1 _ rfl; (with_reducible repeat (first | refine blk_drewN ?_ _ | refine blk_drew ?_ | refine blk_alloc ?_ _)); refine blk_put (cs := #[.bool false, .bool false, .bool false, .bool false, .bool false, .bool false, .bool false]) ?_ 0 _ rfl; (with_reducible repeat (first | refine blk_drewN ?_ _ | refine blk_drew ?_ | refine blk_alloc ?_ _)); exact BK1038.out) hb); have n2_ := Aside0.mk (below_step (by repeat (first | (with_reducible first | exact HB.out | apply below_alloc | apply pw_below_drewN | apply below_drew1 | refine below_set ?_ GE1038.out) | exact HB.out)) hb); clear BK1038; clear HB; have HO1041 := n0_; have BK1038 := n1_; have HB := n2_; clear n0_ n1_ n2_; clear hb ho12))
        go_ret2
        exact ⟨_, by first | rfl | (simp [errW_none, errW_some] <;> rfl) | (simp [*, errW_none, errW_some] <;> rfl), by (with_reducible repeat (first | apply Kd.R_alloc | apply Kd.R_drewN | apply Kd.R_drew)); exact HO1041.out, by repeat (first | (with_reducible first | exact HB.out | apply below_alloc | apply pw_below_drewN | apply below_drew1 | refine below_set ?_ GE1038.out) | exact HB.out)⟩
      · rw [if_neg c7] at H
        have c7b0 : (a2.toList == ([116, 104, 105, 114, 100, 95, 112, 97, 114, 116, 121, 95, 105, 110, 118, 105, 116, 101] : List UInt8)) = false := beq_eq_false_iff_ne.mpr c7
        have c7b1 : (a2.toList != ([116, 104, 105, 114, 100, 95, 112, 97, 114, 116, 121, 95, 105, 110, 118, 105, 116, 101] : List UInt8)) = true := bne_iff_ne.mpr c7
        simp only [Option.some.injEq, Prod.mk.injEq] at H
        obtain ⟨rfl, rfl⟩ := H
        have hu120 := Try.underlying120
        go_enter Try.func128, Try.ntmps128
        go_wp2_with (first | ((with_reducible refine gate_callee (f := 97) rfl ?_); refine goesL_ (some 12) rfl rfl Try.func97 (by kernel_rfl) rfl #[.int .i64 a0] rfl (by (try simp only [List.map_toArray, List.map_cons, List.map_nil]); first | done | rfl | (simp only [List.length_drop, List.length_take]; rfl)) ?_; (with_reducible refine (version_Of.calls a0 t1030 t1031 t1032 t1033 t1034 t1035 true t1037 _ A4.out).mono ?_); rintro e w13 ⟨rfl, hb⟩; refine ⟨_, rfl, ?_⟩; have n0_ := Aside0.mk (below_step (by repeat (first | (with_reducible first | exact HB.out | apply below_alloc | apply pw_below_drewN | apply below_drew1) | exact HB.out)) hb); clear HB; have HB := n0_; clear n0_; (try clear hb); (try clear hb2); (try clear hk); (try clear hi)) | ((with_reducible refine gate_dst (N := 8) rfl ?_); refine box_event ?hg (N := 8) ?hd (cs := #[.bool false, .bool false, .bool false, .bool false, .bool false, .bool false, .bool false]) (t := 120) ?hr ?_; (case hd => rfl); (case hg => rfl); (case hr => first | (go_simp; done) | (go_simp; rfl)); intro gb1038 hg w14 hbox hb; have n0_ := Aside0.mk (below_step (by repeat (first | (with_reducible first | exact HB.out | apply below_alloc | apply pw_below_drewN | apply below_drew1) | exact HB.out)) hb); have n1_ := Aside0.mk (hbox); have n2_ := Aside0.mk ((by rw [hg]; exact (below_size (by repeat (first | (with_reducible first | exact HB.out | apply below_alloc | apply pw_below_drewN | apply below_drew1) | exact HB.out))) : w.heap.size ≤ gb1038)); have n3_ := Aside0.mk ((by rw [hg]; exact (below_size (by repeat (first | (with_reducible first | exact HB.out | apply below_alloc | apply pw_below_drewN | apply below_drew1) | exact HB.out))) : w.heap.size ≤ gb1038)); clear HB; have HB := n0_; have BK1038 := n1_; have GW1038 := n2_; have GE1038 := n3_; clear n0_ n1_ n2_ n3_; clear hb hbox hg; have hcz15_0 : w14.cell? ⟨gb1038, 0, none⟩ = some (.bool false) := (blk_cell BK1038.out 0).trans rfl; have hcz15_1 : w14.cell? ⟨gb1038, 1, none⟩ = some (.bool false) := (blk_cell BK1038.out 1).trans rfl; have hcz15_2 : w14.cell? ⟨gb1038, 2, none⟩ = some (.bool false) := (blk_cell BK1038.out 2).trans rfl; have hcz15_3 : w14.cell? ⟨gb1038, 3, none⟩ = some (.bool false) := (blk_cell BK1038.out 3).trans rfl; have hcz15_4 : w14.cell? ⟨gb1038, 4, none⟩ = some (.bool false) := (blk_cell BK1038.out 4).trans rfl; have hcz15_5 : w14.cell? ⟨gb1038, 5, none⟩ = some (.bool false) := (blk_cell BK1038.out 5).trans rfl; have hcz15_6 : w14.cell? ⟨gb1038, 6, none⟩ = some (.bool false) := (blk_cell BK1038.out 6).trans rfl; have hfz15_0 := blk_frozen BK1038.out 0; have hfz15_1 := blk_frozen BK1038.out 1; have hfz15_2 := blk_frozen BK1038.out 2; have hfz15_3 := blk_frozen BK1038.out 3; have hfz15_4 := blk_frozen BK1038.out 4; have hfz15_5 := blk_frozen BK1038.out 5; have hfz15_6 := blk_frozen BK1038.out 6))
        go_ret2
        exact ⟨_, by first | rfl | (simp [errW_none, errW_some] <;> rfl) | (simp [*, errW_none, errW_some] <;> rfl), by first | exact Kd.R_nil _ _ _ _ _ | exact Kd.N_nil _ _ _ _ _ | exact Kd.V_nil _ _ _ _ _ | exact Kd.Q_nil _ _ _ _ _ | exact Kd.S_nil _ _ _ _ _, by repeat (first | (with_reducible first | exact HB.out | apply below_alloc | apply pw_below_drewN | apply below_drew1 | refine below_set ?_ GE1038.out) | exact HB.out)⟩
    · rw [if_neg c6] at H
      have c6b0 : (a1.toList == ([109, 46, 114, 111, 111, 109, 46, 109, 101, 109, 98, 101, 114] : List UInt8)) = false := beq_eq_false_iff_ne.mpr c6
      have c6b1 : (a1.toList != ([109, 46, 114, 111, 111, 109, 46, 109, 101, 109, 98, 101, 114] : List UInt8)) = true := bne_iff_ne.mpr c6
      simp only [Option.some.injEq, Prod.mk.injEq] at H
      obtain ⟨rfl, rfl⟩ := H
      have hu120 := Try.underlying120
      go_enter Try.func128, Try.ntmps128
      go_wp2_with (first | ((with_reducible refine gate_callee (f := 97) rfl ?_); refine goesL_ (some 12) rfl rfl Try.func97 (by kernel_rfl) rfl #[.int .i64 a0] rfl (by (try simp only [List.map_toArray, List.map_cons, List.map_nil]); first | done | rfl | (simp only [List.length_drop, List.length_take]; rfl)) ?_; (with_reducible refine (version_Of.calls a0 t1030 t1031 t1032 t1033 t1034 t1035 true t1037 _ A4.out).mono ?_); rintro e w16 ⟨rfl, hb⟩; refine ⟨_, rfl, ?_⟩; have n0_ := Aside0.mk (below_step (by repeat (first | (with_reducible first | exact HB.out | apply below_alloc | apply pw_below_drewN | apply below_drew1) | exact HB.out)) hb); clear HB; have HB := n0_; clear n0_; (try clear hb); (try clear hb2); (try clear hk); (try clear hi)) | ((with_reducible refine gate_dst (N := 8) rfl ?_); refine box_event ?hg (N := 8) ?hd (cs := #[.bool false, .bool false, .bool false, .bool false, .bool false, .bool false, .bool false]) (t := 120) ?hr ?_; (case hd => rfl); (case hg => rfl); (case hr => first | (go_simp; done) | (go_simp; rfl)); intro gb1038 hg w17 hbox hb; have n0_ := Aside0.mk (below_step (by repeat (first | (with_reducible first | exact HB.out | apply below_alloc | apply pw_below_drewN | apply below_drew1) | exact HB.out)) hb); have n1_ := Aside0.mk (hbox); have n2_ := Aside0.mk ((by rw [hg]; exact (below_size (by repeat (first | (with_reducible first | exact HB.out | apply below_alloc | apply pw_below_drewN | apply below_drew1) | exact HB.out))) : w.heap.size ≤ gb1038)); have n3_ := Aside0.mk ((by rw [hg]; exact (below_size (by repeat (first | (with_reducible first | exact HB.out | apply below_alloc | apply pw_below_drewN | apply below_drew1) | exact HB.out))) : w.heap.size ≤ gb1038)); clear HB; have HB := n0_; have BK1038 := n1_; have GW1038 := n2_; have GE1038 := n3_; clear n0_ n1_ n2_ n3_; clear hb hbox hg; have hcz18_0 : w17.cell? ⟨gb1038, 0, none⟩ = some (.bool false) := (blk_cell BK1038.out 0).trans rfl; have hcz18_1 : w17.cell? ⟨gb1038, 1, none⟩ = some (.bool false) := (blk_cell BK1038.out 1).trans rfl; have hcz18_2 : w17.cell? ⟨gb1038, 2, none⟩ = some (.bool false) := (blk_cell BK1038.out 2).trans rfl; have hcz18_3 : w17.cell? ⟨gb1038, 3, none⟩ = some (.bool false) := (blk_cell BK1038.out 3).trans rfl; have hcz18_4 : w17.cell? ⟨gb1038, 4, none⟩ = some (.bool false) := (blk_cell BK1038.out 4).trans rfl; have hcz18_5 : w17.cell? ⟨gb1038, 5, none⟩ = some (.bool false) := (blk_cell BK1038.out 5).trans rfl; have hcz18_6 : w17.cell? ⟨gb1038, 6, none⟩ = some (.bool false) := (blk_cell BK1038.out 6).trans rfl; have hfz18_0 := blk_frozen BK1038.out 0; have hfz18_1 := blk_frozen BK1038.out 1; have hfz18_2 := blk_frozen BK1038.out 2; have hfz18_3 := blk_frozen BK1038.out 3; have hfz18_4 := blk_frozen BK1038.out 4; have hfz18_5 := blk_frozen BK1038.out 5; have hfz18_6 := blk_frozen BK1038.out 6))
      go_ret2
      exact ⟨_, by first | rfl | (simp [errW_none, errW_some] <;> rfl) | (simp [*, errW_none, errW_some] <;> rfl), by first | exact Kd.R_nil _ _ _ _ _ | exact Kd.N_nil _ _ _ _ _ | exact Kd.V_nil _ _ _ _ _ | exact Kd.Q_nil _ _ _ _ _ | exact Kd.S_nil _ _ _ _ _, by repeat (first | (with_reducible first | exact HB.out | apply below_alloc | apply pw_below_drewN | apply below_drew1 | refine below_set ?_ GE1038.out) | exact HB.out)⟩
  · replace c5 := Bool.eq_false_iff.mpr c5
    subst c5
    have H1 : (some (([] : List ByteArray), false)) = some (r1, r2) := by rw [if_neg (show ¬ (false = true) by decide)] at H; exact H
    clear H
    have H := H1
    clear H1
    simp only [Option.some.injEq, Prod.mk.injEq] at H
    obtain ⟨rfl, rfl⟩ := H
    have hu120 := Try.underlying120
    go_enter Try.func128, Try.ntmps128
    go_wp2_with (first | ((with_reducible refine gate_callee (f := 97) rfl ?_); refine goesL_ (some 12) rfl rfl Try.func97 (by kernel_rfl) rfl #[.int .i64 a0] rfl (by (try simp only [List.map_toArray, List.map_cons, List.map_nil]); first | done | rfl | (simp only [List.length_drop, List.length_take]; rfl)) ?_; (with_reducible refine (version_Of.calls a0 t1030 t1031 t1032 t1033 t1034 t1035 false t1037 _ A4.out).mono ?_); rintro e w19 ⟨rfl, hb⟩; refine ⟨_, rfl, ?_⟩; have n0_ := Aside0.mk (below_step (by repeat (first | (with_reducible first | exact HB.out | apply below_alloc | apply pw_below_drewN | apply below_drew1) | exact HB.out)) hb); clear HB; have HB := n0_; clear n0_; (try clear hb); (try clear hb2); (try clear hk); (try clear hi)) | ((with_reducible refine gate_dst (N := 8) rfl ?_); refine box_event ?hg (N := 8) ?hd (cs := #[.bool false, .bool false, .bool false, .bool false, .bool false, .bool false, .bool false]) (t := 120) ?hr ?_; (case hd => rfl); (case hg => rfl); (case hr => first | (go_simp; done) | (go_simp; rfl)); intro gb1038 hg w20 hbox hb; have n0_ := Aside0.mk (below_step (by repeat (first | (with_reducible first | exact HB.out | apply below_alloc | apply pw_below_drewN | apply below_drew1) | exact HB.out)) hb); have n1_ := Aside0.mk (hbox); have n2_ := Aside0.mk ((by rw [hg]; exact (below_size (by repeat (first | (with_reducible first | exact HB.out | apply below_alloc | apply pw_below_drewN | apply below_drew1) | exact HB.out))) : w.heap.size ≤ gb1038)); have n3_ := Aside0.mk ((by rw [hg]; exact (below_size (by repeat (first | (with_reducible first | exact HB.out | apply below_alloc | apply pw_below_drewN | apply below_drew1) | exact HB.out))) : w.heap.size ≤ gb1038)); clear HB; have HB := n0_; have BK1038 := n1_; have GW1038 := n2_; have GE1038 := n3_; clear n0_ n1_ n2_ n3_; clear hb hbox hg; have hcz21_0 : w20.cell? ⟨gb1038, 0, none⟩ = some (.bool false) := (blk_cell BK1038.out 0).trans rfl; have hcz21_1 : w20.cell? ⟨gb1038, 1, none⟩ = some (.bool false) := (blk_cell BK1038.out 1).trans rfl; have hcz21_2 : w20.cell? ⟨gb1038, 2, none⟩ = some (.bool false) := (blk_cell BK1038.out 2).trans rfl; have hcz21_3 : w20.cell? ⟨gb1038, 3, none⟩ = some (.bool false) := (blk_cell BK1038.out 3).trans rfl; have hcz21_4 : w20.cell? ⟨gb1038, 4, none⟩ = some (.bool false) := (blk_cell BK1038.out 4).trans rfl; have hcz21_5 : w20.cell? ⟨gb1038, 5, none⟩ = some (.bool false) := (blk_cell BK1038.out 5).trans rfl; have hcz21_6 : w20.cell? ⟨gb1038, 6, none⟩ = some (.bool false) := (blk_cell BK1038.out 6).trans rfl; have hfz21_0 := blk_frozen BK1038.out 0; have hfz21_1 := blk_frozen BK1038.out 1; have hfz21_2 := blk_frozen BK1038.out 2; have hfz21_3 := blk_frozen BK1038.out 3; have hfz21_4 := blk_frozen BK1038.out 4; have hfz21_5 := blk_frozen BK1038.out 5; have hfz21_6 := blk_frozen BK1038.out 6))
    go_ret2
    exact ⟨_, by first | rfl | (simp [errW_none, errW_some] <;> rfl) | (simp [*, errW_none, errW_some] <;> rfl), by first | exact Kd.R_nil _ _ _ _ _ | exact Kd.N_nil _ _ _ _ _ | exact Kd.V_nil _ _ _ _ _ | exact Kd.Q_nil _ _ _ _ _ | exact Kd.S_nil _ _ _ _ _, by repeat (first | (with_reducible first | exact HB.out | apply below_alloc | apply pw_below_drewN | apply below_drew1 | refine below_set ?_ GE1038.out) | exact HB.out)⟩
end Go.Proofs.Ytjdldlphfifggaa.X
end
section
namespace Go.Proofs.Ytjdldlphfifggaa.X
open Go.RowKit Go.Proofs.YtjdldlphfifggaaW.PrintWords Go.Proofs.YtjdldlphfifggaaW.PrintLast Go.Proofs.YtjdldlphfifggaaW.PrintMore
set_option linter.unusedVariables false
set_option linter.unusedSimpArgs false
def contK (v : Int) (kind : ByteArray) : List ByteArray → Nd → Option Nd
  | [], n => some n
  | key :: r, n => (keep_Inner.f v kind key).bind fun t => if t.2 = true then (withinN n key t.1).bind (contK v kind r) else contK v kind r n
def contentN (v : Int) (kind : ByteArray) (n : Nd) : Option Nd :=
  (keep_Content.f v kind).bind fun t => if t.2 = true then some n else (if t.1.length < 1000000000 then (onlyN n t.1).bind (contK v kind t.1) else none)
set_option maxHeartbeats 6400000 in
set_option maxRecDepth 100000 in
theorem content_nd (Q : Nat → Prop) (vv : Int) (kind : ByteArray) (n r : Nd) (v : Value) (w : World) (hn : NdV Q w v n) (hf : contentN vv kind n = some r) (hQ : ∀ k, w.heap.size ≤ k → Q k) :
    Calls Try.prog 100 #[.int .i64 vv, .string kind, v] w fun e w' => ∃ v', e = .returned v' ∧ NdV Q w' v' r ∧ Below w.heap.size w w' := by
  obtain ⟨A3, c3, A4, c4, rfl, h3, h4⟩ := hn
  have HN0 : Aside0 (NdV Q w (.agg #[.int .i64 n.f0, .int .i64 n.f1, .string n.f2, .slice A3 n.f3.length c3, .slice A4 n.f4.length c4]) n) := ⟨⟨A3, c3, A4, c4, rfl, h3, h4⟩⟩
  have HQ := Aside0.mk hQ
  clear h3 h4 hQ
  unfold contentN at hf
  obtain ⟨⟨keys, all⟩, hk0, hf⟩ := Option.bind_eq_some_iff.1 hf
  simp only at hf
  have HK0 := Aside0.mk hk0
  clear hk0
  have hB0 : Bxs w ((w.alloc (.cells #[.int .i64 n.f0, .int .i64 n.f1, .string n.f2, .slice A3 n.f3.length c3, .slice A4 n.f4.length c4] nodeT)).alloc (.cells #[.int .i64 0, .int .i64 0, .string ⟨#[]⟩, .slice none 0 0, .slice none 0 0] nodeT)) [(#[.int .i64 n.f0, .int .i64 n.f1, .string n.f2, .slice A3 n.f3.length c3, .slice A4 n.f4.length c4], nodeT), (#[.int .i64 0, .int .i64 0, .string ⟨#[]⟩, .slice none 0 0, .slice none 0 0], nodeT)] := (((Bx0.start w).alloc _ _).alloc _ _).x
  have HB0 := Aside0.mk hB0
  clear hB0
  cases all with
  | true =>
    rw [if_pos rfl] at hf
    injection hf with hf
    subst hf
    go_enter Try.func100, Try.ntmps100
    go_wp2_with fail
    generalize (w.alloc (.cells #[.int .i64 n.f0, .int .i64 n.f1, .string n.f2, .slice A3 n.f3.length c3, .slice A4 n.f4.length c4] nodeT)).alloc (.cells #[.int .i64 0, .int .i64 0, .string ⟨#[]⟩, .slice none 0 0, .slice none 0 0] nodeT) = W0 at HB0 ⊢
    go_wp2_with (first
      | (go_at_call 126; (with_reducible refine (keep_Content.calls vv kind keys true W0 HK0.out).mono ?_); rintro e w1 ⟨v0, rfl, hR0, hb1⟩; have HB1 := Aside0.mk hb1; clear hR0 hb1; have x0 := (HB0.out.step HB1.out).cell 0 0 rfl; have x1 := (HB0.out.step HB1.out).cell 0 1 rfl; have x2 := (HB0.out.step HB1.out).cell 0 2 rfl; have x3 := (HB0.out.step HB1.out).cell 0 3 rfl; have x4 := (HB0.out.step HB1.out).cell 0 4 rfl; simp only [List.getElem?_toArray, List.getElem?_cons_zero, List.getElem?_cons_succ, Nat.add_zero] at x0 x1 x2 x3 x4)
      | ((with_reducible refine gate_store (t := nodeT) (p := 6) rfl ?_); refine store5 rfl rfl rfl rfl rfl ((HB0.out.step HB1.out).at_ 1 _ rfl) rfl (by kernel_rfl) (by rfl) (fun W6 hb6 hg6 => ?_); have HB6 := Aside0.mk hb6; have HG6 := Aside0.mk hg6; have z0 := blk_cell hb6 0; have z1 := blk_cell hb6 1; have z2 := blk_cell hb6 2; have z3 := blk_cell hb6 3; have z4 := blk_cell hb6 4; simp only [List.getElem?_toArray, List.getElem?_cons_zero, List.getElem?_cons_succ] at z0 z1 z2 z3 z4; clear hb6 hg6))
    have hBW := (HB0.out.step HB1.out).B
    refine bodyPost_ret (v := .agg #[.int .i64 n.f0, .int .i64 n.f1, .string n.f2, .slice A3 n.f3.length c3, .slice A4 n.f4.length c4]) (by simp [results, Try.results100, go_sem, z0, z1, z2, z3, z4]) rfl ⟨_, rfl, ?_, hBW.grown HG6.out hBW.size (fun k hk => by injection hk with hk; omega)⟩
    exact ((HN0.out.bound.below hBW).grown HG6.out (fun k hk e => by have := hk.2; omega)).mono (fun k hk => hk.1)
  | false =>
    rw [if_neg (by simp)] at hf
    by_cases hkl : keys.length < 1000000000
    · rw [if_pos hkl] at hf
      obtain ⟨n1, hn1, hcont⟩ := Option.bind_eq_some_iff.1 hf
      have HN1 := Aside0.mk hn1
      have HCONT := Aside0.mk hcont
      clear hf hn1 hcont
      go_enter Try.func100, Try.ntmps100
      go_wp2_with fail
      generalize (w.alloc (.cells #[.int .i64 n.f0, .int .i64 n.f1, .string n.f2, .slice A3 n.f3.length c3, .slice A4 n.f4.length c4] nodeT)).alloc (.cells #[.int .i64 0, .int .i64 0, .string ⟨#[]⟩, .slice none 0 0, .slice none 0 0] nodeT) = W0 at HB0 ⊢
      have hlt1 : w.heap.size + 1 < W0.heap.size := HB0.out.lt 1 rfl
      have HQQ : Aside0 ((∀ k, ((Q k ∧ k < w.heap.size) ∨ w.heap.size + 2 ≤ k) → k ≠ w.heap.size) ∧ (∀ k, ((Q k ∧ k < w.heap.size) ∨ w.heap.size + 2 ≤ k) → k ≠ w.heap.size + 1)) := ⟨⟨fun k hk e => by omega, fun k hk e => by omega⟩⟩
      go_wp2_with (first
        | (go_at_call 126; (with_reducible refine (keep_Content.calls vv kind keys false W0 HK0.out).mono ?_); rintro e w1 ⟨v0, rfl, hR0, hb1⟩; obtain ⟨Ak, ck, rfl⟩ := Kd.R_slice hR0; have HB1 := Aside0.mk hb1; have HV0 : Aside0 (Kd.V Kd.string 9 w1 0 (fun k => W0.heap.size ≤ k) (.slice Ak keys.length ck) keys) := ⟨V_base (Kd.R_V (base' := 0) (Kd.R_mono (Kd.R_bound hR0) (fun k hk => hk.2.1)))⟩; clear hR0 hb1; have x0 := (HB0.out.step HB1.out).cell 0 0 rfl; have x1 := (HB0.out.step HB1.out).cell 0 1 rfl; have x2 := (HB0.out.step HB1.out).cell 0 2 rfl; have x3 := (HB0.out.step HB1.out).cell 0 3 rfl; have x4 := (HB0.out.step HB1.out).cell 0 4 rfl; simp only [List.getElem?_toArray, List.getElem?_cons_zero, List.getElem?_cons_succ, Nat.add_zero] at x0 x1 x2 x3 x4)
        | (go_at_call 99; have hNQ := ((HN0.out.bound.below (HB0.out.step HB1.out).B).mono (Q' := fun k => (Q k ∧ k < w.heap.size) ∨ w.heap.size + 2 ≤ k) (fun k hk => .inl hk)); have hge := HB1.out.size; (with_reducible refine (only_nd hNQ (Kd.V_reads' HV0.out).2.2 (Kd.V_reads' HV0.out).2.1 HN1.out (fun k hk => .inr (by omega))).mono ?_); rintro e w2 ⟨v2, rfl, hv2, hb2⟩; have HB2 := Aside0.mk (below_then HB1.out HB1.out.size hb2); have HV2 := Aside0.mk hv2; have HV0' := Aside0.mk (Kd.V_below HV0.out hb2); clear hNQ hge hv2 hb2; obtain ⟨D3, e3, D4, e4, rfl, _, _⟩ := HV2.out)
        | ((with_reducible refine gate_store (t := nodeT) (p := 5) rfl ?_); refine store5 rfl rfl rfl rfl rfl ((HB0.out.step HB2.out).at_ 0 _ rfl) rfl (by kernel_rfl) (by rfl) (fun W6 hb6 hg6 => ?_); have HB6 := Aside0.mk hb6; have HG6 := Aside0.mk hg6; clear hb6 hg6))
      have hS6 : Aside0 (NdB (fun k => (Q k ∧ k < w.heap.size) ∨ w.heap.size + 2 ≤ k) W6 w.heap.size n1 ∧ Below w.heap.size w W6 ∧ Kd.V Kd.string 9 W6 0 (fun k => W0.heap.size ≤ k) (.slice Ak keys.length ck) keys ∧ W6.heap[w.heap.size + 1]? = some (.cells #[.int .i64 0, .int .i64 0, .string ⟨#[]⟩, .slice none 0 0, .slice none 0 0] nodeT (0, 0))) := ⟨⟨⟨_, HB6.out, HV2.out.grown HG6.out HQQ.out.1⟩, (HB0.out.step HB2.out).B.grown HG6.out (HB0.out.step HB2.out).B.size (fun k hk => by injection hk with hk; omega), Kd.V_grown HV0'.out HG6.out (fun k hk e => by injection e with e; omega), (HG6.out.block _ (Nat.lt_of_lt_of_le hlt1 HB2.out.size) (fun e => by injection e with e; omega)).trans ((HB0.out.step HB2.out).at_ 1 _ rfl)⟩⟩
      clear x0 x1 x2 x3 x4
      go_loopg [28] (keys.length + 1) (fun kq v28 W => ∃ (i : Nat) (n' : Nd), v28 = .int .i64 (i : Int) ∧ Aside0 (i + kq = keys.length + 1) ∧ Aside0 (i ≤ keys.length) ∧ Aside0 (contK vv kind (keys.drop i) n' = some r) ∧ Aside0 (NdB (fun k => (Q k ∧ k < w.heap.size) ∨ w.heap.size + 2 ≤ k) W w.heap.size n' ∧ Below w.heap.size w W ∧ Kd.V Kd.string 9 W 0 (fun k => W0.heap.size ≤ k) (.slice Ak keys.length ck) keys ∧ W.heap[w.heap.size + 1]? = some (.cells #[.int .i64 0, .int .i64 0, .string ⟨#[]⟩, .slice none 0 0, .slice none 0 0] nodeT (0, 0))))
      case atStart => exact ⟨0, n1, rfl, ⟨by omega⟩, ⟨Nat.zero_le _⟩, HCONT, hS6⟩
      case round =>
        obtain ⟨i, n', rfl, hk, hi, hc, hS⟩ := hrel
        cases gk with
        | zero => exact absurd hk.out (by have := hi.out; omega)
        | succ k1 =>
          by_cases c5 : i < keys.length
          · have c5b : decide ((i : Int) < (keys.length : Int)) = true := decide_eq_true (by omega)
            have p5 : ((0 : Int) ≤ (i : Int)) = True := eq_true (by omega)
            have q5 : ((i : Int) < (keys.length : Int)) = True := eq_true (by omega)
            obtain ⟨ad, e7, x0⟩ := Kd.at_string (Kd.V_reads' hS.out.2.2.1).2.2 (i : Int) (by omega) (by omega)
            subst e7
            rw [rds keys i c5] at x0
            simp only [Int.toNat_natCast] at x0
            have hc2 := hc.out
            rw [List.drop_eq_getElem_cons c5, contK] at hc2
            generalize keys[i] = x at x0 hc2
            obtain ⟨⟨only, yes⟩, hI, hc2⟩ := Option.bind_eq_some_iff.1 hc2
            simp only at hc2
            have HI := Aside0.mk hI
            clear hI
            cases yes with
            | false =>
              rw [if_neg (by simp)] at hc2
              have HC2 := Aside0.mk hc2
              clear hc2
              go_wp2_with (go_at_call 128; (with_reducible refine (keep_Inner.calls vv kind x only false wr HI.out).mono ?_); rintro e w3 ⟨v3, rfl, hR3, hb3⟩; have HB3 := Aside0.mk hb3; clear hR3 hb3)
              go_roundg k1
              case measure => omega
              case rel => exact ⟨i + 1, n', by go_num, ⟨by have := hk.out; omega⟩, ⟨c5⟩, HC2, ⟨hS.out.1.below HB3.out, below_then hS.out.2.1 hS.out.2.1.size HB3.out, Kd.V_below hS.out.2.2.1 HB3.out, blk_below hS.out.2.2.2 HB3.out⟩⟩
            | true =>
              rw [if_pos rfl] at hc2
              obtain ⟨n2, hw2, hc3⟩ := Option.bind_eq_some_iff.1 hc2
              have HW2 := Aside0.mk hw2
              have HC3 := Aside0.mk hc3
              clear hc2 hw2 hc3
              have hwr : w.heap.size + 1 < wr.heap.size := blk_lt hS.out.2.2.2
              go_wp2_with (first
                | (go_at_call 128; (with_reducible refine (keep_Inner.calls vv kind x only true wr HI.out).mono ?_); rintro e w3 ⟨v3, rfl, hR3, hb3⟩; have HB3 := Aside0.mk hb3; have hwr3 := Nat.lt_of_lt_of_le hwr hb3.size; obtain ⟨Ai, ci, rfl⟩ := Kd.R_slice hR3; have HR3 := Aside0.mk (Kd.R_reads' hR3); clear hR3 hb3)
                | (go_at_call 127; (with_reducible refine (content1 _ w.heap.size HQQ.out.1 x Ai ci only n' n2 w3 (hS.out.1.below HB3.out) HR3.out.2.2 HR3.out.2.1 HW2.out (fun k hk => .inr (by omega))).mono ?_); rintro e w4 ⟨rfl, hn4, hg4⟩; have HN4 := Aside0.mk hn4; have HG4 := Aside0.mk hg4; clear hn4 hg4))
              go_roundg k1
              case measure => omega
              case rel => exact ⟨i + 1, n2, by go_num, ⟨by have := hk.out; omega⟩, ⟨c5⟩, HC3, ⟨HN4.out, (below_then hS.out.2.1 hS.out.2.1.size HB3.out).grown HG4.out (below_then hS.out.2.1 hS.out.2.1.size HB3.out).size (fun k hk => by injection hk with hk; omega), Kd.V_grown (Kd.V_below hS.out.2.2.1 HB3.out) HG4.out (fun k hk e => by injection e with e; omega), (HG4.out.block _ hwr3 (fun e => by injection e with e; omega)).trans (blk_below hS.out.2.2.2 HB3.out)⟩⟩
          · have c5b : decide ((i : Int) < (keys.length : Int)) = false := decide_eq_false (by omega)
            have hil : i = keys.length := by have := hi.out; omega
            have hr := hc.out
            rw [hil, List.drop_length, contK] at hr
            injection hr with hr
            subst hr
            obtain ⟨⟨cs, hg0, F3, f3, F4, f4, e, hV3, hV4⟩, hBW, _, hz1⟩ := hS.out
            injection e with e
            subst e
            have x0 := blk_cell hg0 0
            have x1 := blk_cell hg0 1
            have x2 := blk_cell hg0 2
            have x3 := blk_cell hg0 3
            have x4 := blk_cell hg0 4
            simp only [List.getElem?_toArray, List.getElem?_cons_zero, List.getElem?_cons_succ] at x0 x1 x2 x3 x4
            have HZ1 := Aside0.mk hz1
            have HBW := Aside0.mk hBW
            have HNV : Aside0 (NdV (fun k => (Q k ∧ k < w.heap.size) ∨ w.heap.size + 2 ≤ k) wr (.agg #[.int .i64 n'.f0, .int .i64 n'.f1, .string n'.f2, .slice F3 n'.f3.length f3, .slice F4 n'.f4.length f4]) n') := ⟨⟨F3, f3, F4, f4, rfl, hV3, hV4⟩⟩
            clear hg0 hV3 hV4 hBW hz1
            go_wp2_with ((with_reducible refine gate_store (t := nodeT) (p := 6) rfl ?_); refine store5 rfl rfl rfl rfl rfl HZ1.out rfl (by kernel_rfl) (by rfl) (fun W7 hb7 hg7 => ?_); have HB7 := Aside0.mk hb7; have HG7 := Aside0.mk hg7; have z0 := blk_cell hb7 0; have z1 := blk_cell hb7 1; have z2 := blk_cell hb7 2; have z3 := blk_cell hb7 3; have z4 := blk_cell hb7 4; simp only [List.getElem?_toArray, List.getElem?_cons_zero, List.getElem?_cons_succ] at z0 z1 z2 z3 z4; clear hb7 hg7)
            refine bodyPost_ret (v := .agg #[.int .i64 n'.f0, .int .i64 n'.f1, .string n'.f2, .slice F3 n'.f3.length f3, .slice F4 n'.f4.length f4]) (by simp [results, Try.results100, go_sem, z0, z1, z2, z3, z4]) rfl ⟨_, rfl, ?_, HBW.out.grown HG7.out HBW.out.size (fun k hk => by injection hk with hk; omega)⟩
            exact (HNV.out.grown HG7.out HQQ.out.2).mono (fun k hk => hk.elim (fun h => h.1) (fun h => HQ.out k (by omega)))
    · rw [if_neg hkl] at hf
      cases hf
def redact_content.f (a0 : Int) (a1 : ByteArray) (a2_0 a2_1 : Int) (a2_2 : ByteArray) (l2_3 : List ByteArray) (l2_4 : List S25) : Option (Int × Int × ByteArray × List ByteArray × List (S25)) :=
  (contentN a0 a1 ⟨a2_0, a2_1, a2_2, l2_3, l2_4⟩).map fun n => (n.f0, n.f1, n.f2, n.f3, n.f4)
theorem redact_content.calls (a0 : Int) (a1 : ByteArray) (a2_0 : Int) (a2_1 : Int) (a2_2 : ByteArray) (P2_3_ : Nat → Prop) (A2_3 : Option Addr) (c2_3 : Nat) (l2_3 : List ByteArray) (P2_4_ : Nat → Prop) (A2_4 : Option Addr) (c2_4 : Nat) (l2_4 : List (S25)) (r1 : Int) (r2 : Int) (r3 : ByteArray) (r4 : List ByteArray) (r5 : List (S25)) (w : World)
    (hs2_3 : Kd.V Kd.string 9 w w.heap.size (fun k_ => P2_3_ k_) (.slice A2_3 l2_3.length c2_3) l2_3) (hs2_4 : Kd.V k25 25 w w.heap.size (fun k_ => P2_4_ k_) (.slice A2_4 l2_4.length c2_4) l2_4)
    (h : redact_content.f a0 a1 a2_0 a2_1 a2_2 l2_3 l2_4 = some (r1, r2, r3, r4, r5)) :
    Calls Try.prog 100 #[.int .i64 a0, .string a1, .agg #[.int .i64 a2_0, .int .i64 a2_1, .string a2_2, .slice A2_3 l2_3.length c2_3, .slice A2_4 l2_4.length c2_4]] w fun e w' => ∃ v3_ v4_ : Value, e = .returned (.agg #[.int .i64 r1, .int .i64 r2, .string r3, v3_, v4_]) ∧ Kd.V Kd.string 9 w' w.heap.size (fun k_ => ((P2_3_ k_ ∨ P2_4_ k_) ∨ w.heap.size ≤ k_)) v3_ r4 ∧ Kd.V k25 25 w' w.heap.size (fun k_ => ((P2_3_ k_ ∨ P2_4_ k_) ∨ w.heap.size ≤ k_)) v4_ r5 ∧ Below w.heap.size w w' := by
  unfold redact_content.f at h
  obtain ⟨r, hr, h⟩ := Option.map_eq_some_iff.1 h
  simp only [Prod.mk.injEq] at h
  obtain ⟨rfl, rfl, rfl, rfl, rfl⟩ := h
  refine (content_nd (fun k_ => ((P2_3_ k_ ∨ P2_4_ k_) ∨ w.heap.size ≤ k_)) a0 a1 ⟨a2_0, a2_1, a2_2, l2_3, l2_4⟩ r _ w ⟨A2_3, c2_3, A2_4, c2_4, rfl, Kd.V_mono hs2_3 (fun k hk => .inl (.inl hk)), Kd.V_mono hs2_4 (fun k hk => .inl (.inr hk))⟩ hr (fun k hk => .inr hk)).mono ?_
  rintro e w' ⟨v, rfl, ⟨A3, c3, A4, c4, rfl, h3, h4⟩, hb⟩
  exact ⟨_, _, rfl, h3, h4, hb⟩
end Go.Proofs.Ytjdldlphfifggaa.X
end
section
namespace Go.Proofs.Ytjdldlphfifggaa.X
open Go.RowKit Go.Proofs.YtjdldlphfifggaaW.PrintWords Go.Proofs.YtjdldlphfifggaaW.PrintLast Go.Proofs.YtjdldlphfifggaaW.PrintMore Go.WideMaps Go.Maps
set_option linter.unusedVariables false
set_option linter.unusedSimpArgs false
abbrev keepT : List ByteArray := [(⟨#[97, 117, 116, 104, 95, 101, 118, 101, 110, 116, 115]⟩ : ByteArray), (⟨#[99, 111, 110, 116, 101, 110, 116]⟩ : ByteArray), (⟨#[100, 101, 112, 116, 104]⟩ : ByteArray), (⟨#[101, 118, 101, 110, 116, 95, 105, 100]⟩ : ByteArray), (⟨#[104, 97, 115, 104, 101, 115]⟩ : ByteArray), (⟨#[111, 114, 105, 103, 105, 110, 95, 115, 101, 114, 118, 101, 114, 95, 116, 115]⟩ : ByteArray), (⟨#[112, 114, 101, 118, 95, 101, 118, 101, 110, 116, 115]⟩ : ByteArray), (⟨#[114, 111, 111, 109, 95, 105, 100]⟩ : ByteArray), (⟨#[115, 101, 110, 100, 101, 114]⟩ : ByteArray), (⟨#[115, 105, 103, 110, 97, 116, 117, 114, 101, 115]⟩ : ByteArray), (⟨#[115, 116, 97, 116, 101, 95, 107, 101, 121]⟩ : ByteArray), (⟨#[116, 121, 112, 101]⟩ : ByteArray)]
abbrev keepU : List ByteArray := [(⟨#[109, 101, 109, 98, 101, 114, 115, 104, 105, 112]⟩ : ByteArray), (⟨#[111, 114, 105, 103, 105, 110]⟩ : ByteArray), (⟨#[112, 114, 101, 118, 95, 115, 116, 97, 116, 101]⟩ : ByteArray)]
def keep_Top.f (a0 : Int) : Option (List ByteArray × Int) :=
  (version_Of.f a0).bind fun t => if t.2.2.2.2.2.2.2 = 0 then (if t.2.2.2.2.2.2.1 = true then some (keepT, 0) else some (sortB (keepT ++ keepU), 0)) else some ([], t.2.2.2.2.2.2.2)
theorem own_new {base : Nat} (W : World) (hb : base ≤ W.heap.size) (l : List ByteArray) (hl : l.length ≤ 100) : (W.alloc (.cells (l.map Value.string).toArray 9)).ownsRow base 9 1 (.slice (some ⟨W.heap.size, 0, none⟩) l.length l.length) l.length (encs Value.string l) :=
  ⟨by rw [Nat.mul_one]; exact List.length_map _, .inr ⟨W.heap.size, l.length, _, rfl, hb, blk_new _ _, Nat.le_refl _, by unfold maxLen; omega, by simp, by rw [Nat.mul_one]; exact List.take_of_length_le (by simp)⟩⟩
theorem top_size (w1 : World) (o : Obj) : (w1.alloc o).heap.size = w1.heap.size + 1 := by unfold World.alloc; simp
theorem top_own {w w1 : World} (h : Below w.heap.size w w1) (o : Obj) : ((w1.alloc o).alloc (.cells (keepT.map Value.string).toArray 9)).ownsRow w.heap.size 9 1 (.slice (some ⟨w1.heap.size + 1, 0, none⟩) 12 12) 12 (encs Value.string keepT) := by
  have := own_new (base := w.heap.size) (w1.alloc o) (by rw [top_size]; have := h.size; omega) keepT (by decide)
  rw [top_size] at this
  exact this
theorem top_own2 {w w1 : World} (h : Below w.heap.size w w1) (o : Obj) : (((w1.alloc o).alloc (.cells (keepT.map Value.string).toArray 9)).alloc (.cells (keepU.map Value.string).toArray 9)).ownsRow w.heap.size 9 1 (.slice (some ⟨w1.heap.size + 1 + 1, 0, none⟩) 3 3) 3 (encs Value.string keepU) := by
  have := own_new (base := w.heap.size) ((w1.alloc o).alloc (.cells (keepT.map Value.string).toArray 9)) (by rw [top_size, top_size]; have := h.size; omega) keepU (by decide)
  rw [top_size, top_size] at this
  exact this
set_option maxHeartbeats 8000000 in
set_option maxRecDepth 100000 in
theorem keep_Top.calls (a0 : Int) (r1 : List ByteArray) (r2 : Int) (w : World) (h : keep_Top.f a0 = some (r1, r2)) :
  Calls Try.prog 98 #[.int .i64 a0] w fun e w' => ∃ v0_ : Value, e = .returned (.tuple #[v0_, .int .i64 r2]) ∧ Kd.R Kd.string 9 w' w.heap.size (fun _ => True) v0_ r1 ∧ Below w.heap.size w w' := by
  unfold keep_Top.f at h
  obtain ⟨⟨t0, t1, t2, t3, t4, t5, t6, t7⟩, A0, H⟩ := Option.bind_eq_some_iff.mp h
  clear h
  have A := Aside0.mk A0
  clear A0
  simp only at H
  by_cases c7 : t7 = 0
  case neg =>
    rw [if_neg c7] at H
    simp only [Option.some.injEq, Prod.mk.injEq] at H
    obtain ⟨rfl, rfl⟩ := H
    have c7a : (t7 == 0) = false := by simp [c7]
    have c7b : (t7 != 0) = true := by simp [c7]
    clear c7
    go_enter Try.func98, Try.ntmps98
    go_wp2_with (first | (go_at_call 97; with_reducible refine (version_Of.calls a0 t0 t1 t2 t3 t4 t5 t6 t7 _ A.out).mono ?_; rintro e w1 ⟨rfl, hb1⟩; have B1 := Aside0.mk hb1; clear hb1))
    go_ret2
    exact ⟨_, rfl, Kd.R_nil _ _ _ _ _, below_alloc B1.out _⟩
  subst c7
  rw [if_pos rfl] at H
  cases t6 with
  | true =>
    rw [if_pos rfl] at H
    simp only [Option.some.injEq, Prod.mk.injEq] at H
    obtain ⟨rfl, rfl⟩ := H
    go_enter Try.func98, Try.ntmps98
    go_wp2_with (first | (go_at_call 97; with_reducible refine (version_Of.calls a0 t0 t1 t2 t3 t4 t5 true 0 _ A.out).mono ?_; rintro e w1 ⟨rfl, hb1⟩; have B1 := Aside0.mk hb1; clear hb1))
    go_ret2
    exact ⟨_, rfl, R_of_own' (top_own B1.out _), below_alloc (below_alloc B1.out _) _⟩
  | false =>
    rw [if_neg (by decide)] at H
    simp only [Option.some.injEq, Prod.mk.injEq] at H
    obtain ⟨rfl, rfl⟩ := H
    go_enter Try.func98, Try.ntmps98
    go_wp2_with (first | (go_at_call 97; with_reducible refine (version_Of.calls a0 t0 t1 t2 t3 t4 t5 false 0 _ A.out).mono ?_; rintro e w1 ⟨rfl, hb1⟩; have B1 := Aside0.mk hb1; clear hb1) | ((with_reducible refine gate_builtin (b := .append) (xs := #[.tmp 19, .tmp 20]) rfl ?_); at_builtin; refine Kd.R_append_rows Kd.string (w0 := w) w.heap.size rfl (.tmp 19) (.tmp 20) 22 9 (.string ⟨#[]⟩) 16 rfl Try.underlying22 info9 rfl (by decide) (by omega) (.slice (some ⟨w1.heap.size + 1, 0, none⟩) 12 12) keepT keepU _ _ _ (fun _ => True) (fun _ => False) rfl rfl ?aO ?aR (fun _ _ h => h) (fun _ h => h.elim) (fun _ _ => trivial) (below_alloc (below_alloc (below_alloc B1.out _) _) _) (below_alloc (below_alloc (below_alloc B1.out _) _) _).size (by decide) ?_; (case aO => exact Kd.R_alloc (R_of_own' (top_own B1.out _)) _); (case aR => exact (Kd.R_reads' (R_of_own' (top_own2 B1.out _))).2.2); intro v2 w2 hR2 hb2 hg2 hat2; have R2 := Aside0.mk (own_of_R' hR2); have B2 := Aside0.mk hb2; clear hR2 hb2 hg2 hat2) | (go_at_call 122; with_reducible refine (sort_own _ R2.out (by decide)).mono ?_; rintro e w3 ⟨rfl, ho, hg⟩; have HO := Aside0.mk ho; have HG := Aside0.mk hg; clear ho hg))
    go_ret2
    exact ⟨_, rfl, R_of_own' HO.out, grown_own R2.out B2.out HG.out⟩
end Go.Proofs.Ytjdldlphfifggaa.X
end
section
namespace Go.Proofs.Ytjdldlphfifggaa.X
open Go.RowKit Go.Proofs.YtjdldlphfifggaaW.PrintWords Go.Proofs.YtjdldlphfifggaaW.PrintLast
set_option linter.unusedVariables false
set_option linter.unusedSimpArgs false
theorem bt_nat (s : ByteArray) (i : Nat) (h : i < s.size) : bt s (i : Int) = ((s[i]'h).toNat : Int) := by
  unfold bt
  rw [dif_pos (by simpa using h)]
  rfl
theorem size_ext (s : ByteArray) (a b : Nat) (hb : b ≤ s.size) : (s.extract a b).size = b - a := by
  rw [ByteArray.size_extract]; omega
theorem bt_ext (s : ByteArray) (a b j : Nat) (hb : b ≤ s.size) (hj : a + j < b) : bt (s.extract a b) (j : Int) = bt s ((a + j : Nat) : Int) := by
  have h1 : j < (s.extract a b).size := by rw [size_ext s a b hb]; omega
  rw [bt_nat _ _ h1, bt_nat s (a + j) (by omega)]
  congr 1
  rw [ByteArray.getElem_extract]
end Go.Proofs.Ytjdldlphfifggaa.X
end
section
namespace Go.Proofs.Ytjdldlphfifggaa.X
open Go.RowKit Go.Proofs.YtjdldlphfifggaaW.PrintWords Go.Proofs.YtjdldlphfifggaaW.PrintLast Go.Proofs.YtjdldlphfifggaaW.PrintMore
set_option linter.unusedVariables false
end Go.Proofs.Ytjdldlphfifggaa.X
end
section
namespace Go.Proofs.Ytjdldlphfifggaa.X
open Go.RowKit Go.Proofs.YtjdldlphfifggaaW.PrintWords Go.Proofs.YtjdldlphfifggaaW.PrintLast Go.Proofs.YtjdldlphfifggaaW.PrintMore
attribute [local go_sem] max2_int min2_int max_two min_two max_three min_three max_four min_four
set_option linter.unusedVariables false
set_option linter.unusedSimpArgs false
def utf_size.j0 : Nat → Int → Bool → Option (Int)
  | 0, _, _ => none
  | k + 1, x0, x3 => if x3 = true then (some 0) else (if x0 < 128 then (some 1) else (if x0 < 2048 then (some 2) else (if x0 < 65536 then (some 3) else (some 4))))
def utf_size.f (k : Nat) (a0 : Int) : Option (Int) := if a0 < 0 then (utf_size.j0 k a0 true) else (if a0 > 1114111 then (utf_size.j0 k a0 true) else (if a0 ≥ 55296 then (utf_size.j0 k a0 (decide (a0 ≤ 57343))) else (utf_size.j0 k a0 false)))
theorem utf_size.mono_l : ∀ k, (∀ y0 y1, LeO (utf_size.j0 k y0 y1) (utf_size.j0 (k + 1) y0 y1))
  | 0 => fun _ _ r h => by simp [utf_size.j0] at h
  | k + 1 => by
    have ih0 := utf_size.mono_l k
    · intro y0 y1
      unfold utf_size.j0
      repeat' first
      | (with_reducible exact ih0 _ _)
      | (with_reducible exact LeO.refl _)
      | (with_reducible exact LeO.none _)
      | (with_reducible refine LeO.ite ?_ ?_)
      | (with_reducible refine LeO.bind ?_ (fun _ => ?_))
      | exact ih0 _ _
      | exact LeO.none _
      | refine LeO.ite ?_ ?_
      | refine LeO.bind ?_ (fun _ => ?_)
theorem utf_size.mono : ∀ a0 k, LeO (utf_size.f k a0) (utf_size.f (k + 1) a0) := by
  intro a0 k
  have ih0 := utf_size.mono_l k
  unfold utf_size.f
  repeat' first
      | (with_reducible exact ih0 _ _)
      | (with_reducible exact LeO.refl _)
      | (with_reducible exact LeO.none _)
      | (with_reducible refine LeO.ite ?_ ?_)
      | (with_reducible refine LeO.bind ?_ (fun _ => ?_))
      | exact ih0 _ _
      | exact LeO.none _
      | refine LeO.ite ?_ ?_
      | refine LeO.bind ?_ (fun _ => ?_)
set_option maxHeartbeats 8000000 in
set_option maxRecDepth 100000 in
theorem utf_size.calls (k : Nat) (a0 : Int) (r : Int) (w : World) (h : utf_size.f k a0 = some r) :
    Calls Try.prog 103 #[.int .i32 a0] w fun e w' => e = .returned (.int .i64 r) ∧ Drawn0 w w' := by
  have H : (if a0 < 0 then (utf_size.j0 k a0 true) else (if a0 > 1114111 then (utf_size.j0 k a0 true) else (if a0 ≥ 55296 then (utf_size.j0 k a0 (decide (a0 ≤ 57343))) else (utf_size.j0 k a0 false)))) = some r := h
  clear h
  have HC2 := Aside0.mk H
  clear H
  go_enter Try.func103, Try.ntmps103
  go_upto_region 1 with (fail)
  go_cut [3] (fun v3 wc => ∃ (kq : Nat) (x3_1 : Bool), v3 = .bool x3_1 ∧ Aside0 (utf_size.j0 kq a0 x3_1 = some r) ∧ Aside0 (kq ≤ k) ∧ Drawn0 w wc)
  case first =>
    have H := HC2.out
    clear HC2
    by_cases c3 : a0 < 0
    · rw [if_pos c3] at H
      have c3b0 : decide (a0 < 0) = true := decide_eq_true c3
      clear c3
      (first | rw [c3b0] | (simp only [i64_w, i32_w]; rw [c3b0]) | skip)
      have H' := Aside0.mk H
      clear H
      go_wp2
      go_meet
      case rel => exact ⟨_, (true), (by first | rfl | (simp; done) | (simp [*]; done)), (by first | with_reducible exact H' | exact H' | (subst_vars; exact H')), ⟨by first | omega | exact Nat.le_refl _⟩, by repeat (first | exact Drawn0.refl _ | apply Drawn0.step)⟩
    · rw [if_neg c3] at H
      have c3b0 : decide (a0 < 0) = false := decide_eq_false c3
      clear c3
      (first | rw [c3b0] | (simp only [i64_w, i32_w]; rw [c3b0]) | skip)
      by_cases c4 : a0 > 1114111
      · rw [if_pos c4] at H
        have c4b0 : decide (1114111 < a0) = true := decide_eq_true c4
        clear c4
        have H' := Aside0.mk H
        clear H
        go_wp2
        go_meet
        case rel => exact ⟨_, (true), (by first | rfl | (simp; done) | (simp [*]; done)), (by first | with_reducible exact H' | exact H' | (subst_vars; exact H')), ⟨by first | omega | exact Nat.le_refl _⟩, by repeat (first | exact Drawn0.refl _ | apply Drawn0.step)⟩
      · rw [if_neg c4] at H
        have c4b0 : decide (1114111 < a0) = false := decide_eq_false c4
        clear c4
        by_cases c5 : a0 ≥ 55296
        · rw [if_pos c5] at H
          have c5b0 : decide (55296 ≤ a0) = true := decide_eq_true c5
          clear c5
          have H' := Aside0.mk H
          clear H
          go_wp2
          go_meet
          case rel => exact ⟨_, (decide (a0 ≤ 57343)), (by first | rfl | (simp; done) | (simp [*]; done)), (by first | with_reducible exact H' | exact H' | (subst_vars; exact H')), ⟨by first | omega | exact Nat.le_refl _⟩, by repeat (first | exact Drawn0.refl _ | apply Drawn0.step)⟩
        · rw [if_neg c5] at H
          have c5b0 : decide (55296 ≤ a0) = false := decide_eq_false c5
          clear c5
          have H' := Aside0.mk H
          clear H
          go_wp2
          go_meet
          case rel => exact ⟨_, (false), (by first | rfl | (simp; done) | (simp [*]; done)), (by first | with_reducible exact H' | exact H' | (subst_vars; exact H')), ⟨by first | omega | exact Nat.le_refl _⟩, by repeat (first | exact Drawn0.refl _ | apply Drawn0.step)⟩
  case rest =>
    clear HC2
    try clear c1
    try clear p2
    try clear c3
    try clear c3b0
    try clear c4
    try clear c4b0
    try clear c5
    try clear c5b0
    obtain ⟨kq, x3_1, rfl, HA, HJ1, ⟨mc1, rfl⟩⟩ := hcut
    cases kq with
    | zero => exact absurd HA.out (by simp [utf_size.j0])
    | succ kj1 =>
      have H := HA.out
      clear HA
      simp only [utf_size.j0] at H
      by_cases c6 : x3_1 = true
      · subst c6
        have H1 : (some 0) = some r := by rw [if_pos rfl] at H; exact H
        clear H
        have H := H1
        clear H1
        obtain rfl := Option.some.inj H
        go_wp2
        go_ret
        exact ⟨by first | rfl | (simp; done) | (simp [*]; done), by repeat (first | exact Drawn0.refl _ | apply Drawn0.step)⟩
      · replace c6 := Bool.eq_false_iff.mpr c6
        subst c6
        have H1 : (if a0 < 128 then (some 1) else (if a0 < 2048 then (some 2) else (if a0 < 65536 then (some 3) else (some 4)))) = some r := by rw [if_neg (show ¬ (false = true) by decide)] at H; exact H
        clear H
        have H := H1
        clear H1
        by_cases c7 : a0 < 128
        · rw [if_pos c7] at H
          have c7b0 : decide (a0 < 128) = true := decide_eq_true c7
          clear c7
          obtain rfl := Option.some.inj H
          go_wp2
          go_ret
          exact ⟨by first | rfl | (simp; done) | (simp [*]; done), by repeat (first | exact Drawn0.refl _ | apply Drawn0.step)⟩
        · rw [if_neg c7] at H
          have c7b0 : decide (a0 < 128) = false := decide_eq_false c7
          clear c7
          by_cases c8 : a0 < 2048
          · rw [if_pos c8] at H
            have c8b0 : decide (a0 < 2048) = true := decide_eq_true c8
            clear c8
            obtain rfl := Option.some.inj H
            go_wp2
            go_ret
            exact ⟨by first | rfl | (simp; done) | (simp [*]; done), by repeat (first | exact Drawn0.refl _ | apply Drawn0.step)⟩
          · rw [if_neg c8] at H
            have c8b0 : decide (a0 < 2048) = false := decide_eq_false c8
            clear c8
            by_cases c9 : a0 < 65536
            · rw [if_pos c9] at H
              have c9b0 : decide (a0 < 65536) = true := decide_eq_true c9
              clear c9
              obtain rfl := Option.some.inj H
              go_wp2
              go_ret
              exact ⟨by first | rfl | (simp; done) | (simp [*]; done), by repeat (first | exact Drawn0.refl _ | apply Drawn0.step)⟩
            · rw [if_neg c9] at H
              have c9b0 : decide (a0 < 65536) = false := decide_eq_false c9
              clear c9
              obtain rfl := Option.some.inj H
              go_wp2
              go_ret
              exact ⟨by first | rfl | (simp; done) | (simp [*]; done), by repeat (first | exact Drawn0.refl _ | apply Drawn0.step)⟩
end Go.Proofs.Ytjdldlphfifggaa.X
end
section
namespace Go.Proofs.Ytjdldlphfifggaa.X
open Go.RowKit Go.Proofs.YtjdldlphfifggaaW.PrintWords Go.Proofs.YtjdldlphfifggaaW.PrintLast Go.Proofs.YtjdldlphfifggaaW.PrintMore
attribute [local go_sem] max2_int min2_int max_two min_two max_three min_three max_four min_four
set_option linter.unusedVariables false
set_option linter.unusedSimpArgs false
mutual
def utf_head.j0 : Nat → Int → Bool → Option (Int × Int)
  | 0, _, _ => none
  | k + 1, x0, x9 => if x9 = true then (some (2, wrap32 (Go.bits .and .u8 x0 31))) else (if x0 ≥ 224 then (utf_head.j1 k x0 (decide (x0 < 240))) else (utf_head.j1 k x0 false))
def utf_head.j1 : Nat → Int → Bool → Option (Int × Int)
  | 0, _, _ => none
  | k + 1, x0, x19 => if x19 = true then (some (3, wrap32 (Go.bits .and .u8 x0 15))) else (if x0 ≥ 240 then (if x0 < 245 then (some (4, wrap32 (Go.bits .and .u8 x0 7))) else (some (0, 0))) else (some (0, 0)))
end
def utf_head.f (k : Nat) (a0 : Int) : Option (Int × Int) := if a0 < 128 then (some (1, wrap32 (a0))) else (if a0 ≥ 194 then (utf_head.j0 k a0 (decide (a0 < 224))) else (utf_head.j0 k a0 false))
theorem utf_head.mono_l : ∀ k, (∀ y0 y1, LeO (utf_head.j0 k y0 y1) (utf_head.j0 (k + 1) y0 y1)) ∧ (∀ y0 y1, LeO (utf_head.j1 k y0 y1) (utf_head.j1 (k + 1) y0 y1))
  | 0 => ⟨fun _ _ r h => by simp [utf_head.j0] at h, fun _ _ r h => by simp [utf_head.j1] at h⟩
  | k + 1 => by
    obtain ⟨ih0, ih1⟩ := utf_head.mono_l k
    refine ⟨?_, ?_⟩
    · intro y0 y1
      unfold utf_head.j0
      repeat' first
      | (with_reducible exact ih0 _ _)
      | (with_reducible exact ih1 _ _)
      | (with_reducible exact LeO.refl _)
      | (with_reducible exact LeO.none _)
      | (with_reducible refine LeO.ite ?_ ?_)
      | (with_reducible refine LeO.bind ?_ (fun _ => ?_))
      | exact ih0 _ _
      | exact ih1 _ _
      | exact LeO.none _
      | refine LeO.ite ?_ ?_
      | refine LeO.bind ?_ (fun _ => ?_)
    · intro y0 y1
      unfold utf_head.j1
      repeat' first
      | (with_reducible exact ih0 _ _)
      | (with_reducible exact ih1 _ _)
      | (with_reducible exact LeO.refl _)
      | (with_reducible exact LeO.none _)
      | (with_reducible refine LeO.ite ?_ ?_)
      | (with_reducible refine LeO.bind ?_ (fun _ => ?_))
      | exact ih0 _ _
      | exact ih1 _ _
      | exact LeO.none _
      | refine LeO.ite ?_ ?_
      | refine LeO.bind ?_ (fun _ => ?_)
theorem utf_head.mono : ∀ a0 k, LeO (utf_head.f k a0) (utf_head.f (k + 1) a0) := by
  intro a0 k
  obtain ⟨ih0, ih1⟩ := utf_head.mono_l k
  unfold utf_head.f
  repeat' first
      | (with_reducible exact ih0 _ _)
      | (with_reducible exact ih1 _ _)
      | (with_reducible exact LeO.refl _)
      | (with_reducible exact LeO.none _)
      | (with_reducible refine LeO.ite ?_ ?_)
      | (with_reducible refine LeO.bind ?_ (fun _ => ?_))
      | exact ih0 _ _
      | exact ih1 _ _
      | exact LeO.none _
      | refine LeO.ite ?_ ?_
      | refine LeO.bind ?_ (fun _ => ?_)
set_option maxHeartbeats 8000000 in
set_option maxRecDepth 100000 in
theorem utf_head.calls (k : Nat) (a0 : Int) (r1 : Int) (r2 : Int) (w : World) (h : utf_head.f k a0 = some (r1, r2)) :
    Calls Try.prog 150 #[.int .u8 a0] w fun e w' => e = .returned (.tuple #[.int .i64 r1, .int .i32 r2]) ∧ Drawn0 w w' := by
  have H : (if a0 < 128 then (some (1, wrap32 (a0))) else (if a0 ≥ 194 then (utf_head.j0 k a0 (decide (a0 < 224))) else (utf_head.j0 k a0 false))) = some (r1, r2) := h
  clear h
  by_cases c2 : a0 < 128
  · rw [if_pos c2] at H
    have c2b0 : decide (a0 < 128) = true := decide_eq_true c2
    clear c2
    simp only [Option.some.injEq, Prod.mk.injEq] at H
    obtain ⟨rfl, rfl⟩ := H
    go_enter Try.func150, Try.ntmps150
    go_wp2
    go_ret2
    exact ⟨by first | rfl | (simp; done) | (simp [*]; done), by repeat (first | exact Drawn0.refl _ | apply Drawn0.step)⟩
  · rw [if_neg c2] at H
    have c2b0 : decide (a0 < 128) = false := decide_eq_false c2
    clear c2
    have HC3 := Aside0.mk H
    clear H
    go_enter Try.func150, Try.ntmps150
    go_upto_region 3 with (fail)
    go_cut [9] (fun v9 wc => ∃ (kq : Nat) (x9_2 : Bool), v9 = .bool x9_2 ∧ Aside0 (utf_head.j0 kq a0 x9_2 = some (r1, r2)) ∧ Aside0 (kq ≤ k) ∧ Drawn0 w wc)
    case first =>
      have H := HC3.out
      clear HC3
      by_cases c4 : a0 ≥ 194
      · rw [if_pos c4] at H
        have c4b0 : decide (194 ≤ a0) = true := decide_eq_true c4
        clear c4
        (first | rw [c4b0] | (simp only [i64_w, i32_w]; rw [c4b0]) | skip)
        have H' := Aside0.mk H
        clear H
        go_wp2
        go_meet
        case rel => exact ⟨_, (decide (a0 < 224)), (by first | rfl | (simp; done) | (simp [*]; done)), (by first | with_reducible exact H' | exact H' | (subst_vars; exact H')), ⟨by first | omega | exact Nat.le_refl _⟩, by repeat (first | exact Drawn0.refl _ | apply Drawn0.step)⟩
      · rw [if_neg c4] at H
        have c4b0 : decide (194 ≤ a0) = false := decide_eq_false c4
        clear c4
        (first | rw [c4b0] | (simp only [i64_w, i32_w]; rw [c4b0]) | skip)
        have H' := Aside0.mk H
        clear H
        go_wp2
        go_meet
        case rel => exact ⟨_, (false), (by first | rfl | (simp; done) | (simp [*]; done)), (by first | with_reducible exact H' | exact H' | (subst_vars; exact H')), ⟨by first | omega | exact Nat.le_refl _⟩, by repeat (first | exact Drawn0.refl _ | apply Drawn0.step)⟩
    case rest =>
      clear HC3
      try clear c1
      try clear c2
      try clear c2b0
      try clear p2
      try clear p3
      try clear c4
      try clear c4b0
      obtain ⟨kq, x9_2, rfl, HA, HJ2, ⟨mc2, rfl⟩⟩ := hcut
      cases kq with
      | zero => exact absurd HA.out (by simp [utf_head.j0])
      | succ kj2 =>
        have H := HA.out
        clear HA
        simp only [utf_head.j0] at H
        by_cases c5 : x9_2 = true
        · subst c5
          have H1 : (some (2, wrap32 (Go.bits .and .u8 a0 31))) = some (r1, r2) := by rw [if_pos rfl] at H; exact H
          clear H
          have H := H1
          clear H1
          simp only [Option.some.injEq, Prod.mk.injEq] at H
          obtain ⟨rfl, rfl⟩ := H
          go_wp2
          go_ret2
          exact ⟨by first | rfl | (simp; done) | (simp [*]; done), by repeat (first | exact Drawn0.refl _ | apply Drawn0.step)⟩
        · replace c5 := Bool.eq_false_iff.mpr c5
          subst c5
          have H1 : (if a0 ≥ 224 then (utf_head.j1 kj2 a0 (decide (a0 < 240))) else (utf_head.j1 kj2 a0 false)) = some (r1, r2) := by rw [if_neg (show ¬ (false = true) by decide)] at H; exact H
          clear H
          have H := H1
          clear H1
          have HC6 := Aside0.mk H
          clear H
          go_upto_region 5 with (fail)
          go_cut [19] (fun v19 wc => ∃ (kq : Nat) (x19_5 : Bool), v19 = .bool x19_5 ∧ Aside0 (utf_head.j1 kq a0 x19_5 = some (r1, r2)) ∧ Aside0 (kq ≤ kj2) ∧ Drawn0 w wc)
          case first =>
            have H := HC6.out
            clear HC6
            by_cases c7 : a0 ≥ 224
            · rw [if_pos c7] at H
              have c7b0 : decide (224 ≤ a0) = true := decide_eq_true c7
              clear c7
              (first | rw [c7b0] | (simp only [i64_w, i32_w]; rw [c7b0]) | skip)
              have H' := Aside0.mk H
              clear H
              go_wp2
              go_meet
              case rel => exact ⟨_, (decide (a0 < 240)), (by first | rfl | (simp; done) | (simp [*]; done)), (by first | with_reducible exact H' | exact H' | (subst_vars; exact H')), ⟨by have := HJ2.out; first | omega | exact Nat.le_refl _⟩, by repeat (first | exact Drawn0.refl _ | apply Drawn0.step)⟩
            · rw [if_neg c7] at H
              have c7b0 : decide (224 ≤ a0) = false := decide_eq_false c7
              clear c7
              (first | rw [c7b0] | (simp only [i64_w, i32_w]; rw [c7b0]) | skip)
              have H' := Aside0.mk H
              clear H
              go_wp2
              go_meet
              case rel => exact ⟨_, (false), (by first | rfl | (simp; done) | (simp [*]; done)), (by first | with_reducible exact H' | exact H' | (subst_vars; exact H')), ⟨by have := HJ2.out; first | omega | exact Nat.le_refl _⟩, by repeat (first | exact Drawn0.refl _ | apply Drawn0.step)⟩
          case rest =>
            clear HC6
            try clear c1
            try clear c2
            try clear c2b0
            try clear p2
            try clear p3
            try clear c4
            try clear c4b0
            try clear c5
            try clear c7
            try clear c7b0
            try clear p2
            try clear p3
            obtain ⟨kq, x19_5, rfl, HA, HJ5, ⟨mc5, rfl⟩⟩ := hcut
            cases kq with
            | zero => exact absurd HA.out (by simp [utf_head.j1])
            | succ kj5 =>
              have H := HA.out
              clear HA
              simp only [utf_head.j1] at H
              by_cases c8 : x19_5 = true
              · subst c8
                have H1 : (some (3, wrap32 (Go.bits .and .u8 a0 15))) = some (r1, r2) := by rw [if_pos rfl] at H; exact H
                clear H
                have H := H1
                clear H1
                simp only [Option.some.injEq, Prod.mk.injEq] at H
                obtain ⟨rfl, rfl⟩ := H
                go_wp2
                go_ret2
                exact ⟨by first | rfl | (simp; done) | (simp [*]; done), by repeat (first | exact Drawn0.refl _ | apply Drawn0.step)⟩
              · replace c8 := Bool.eq_false_iff.mpr c8
                subst c8
                have H1 : (if a0 ≥ 240 then (if a0 < 245 then (some (4, wrap32 (Go.bits .and .u8 a0 7))) else (some (0, 0))) else (some (0, 0))) = some (r1, r2) := by rw [if_neg (show ¬ (false = true) by decide)] at H; exact H
                clear H
                have H := H1
                clear H1
                by_cases c9 : a0 ≥ 240
                · rw [if_pos c9] at H
                  have c9b0 : decide (240 ≤ a0) = true := decide_eq_true c9
                  clear c9
                  by_cases c10 : a0 < 245
                  · rw [if_pos c10] at H
                    have c10b0 : decide (a0 < 245) = true := decide_eq_true c10
                    clear c10
                    simp only [Option.some.injEq, Prod.mk.injEq] at H
                    obtain ⟨rfl, rfl⟩ := H
                    go_wp2
                    go_ret2
                    exact ⟨by first | rfl | (simp; done) | (simp [*]; done), by repeat (first | exact Drawn0.refl _ | apply Drawn0.step)⟩
                  · rw [if_neg c10] at H
                    have c10b0 : decide (a0 < 245) = false := decide_eq_false c10
                    clear c10
                    simp only [Option.some.injEq, Prod.mk.injEq] at H
                    obtain ⟨rfl, rfl⟩ := H
                    go_wp2
                    go_ret2
                    exact ⟨by first | rfl | (simp; done) | (simp [*]; done), by repeat (first | exact Drawn0.refl _ | apply Drawn0.step)⟩
                · rw [if_neg c9] at H
                  have c9b0 : decide (240 ≤ a0) = false := decide_eq_false c9
                  clear c9
                  simp only [Option.some.injEq, Prod.mk.injEq] at H
                  obtain ⟨rfl, rfl⟩ := H
                  go_wp2
                  go_ret2
                  exact ⟨by first | rfl | (simp; done) | (simp [*]; done), by repeat (first | exact Drawn0.refl _ | apply Drawn0.step)⟩
end Go.Proofs.Ytjdldlphfifggaa.X
end
section
namespace Go.Proofs.Ytjdldlphfifggaa.X
open Go.RowKit Go.Proofs.YtjdldlphfifggaaW.PrintWords Go.Proofs.YtjdldlphfifggaaW.PrintLast Go.Proofs.YtjdldlphfifggaaW.PrintMore
set_option linter.unusedVariables false
set_option linter.unusedSimpArgs false
def utf_Next.l0 : Nat → ByteArray → Int → Int → Int → Int → Option (Int × Int × Bool)
  | 0, _, _, _, _, _ => none
  | k + 1, s, a, n, i, r => if i < n - 1 then (if Go.bits .and .u8 (bt s (a + 1 + i)) 192 = 128 then utf_Next.l0 k s a n (i + 1) (Go.bits .or .i32 (wrap32 (r * 64)) (Go.bits .and .u8 (bt s (a + 1 + i)) 63)) else some (0, 0, false)) else ((utf_size.f k r).bind fun t => if t = n then some (r, n, true) else some (0, 0, false))
def utf_Next.f (k : Nat) (s : ByteArray) (a : Int) : Option (Int × Int × Bool) :=
  if s.size ≤ 140737488351232 then (if a < 0 then some (0, 0, false) else if a ≥ (s.size : Int) then some (0, 0, false) else (utf_head.f k (bt s a)).bind fun hd => if hd.1 = 0 then some (0, 0, false) else if hd.1 > (s.size : Int) - a then some (0, 0, false) else utf_Next.l0 k s a hd.1 0 hd.2) else none
theorem utf_Next.mono_l : ∀ k s a n i r, LeO (utf_Next.l0 k s a n i r) (utf_Next.l0 (k + 1) s a n i r)
  | 0 => fun _ _ _ _ _ r h => by simp [utf_Next.l0] at h
  | k + 1 => by
    have ih0 := utf_Next.mono_l k
    intro s a n i r
    unfold utf_Next.l0
    repeat' first
      | exact ih0 _ _ _ _ _
      | exact utf_size.mono _ _
      | exact LeO.refl _
      | refine LeO.ite ?_ ?_
      | refine LeO.bind ?_ (fun _ => ?_)
theorem utf_Next.mono : ∀ a0 a1 k, LeO (utf_Next.f k a0 a1) (utf_Next.f (k + 1) a0 a1) := by
  intro a0 a1 k
  unfold utf_Next.f
  repeat' first
      | exact utf_Next.mono_l _ _ _ _ _ _
      | exact utf_head.mono _ _
      | exact LeO.refl _
      | refine LeO.ite ?_ ?_
      | refine LeO.bind ?_ (fun _ => ?_)
theorem utf_head_range {k : Nat} {c n r : Int} (h : utf_head.f k c = some (n, r)) : n = 0 ∨ (1 ≤ n ∧ n ≤ 4) := by
  unfold utf_head.f at h
  cases k with
  | zero =>
    simp only [utf_head.j0] at h
    split at h
    · simp at h; omega
    · split at h <;> simp at h
  | succ k =>
    simp only [utf_head.j0] at h
    cases k with
    | zero =>
      simp only [utf_head.j1] at h
      repeat' split at h
      all_goals simp at h
      all_goals omega
    | succ k =>
      simp only [utf_head.j1] at h
      repeat' split at h
      all_goals simp at h
      all_goals omega
theorem wrap32_and63 (c : Int) : wrap32 (Go.bits .and .u8 c 63) = Go.bits .and .u8 c 63 := by
  unfold Go.bits
  rw [IntKind.wrap_u8]
  unfold wrap32
  omega
theorem bytesWorld_below {w w1 : World} (h : Below w.heap.size w w1) (e : TypeId) (s : ByteArray) : Below w.heap.size w (Lib.bytesWorld w1 e s) := by
  refine h.trans ⟨rfl, rfl, rfl, by rw [Lib.bytesWorld_size]; omega, fun k hk => Lib.bytesWorld_at_old w1 e s k (by have := h.size; omega)⟩
set_option maxHeartbeats 1600000 in
set_option maxRecDepth 100000 in
theorem utf_Next.calls (k : Nat) (a0 : ByteArray) (a1 : Int) (r1 r2 : Int) (r3 : Bool) (w : World) (h : utf_Next.f k a0 a1 = some (r1, r2, r3)) :
    Calls Try.prog 133 #[.string a0, .int .i64 a1] w fun e w' => e = .returned (.tuple #[.int .i32 r1, .int .i64 r2, .bool r3]) ∧ Below w.heap.size w w' := by
  have H := h
  clear h
  unfold utf_Next.f at H
  have hs : a0.size ≤ 140737488351232 := by
    by_cases hs : a0.size ≤ 140737488351232
    · exact hs
    · rw [if_neg hs] at H; cases H
  rw [if_pos hs] at H
  by_cases c1 : a1 < 0
  · rw [if_pos c1] at H
    cases H
    go_enter Try.func133, Try.ntmps133
    go_wp2
    go_ret3
    exact ⟨rfl, Below.refl _ _⟩
  rw [if_neg c1] at H
  by_cases c2 : a1 ≥ (a0.size : Int)
  · rw [if_pos c2] at H
    cases H
    go_enter Try.func133, Try.ntmps133
    go_wp2
    go_ret3
    exact ⟨rfl, Below.refl _ _⟩
  rw [if_neg c2] at H
  obtain ⟨⟨n, r⟩, A1, H⟩ := Option.bind_eq_some_iff.1 H
  have hn := utf_head_range A1
  have A1 := Aside0.mk A1
  simp only at H
  by_cases c3 : n = 0
  · rw [if_pos c3] at H
    cases H
    subst c3
    go_enter Try.func133, Try.ntmps133
    go_wp2_with (go_at_call 150; (try simp only [bt_at]); refine (utf_head.calls k _ _ _ _ A1.out).mono ?_; rintro e w1 ⟨rfl, ⟨m1, rfl⟩⟩)
    go_ret3
    exact ⟨rfl, by repeat (first | exact Below.refl _ _ | apply below_drew1 | apply pw_below_drewN)⟩
  rw [if_neg c3] at H
  by_cases c4 : n > (a0.size : Int) - a1
  · rw [if_pos c4] at H
    cases H
    go_enter Try.func133, Try.ntmps133
    go_wp2_with (go_at_call 150; (try simp only [bt_at]); refine (utf_head.calls k _ _ _ _ A1.out).mono ?_; rintro e w1 ⟨rfl, ⟨m1, rfl⟩⟩)
    go_ret3
    exact ⟨rfl, by repeat (first | exact Below.refl _ _ | apply below_drew1 | apply pw_below_drewN)⟩
  rw [if_neg c4] at H
  have H' := Aside0.mk H
  clear H
  have hn1 : 1 ≤ n := by omega
  have e1 : (n == 0) = false := by simpa using c3
  have e2 : decide ((a0.size : Int) - a1 < n) = false := by simpa using c4
  have e3 : 0 ≤ a1 + 1 := by omega
  have e4 : a1 + n ≤ (a0.size : Int) := by omega
  have e5 : 0 ≤ a1 := by omega
  have e6 : a1 < (a0.size : Int) := by omega
  have hcv := fun (w : World) (s : ByteArray) => Lib.run_convert_string_bytes (P := Try.prog) w 9 178 5 s Try.underlying9 Try.underlying178 Try.underlying5
  go_enter Try.func133, Try.ntmps133
  go_wp2_with (go_at_call 150; (try simp only [bt_at]); refine (utf_head.calls k _ _ _ _ A1.out).mono ?_; rintro e w1 ⟨rfl, ⟨m1, rfl⟩⟩)
  obtain ⟨L, hL⟩ : ∃ L : Nat, n = (L : Int) + 1 := ⟨(n - 1).toNat, by omega⟩
  have hLn : (a1 + n).toNat - (a1 + 1).toNat = L := by omega
  have hsz : (a0.extract (a1 + 1).toNat (a1 + n).toNat).size = L := by rw [ByteArray.size_extract]; omega
  generalize hW : Lib.bytesWorld (w.drewN m1) 5 (a0.extract (a1 + 1).toNat (a1 + n).toNat) = W
  have hc : ∀ j : Nat, j < L → W.cell? ⟨w.heap.size, j, none⟩ = some (.int .u8 (bt a0 (a1 + 1 + (j : Int)))) := fun j hj => by
    rw [← hW]
    have h1 := Lib.bytesWorld_cell (w.drewN m1) 5 (a0.extract (a1 + 1).toNat (a1 + n).toNat) j (by omega)
    have h2 := bt_ext a0 (a1 + 1).toNat (a1 + n).toNat j (by omega) (by omega)
    rw [show (((a1 + 1).toNat + j : Nat) : Int) = a1 + 1 + (j : Int) by omega] at h2
    rw [← h2, bt_nat _ j (by omega)]
    have h3 : (a0.extract (a1 + 1).toNat (a1 + n).toNat).data.toList.getD j 0 = (a0.extract (a1 + 1).toNat (a1 + n).toNat)[j]'(by omega) := by
      rw [List.getD_eq_getElem?_getD, List.getElem?_eq_getElem (by rw [Array.length_toList]; have h9 : (a0.extract (a1 + 1).toNat (a1 + n).toNat).data.size = L := hsz; omega)]
      rfl
    rw [h3] at h1
    exact h1
  have hBW : Below w.heap.size w W := by
    rw [← hW]
    exact bytesWorld_below (pw_below_drewN (Below.refl _ _) _) _ _
  rw [hLn]
  go_loopg [4, 9, 44] k (fun kq v4 v9 v44 w' => ∃ (x4 : Int) (j : Nat), v4 = .int .i32 x4 ∧ v44 = .int .i64 (j : Int) ∧ Aside0 (utf_Next.l0 kq a0 a1 n (j : Int) x4 = some (r1, r2, r3)) ∧ Aside0 (kq ≤ k) ∧ j ≤ L ∧ ∃ m, w' = W.drewN m)
  case atStart => exact ⟨_, 0, rfl, rfl, H', ⟨Nat.le_refl _⟩, Nat.zero_le _, 0, rfl⟩
  case round =>
    clear H'
    obtain ⟨x4, j, rfl, rfl, HA, HK1, hjL, m2, rfl⟩ := hrel
    cases gk with
    | zero => exact absurd HA.out (by simp [utf_Next.l0])
    | succ k1 =>
      have H := HA.out
      clear HA
      simp only [utf_Next.l0] at H
      by_cases d1 : (j : Int) < n - 1
      · rw [if_pos d1] at H
        have hcj := hc j (by omega)
        have dj : (j : Int) < (L : Int) := by omega
        generalize hbt : bt a0 (a1 + 1 + (j : Int)) = c at H hcj
        by_cases d2 : Go.bits .and .u8 c 192 = 128
        · rw [if_pos d2] at H
          have H' := Aside0.mk H
          clear H
          go_wp2
          go_roundg k1
          case measure => have := HK1.out; omega
          case rel => exact ⟨_, j + 1, rfl, rfl, by rw [wrap32_and63] ; exact H', ⟨by have := HK1.out; omega⟩, by omega, m2, rfl⟩
        · rw [if_neg d2] at H
          cases H
          go_wp2
          go_ret3
          exact ⟨rfl, by repeat (first | exact hBW | apply below_drew1 | apply pw_below_drewN)⟩
      · rw [if_neg d1] at H
        have dj : ¬ ((j : Int) < (L : Int)) := by omega
        obtain ⟨t, A2, H⟩ := Option.bind_eq_some_iff.1 H
        have A2 := Aside0.mk A2
        by_cases d3 : t = n
        · rw [if_pos d3] at H
          cases H
          go_wp2_with (go_at_call 103; refine (utf_size.calls _ _ _ _ A2.out).mono ?_; rintro e w1 ⟨rfl, ⟨m3, rfl⟩⟩)
          go_ret3
          exact ⟨by simp_all, by repeat (first | exact hBW | apply below_drew1 | apply pw_below_drewN)⟩
        · rw [if_neg d3] at H
          cases H
          go_wp2_with (go_at_call 103; refine (utf_size.calls _ _ _ _ A2.out).mono ?_; rintro e w1 ⟨rfl, ⟨m3, rfl⟩⟩)
          go_ret3
          exact ⟨by simp_all, by repeat (first | exact hBW | apply below_drew1 | apply pw_below_drewN)⟩
end Go.Proofs.Ytjdldlphfifggaa.X
end
section
namespace Go.Proofs.Ytjdldlphfifggaa.X
open Go.RowKit Go.Proofs.YtjdldlphfifggaaW.PrintWords Go.Proofs.YtjdldlphfifggaaW.PrintLast Go.Proofs.YtjdldlphfifggaaW.PrintMore
set_option linter.unusedVariables false
set_option linter.unusedSimpArgs false
def utf_sz (r : Int) : Int := if r < 0 ∨ r > 1114111 ∨ (r ≥ 55296 ∧ r ≤ 57343) then 0 else if r < 128 then 1 else if r < 2048 then 2 else if r < 65536 then 3 else 4
theorem utf_size_f (k : Nat) (r : Int) : utf_size.f (k + 1) r = some (utf_sz r) := by
  unfold utf_size.f utf_sz
  simp only [utf_size.j0]
  by_cases c1 : r < 0
  · simp [c1]
  · by_cases c2 : r > 1114111
    · simp [c1, c2]
    · by_cases c3 : r ≥ 55296
      · by_cases c4 : r ≤ 57343
        · simp [c1, c2, c3, c4]
        · simp [c1, c2, c3, c4]
          (repeat' split) <;> rfl
      · simp [c1, c2, c3]
        (repeat' split) <;> rfl
theorem boxv (W : World) (v : Value) (t : TypeId) : (W.alloc (.cells #[v] t)).cell? ⟨W.heap.size, 0, none⟩ = some v ∧ (W.alloc (.cells #[v] t)).frozen? ⟨W.heap.size, 0, none⟩ = false := by
  have h := World.alloc_heap_new W (.cells #[v] t)
  constructor
  · unfold World.cell?; rw [h]; rfl
  · unfold World.frozen?; rw [h]; rfl
theorem boxv_cell {W : World} {a : Addr} {v : Value} (o : Obj) (h : W.cell? a = some v) : (W.alloc o).cell? a = some v := Go.cell_kept h (World.grownBy_alloc W o none) (fun r e => by cases e)
theorem boxv_frozen {W : World} {a : Addr} {v : Value} (o : Obj) (h : W.cell? a = some v) (hf : W.frozen? a = false) : (W.alloc o).frozen? a = false := (Go.frozen_kept h (World.grownBy_alloc W o none) (fun r e => by cases e)).trans hf
end Go.Proofs.Ytjdldlphfifggaa.X
end
section
namespace Go.Proofs.Ytjdldlphfifggaa.X
open Go.RowKit Go.Proofs.YtjdldlphfifggaaW.PrintWords Go.Proofs.YtjdldlphfifggaaW.PrintLast Go.Proofs.YtjdldlphfifggaaW.PrintMore
attribute [local go_sem] max2_int min2_int max_two min_two max_three min_three max_four min_four
set_option linter.unusedVariables false
set_option linter.unusedSimpArgs false
mutual
def sealringref03_loose.j0 : Nat → ByteArray → Int → Option (Int)
  | 0, _, _ => none
  | k + 1, x0, x3 => if (x0.size : Int) = 3 then (sealringref03_loose.j1 k x0 (Int.tmod x3 16)) else (sealringref03_loose.j1 k x0 x3)
def sealringref03_loose.j1 : Nat → ByteArray → Int → Option (Int)
  | 0, _, _ => none
  | k + 1, x0, x3 => if (x0.size : Int) = 4 then (sealringref03_loose.j2 k x0 (Int.tmod x3 8)) else (sealringref03_loose.j2 k x0 x3)
def sealringref03_loose.j2 : Nat → ByteArray → Int → Option (Int)
  | 0, _, _ => none
  | k + 1, x0, x3 => sealringref03_loose.l0 k x0 x3 1
def sealringref03_loose.l0 : Nat → ByteArray → Int → Int → Option (Int)
  | 0, _, _, _ => none
  | k + 1, x0, x3, x4 => if x4 < (x0.size : Int) then (if 0 ≤ x4 then (sealringref03_loose.l0 k x0 (wrap64 ((wrap64 (64 * x3)) + (wrap64 (Int.tmod (bt x0 x4) 64)))) (wrap64 (x4 + 1))) else (none)) else (some x3)
end
def sealringref03_loose.f (k : Nat) (a0 : ByteArray) : Option (Int) := if 0 < (a0.size : Int) then (if (a0.size : Int) = 2 then (sealringref03_loose.j0 k a0 (Int.tmod (wrap64 (bt a0 0)) 32)) else (sealringref03_loose.j0 k a0 (wrap64 (bt a0 0)))) else (none)
theorem sealringref03_loose.mono_l : ∀ k, (∀ y0 y1, LeO (sealringref03_loose.j0 k y0 y1) (sealringref03_loose.j0 (k + 1) y0 y1)) ∧ (∀ y0 y1, LeO (sealringref03_loose.j1 k y0 y1) (sealringref03_loose.j1 (k + 1) y0 y1)) ∧ (∀ y0 y1, LeO (sealringref03_loose.j2 k y0 y1) (sealringref03_loose.j2 (k + 1) y0 y1)) ∧ (∀ y0 y1 y2, LeO (sealringref03_loose.l0 k y0 y1 y2) (sealringref03_loose.l0 (k + 1) y0 y1 y2))
  | 0 => ⟨fun _ _ r h => by simp [sealringref03_loose.j0] at h, fun _ _ r h => by simp [sealringref03_loose.j1] at h, fun _ _ r h => by simp [sealringref03_loose.j2] at h, fun _ _ _ r h => by simp [sealringref03_loose.l0] at h⟩
  | k + 1 => by
    obtain ⟨ih0, ih1, ih2, ih3⟩ := sealringref03_loose.mono_l k
    refine ⟨?_, ?_, ?_, ?_⟩
    · intro y0 y1
      unfold sealringref03_loose.j0
      repeat' first
      | (with_reducible exact ih0 _ _)
      | (with_reducible exact ih1 _ _)
      | (with_reducible exact ih2 _ _)
      | (with_reducible exact ih3 _ _ _)
      | (with_reducible exact LeO.refl _)
      | (with_reducible exact LeO.none _)
      | (with_reducible refine LeO.ite ?_ ?_)
      | (with_reducible refine LeO.bind ?_ (fun _ => ?_))
      | exact ih0 _ _
      | exact ih1 _ _
      | exact ih2 _ _
      | exact ih3 _ _ _
      | exact LeO.none _
      | refine LeO.ite ?_ ?_
      | refine LeO.bind ?_ (fun _ => ?_)
    · intro y0 y1
      unfold sealringref03_loose.j1
      repeat' first
      | (with_reducible exact ih0 _ _)
      | (with_reducible exact ih1 _ _)
      | (with_reducible exact ih2 _ _)
      | (with_reducible exact ih3 _ _ _)
      | (with_reducible exact LeO.refl _)
      | (with_reducible exact LeO.none _)
      | (with_reducible refine LeO.ite ?_ ?_)
      | (with_reducible refine LeO.bind ?_ (fun _ => ?_))
      | exact ih0 _ _
      | exact ih1 _ _
      | exact ih2 _ _
      | exact ih3 _ _ _
      | exact LeO.none _
      | refine LeO.ite ?_ ?_
      | refine LeO.bind ?_ (fun _ => ?_)
    · intro y0 y1
      unfold sealringref03_loose.j2
      repeat' first
      | (with_reducible exact ih0 _ _)
      | (with_reducible exact ih1 _ _)
      | (with_reducible exact ih2 _ _)
      | (with_reducible exact ih3 _ _ _)
      | (with_reducible exact LeO.refl _)
      | (with_reducible exact LeO.none _)
      | (with_reducible refine LeO.ite ?_ ?_)
      | (with_reducible refine LeO.bind ?_ (fun _ => ?_))
      | exact ih0 _ _
      | exact ih1 _ _
      | exact ih2 _ _
      | exact ih3 _ _ _
      | exact LeO.none _
      | refine LeO.ite ?_ ?_
      | refine LeO.bind ?_ (fun _ => ?_)
    · intro y0 y1 y2
      unfold sealringref03_loose.l0
      repeat' first
      | (with_reducible exact ih0 _ _)
      | (with_reducible exact ih1 _ _)
      | (with_reducible exact ih2 _ _)
      | (with_reducible exact ih3 _ _ _)
      | (with_reducible exact LeO.refl _)
      | (with_reducible exact LeO.none _)
      | (with_reducible refine LeO.ite ?_ ?_)
      | (with_reducible refine LeO.bind ?_ (fun _ => ?_))
      | exact ih0 _ _
      | exact ih1 _ _
      | exact ih2 _ _
      | exact ih3 _ _ _
      | exact LeO.none _
      | refine LeO.ite ?_ ?_
      | refine LeO.bind ?_ (fun _ => ?_)
theorem sealringref03_loose.mono : ∀ a0 k, LeO (sealringref03_loose.f k a0) (sealringref03_loose.f (k + 1) a0) := by
  intro a0 k
  obtain ⟨ih0, ih1, ih2, ih3⟩ := sealringref03_loose.mono_l k
  unfold sealringref03_loose.f
  repeat' first
      | (with_reducible exact ih0 _ _)
      | (with_reducible exact ih1 _ _)
      | (with_reducible exact ih2 _ _)
      | (with_reducible exact ih3 _ _ _)
      | (with_reducible exact LeO.refl _)
      | (with_reducible exact LeO.none _)
      | (with_reducible refine LeO.ite ?_ ?_)
      | (with_reducible refine LeO.bind ?_ (fun _ => ?_))
      | exact ih0 _ _
      | exact ih1 _ _
      | exact ih2 _ _
      | exact ih3 _ _ _
      | exact LeO.none _
      | refine LeO.ite ?_ ?_
      | refine LeO.bind ?_ (fun _ => ?_)
set_option maxHeartbeats 8000000 in
set_option maxRecDepth 100000 in
theorem sealringref03_loose.calls (k : Nat) (a0 : ByteArray) (r : Int) (w : World) (h : sealringref03_loose.f k a0 = some r) :
    Calls Try.prog 171 #[.string a0] w fun e w' => e = .returned (.int .i64 r) ∧ Drawn0 w w' := by
  have H : (if 0 < (a0.size : Int) then (if (a0.size : Int) = 2 then (sealringref03_loose.j0 k a0 (Int.tmod (wrap64 (bt a0 0)) 32)) else (sealringref03_loose.j0 k a0 (wrap64 (bt a0 0)))) else (none)) = some r := h
  clear h
  by_cases c2 : 0 < (a0.size : Int)
  · rw [if_pos c2] at H
    have c2b0 : decide (0 < (a0.size : Int)) = true := decide_eq_true c2
    have c2b1 : decide (0 < a0.size) = true := decide_eq_true (by omega)
    clear c2
    have HC4 := Aside0.mk H
    clear H
    have p3 : 0 ≤ (0 : Int) := (by omega)
    have q3 : 0 < a0.size := (by have : (0 : Int) < (a0.size : Int) := of_decide_eq_true (by first | (with_reducible assumption) | assumption); omega)
    have hx3 : ∀ h : 0 < a0.size, ((a0[0]'h).toNat : Int) = bt a0 0 := bt_at a0 0
    clear p3
    have qi3 : (0 < (a0.size : Int)) = True := eq_true (of_decide_eq_true (by first | (with_reducible assumption) | assumption))
    replace q3 := eq_true q3
    go_enter Try.func171, Try.ntmps171
    go_upto_if 10 with (fail)
    go_cut [3] (fun v3 wc => ∃ (kq : Nat) (x3_3 : Int), v3 = .int .i64 x3_3 ∧ Aside0 (sealringref03_loose.j0 kq a0 x3_3 = some r) ∧ Aside0 (kq ≤ k) ∧ Drawn0 w wc)
    case first =>
      have H := HC4.out
      clear HC4
      by_cases c5 : (a0.size : Int) = 2
      · rw [if_pos c5] at H
        have c5b0 : ((a0.size : Int) == 2) = true := beq_iff_eq.mpr c5
        have c5b1 : ((a0.size : Int) != 2) = false := bne_eq_false_iff_eq.mpr c5
        clear c5
        (first | rw [c5b0] | (simp only [i64_w, i32_w]; rw [c5b0]) | skip)
        have H' := Aside0.mk H
        clear H
        go_wp2
        go_meet
        case rel => exact ⟨_, (Int.tmod (wrap64 (bt a0 0)) 32), (by first | rfl | (simp; done) | (simp [*]; done)), (by first | with_reducible exact H' | exact H' | (subst_vars; exact H')), ⟨by first | omega | exact Nat.le_refl _⟩, by repeat (first | exact Drawn0.refl _ | apply Drawn0.step)⟩
      · rw [if_neg c5] at H
        have c5b0 : ((a0.size : Int) == 2) = false := beq_eq_false_iff_ne.mpr c5
        have c5b1 : ((a0.size : Int) != 2) = true := bne_iff_ne.mpr c5
        (first | rw [c5b0] | (simp only [i64_w, i32_w]; rw [c5b0]) | skip)
        have H' := Aside0.mk H
        clear H
        go_wp2
        go_meet
        case rel => exact ⟨_, (wrap64 (bt a0 0)), (by first | rfl | (simp; done) | (simp [*]; done)), (by first | with_reducible exact H' | exact H' | (subst_vars; exact H')), ⟨by first | omega | exact Nat.le_refl _⟩, by repeat (first | exact Drawn0.refl _ | apply Drawn0.step)⟩
    case rest =>
      clear HC4
      try clear c1
      try clear c2
      try clear c2b0
      try clear c2b1
      try clear p2
      try clear p3
      try clear q3
      try clear hx3
      try clear qi3
      try clear c5
      try clear c5b0
      try clear c5b1
      try clear p3
      try clear q3
      obtain ⟨kq, x3_3, rfl, HA, HJ3, ⟨mc3, rfl⟩⟩ := hcut
      cases kq with
      | zero => exact absurd HA.out (by simp [sealringref03_loose.j0])
      | succ kj3 =>
        have H := HA.out
        clear HA
        simp only [sealringref03_loose.j0] at H
        have HC6 := Aside0.mk H
        clear H
        go_upto_if 15 with (fail)
        go_cut [3] (fun v3 wc => ∃ (kq : Nat) (x3_5 : Int), v3 = .int .i64 x3_5 ∧ Aside0 (sealringref03_loose.j1 kq a0 x3_5 = some r) ∧ Aside0 (kq ≤ kj3) ∧ Drawn0 w wc)
        case first =>
          have H := HC6.out
          clear HC6
          by_cases c7 : (a0.size : Int) = 3
          · rw [if_pos c7] at H
            have c7b0 : ((a0.size : Int) == 3) = true := beq_iff_eq.mpr c7
            have c7b1 : ((a0.size : Int) != 3) = false := bne_eq_false_iff_eq.mpr c7
            clear c7
            (first | rw [c7b0] | (simp only [i64_w, i32_w]; rw [c7b0]) | skip)
            have H' := Aside0.mk H
            clear H
            go_wp2
            go_meet
            case rel => exact ⟨_, (Int.tmod x3_3 16), (by first | rfl | (simp; done) | (simp [*]; done)), (by first | with_reducible exact H' | exact H' | (subst_vars; exact H')), ⟨by have := HJ3.out; first | omega | exact Nat.le_refl _⟩, by repeat (first | exact Drawn0.refl _ | apply Drawn0.step)⟩
          · rw [if_neg c7] at H
            have c7b0 : ((a0.size : Int) == 3) = false := beq_eq_false_iff_ne.mpr c7
            have c7b1 : ((a0.size : Int) != 3) = true := bne_iff_ne.mpr c7
            (first | rw [c7b0] | (simp only [i64_w, i32_w]; rw [c7b0]) | skip)
            have H' := Aside0.mk H
            clear H
            go_wp2
            go_meet
            case rel => exact ⟨_, (x3_3), (by first | rfl | (simp; done) | (simp [*]; done)), (by first | with_reducible exact H' | exact H' | (subst_vars; exact H')), ⟨by have := HJ3.out; first | omega | exact Nat.le_refl _⟩, by repeat (first | exact Drawn0.refl _ | apply Drawn0.step)⟩
        case rest =>
          clear HC6
          try clear c1
          try clear c2
          try clear c2b0
          try clear c2b1
          try clear p2
          try clear c3
          try clear p3
          try clear q3
          try clear hx3
          try clear qi3
          try clear c5
          try clear c5b0
          try clear c5b1
          try clear p6
          try clear c7
          try clear c7b0
          try clear c7b1
          try clear p2
          try clear p3
          try clear q3
          obtain ⟨kq, x3_5, rfl, HA, HJ5, ⟨mc5, rfl⟩⟩ := hcut
          cases kq with
          | zero => exact absurd HA.out (by simp [sealringref03_loose.j1])
          | succ kj5 =>
            have H := HA.out
            clear HA
            simp only [sealringref03_loose.j1] at H
            have HC8 := Aside0.mk H
            clear H
            go_upto_if 20 with (fail)
            go_cut [3] (fun v3 wc => ∃ (kq : Nat) (x3_7 : Int), v3 = .int .i64 x3_7 ∧ Aside0 (sealringref03_loose.j2 kq a0 x3_7 = some r) ∧ Aside0 (kq ≤ kj5) ∧ Drawn0 w wc)
            case first =>
              have H := HC8.out
              clear HC8
              by_cases c9 : (a0.size : Int) = 4
              · rw [if_pos c9] at H
                have c9b0 : ((a0.size : Int) == 4) = true := beq_iff_eq.mpr c9
                have c9b1 : ((a0.size : Int) != 4) = false := bne_eq_false_iff_eq.mpr c9
                clear c9
                (first | rw [c9b0] | (simp only [i64_w, i32_w]; rw [c9b0]) | skip)
                have H' := Aside0.mk H
                clear H
                go_wp2
                go_meet
                case rel => exact ⟨_, (Int.tmod x3_5 8), (by first | rfl | (simp; done) | (simp [*]; done)), (by first | with_reducible exact H' | exact H' | (subst_vars; exact H')), ⟨by have := HJ3.out; have := HJ5.out; first | omega | exact Nat.le_refl _⟩, by repeat (first | exact Drawn0.refl _ | apply Drawn0.step)⟩
              · rw [if_neg c9] at H
                have c9b0 : ((a0.size : Int) == 4) = false := beq_eq_false_iff_ne.mpr c9
                have c9b1 : ((a0.size : Int) != 4) = true := bne_iff_ne.mpr c9
                (first | rw [c9b0] | (simp only [i64_w, i32_w]; rw [c9b0]) | skip)
                have H' := Aside0.mk H
                clear H
                go_wp2
                go_meet
                case rel => exact ⟨_, (x3_5), (by first | rfl | (simp; done) | (simp [*]; done)), (by first | with_reducible exact H' | exact H' | (subst_vars; exact H')), ⟨by have := HJ3.out; have := HJ5.out; first | omega | exact Nat.le_refl _⟩, by repeat (first | exact Drawn0.refl _ | apply Drawn0.step)⟩
            case rest =>
              clear HC8
              try clear c1
              try clear c2
              try clear c2b0
              try clear c2b1
              try clear p2
              try clear c3
              try clear p3
              try clear q3
              try clear hx3
              try clear qi3
              try clear c5
              try clear c5b0
              try clear c5b1
              try clear p6
              try clear c7
              try clear c7b0
              try clear c7b1
              try clear c9
              try clear c9b0
              try clear c9b1
              try clear p2
              try clear p3
              try clear p6
              try clear q3
              obtain ⟨kq, x3_7, rfl, HA, HJ7, ⟨mc7, rfl⟩⟩ := hcut
              cases kq with
              | zero => exact absurd HA.out (by simp [sealringref03_loose.j2])
              | succ kj7 =>
                have H := HA.out
                clear HA
                simp only [sealringref03_loose.j2] at H
                have H' := Aside0.mk H
                clear H
                go_wp2
                go_loopg [3, 4] kj7 (fun kq v3 v4 w' => ∃ (x3_4 : Int) (x4_4 : Int), v3 = .int .i64 x3_4 ∧ v4 = .int .i64 x4_4 ∧ Aside0 (sealringref03_loose.l0 kq a0 x3_4 x4_4 = some r) ∧ Aside0 (kq ≤ kj7) ∧ Drawn0 w w')
                case atStart => exact ⟨(x3_7), (1), (by first | rfl | (simp; done) | (simp [*]; done)), (by first | rfl | (simp; done) | (simp [*]; done)), (by first | with_reducible exact H' | exact H' | (subst_vars; exact H')), ⟨Nat.le_refl _⟩, by repeat (first | exact Drawn0.refl _ | apply Drawn0.step)⟩
                case round =>
                  clear H'
                  try clear c1
                  try clear c2
                  try clear c2b0
                  try clear c2b1
                  try clear p2
                  try clear c3
                  try clear p3
                  try clear q3
                  try clear hx3
                  try clear qi3
                  try clear c5
                  try clear c5b0
                  try clear c5b1
                  try clear p6
                  try clear c7
                  try clear c7b0
                  try clear c7b1
                  try clear c9
                  try clear c9b0
                  try clear c9b1
                  try clear p2
                  try clear p3
                  try clear p6
                  try clear q3
                  obtain ⟨x3_4, x4_4, rfl, rfl, HA, HK4, ⟨m4, rfl⟩⟩ := hrel
                  cases gk with
                  | zero => exact absurd HA.out (by simp [sealringref03_loose.l0])
                  | succ k4 =>
                    have H := HA.out
                    clear HA
                    simp only [sealringref03_loose.l0] at H
                    by_cases c10 : x4_4 < (a0.size : Int)
                    · rw [if_pos c10] at H
                      have c10b0 : decide (x4_4 < (a0.size : Int)) = true := decide_eq_true c10
                      clear c10
                      by_cases c11 : 0 ≤ x4_4
                      · rw [if_pos c11] at H
                        have c11b0 : decide (0 ≤ x4_4) = true := decide_eq_true c11
                        clear c11
                        have H' := Aside0.mk H
                        clear H
                        have p12 : 0 ≤ (x4_4 : Int) := of_decide_eq_true (by first | (with_reducible assumption) | assumption)
                        have q12 : x4_4 < (a0.size : Int) := of_decide_eq_true (by first | (with_reducible assumption) | assumption)
                        have hx12 := bt_at a0 x4_4
                        replace p12 := eq_true p12
                        replace q12 := eq_true q12
                        go_wp2
                        go_roundg k4
                        case measure => have := HJ3.out; have := HJ5.out; have := HJ7.out; have := HK4.out; omega
                        case rel => exact ⟨(wrap64 ((wrap64 (64 * x3_4)) + (wrap64 (Int.tmod (bt a0 x4_4) 64)))), (wrap64 (x4_4 + 1)), (by first | rfl | (simp; done) | (simp [*]; done)), (by first | rfl | (simp; done) | (simp [*]; done)), (by first | with_reducible exact H' | exact H' | (subst_vars; exact H')), ⟨by have := HJ3.out; have := HJ5.out; have := HJ7.out; have := HK4.out; omega⟩, by repeat (first | exact Drawn0.refl _ | apply Drawn0.step)⟩
                      · rw [if_neg c11] at H
                        exact absurd H (by simp)
                    · rw [if_neg c10] at H
                      have c10b0 : decide (x4_4 < (a0.size : Int)) = false := decide_eq_false c10
                      clear c10
                      obtain rfl := Option.some.inj H
                      go_wp2
                      go_ret
                      exact ⟨by first | rfl | (simp; done) | (simp [*]; done), by repeat (first | exact Drawn0.refl _ | apply Drawn0.step)⟩
  · rw [if_neg c2] at H
    exact absurd H (by simp)
end Go.Proofs.Ytjdldlphfifggaa.X
end
section
namespace Go.Proofs.Ytjdldlphfifggaa.X
open Go.RowKit Go.Proofs.YtjdldlphfifggaaW.PrintWords Go.Proofs.YtjdldlphfifggaaW.PrintLast Go.Proofs.YtjdldlphfifggaaW.PrintMore
attribute [local go_sem] max2_int min2_int max_two min_two max_three min_three max_four min_four
set_option linter.unusedVariables false
set_option linter.unusedSimpArgs false
def sealringref03_Is.f (a0 : Int) : Option (Bool) := if a0 ≥ 0 then (if a0 ≤ 1114111 then (if a0 < 55296 then (some true) else (some (decide (a0 > 57343)))) else (some false)) else (some false)
set_option maxHeartbeats 8000000 in
set_option maxRecDepth 100000 in
theorem sealringref03_Is.calls (a0 : Int) (r : Bool) (w : World) (h : sealringref03_Is.f a0 = some r) :
    Calls Try.prog 172 #[.int .i64 a0] w fun e w' => e = .returned (.bool r) ∧ Drawn0 w w' := by
  have H : (if a0 ≥ 0 then (if a0 ≤ 1114111 then (if a0 < 55296 then (some true) else (some (decide (a0 > 57343)))) else (some false)) else (some false)) = some r := h
  clear h
  by_cases c2 : a0 ≥ 0
  · rw [if_pos c2] at H
    have c2b0 : decide (0 ≤ a0) = true := decide_eq_true c2
    clear c2
    by_cases c3 : a0 ≤ 1114111
    · rw [if_pos c3] at H
      have c3b0 : decide (a0 ≤ 1114111) = true := decide_eq_true c3
      clear c3
      by_cases c4 : a0 < 55296
      · rw [if_pos c4] at H
        have c4b0 : decide (a0 < 55296) = true := decide_eq_true c4
        clear c4
        obtain rfl := Option.some.inj H
        go_enter Try.func172, Try.ntmps172
        go_wp2
        go_ret
        exact ⟨by first | rfl | (simp; done) | (simp [*]; done), by repeat (first | exact Drawn0.refl _ | apply Drawn0.step)⟩
      · rw [if_neg c4] at H
        have c4b0 : decide (a0 < 55296) = false := decide_eq_false c4
        clear c4
        obtain rfl := Option.some.inj H
        go_enter Try.func172, Try.ntmps172
        go_wp2
        go_ret
        exact ⟨by first | rfl | (simp; done) | (simp [*]; done), by repeat (first | exact Drawn0.refl _ | apply Drawn0.step)⟩
    · rw [if_neg c3] at H
      have c3b0 : decide (a0 ≤ 1114111) = false := decide_eq_false c3
      clear c3
      obtain rfl := Option.some.inj H
      go_enter Try.func172, Try.ntmps172
      go_wp2
      go_ret
      exact ⟨by first | rfl | (simp; done) | (simp [*]; done), by repeat (first | exact Drawn0.refl _ | apply Drawn0.step)⟩
  · rw [if_neg c2] at H
    have c2b0 : decide (0 ≤ a0) = false := decide_eq_false c2
    clear c2
    obtain rfl := Option.some.inj H
    go_enter Try.func172, Try.ntmps172
    go_wp2
    go_ret
    exact ⟨by first | rfl | (simp; done) | (simp [*]; done), by repeat (first | exact Drawn0.refl _ | apply Drawn0.step)⟩
end Go.Proofs.Ytjdldlphfifggaa.X
end
section
namespace Go.Proofs.Ytjdldlphfifggaa.X
open Go.RowKit Go.Proofs.YtjdldlphfifggaaW.PrintWords Go.Proofs.YtjdldlphfifggaaW.PrintLast Go.Proofs.YtjdldlphfifggaaW.PrintMore
attribute [local go_sem] max2_int min2_int max_two min_two max_three min_three max_four min_four
set_option linter.unusedVariables false
set_option linter.unusedSimpArgs false
def sealringref03_Form.f (a0 : Int) : Option (ByteArray) := if a0 < 128 then (some (strOfNums (([(a0) % 256] : List Int)))) else (if a0 < 2048 then (some (strOfNums (([(wrap64 (192 + (wrap64 (Int.tdiv a0 64)))) % 256, (wrap64 (128 + (Int.tmod a0 64))) % 256] : List Int)))) else (if a0 < 65536 then (some (strOfNums (([(wrap64 (224 + (wrap64 (Int.tdiv a0 4096)))) % 256, (wrap64 (128 + (Int.tmod (wrap64 (Int.tdiv a0 64)) 64))) % 256, (wrap64 (128 + (Int.tmod a0 64))) % 256] : List Int)))) else (some (strOfNums (([(wrap64 (240 + (wrap64 (Int.tdiv a0 262144)))) % 256, (wrap64 (128 + (Int.tmod (wrap64 (Int.tdiv a0 4096)) 64))) % 256, (wrap64 (128 + (Int.tmod (wrap64 (Int.tdiv a0 64)) 64))) % 256, (wrap64 (128 + (Int.tmod a0 64))) % 256] : List Int))))))
set_option maxHeartbeats 8000000 in
set_option maxRecDepth 100000 in
theorem sealringref03_Form.calls (a0 : Int) (r : ByteArray) (w : World) (h : sealringref03_Form.f a0 = some r) :
    Calls Try.prog 173 #[.int .i64 a0] w fun e w' => e = .returned (.string r) ∧ Below w.heap.size w w' := by
  have HB := Aside0.mk (Below.refl w.heap.size w)
  have H : (if a0 < 128 then (some (strOfNums (([(a0) % 256] : List Int)))) else (if a0 < 2048 then (some (strOfNums (([(wrap64 (192 + (wrap64 (Int.tdiv a0 64)))) % 256, (wrap64 (128 + (Int.tmod a0 64))) % 256] : List Int)))) else (if a0 < 65536 then (some (strOfNums (([(wrap64 (224 + (wrap64 (Int.tdiv a0 4096)))) % 256, (wrap64 (128 + (Int.tmod (wrap64 (Int.tdiv a0 64)) 64))) % 256, (wrap64 (128 + (Int.tmod a0 64))) % 256] : List Int)))) else (some (strOfNums (([(wrap64 (240 + (wrap64 (Int.tdiv a0 262144)))) % 256, (wrap64 (128 + (Int.tmod (wrap64 (Int.tdiv a0 4096)) 64))) % 256, (wrap64 (128 + (Int.tmod (wrap64 (Int.tdiv a0 64)) 64))) % 256, (wrap64 (128 + (Int.tmod a0 64))) % 256] : List Int))))))) = some r := h
  clear h
  by_cases c2 : a0 < 128
  · rw [if_pos c2] at H
    have c2b0 : decide (a0 < 128) = true := decide_eq_true c2
    clear c2
    obtain ⟨y367, hy367⟩ : ∃ y_ : List Int, y_ = (([(a0) % 256] : List Int)) := ⟨_, rfl⟩
    replace H : (some (strOfNums y367)) = some r := by first | (rw [hy367]; with_reducible exact H) | (have H2_ := (Option.bind_some _ _).symm.trans H; rw [hy367]; with_reducible exact H2_) | (have H2_ := (Option.bind_some _ _).symm.trans H; with_reducible exact H2_) | with_reducible exact H | (rw [hy367]; exact H) | exact H
    have Ny367 := Aside0.mk hy367
    clear hy367
    obtain rfl := Option.some.inj H
    go_enter Try.func173, Try.ntmps173
    go_wp2_with (first | ((with_reducible refine gate_dst (N := 7) rfl ?_); refine Kd.R_lit (Kd.int .u8) _ 5 ?hg (N := 7) ?hd (xs := ([(a0) % 256] : List Int)) (inner := [.int .u8 ((a0) % 256)]) (ok := fun _ => True) (okp := fun _ => True) ?hr ?hp (fun _ hk => hk) trivial (Below.refl _ _) (Nat.le_refl _) (by simp) ?_; (case hd => rfl); (case hg => rfl); (case hr => first | (go_simp; done) | (go_simp; rfl)); (case hp => exact (Reps.one (show Kd.M (Kd.int .u8) _ _ _ ((a0) % 256) [.int .u8 ((a0) % 256)] from rfl) (Reps.none _ _))); intro v368 w3 ho4 hb hg_ hnew_; clear hg_ hnew_; (first | rw [← Ny367.out] at ho4 | (simp only [Int.reduceToNat] at ho4; rw [← Ny367.out] at ho4)); have n0_ := Aside0.mk (Kd.R_lower ho4 (below_size (by repeat (first | (with_reducible first | exact HB.out | apply below_alloc | apply pw_below_drewN | apply below_drew1) | exact HB.out)))); have n1_ := Aside0.mk (below_step (by repeat (first | (with_reducible first | exact HB.out | apply below_alloc | apply pw_below_drewN | apply below_drew1) | exact HB.out)) hb); clear HB; have HO369 := n0_; have HB := n1_; clear n0_ n1_; clear hb ho4; have hcv5 := own_string (P := Try.prog) Try.underlying178 Try.underlying5 Try.underlying9 (Kd.own_of_R HO369.out)))
    go_ret
    exact ⟨by first | rfl | (simp [errW_none, errW_some] <;> rfl) | (simp [*, errW_none, errW_some] <;> rfl), by repeat (first | (with_reducible first | exact HB.out | apply below_alloc | apply pw_below_drewN | apply below_drew1) | exact HB.out)⟩
  · rw [if_neg c2] at H
    have c2b0 : decide (a0 < 128) = false := decide_eq_false c2
    clear c2
    by_cases c6 : a0 < 2048
    · rw [if_pos c6] at H
      have c6b0 : decide (a0 < 2048) = true := decide_eq_true c6
      clear c6
      obtain ⟨y370, hy370⟩ : ∃ y_ : List Int, y_ = (([(wrap64 (192 + (wrap64 (Int.tdiv a0 64)))) % 256, (wrap64 (128 + (Int.tmod a0 64))) % 256] : List Int)) := ⟨_, rfl⟩
      replace H : (some (strOfNums y370)) = some r := by first | (rw [hy370]; with_reducible exact H) | (have H2_ := (Option.bind_some _ _).symm.trans H; rw [hy370]; with_reducible exact H2_) | (have H2_ := (Option.bind_some _ _).symm.trans H; with_reducible exact H2_) | with_reducible exact H | (rw [hy370]; exact H) | exact H
      have Ny370 := Aside0.mk hy370
      clear hy370
      obtain rfl := Option.some.inj H
      go_enter Try.func173, Try.ntmps173
      go_wp2_with (first | ((with_reducible refine gate_dst (N := 19) rfl ?_); refine Kd.R_lit (Kd.int .u8) _ 5 ?hg (N := 19) ?hd (xs := ([(wrap64 (192 + (wrap64 (Int.tdiv a0 64)))) % 256, (wrap64 (128 + (Int.tmod a0 64))) % 256] : List Int)) (inner := [.int .u8 ((wrap64 (192 + (wrap64 (Int.tdiv a0 64)))) % 256), .int .u8 ((wrap64 (128 + (Int.tmod a0 64))) % 256)]) (ok := fun _ => True) (okp := fun _ => True) ?hr ?hp (fun _ hk => hk) trivial (Below.refl _ _) (Nat.le_refl _) (by simp) ?_; (case hd => rfl); (case hg => rfl); (case hr => first | (go_simp; done) | (go_simp; rfl)); (case hp => exact (Reps.one (show Kd.M (Kd.int .u8) _ _ _ ((wrap64 (192 + (wrap64 (Int.tdiv a0 64)))) % 256) [.int .u8 ((wrap64 (192 + (wrap64 (Int.tdiv a0 64)))) % 256)] from rfl) (Reps.one (show Kd.M (Kd.int .u8) _ _ _ ((wrap64 (128 + (Int.tmod a0 64))) % 256) [.int .u8 ((wrap64 (128 + (Int.tmod a0 64))) % 256)] from rfl) (Reps.none _ _)))); intro v371 w7 ho8 hb hg_ hnew_; clear hg_ hnew_; (first | rw [← Ny370.out] at ho8 | (simp only [Int.reduceToNat] at ho8; rw [← Ny370.out] at ho8)); have n0_ := Aside0.mk (Kd.R_lower ho8 (below_size (by repeat (first | (with_reducible first | exact HB.out | apply below_alloc | apply pw_below_drewN | apply below_drew1) | exact HB.out)))); have n1_ := Aside0.mk (below_step (by repeat (first | (with_reducible first | exact HB.out | apply below_alloc | apply pw_below_drewN | apply below_drew1) | exact HB.out)) hb); clear HB; have HO372 := n0_; have HB := n1_; clear n0_ n1_; clear hb ho8; have hcv9 := own_string (P := Try.prog) Try.underlying178 Try.underlying5 Try.underlying9 (Kd.own_of_R HO372.out)))
      go_ret
      exact ⟨by first | rfl | (simp [errW_none, errW_some] <;> rfl) | (simp [*, errW_none, errW_some] <;> rfl), by repeat (first | (with_reducible first | exact HB.out | apply below_alloc | apply pw_below_drewN | apply below_drew1) | exact HB.out)⟩
    · rw [if_neg c6] at H
      have c6b0 : decide (a0 < 2048) = false := decide_eq_false c6
      clear c6
      by_cases c10 : a0 < 65536
      · rw [if_pos c10] at H
        have c10b0 : decide (a0 < 65536) = true := decide_eq_true c10
        clear c10
        obtain ⟨y373, hy373⟩ : ∃ y_ : List Int, y_ = (([(wrap64 (224 + (wrap64 (Int.tdiv a0 4096)))) % 256, (wrap64 (128 + (Int.tmod (wrap64 (Int.tdiv a0 64)) 64))) % 256, (wrap64 (128 + (Int.tmod a0 64))) % 256] : List Int)) := ⟨_, rfl⟩
        replace H : (some (strOfNums y373)) = some r := by first | (rw [hy373]; with_reducible exact H) | (have H2_ := (Option.bind_some _ _).symm.trans H; rw [hy373]; with_reducible exact H2_) | (have H2_ := (Option.bind_some _ _).symm.trans H; with_reducible exact H2_) | with_reducible exact H | (rw [hy373]; exact H) | exact H
        have Ny373 := Aside0.mk hy373
        clear hy373
        obtain rfl := Option.some.inj H
        go_enter Try.func173, Try.ntmps173
        go_wp2_with (first | ((with_reducible refine gate_dst (N := 36) rfl ?_); refine Kd.R_lit (Kd.int .u8) _ 5 ?hg (N := 36) ?hd (xs := ([(wrap64 (224 + (wrap64 (Int.tdiv a0 4096)))) % 256, (wrap64 (128 + (Int.tmod (wrap64 (Int.tdiv a0 64)) 64))) % 256, (wrap64 (128 + (Int.tmod a0 64))) % 256] : List Int)) (inner := [.int .u8 ((wrap64 (224 + (wrap64 (Int.tdiv a0 4096)))) % 256), .int .u8 ((wrap64 (128 + (Int.tmod (wrap64 (Int.tdiv a0 64)) 64))) % 256), .int .u8 ((wrap64 (128 + (Int.tmod a0 64))) % 256)]) (ok := fun _ => True) (okp := fun _ => True) ?hr ?hp (fun _ hk => hk) trivial (Below.refl _ _) (Nat.le_refl _) (by simp) ?_; (case hd => rfl); (case hg => rfl); (case hr => first | (go_simp; done) | (go_simp; rfl)); (case hp => exact (Reps.one (show Kd.M (Kd.int .u8) _ _ _ ((wrap64 (224 + (wrap64 (Int.tdiv a0 4096)))) % 256) [.int .u8 ((wrap64 (224 + (wrap64 (Int.tdiv a0 4096)))) % 256)] from rfl) (Reps.one (show Kd.M (Kd.int .u8) _ _ _ ((wrap64 (128 + (Int.tmod (wrap64 (Int.tdiv a0 64)) 64))) % 256) [.int .u8 ((wrap64 (128 + (Int.tmod (wrap64 (Int.tdiv a0 64)) 64))) % 256)] from rfl) (Reps.one (show Kd.M (Kd.int .u8) _ _ _ ((wrap64 (128 + (Int.tmod a0 64))) % 256) [.int .u8 ((wrap64 (128 + (Int.tmod a0 64))) % 256)] from rfl) (Reps.none _ _))))); intro v374 w11 ho12 hb hg_ hnew_; clear hg_ hnew_; (first | rw [← Ny373.out] at ho12 | (simp only [Int.reduceToNat] at ho12; rw [← Ny373.out] at ho12)); have n0_ := Aside0.mk (Kd.R_lower ho12 (below_size (by repeat (first | (with_reducible first | exact HB.out | apply below_alloc | apply pw_below_drewN | apply below_drew1) | exact HB.out)))); have n1_ := Aside0.mk (below_step (by repeat (first | (with_reducible first | exact HB.out | apply below_alloc | apply pw_below_drewN | apply below_drew1) | exact HB.out)) hb); clear HB; have HO375 := n0_; have HB := n1_; clear n0_ n1_; clear hb ho12; have hcv13 := own_string (P := Try.prog) Try.underlying178 Try.underlying5 Try.underlying9 (Kd.own_of_R HO375.out)))
        go_ret
        exact ⟨by first | rfl | (simp [errW_none, errW_some] <;> rfl) | (simp [*, errW_none, errW_some] <;> rfl), by repeat (first | (with_reducible first | exact HB.out | apply below_alloc | apply pw_below_drewN | apply below_drew1) | exact HB.out)⟩
      · rw [if_neg c10] at H
        have c10b0 : decide (a0 < 65536) = false := decide_eq_false c10
        clear c10
        obtain ⟨y376, hy376⟩ : ∃ y_ : List Int, y_ = (([(wrap64 (240 + (wrap64 (Int.tdiv a0 262144)))) % 256, (wrap64 (128 + (Int.tmod (wrap64 (Int.tdiv a0 4096)) 64))) % 256, (wrap64 (128 + (Int.tmod (wrap64 (Int.tdiv a0 64)) 64))) % 256, (wrap64 (128 + (Int.tmod a0 64))) % 256] : List Int)) := ⟨_, rfl⟩
        replace H : (some (strOfNums y376)) = some r := by first | (rw [hy376]; with_reducible exact H) | (have H2_ := (Option.bind_some _ _).symm.trans H; rw [hy376]; with_reducible exact H2_) | (have H2_ := (Option.bind_some _ _).symm.trans H; with_reducible exact H2_) | with_reducible exact H | (rw [hy376]; exact H) | exact H
        have Ny376 := Aside0.mk hy376
        clear hy376
        obtain rfl := Option.some.inj H
        go_enter Try.func173, Try.ntmps173
        go_wp2_with (first | ((with_reducible refine gate_dst (N := 56) rfl ?_); refine Kd.R_lit (Kd.int .u8) _ 5 ?hg (N := 56) ?hd (xs := ([(wrap64 (240 + (wrap64 (Int.tdiv a0 262144)))) % 256, (wrap64 (128 + (Int.tmod (wrap64 (Int.tdiv a0 4096)) 64))) % 256, (wrap64 (128 + (Int.tmod (wrap64 (Int.tdiv a0 64)) 64))) % 256, (wrap64 (128 + (Int.tmod a0 64))) % 256] : List Int)) (inner := [.int .u8 ((wrap64 (240 + (wrap64 (Int.tdiv a0 262144)))) % 256), .int .u8 ((wrap64 (128 + (Int.tmod (wrap64 (Int.tdiv a0 4096)) 64))) % 256), .int .u8 ((wrap64 (128 + (Int.tmod (wrap64 (Int.tdiv a0 64)) 64))) % 256), .int .u8 ((wrap64 (128 + (Int.tmod a0 64))) % 256)]) (ok := fun _ => True) (okp := fun _ => True) ?hr ?hp (fun _ hk => hk) trivial (Below.refl _ _) (Nat.le_refl _) (by simp) ?_; (case hd => rfl); (case hg => rfl); (case hr => first | (go_simp; done) | (go_simp; rfl)); (case hp => exact (Reps.one (show Kd.M (Kd.int .u8) _ _ _ ((wrap64 (240 + (wrap64 (Int.tdiv a0 262144)))) % 256) [.int .u8 ((wrap64 (240 + (wrap64 (Int.tdiv a0 262144)))) % 256)] from rfl) (Reps.one (show Kd.M (Kd.int .u8) _ _ _ ((wrap64 (128 + (Int.tmod (wrap64 (Int.tdiv a0 4096)) 64))) % 256) [.int .u8 ((wrap64 (128 + (Int.tmod (wrap64 (Int.tdiv a0 4096)) 64))) % 256)] from rfl) (Reps.one (show Kd.M (Kd.int .u8) _ _ _ ((wrap64 (128 + (Int.tmod (wrap64 (Int.tdiv a0 64)) 64))) % 256) [.int .u8 ((wrap64 (128 + (Int.tmod (wrap64 (Int.tdiv a0 64)) 64))) % 256)] from rfl) (Reps.one (show Kd.M (Kd.int .u8) _ _ _ ((wrap64 (128 + (Int.tmod a0 64))) % 256) [.int .u8 ((wrap64 (128 + (Int.tmod a0 64))) % 256)] from rfl) (Reps.none _ _)))))); intro v377 w14 ho15 hb hg_ hnew_; clear hg_ hnew_; (first | rw [← Ny376.out] at ho15 | (simp only [Int.reduceToNat] at ho15; rw [← Ny376.out] at ho15)); have n0_ := Aside0.mk (Kd.R_lower ho15 (below_size (by repeat (first | (with_reducible first | exact HB.out | apply below_alloc | apply pw_below_drewN | apply below_drew1) | exact HB.out)))); have n1_ := Aside0.mk (below_step (by repeat (first | (with_reducible first | exact HB.out | apply below_alloc | apply pw_below_drewN | apply below_drew1) | exact HB.out)) hb); clear HB; have HO378 := n0_; have HB := n1_; clear n0_ n1_; clear hb ho15; have hcv16 := own_string (P := Try.prog) Try.underlying178 Try.underlying5 Try.underlying9 (Kd.own_of_R HO378.out)))
        go_ret
        exact ⟨by first | rfl | (simp [errW_none, errW_some] <;> rfl) | (simp [*, errW_none, errW_some] <;> rfl), by repeat (first | (with_reducible first | exact HB.out | apply below_alloc | apply pw_below_drewN | apply below_drew1) | exact HB.out)⟩
end Go.Proofs.Ytjdldlphfifggaa.X
end
