import Derived.RangeFuncNested
import Derived.RangeFuncBound
import Derived.RangeFuncCalls
import Derived.RangeFuncLeaves
import Derived.Shelf.Abstract
import Derived.Shelf.RegionOpen
import Derived.WalkKit
import Derived.OwnWalkIn
import Derived.TacticsInMore
import Derived.LoopNIn
import Derived.LoopIn
import Derived.Test.YtijfbnkohnlmaaaHUtf
namespace Go.Proofs.Ytijfbnkohnlmaaa.X
open Go.RowKit Go.Shelf Go.Proofs.YtijfbnkohnlmaaaW.PrintWords
attribute [local go_sem] Oper.semAt_some
set_option linter.unusedVariables false
set_option linter.unusedSimpArgs false
/-- The code points that All tells, each with its place, and where it ends. -/
def utf_All.l0 : Nat → ByteArray → Int → Option (List (Int × Int) × Int)
  | 0, _, _ => none
  | k + 1, s, a => if a < (s.size : Int) then (utf_Next.f k s a).bind fun x => if x.2.2 = true then (utf_All.l0 k s (wrap64 (a + x.2.1))).map fun y => ((a, x.1) :: y.1, y.2) else some ([], a) else some ([], a)
theorem utf_All.mono_l : ∀ k s a, LeO (utf_All.l0 k s a) (utf_All.l0 (k + 1) s a)
  | 0 => fun _ _ r h => by simp [utf_All.l0] at h
  | k + 1 => by
    have ih0 := utf_All.mono_l k
    intro s a
    unfold utf_All.l0
    refine LeO.ite (LeO.bind (utf_Next.mono _ _ _) (fun x => LeO.ite ?_ (LeO.refl _))) (LeO.refl _)
    intro r hr
    obtain ⟨y, hy, rfl⟩ := Option.map_eq_some_iff.1 hr
    rw [ih0 _ _ _ hy]
    rfl
theorem utf_Next.l0_ok : ∀ {k : Nat} {s : ByteArray} {a n i r r1 n1 : Int}, utf_Next.l0 k s a n i r = some (r1, n1, true) → n1 = n
  | 0, _, _, _, _, _, _, _, h => by simp [utf_Next.l0] at h
  | k + 1, s, a, n, i, r, r1, n1, h => by
    simp only [utf_Next.l0] at h
    split at h
    · split at h
      · exact utf_Next.l0_ok h
      · simp at h
    · obtain ⟨t, _, h⟩ := Option.bind_eq_some_iff.1 h
      split at h
      · simp at h; omega
      · simp at h
theorem utf_Next.ok {k : Nat} {s : ByteArray} {a r n : Int} (h : utf_Next.f k s a = some (r, n, true)) : 0 ≤ a ∧ 1 ≤ n ∧ n ≤ 4 ∧ a + n ≤ (s.size : Int) ∧ s.size ≤ 140737488351232 := by
  unfold utf_Next.f at h
  split at h
  · split at h
    · simp at h
    · split at h
      · simp at h
      · obtain ⟨⟨n', r'⟩, A1, h⟩ := Option.bind_eq_some_iff.1 h
        have := utf_head_range A1
        simp only at h
        split at h
        · simp at h
        · split at h
          · simp at h
          · have := utf_Next.l0_ok h
            omega
  · cases h
/-- What a round that goes on keeps: the iterator's own box. -/
def KeepBox (Bn : Nat) (v : Value) (W W' : World) : Prop := W.cell? ⟨Bn, 0, none⟩ = some v → W'.cell? ⟨Bn, 0, none⟩ = some v
theorem keepBox_t {Bn : Nat} {v : Value} {A B C : World} (h : KeepBox Bn v A B) (k : KeepBox Bn v B C) : KeepBox Bn v A C := fun x => k (h x)
theorem keepBox_b {Bn : Nat} {v : Value} (n : Nat) (W : World) (l : Nat) (o o' : Obj) (_ : n ≤ l) (ho : W.heap[l]? = some o) (hc : o.isCells = false) (_ : o.isWalk = false) : KeepBox Bn v W (W.putObj l o') :=
  fun h => cell_kept h (grownBy_putObj' W l o') (fun r e => by cases e; exact ⟨o, ho, hc⟩)
abbrev encAll (x : Int × Int) : Array Value := #[.int .i64 x.1, .int .i32 x.2]
set_option maxRecDepth 100000 in
set_option maxHeartbeats 2000000 in
theorem utf_All1 (n : Nat) (hn : 1 ≤ n) (l Bn : Nat) (k : Nat) (s : ByteArray) (xs : List (Int × Int)) (en : Int) (hx : utf_All.l0 k s 0 = some (xs, en)) (J Jx : List (Int × Int) → World → Prop) (B : Nat) (hJ : AbidesFrom B J)
    (hY : ∀ pre x W, J pre W → pre.length < xs.length → YieldAt Fence.wide (n - 1) Try.prog l (encAll x) W fun e W' =>
      (e = .returned (.bool true) ∧ J (pre ++ [x]) W' ∧ KeepBox Bn (.string s) W W') ∨ (e = .returned (.bool false) ∧ Jx (pre ++ [x]) W'))
    (W : World) (hBn : W.cell? ⟨Bn, 0, none⟩ = some (.string s)) (h0 : J [] W) :
    CallsIn Fence.wide n Try.prog 28 #[.func (.yield l) #[] #[], .pointer (some ⟨Bn, 0, none⟩)] W fun e W' => (∃ v, e = .returned v) ∧
      ((∃ ys, ys = xs ∧ J ys W') ∨ (∃ pre, pre <+: xs ∧ Jx pre W')) := by
  refine callsIn_of_wp Try.func28 rfl trivial ?_ rfl
  simp only [Try.ntmps28, List.size_toArray, List.length_cons, List.length_nil, Nat.reduceAdd, Nat.reduceSub, Array.replicate_succ, Array.replicate_zero, List.push_toArray, List.append_toArray, List.nil_append, List.cons_append]
  gi_wp2
  gi_loopw [3, 4, 5, 6] (fun p3 p4 p5 p6 wr => ∃ (at_ : Int) (pre rest : List (Int × Int)) (k1 : Nat), p3 = .int .i64 at_ ∧ xs = pre ++ rest ∧ Aside0 (utf_All.l0 k1 s at_ = some (rest, en)) ∧ wr.cell? ⟨Bn, 0, none⟩ = some (.string s) ∧ J pre wr)
    (fun p3 p4 p5 p6 wr => ((s.size : Int) - intOf p3).toNat)
  case atStart =>
    exact ⟨0, [], xs, k, rfl, rfl, ⟨hx⟩, hBn, h0⟩
  case round =>
    obtain ⟨at_, pre, rest, k1, rfl, hxs, HA, hc, hJs⟩ := hrel
    have H := HA.out
    cases k1 with
    | zero => simp [utf_All.l0] at H
    | succ k1 =>
      simp only [utf_All.l0] at H
      by_cases c1 : at_ < (s.size : Int)
      · rw [if_pos c1] at H
        obtain ⟨⟨r, m, ok⟩, A1, H⟩ := Option.bind_eq_some_iff.1 H
        have A1 := Aside0.mk A1
        simp only at H
        have hlt := c1
        cases ok with
        | false =>
          rw [if_neg (by simp)] at H
          cases H
          gi_wp2_with (refine ⟨trivial, ?_⟩; gi_at_call 15; refine (callsIn_wide.2 (utf_Next.calls k1 s _ r m false _ A1.out)).mono ?_; rintro e w1 ⟨rfl, hb⟩; have hJ1 := hJ _ _ _ none hJs ⟨hb.os, hb.tape, hb.output, hb.size, fun k hk _ => hb.block k hk⟩ (fun r e => by cases e))
          refine ⟨fun _ h => (by cases h), ?_⟩
          gi_wp2
          refine bodyPost_ret (results_none rfl _ _ _) rfl ?_
          exact ⟨⟨_, rfl⟩, .inl ⟨pre, by simp [hxs], hJ1⟩⟩
        | true =>
          obtain ⟨o1, o2, o3, o4, o5⟩ := utf_Next.ok A1.out
          rw [if_pos rfl] at H
          obtain ⟨⟨rest', en'⟩, H2, e2⟩ := Option.map_eq_some_iff.1 H
          simp only [Prod.mk.injEq] at e2
          obtain ⟨rfl, rfl⟩ := e2
          have hw1 : wrap64 (at_ + m) = at_ + m := by unfold wrap64; omega
          rw [hw1] at H2
          have H' := Aside0.mk H2
          clear H H2 HA
          gi_wp2_with (refine ⟨trivial, ?_⟩; gi_at_call 15; refine (callsIn_wide.2 (utf_Next.calls k1 s _ r m true _ A1.out)).mono ?_; rintro e w1 ⟨rfl, hb⟩; have hJ1 := hJ _ _ _ none hJs ⟨hb.os, hb.tape, hb.output, hb.size, fun k hk _ => hb.block k hk⟩ (fun r e => by cases e); have hc1 := (hb.cell (p := ⟨Bn, 0, none⟩) (World.block_lt_of_cell? _ _ hc)).trans hc; obtain ⟨fn, tmps, assign, body, hy, hR⟩ := hY pre (at_, r) w1 hJ1 (by rw [hxs]; simp); dsimp only [encAll] at hy)
          refine hR.mono ?_
          rintro e W3 (⟨rfl, hJ3, hk3⟩ | ⟨rfl, hJx3⟩)
          · have hc3 : W3.cell? ⟨Bn, 0, none⟩ = some (.string s) := hk3 hc1
            gi_wp2
            go_roundw
            case rel => exact ⟨_, pre ++ [(at_, r)], rest', k1, rfl, by simp [hxs], H', hc3, hJ3⟩
            case measure => simp [intOf]; omega
          · gi_wp2
            refine bodyPost_ret (results_none rfl _ _ _) rfl ?_
            exact ⟨⟨_, rfl⟩, .inr ⟨pre ++ [(at_, r)], ⟨rest', by simp [hxs]⟩, hJx3⟩⟩
      · rw [if_neg c1] at H
        cases H
        gi_wp2
        go_end0
        exact ⟨⟨_, rfl⟩, .inl hJs⟩
theorem utf_All_stops (n : Nat) (hn : 1 ≤ n) (Bn : Nat) (k : Nat) (s : ByteArray) (xs : List (Int × Int)) (en : Int) (hx : utf_All.l0 k s 0 = some (xs, en)) (w : World) (hBn : Bn < w.heap.size)
    (hc : w.cell? ⟨Bn, 0, none⟩ = some (.string s)) :
    SeqStopsK Fence.wide n Try.prog 28 #[.pointer (some ⟨Bn, 0, none⟩)] encAll (KeepBox Bn (.string s)) (fun ys => ys = xs) (fun pre => pre <+: xs) xs.length w := fun l J Jx W hW hJ _ hY h0 =>
  utf_All1 n hn l Bn k s xs en hx J Jx _ hJ hY W ((hW.cell (p := ⟨Bn, 0, none⟩) hBn).trans hc) h0
theorem utf_All_in (n : Nat) (s : ByteArray) (w : World) :
    CallsIn Fence.wide n Try.prog 13 #[.string s] w fun e w' => e = .returned (.func (.func 28) #[] #[.pointer (some ⟨w.heap.size, 0, none⟩)]) ∧ w' = w.alloc (.cells #[.string s] 9) := by
  refine callsIn_of_wp Try.func13 rfl trivial ?_ rfl
  simp only [Try.ntmps13, List.size_toArray, List.length_cons, List.length_nil, Nat.reduceAdd, Nat.reduceSub, Array.replicate_succ, Array.replicate_zero, List.push_toArray, List.append_toArray, List.nil_append, List.cons_append]
  gi_wp2
  go_ret
  exact ⟨rfl, rfl⟩
def utf_sz (r : Int) : Int := if r < 0 ∨ r > 1114111 ∨ (r ≥ 55296 ∧ r ≤ 57343) then 0 else if r < 128 then 1 else if r < 2048 then 2 else if r < 65536 then 3 else 4
theorem utf_size_f (k : Nat) (r : Int) : utf_size.f (k + 1) r = some (utf_sz r) := by
  unfold utf_size.f utf_sz
  simp only [utf_size.j0]
  by_cases c1 : r < 0
  · simp [c1]
  · by_cases c2 : r > 1114111
    · simp [c1, c2]
    · by_cases c3 : r ≥ 55296
      · by_cases c4 : r ≤ 57343
        · simp [c1, c2, c3, c4]
        · simp [c1, c2, c3, c4]
          (repeat' split) <;> rfl
      · simp [c1, c2, c3]
        (repeat' split) <;> rfl
def utf_end (l : List (Int × Int)) : Int := match l.getLast? with | none => 0 | some x => wrap64 (x.1 + utf_sz x.2)
theorem utf_end_snoc (l : List (Int × Int)) (x : Int × Int) : utf_end (l ++ [x]) = wrap64 (x.1 + utf_sz x.2) := by simp [utf_end]
def utf_Valid.f (k : Nat) (s : ByteArray) : Option Bool := (utf_All.l0 k s 0).bind fun y => some (utf_end y.1 == (s.size : Int))
theorem utf_Valid.mono : ∀ s k, LeO (utf_Valid.f k s) (utf_Valid.f (k + 1) s) := fun s k => LeO.bind (utf_All.mono_l _ _ _) (fun _ => LeO.refl _)
theorem boxv (W : World) (v : Value) (t : TypeId) : (W.alloc (.cells #[v] t)).cell? ⟨W.heap.size, 0, none⟩ = some v ∧ (W.alloc (.cells #[v] t)).frozen? ⟨W.heap.size, 0, none⟩ = false := by
  have h := World.alloc_heap_new W (.cells #[v] t)
  constructor
  · unfold World.cell?; rw [h]; rfl
  · unfold World.frozen?; rw [h]; rfl
theorem boxv_cell {W : World} {a : Addr} {v : Value} (o : Obj) (h : W.cell? a = some v) : (W.alloc o).cell? a = some v := cell_kept h (World.grownBy_alloc W o none) (fun r e => by cases e)
theorem boxv_frozen {W : World} {a : Addr} {v : Value} (o : Obj) (h : W.cell? a = some v) (hf : W.frozen? a = false) : (W.alloc o).frozen? a = false := (frozen_kept h (World.grownBy_alloc W o none) (fun r e => by cases e)).trans hf
set_option maxRecDepth 100000 in
set_option maxHeartbeats 2000000 in
theorem utf_Valid.calls (k : Nat) (s : ByteArray) (r : Bool) (w : World) (h : utf_Valid.f k s = some r) :
    Calls Try.prog 14 #[.string s] w fun e w' => e = .returned (.bool r) ∧ Below w.heap.size w w' := by
  obtain ⟨⟨xs, en⟩, hx, hr⟩ := Option.bind_eq_some_iff.1 h
  have hx := Aside0.mk hx
  have hr := Aside0.mk (Option.some.inj hr)
  clear h
  refine (callsIn_wide (n := 4)).1 ?_
  refine callsIn_of_wp_marks Try.func14 rfl trivial ?_ rfl
  simp only [Try.ntmps14, List.size_toArray, List.length_cons, List.length_nil, Nat.reduceAdd, Nat.reduceSub, Array.replicate_succ, Array.replicate_zero, List.push_toArray, List.append_toArray, List.nil_append, List.cons_append]
  gi_wp2_with (refine ⟨trivial, ?_⟩; gi_at_call 13; refine (utf_All_in _ _ _).mono ?_; rintro e w' ⟨rfl, rfl⟩)
  have hs := boxv w (.int .i64 0) 3
  have hb := boxv (w.alloc (.cells #[.int .i64 0] 3)) (.string s) 9
  rw [World.size_alloc] at hb
  have hB0 : Below w.heap.size w ((w.alloc (.cells #[.int .i64 0] 3)).alloc (.cells #[.string s] 9)) := ((Below.refl _ w).alloc (Nat.le_refl _) _).alloc (by simp) _
  refine wpIn_rangeFunc_ownF rfl (by omega) (gf := 28) (lb := #[.pointer (some ⟨w.heap.size + 1, 0, none⟩)]) rfl trivial (enters_of Try.func28 (by kernel_rfl) rfl)
    (utf_All_stops _ (by omega) (w.heap.size + 1) k s xs en hx.out _ (by simp) hb.1) keepBox_t (keepBox_b _) (Below.refl _ _) (fun _ => rfl)
    (fun pre W => (W.cell? ⟨w.heap.size, 0, none⟩ = some (.int .i64 (utf_end pre)) ∧ W.frozen? ⟨w.heap.size, 0, none⟩ = false) ∧ Below w.heap.size w W)
    (fun _ _ _ => False)
    (OwnFrom.and (Own.from (fun s A B row hs hg hr => ⟨cell_kept hs.1 hg hr, (frozen_kept hs.1 hg hr).trans hs.2⟩) _) (ownFrom_below (Nat.le_refl _) (by simp; omega)))
    (fun _ _ _ _ _ hs _ _ => hs)
    ⟨⟨boxv_cell _ hs.1, boxv_frozen _ hs.1 hs.2⟩, hB0⟩
    (fun x => { tmps := #[.string s, undef, .bool false, .pointer (some ⟨w.heap.size, 0, none⟩), .int .i64 x.1, .int .i32 x.2, .string s, .func (.func 28) #[] #[.pointer (some ⟨w.heap.size + 1, 0, none⟩)], .int .i64 x.1, .int .i32 x.2, undef, undef, undef, undef, undef, undef, undef, undef], defers := [] }) ?assign ?body ?done ?stop
  case assign =>
    intro l x W K hK
    gi_wp2
    exact hK
  case body =>
    rintro l pre x W ⟨⟨hc, hf⟩, hB⟩ _
    gi_wp2_with (refine ⟨trivial, ?_⟩; gi_at_call 27; refine (CallsIn.inRound l (callsIn_wide.2 (utf_size.calls 1 _ _ _ (utf_size_f 0 _)))).mono ?_; rintro e w' ⟨rfl, m, rfl⟩)
    refine ⟨(show KeepsOthers W (W.drewN m) from ⟨Nat.le_refl _, fun _ _ h _ => h⟩).trans (KeepsOthers.setCell _ _ _), fun h => ?_, ⟨?_, ?_⟩, (pw_below_drewN hB _).setCell (p := ⟨w.heap.size, 0, none⟩) (Nat.le_refl _) _⟩
    · rw [World.cell?_setCell_other _ _ _ _ (fun e => by have := congrArg Addr.block e; simp at this)]
      exact h
    · rw [utf_end_snoc]
      exact World.cell?_setCell_same' _ _ _ (by show (W.cell? ⟨w.heap.size, 0, none⟩).isSome = true; rw [hc]; rfl)
    · rw [World.frozen?_setCell]
      exact hf
  case done =>
    rintro D ys W hD rfl ⟨⟨hc, _⟩, hB⟩ hK
    gi_wp2
    refine ⟨by simp, .inl ⟨_, _, rfl, run_takeDeferred hK, ?_⟩⟩
    exact ⟨_, results_tmp rfl _ _ _, by rw [← hr.out]; rfl, hB.trans (belowK_b (w := w) (Nat.le_refl _) W D _ _ (by simp at hD; omega) hK rfl rfl)⟩
  case stop =>
    rintro D c pre W _ _ h _
    exact h.elim
end Go.Proofs.Ytijfbnkohnlmaaa.X
