import Derived.Test.YtjdgjifacdnkgaaC06B2
import Derived.Deep.RegionHeld3
import Derived.RangeFuncNested
import Derived.RangeFuncBound
import Derived.RangeFuncCalls
import Derived.RangeFuncLeaves
import Derived.Shelf.Abstract
import Derived.Shelf.RegionOpen
import Derived.WalkKit
import Derived.OwnWalkIn
import Derived.TacticsInMore
import Derived.LoopNIn
import Derived.LoopIn
import Derived.ArgAppend
import Derived.RegionIn
section
namespace Go.Proofs.Ytjdgjifacdnkgaa.X
open Go.RowKit Go.Proofs.YtjdgjifacdnkgaaW.PrintWords Go.Proofs.YtjdgjifacdnkgaaW.PrintLast Go.Proofs.YtjdgjifacdnkgaaW.PrintMore
set_option linter.unusedVariables false
set_option linter.unusedSimpArgs false
theorem tkV_zero : tkV 0 = .agg #[.int .i64 0, .int .i64 0, .int .i64 0, .int .i64 0, .string ⟨#[]⟩] := rfl
theorem nameS_size (k : Int) : (nameS k).size ≤ 5 := by
  unfold nameS
  split
  · decide
  · split
    · decide
    · split <;> decide
def blankI (c : Int) : Bool := decide (c = 9) || (decide (c = 10) || (decide (c = 13) || decide (c = 32)))
theorem blank_f (c : Int) : lex_blank.f c = some (blankI c) := by
  unfold lex_blank.f blankI
  by_cases h1 : c = 9
  · simp [h1]
  · by_cases h2 : c = 10
    · simp [h2]
    · by_cases h3 : c = 13
      · simp [h3]
      · by_cases h4 : c = 32
        · simp [h4]
        · simp [h1, h2, h3, h4]
def skipP (t : ByteArray) : Nat → Int → Int
  | 0, a => a
  | k + 1, a => if a < (t.size : Int) then (if blankI (bt t a) = true then skipP t k (a + 1) else a) else a
def preP (t : ByteArray) (a : Int) (s : ByteArray) : Bool := Lib.hasPrefix (t.extract a.toNat t.size).data.toList s.data.toList
def failP (a e : Int) : Int × Int × Int × Int × ByteArray × Int := (0, a, 0, 0, ⟨#[]⟩, e)
def tokP (t : ByteArray) (a : Int) : Int × Int × Int × Int × ByteArray × Int :=
  if a = (t.size : Int) then (12, a, a, 0, ⟨#[]⟩, 0) else
  match signP (bt t a) with
  | some k => (k, a, a + 1, 0, ⟨#[]⟩, 0)
  | none => match nameP (bt t a) with
    | some k => if preP t a (nameS k) = true then (k, a, a + ((nameS k).size : Int), 0, ⟨#[]⟩, 0) else failP a 6
    | none => if bt t a = 34 then (match unqP t a with | (s, b, e) => if e = 0 then (10, a, b, 0, s, 0) else failP a e)
      else if bt t a = 45 ∨ (48 ≤ bt t a ∧ bt t a ≤ 57) then (match numScan t a with | (n, b, e) => if e = 0 then (11, a, b, n, ⟨#[]⟩, 0) else failP a e)
      else failP a 6
def nextP (t : ByteArray) (a : Int) : Int × Int × Int × Int × ByteArray × Int :=
  if a < 0 then failP 0 1 else if a > (t.size : Int) then failP 0 1 else tokP t (skipP t (t.size + 1) a)
def lex_Next.f (t : ByteArray) (a : Int) : Option (Int × Int × Int × Int × ByteArray × Int) := if t.size ≤ 35184372080000 then some (nextP t a) else none
structure LX (w : World) (a : Int) (W : World) : Prop where
  c0 : W.cell? ⟨w.heap.size, 0, none⟩ = some (.int .i64 a)
  f0 : W.frozen? ⟨w.heap.size, 0, none⟩ = false
  z : W.heap[w.heap.size + 1]? = some (.cells (tkC 0 0 0 0 ⟨#[]⟩) 24 (0, 0))
  B : Below w.heap.size w W
theorem LX.start (w : World) (a : Int) : LX w a ((w.alloc (.cells #[.int .i64 a] 3)).alloc (.cells (tkC 0 0 0 0 ⟨#[]⟩) 24)) := by
  have h1 := boxv w (.int .i64 a) 3
  refine ⟨boxv_cell _ h1.1, boxv_frozen _ h1.1 h1.2, ?_, below_alloc (below_alloc (Below.refl _ w) _) _⟩
  simpa using heap_alloc_new (w.alloc (.cells #[.int .i64 a] 3)) (.cells (tkC 0 0 0 0 ⟨#[]⟩) 24)
theorem LX.drewN {w W : World} {a : Int} (h : LX w a W) (n : Nat) : LX w a (W.drewN n) := ⟨h.c0, h.f0, h.z, below_drewN h.B n⟩
theorem LX.step {w W W1 : World} {a : Int} (h : LX w a W) (hb : Below W.heap.size W W1) : LX w a W1 :=
  ⟨pw_cell_below hb h.c0, (hb.frozen (World.block_lt_of_cell? _ _ h.c0)).trans h.f0, blk_below h.z hb, below_then h.B h.B.size hb⟩
theorem LX.set {w W : World} {a : Int} (h : LX w a W) (b : Int) : LX w b (W.setCell ⟨w.heap.size, 0, none⟩ (.int .i64 b)) :=
  ⟨World.cell?_setCell_same' _ _ _ (by rw [h.c0]; rfl), by rw [World.frozen?_setCell]; exact h.f0, (Below.heap_setCell W _ _ _ (by simp)).trans h.z, h.B.setCell (p := ⟨w.heap.size, 0, none⟩) (Nat.le_refl _) _⟩
theorem put5 {w : World} {g t : Nat} {u1 u2 u3 u4 u5 : Value} (h : w.heap[g]? = some (.cells #[u1, u2, u3, u4, u5] t (0, 0))) (v1 v2 v3 v4 v5 : Value) :
    (((((w.setCell ⟨g, 0, none⟩ v1).setCell ⟨g, 1, none⟩ v2).setCell ⟨g, 2, none⟩ v3).setCell ⟨g, 3, none⟩ v4).setCell ⟨g, 4, none⟩ v5).heap[g]? = some (.cells #[v1, v2, v3, v4, v5] t (0, 0)) := by
  have h1 : (w.setCell ⟨g, 0, none⟩ v1).heap[g]? = some (.cells #[v1, u2, u3, u4, u5] t (0, 0)) := blk_put h 0 v1 rfl
  have h2 : ((w.setCell ⟨g, 0, none⟩ v1).setCell ⟨g, 1, none⟩ v2).heap[g]? = some (.cells #[v1, v2, u3, u4, u5] t (0, 0)) := blk_put h1 1 v2 rfl
  have h3 : (((w.setCell ⟨g, 0, none⟩ v1).setCell ⟨g, 1, none⟩ v2).setCell ⟨g, 2, none⟩ v3).heap[g]? = some (.cells #[v1, v2, v3, u4, u5] t (0, 0)) := blk_put h2 2 v3 rfl
  have h4 : ((((w.setCell ⟨g, 0, none⟩ v1).setCell ⟨g, 1, none⟩ v2).setCell ⟨g, 2, none⟩ v3).setCell ⟨g, 3, none⟩ v4).heap[g]? = some (.cells #[v1, v2, v3, v4, u5] t (0, 0)) := blk_put h3 3 v4 rfl
  have h5 : (((((w.setCell ⟨g, 0, none⟩ v1).setCell ⟨g, 1, none⟩ v2).setCell ⟨g, 2, none⟩ v3).setCell ⟨g, 3, none⟩ v4).setCell ⟨g, 4, none⟩ v5).heap[g]? = some (.cells #[v1, v2, v3, v4, v5] t (0, 0)) := blk_put h4 4 v5 rfl
  exact h5
theorem set5_below {w0 w : World} {g : Nat} (h : Below w0.heap.size w0 w) (hg : w0.heap.size ≤ g) (v1 v2 v3 v4 v5 : Value) : Below w0.heap.size w0 (((((w.setCell ⟨g, 0, none⟩ v1).setCell ⟨g, 1, none⟩ v2).setCell ⟨g, 2, none⟩ v3).setCell ⟨g, 3, none⟩ v4).setCell ⟨g, 4, none⟩ v5) :=
  below_set (below_set (below_set (below_set (below_set h hg) hg) hg) hg) hg
theorem LX.alloc {w W : World} {a : Int} (h : LX w a W) (o : Obj) : LX w a (W.alloc o) := h.step (below_alloc (Below.refl _ W) o)
theorem LX.drew {w W : World} {a : Int} (h : LX w a W) : LX w a W.drew := h.drewN 1
theorem LX.z0 {w W : World} {a : Int} (h : LX w a W) : W.cell? ⟨w.heap.size + 1, 0, none⟩ = some (.int .i64 0) := (blk_cell h.z 0).trans rfl
theorem LX.y0 {w W : World} {a : Int} (h : LX w a W) : W.frozen? ⟨w.heap.size + 1, 0, none⟩ = false := blk_frozen h.z 0
theorem LX.z1 {w W : World} {a : Int} (h : LX w a W) : W.cell? ⟨w.heap.size + 1, 1, none⟩ = some (.int .i64 0) := (blk_cell h.z 1).trans rfl
theorem LX.y1 {w W : World} {a : Int} (h : LX w a W) : W.frozen? ⟨w.heap.size + 1, 1, none⟩ = false := blk_frozen h.z 1
theorem LX.z2 {w W : World} {a : Int} (h : LX w a W) : W.cell? ⟨w.heap.size + 1, 2, none⟩ = some (.int .i64 0) := (blk_cell h.z 2).trans rfl
theorem LX.y2 {w W : World} {a : Int} (h : LX w a W) : W.frozen? ⟨w.heap.size + 1, 2, none⟩ = false := blk_frozen h.z 2
theorem LX.z3 {w W : World} {a : Int} (h : LX w a W) : W.cell? ⟨w.heap.size + 1, 3, none⟩ = some (.int .i64 0) := (blk_cell h.z 3).trans rfl
theorem LX.y3 {w W : World} {a : Int} (h : LX w a W) : W.frozen? ⟨w.heap.size + 1, 3, none⟩ = false := blk_frozen h.z 3
theorem LX.z4 {w W : World} {a : Int} (h : LX w a W) : W.cell? ⟨w.heap.size + 1, 4, none⟩ = some (.string ⟨#[]⟩) := (blk_cell h.z 4).trans rfl
theorem LX.y4 {w W : World} {a : Int} (h : LX w a W) : W.frozen? ⟨w.heap.size + 1, 4, none⟩ = false := blk_frozen h.z 4
set_option maxHeartbeats 16000000 in
set_option maxRecDepth 100000 in
theorem lex_Next.calls (a0 : ByteArray) (a1 : Int) (r1 r2 r3 r4 : Int) (r5 : ByteArray) (r6 : Int) (w : World) (h : lex_Next.f a0 a1 = some (r1, r2, r3, r4, r5, r6)) :
    Calls Try.prog 7 #[.string a0, .int .i64 a1] w fun e w' => e = .returned (.tuple #[.agg #[.int .i64 r1, .int .i64 r2, .int .i64 r3, .int .i64 r4, .string r5], .int .i64 r6]) ∧ Below w.heap.size w w' := by
  unfold lex_Next.f at h
  by_cases hs : a0.size ≤ 35184372080000
  case neg => rw [if_neg hs] at h; cases h
  rw [if_pos hs] at h
  have H : nextP a0 a1 = (r1, r2, r3, r4, r5, r6) := Option.some.inj h
  clear h
  have hs2 : a0.size ≤ 140737488351232 := by omega
  have hmf : ∀ (fn : Fn) (first cap : Array Value) (w : World), (Instr.makeFunc fn first cap).run Try.prog w = .ok (.func fn first cap) w := fun _ _ _ _ => rfl
  have hu := Try.underlying24
  have L0 := Aside0.mk (LX.start w a1)
  have q0 := L0.out.c0
  have q1 := L0.out.f0
  have z0 := LX.z0 L0.out
  have y0 := LX.y0 L0.out
  have z1 := LX.z1 L0.out
  have y1 := LX.y1 L0.out
  have z2 := LX.z2 L0.out
  have y2 := LX.y2 L0.out
  have z3 := LX.z3 L0.out
  have y3 := LX.y3 L0.out
  have z4 := LX.z4 L0.out
  have y4 := LX.y4 L0.out
  unfold nextP at H
  by_cases c1 : a1 < 0
  · rw [if_pos c1] at H
    simp only [failP, Prod.mk.injEq] at H
    obtain ⟨rfl, rfl, rfl, rfl, rfl, rfl⟩ := H
    go_enter Try.func7, Try.ntmps7
    go_wp2
    refine bodyPost_ret (results_ct rfl _ _ (w.heap.size + 1) 24 (tkC 0 0 0 0 ⟨#[]⟩) (0, 0) _ rfl L0.out.z hu rfl (by kernel_rfl)) rfl ?_
    exact ⟨by simp, L0.out.B⟩
  rw [if_neg c1] at H
  have d1 := c1
  clear c1
  by_cases c1 : a1 > (a0.size : Int)
  · rw [if_pos c1] at H
    simp only [failP, Prod.mk.injEq] at H
    obtain ⟨rfl, rfl, rfl, rfl, rfl, rfl⟩ := H
    go_enter Try.func7, Try.ntmps7
    go_wp2
    refine bodyPost_ret (results_ct rfl _ _ (w.heap.size + 1) 24 (tkC 0 0 0 0 ⟨#[]⟩) (0, 0) _ rfl L0.out.z hu rfl (by kernel_rfl)) rfl ?_
    exact ⟨by simp, L0.out.B⟩
  rw [if_neg c1] at H
  have d2 := c1
  clear c1
  have HR := Aside0.mk H
  clear H
  go_enter Try.func7, Try.ntmps7
  go_wp2_with fail
  go_loopg [] (a0.size + 1) (fun kq W => ∃ a : Int, Aside0 (LX w a W) ∧ Aside0 (0 ≤ a) ∧ Aside0 (a ≤ (a0.size : Int)) ∧ Aside0 ((a0.size : Int) < kq + a) ∧ Aside0 (tokP a0 (skipP a0 kq a) = (r1, r2, r3, r4, r5, r6)))
  case atStart => exact ⟨a1, L0, ⟨by omega⟩, ⟨by omega⟩, ⟨by omega⟩, HR⟩
  case round =>
    clear L0 HR q0 q1 z0 z1 z2 z3 z4 y0 y1 y2 y3 y4
    obtain ⟨W, rfl⟩ : ∃ W : World, W = wr := ⟨_, rfl⟩
    obtain ⟨a, L0, ⟨h0⟩, ⟨h1⟩, ⟨hk⟩, HR⟩ := hrel
    have q0 := L0.out.c0
    have q1 := L0.out.f0
    have z0 := LX.z0 L0.out
    have y0 := LX.y0 L0.out
    have z1 := LX.z1 L0.out
    have y1 := LX.y1 L0.out
    have z2 := LX.z2 L0.out
    have y2 := LX.y2 L0.out
    have z3 := LX.z3 L0.out
    have y3 := LX.y3 L0.out
    have z4 := LX.z4 L0.out
    have y4 := LX.y4 L0.out
    have hx := bt_at a0 a
    have hbt := bt_range a0 a
    cases gk with
    | zero => omega
    | succ k1 =>
      have H := HR.out
      clear HR
      rw [skipP] at H
      by_cases c1 : a < (a0.size : Int)
      case neg =>
        rw [if_neg c1, tokP, if_pos (by omega)] at H
        obtain rfl : a = (a0.size : Int) := by omega
        simp only [Prod.mk.injEq] at H
        obtain ⟨rfl, rfl, rfl, rfl, rfl, rfl⟩ := H
        clear hx c1 hk h1 d1 d2
        go_wp2
        refine bodyPost_ret (results_ct rfl _ _ (w.heap.size + 1) 24 (tkC 12 (a0.size : Int) (a0.size : Int) 0 ⟨#[]⟩) (0, 0) _ rfl (put5 L0.out.z _ _ _ _ _) hu rfl (by kernel_rfl)) rfl ?_
        exact ⟨by simp [tkC], set5_below L0.out.B (by omega) _ _ _ _ _⟩
      rw [if_pos c1] at H
      by_cases c2 : blankI (bt a0 a) = true
      case pos =>
        rw [if_pos c2] at H
        have HR := Aside0.mk H
        clear H
        go_wp2_with (go_at_call 13; with_reducible refine (lex_blank.calls _ _ _ (blank_f _)).mono ?_; rintro e w1 ⟨rfl, hd⟩; obtain ⟨⟨nd, rfl⟩⟩ := hd; have L1 := Aside0.mk (LX.drewN L0.out nd); have q3 := L1.out.c0; have q4 := L1.out.f0; clear q0 q1)
        go_roundg k1
        case measure => omega
        case rel => exact ⟨_, ⟨L1.out.set _⟩, ⟨by omega⟩, ⟨by omega⟩, ⟨by omega⟩, HR⟩
      clear z0 z1 z2 z3 z4 y0 y1 y2 y3 y4
      rw [if_neg c2, tokP, if_neg (by omega)] at H
      have c2b := Bool.eq_false_iff.mpr c2
      clear c2
      cases hsg : signP (bt a0 a) with
      | some k =>
        rw [hsg] at H
        simp only [Prod.mk.injEq] at H
        obtain ⟨rfl, rfl, rfl, rfl, rfl, rfl⟩ := H
        go_wp2_with (first | (go_at_call 13; with_reducible refine (lex_blank.calls _ _ _ (blank_f _)).mono ?_; rintro e w1 ⟨rfl, hd⟩; obtain ⟨⟨nd, rfl⟩⟩ := hd; have L1 := Aside0.mk (LX.drewN L0.out nd); have q3 := L1.out.c0; have q4 := L1.out.f0; clear q0 q1) | (go_at_call 15; with_reducible refine (lex_signs.calls _).mono ?_; rintro e w2 ⟨b2, rfl, ho2, hb2⟩; have L2 := Aside0.mk (L1.out.step hb2); have l2 := sign_look ho2 hbt.1 hbt.2; rw [hsg] at l2; simp only [Option.getD_some, Option.isSome_some] at l2; clear hb2 ho2; have q6 := L2.out.c0; have q7 := L2.out.f0; have z0 := LX.z0 L2.out; have y0 := LX.y0 L2.out; have z1 := LX.z1 L2.out; have y1 := LX.y1 L2.out; have z2 := LX.z2 L2.out; have y2 := LX.y2 L2.out; have z3 := LX.z3 L2.out; have y3 := LX.y3 L2.out; have z4 := LX.z4 L2.out; have y4 := LX.y4 L2.out; clear q3 q4))
        refine bodyPost_ret (results_ct rfl _ _ (w.heap.size + 1) 24 (tkC k a (a + 1) 0 ⟨#[]⟩) (0, 0) _ rfl (put5 L2.out.z _ _ _ _ _) hu rfl (by kernel_rfl)) rfl ?_
        exact ⟨by simp [tkC], set5_below L2.out.B (by omega) _ _ _ _ _⟩
      | none =>
        rw [hsg] at H
        simp only at H
        cases hnm : nameP (bt a0 a) with
        | some k =>
          rw [hnm] at H
          simp only at H
          by_cases c3 : preP a0 a (nameS k) = true
          case neg =>
            rw [if_neg c3] at H
            have c3b := Bool.eq_false_iff.mpr c3
            clear c3
            simp only [failP, Prod.mk.injEq] at H
            obtain ⟨rfl, rfl, rfl, rfl, rfl, rfl⟩ := H
            go_wp2_with (first | (go_at_call 13; with_reducible refine (lex_blank.calls _ _ _ (blank_f _)).mono ?_; rintro e w1 ⟨rfl, hd⟩; obtain ⟨⟨nd, rfl⟩⟩ := hd; have L1 := Aside0.mk (LX.drewN L0.out nd); have q3 := L1.out.c0; have q4 := L1.out.f0; clear q0 q1) | (go_at_call 15; with_reducible refine (lex_signs.calls _).mono ?_; rintro e w2 ⟨b2, rfl, ho2, hb2⟩; have L2 := Aside0.mk (L1.out.step hb2); have l2 := sign_look ho2 hbt.1 hbt.2; rw [hsg] at l2; simp only [Option.getD_none, Option.isSome_none] at l2; clear hb2 ho2; have q6 := L2.out.c0; have q7 := L2.out.f0; have z0 := LX.z0 L2.out; have y0 := LX.y0 L2.out; have z1 := LX.z1 L2.out; have y1 := LX.y1 L2.out; have z2 := LX.z2 L2.out; have y2 := LX.y2 L2.out; have z3 := LX.z3 L2.out; have y3 := LX.y3 L2.out; have z4 := LX.z4 L2.out; have y4 := LX.y4 L2.out; clear q3 q4) | (go_at_call 16; with_reducible refine (lex_names.calls _).mono ?_; rintro e w3 ⟨b3, rfl, ho3, hb3⟩; have L3 := Aside0.mk (L2.out.step hb3); have l3 := name_look ho3 hbt.1 hbt.2; rw [hnm] at l3; simp only [Option.getD_some, Option.isSome_some, tkV] at l3; clear hb3 ho3 z0 z1 z2 z3 z4 y0 y1 y2 y3 y4; have q9 := LX.c0 (LX.alloc L3.out (.cells (tkC k 0 0 0 (nameS k)) 24)); have z0 := LX.z0 L3.out; have y0 := LX.y0 L3.out; have z1 := LX.z1 L3.out; have y1 := LX.y1 L3.out; have z2 := LX.z2 L3.out; have y2 := LX.y2 L3.out; have z3 := LX.z3 L3.out; have y3 := LX.y3 L3.out; have z4 := LX.z4 L3.out; have y4 := LX.y4 L3.out; clear q6 q7))
            unfold preP at c3b
            have T4 := Aside0.mk (LX.alloc L3.out (.cells (tkC k 0 0 0 (nameS k)) 24))
            have U4 : Aside0 ((w3.alloc (.cells (tkC k 0 0 0 (nameS k)) 24)).heap[w3.heap.size]? = some (.cells (tkC k 0 0 0 (nameS k)) 24 (0, 0))) := ⟨blk_new _ _⟩
            have p0 := T4.out.c0
            have p1 := T4.out.f0
            have p4 : (w3.alloc (.cells (tkC k 0 0 0 (nameS k)) 24)).cell? ⟨w3.heap.size, 4, none⟩ = some (.string (nameS k)) := (blk_cell U4.out 4).trans rfl
            go_region_held3 (fun w' => w'.cell? ⟨w.heap.size, 0, none⟩ = some (.int .i64 a) ∧ w'.cell? ⟨w3.heap.size, 4, none⟩ = some (.string (nameS k)) ∧ Aside0 (LX w a w') ∧ Aside0 (w'.heap[w3.heap.size]? = some (.cells (tkC k 0 0 0 (nameS k)) 24 (0, 0)))) (first | exact ⟨p0, p4, T4, U4⟩ | exact ⟨p0, p4, ⟨T4.out.drewN 1⟩, U4⟩) ((go_at_call 17; with_reducible refine (Try.strings_HasPrefix _ _ _).mono ?_; rintro e w5 ⟨rfl, hw5⟩; subst hw5; rw [c3b]))
            clear p0 p1 p4 q9 z0 z1 z2 z3 z4 y0 y1 y2 y3 y4
            skip
            go_wp2_with (go_at_call 14; with_reducible refine (lex_fails 6 a _ _ (LX.c0 (LX.drew (LX.alloc L3.out _)))).mono ?_; rintro e w5 ⟨rfl, hb5⟩; have L5 := Aside0.mk ((LX.drew (LX.alloc L3.out _)).step hb5); have z0 := LX.z0 L5.out; have y0 := LX.y0 L5.out; have z1 := LX.z1 L5.out; have y1 := LX.y1 L5.out; have z2 := LX.z2 L5.out; have y2 := LX.y2 L5.out; have z3 := LX.z3 L5.out; have y3 := LX.y3 L5.out; have z4 := LX.z4 L5.out; have y4 := LX.y4 L5.out; clear hb5)
            refine bodyPost_ret (results_ct rfl _ _ (w.heap.size + 1) 24 (tkC 0 a 0 0 ⟨#[]⟩) (0, 0) _ rfl (put5 L5.out.z _ _ _ _ _) hu rfl (by kernel_rfl)) rfl ?_
            exact ⟨by simp [tkC], set5_below L5.out.B (by omega) _ _ _ _ _⟩
          case pos =>
            rw [if_pos c3] at H
            simp only [failP, Prod.mk.injEq] at H
            obtain ⟨rfl, rfl, rfl, rfl, rfl, rfl⟩ := H
            go_wp2_with (first | (go_at_call 13; with_reducible refine (lex_blank.calls _ _ _ (blank_f _)).mono ?_; rintro e w1 ⟨rfl, hd⟩; obtain ⟨⟨nd, rfl⟩⟩ := hd; have L1 := Aside0.mk (LX.drewN L0.out nd); have q3 := L1.out.c0; have q4 := L1.out.f0; clear q0 q1) | (go_at_call 15; with_reducible refine (lex_signs.calls _).mono ?_; rintro e w2 ⟨b2, rfl, ho2, hb2⟩; have L2 := Aside0.mk (L1.out.step hb2); have l2 := sign_look ho2 hbt.1 hbt.2; rw [hsg] at l2; simp only [Option.getD_none, Option.isSome_none] at l2; clear hb2 ho2; have q6 := L2.out.c0; have q7 := L2.out.f0; have z0 := LX.z0 L2.out; have y0 := LX.y0 L2.out; have z1 := LX.z1 L2.out; have y1 := LX.y1 L2.out; have z2 := LX.z2 L2.out; have y2 := LX.y2 L2.out; have z3 := LX.z3 L2.out; have y3 := LX.y3 L2.out; have z4 := LX.z4 L2.out; have y4 := LX.y4 L2.out; clear q3 q4) | (go_at_call 16; with_reducible refine (lex_names.calls _).mono ?_; rintro e w3 ⟨b3, rfl, ho3, hb3⟩; have L3 := Aside0.mk (L2.out.step hb3); have l3 := name_look ho3 hbt.1 hbt.2; rw [hnm] at l3; simp only [Option.getD_some, Option.isSome_some, tkV] at l3; clear hb3 ho3 z0 z1 z2 z3 z4 y0 y1 y2 y3 y4; have q9 := LX.c0 (LX.alloc L3.out (.cells (tkC k 0 0 0 (nameS k)) 24)); have z0 := LX.z0 L3.out; have y0 := LX.y0 L3.out; have z1 := LX.z1 L3.out; have y1 := LX.y1 L3.out; have z2 := LX.z2 L3.out; have y2 := LX.y2 L3.out; have z3 := LX.z3 L3.out; have y3 := LX.y3 L3.out; have z4 := LX.z4 L3.out; have y4 := LX.y4 L3.out; clear q6 q7))
            have hns := nameS_size k
            have hw : wrap64 (a + ((nameS k).size : Int)) = a + ((nameS k).size : Int) := by unfold wrap64; omega
            unfold preP at c3
            have T4 := Aside0.mk (LX.alloc L3.out (.cells (tkC k 0 0 0 (nameS k)) 24))
            have U4 : Aside0 ((w3.alloc (.cells (tkC k 0 0 0 (nameS k)) 24)).heap[w3.heap.size]? = some (.cells (tkC k 0 0 0 (nameS k)) 24 (0, 0))) := ⟨blk_new _ _⟩
            have p0 := T4.out.c0
            have p1 := T4.out.f0
            have p4 : (w3.alloc (.cells (tkC k 0 0 0 (nameS k)) 24)).cell? ⟨w3.heap.size, 4, none⟩ = some (.string (nameS k)) := (blk_cell U4.out 4).trans rfl
            go_region_held3 (fun w' => w'.cell? ⟨w.heap.size, 0, none⟩ = some (.int .i64 a) ∧ w'.cell? ⟨w3.heap.size, 4, none⟩ = some (.string (nameS k)) ∧ Aside0 (LX w a w') ∧ Aside0 (w'.heap[w3.heap.size]? = some (.cells (tkC k 0 0 0 (nameS k)) 24 (0, 0)))) (first | exact ⟨p0, p4, T4, U4⟩ | exact ⟨p0, p4, ⟨T4.out.drewN 1⟩, U4⟩) ((go_at_call 17; with_reducible refine (Try.strings_HasPrefix _ _ _).mono ?_; rintro e w5 ⟨rfl, hw5⟩; subst hw5; rw [c3]))
            clear p0 p1 p4 q9 z0 z1 z2 z3 z4 y0 y1 y2 y3 y4
            skip
            have L5 := Aside0.mk (LX.drew T4.out)
            have q20 := L5.out.c0
            have q21 := L5.out.f0
            have z0 := LX.z0 L5.out
            have y0 := LX.y0 L5.out
            have z1 := LX.z1 L5.out
            have y1 := LX.y1 L5.out
            have z2 := LX.z2 L5.out
            have y2 := LX.y2 L5.out
            have z3 := LX.z3 L5.out
            have y3 := LX.y3 L5.out
            have z4 := LX.z4 L5.out
            have y4 := LX.y4 L5.out
            have V5 : Aside0 ((w3.alloc (.cells (tkC k 0 0 0 (nameS k)) 24)).drew.heap[w3.heap.size]? = some (.cells (tkC k 0 0 0 (nameS k)) 24 (0, 0))) := ⟨U4.out⟩
            have q22 := (blk_cell V5.out 0).trans rfl
            have q23 := (blk_cell V5.out 4).trans rfl
            have u0 := LX.z0 T4.out
            have v0 := LX.y0 T4.out
            have u1 := LX.z1 T4.out
            have v1 := LX.y1 T4.out
            have u2 := LX.z2 T4.out
            have v2 := LX.y2 T4.out
            have u3 := LX.z3 T4.out
            have v3 := LX.y3 T4.out
            have u4 := LX.z4 T4.out
            have v4 := LX.y4 T4.out
            have s0 := LX.z0 L3.out
            have t0 := LX.y0 L3.out
            have s1 := LX.z1 L3.out
            have t1 := LX.y1 L3.out
            have s2 := LX.z2 L3.out
            have t2 := LX.y2 L3.out
            have s3 := LX.z3 L3.out
            have t3 := LX.y3 L3.out
            have s4 := LX.z4 L3.out
            have t4 := LX.y4 L3.out
            go_wp2
            refine bodyPost_ret (results_ct rfl _ _ (w.heap.size + 1) 24 (tkC k a (a + ((nameS k).size : Int)) 0 ⟨#[]⟩) (0, 0) _ rfl (put5 T4.out.z _ _ _ _ _) hu rfl (by kernel_rfl)) rfl ?_
            exact ⟨by simp [tkC], (set5_below T4.out.B (by omega) _ _ _ _ _).drew⟩
        | none =>
          rw [hnm] at H
          simp only at H
          by_cases c4 : bt a0 a = 34
          case pos =>
            rw [if_pos c4] at H
            have c4b : (bt a0 a == 34) = true := by simp [c4]
            clear c4
            cases hun : unqP a0 a with | mk x1 x2 =>
            obtain ⟨x2, x3⟩ := x2
            rw [hun] at H
            simp only at H
            have HUN := Aside0.mk hun
            clear hun
            by_cases c8 : x3 = 0
            case pos =>
              rw [if_pos c8] at H
              subst c8
              simp only [Prod.mk.injEq] at H
              obtain ⟨rfl, rfl, rfl, rfl, rfl, rfl⟩ := H
              go_wp2_with (first | (go_at_call 13; with_reducible refine (lex_blank.calls _ _ _ (blank_f _)).mono ?_; rintro e w1 ⟨rfl, hd⟩; obtain ⟨⟨nd, rfl⟩⟩ := hd; have L1 := Aside0.mk (LX.drewN L0.out nd); have q3 := L1.out.c0; have q4 := L1.out.f0; clear q0 q1) | (go_at_call 15; with_reducible refine (lex_signs.calls _).mono ?_; rintro e w2 ⟨b2, rfl, ho2, hb2⟩; have L2 := Aside0.mk (L1.out.step hb2); have l2 := sign_look ho2 hbt.1 hbt.2; rw [hsg] at l2; simp only [Option.getD_none, Option.isSome_none] at l2; clear hb2 ho2; have q6 := L2.out.c0; have q7 := L2.out.f0; have z0 := LX.z0 L2.out; have y0 := LX.y0 L2.out; have z1 := LX.z1 L2.out; have y1 := LX.y1 L2.out; have z2 := LX.z2 L2.out; have y2 := LX.y2 L2.out; have z3 := LX.z3 L2.out; have y3 := LX.y3 L2.out; have z4 := LX.z4 L2.out; have y4 := LX.y4 L2.out; clear q3 q4) | (go_at_call 16; with_reducible refine (lex_names.calls _).mono ?_; rintro e w3 ⟨b3, rfl, ho3, hb3⟩; have L3 := Aside0.mk (L2.out.step hb3); have l3 := name_look ho3 hbt.1 hbt.2; rw [hnm] at l3; simp only [Option.getD_none, Option.isSome_none, tkV_zero] at l3; clear hb3 ho3 z0 z1 z2 z3 z4 y0 y1 y2 y3 y4; have q9 := LX.c0 (LX.alloc L3.out (.cells (tkC 0 0 0 0 ⟨#[]⟩) 24)); have z0 := LX.z0 L3.out; have y0 := LX.y0 L3.out; have z1 := LX.z1 L3.out; have y1 := LX.y1 L3.out; have z2 := LX.z2 L3.out; have y2 := LX.y2 L3.out; have z3 := LX.z3 L3.out; have y3 := LX.y3 L3.out; have z4 := LX.z4 L3.out; have y4 := LX.y4 L3.out; clear q6 q7) | (go_at_call 18; with_reducible refine (esc_Unquote.calls a0 a x1 x2 _ _ (by unfold esc_Unquote.f; rw [if_pos hs, HUN.out])).mono ?_; rintro e w6 ⟨rfl, hb6⟩; have L6 := Aside0.mk ((LX.alloc L3.out _).step hb6); clear hb6 q9 z0 z1 z2 z3 z4 y0 y1 y2 y3 y4; have q11 := L6.out.c0; have q12 := L6.out.f0; have z0 := LX.z0 L6.out; have y0 := LX.y0 L6.out; have z1 := LX.z1 L6.out; have y1 := LX.y1 L6.out; have z2 := LX.z2 L6.out; have y2 := LX.y2 L6.out; have z3 := LX.z3 L6.out; have y3 := LX.y3 L6.out; have z4 := LX.z4 L6.out; have y4 := LX.y4 L6.out))
              refine bodyPost_ret (results_ct rfl _ _ (w.heap.size + 1) 24 (tkC 10 a x2 0 x1) (0, 0) _ rfl (put5 L6.out.z _ _ _ _ _) hu rfl (by kernel_rfl)) rfl ?_
              exact ⟨by simp [tkC], set5_below L6.out.B (by omega) _ _ _ _ _⟩
            rw [if_neg c8] at H
            have c8b : (x3 == 0) = false := by simp [c8]
            have c8c : (x3 != 0) = true := by simp [c8]
            clear c8
            simp only [failP, Prod.mk.injEq] at H
            obtain ⟨rfl, rfl, rfl, rfl, rfl, rfl⟩ := H
            go_wp2_with (first | (go_at_call 13; with_reducible refine (lex_blank.calls _ _ _ (blank_f _)).mono ?_; rintro e w1 ⟨rfl, hd⟩; obtain ⟨⟨nd, rfl⟩⟩ := hd; have L1 := Aside0.mk (LX.drewN L0.out nd); have q3 := L1.out.c0; have q4 := L1.out.f0; clear q0 q1) | (go_at_call 15; with_reducible refine (lex_signs.calls _).mono ?_; rintro e w2 ⟨b2, rfl, ho2, hb2⟩; have L2 := Aside0.mk (L1.out.step hb2); have l2 := sign_look ho2 hbt.1 hbt.2; rw [hsg] at l2; simp only [Option.getD_none, Option.isSome_none] at l2; clear hb2 ho2; have q6 := L2.out.c0; have q7 := L2.out.f0; have z0 := LX.z0 L2.out; have y0 := LX.y0 L2.out; have z1 := LX.z1 L2.out; have y1 := LX.y1 L2.out; have z2 := LX.z2 L2.out; have y2 := LX.y2 L2.out; have z3 := LX.z3 L2.out; have y3 := LX.y3 L2.out; have z4 := LX.z4 L2.out; have y4 := LX.y4 L2.out; clear q3 q4) | (go_at_call 16; with_reducible refine (lex_names.calls _).mono ?_; rintro e w3 ⟨b3, rfl, ho3, hb3⟩; have L3 := Aside0.mk (L2.out.step hb3); have l3 := name_look ho3 hbt.1 hbt.2; rw [hnm] at l3; simp only [Option.getD_none, Option.isSome_none, tkV_zero] at l3; clear hb3 ho3 z0 z1 z2 z3 z4 y0 y1 y2 y3 y4; have q9 := LX.c0 (LX.alloc L3.out (.cells (tkC 0 0 0 0 ⟨#[]⟩) 24)); have z0 := LX.z0 L3.out; have y0 := LX.y0 L3.out; have z1 := LX.z1 L3.out; have y1 := LX.y1 L3.out; have z2 := LX.z2 L3.out; have y2 := LX.y2 L3.out; have z3 := LX.z3 L3.out; have y3 := LX.y3 L3.out; have z4 := LX.z4 L3.out; have y4 := LX.y4 L3.out; clear q6 q7) | (go_at_call 18; with_reducible refine (esc_Unquote.calls a0 a x1 x2 _ _ (by unfold esc_Unquote.f; rw [if_pos hs, HUN.out])).mono ?_; rintro e w6 ⟨rfl, hb6⟩; have L6 := Aside0.mk ((LX.alloc L3.out _).step hb6); clear hb6 q9 z0 z1 z2 z3 z4 y0 y1 y2 y3 y4; have q11 := L6.out.c0; have q12 := L6.out.f0; have z0 := LX.z0 L6.out; have y0 := LX.y0 L6.out; have z1 := LX.z1 L6.out; have y1 := LX.y1 L6.out; have z2 := LX.z2 L6.out; have y2 := LX.y2 L6.out; have z3 := LX.z3 L6.out; have y3 := LX.y3 L6.out; have z4 := LX.z4 L6.out; have y4 := LX.y4 L6.out) | (go_at_call 14; with_reducible refine (lex_fails x3 a _ _ q11).mono ?_; rintro e w5 ⟨rfl, hb5⟩; clear z0 z1 z2 z3 z4 y0 y1 y2 y3 y4; have L5 := Aside0.mk (L6.out.step hb5); have z0 := LX.z0 L5.out; have y0 := LX.y0 L5.out; have z1 := LX.z1 L5.out; have y1 := LX.y1 L5.out; have z2 := LX.z2 L5.out; have y2 := LX.y2 L5.out; have z3 := LX.z3 L5.out; have y3 := LX.y3 L5.out; have z4 := LX.z4 L5.out; have y4 := LX.y4 L5.out; clear hb5 q11 q12))
            refine bodyPost_ret (results_ct rfl _ _ (w.heap.size + 1) 24 (tkC 0 a 0 0 ⟨#[]⟩) (0, 0) _ rfl (put5 L5.out.z _ _ _ _ _) hu rfl (by kernel_rfl)) rfl ?_
            exact ⟨by simp [tkC], set5_below L5.out.B (by omega) _ _ _ _ _⟩
          rw [if_neg c4] at H
          have c4b : (bt a0 a == 34) = false := by simp [c4]
          clear c4
          by_cases c5 : bt a0 a = 45 ∨ (48 ≤ bt a0 a ∧ bt a0 a ≤ 57)
          case pos =>
            rw [if_pos c5] at H
            by_cases c6 : bt a0 a = 45
            · have c6b : (bt a0 a == 45) = true := by simp [c6]
              clear c6 c5
              cases hun : numScan a0 a with | mk x1 x2 =>
              obtain ⟨x2, x3⟩ := x2
              rw [hun] at H
              simp only at H
              have HUN := Aside0.mk hun
              clear hun
              by_cases c8 : x3 = 0
              case pos =>
                rw [if_pos c8] at H
                subst c8
                simp only [Prod.mk.injEq] at H
                obtain ⟨rfl, rfl, rfl, rfl, rfl, rfl⟩ := H
                go_wp2_with (first | (go_at_call 13; with_reducible refine (lex_blank.calls _ _ _ (blank_f _)).mono ?_; rintro e w1 ⟨rfl, hd⟩; obtain ⟨⟨nd, rfl⟩⟩ := hd; have L1 := Aside0.mk (LX.drewN L0.out nd); have q3 := L1.out.c0; have q4 := L1.out.f0; clear q0 q1) | (go_at_call 15; with_reducible refine (lex_signs.calls _).mono ?_; rintro e w2 ⟨b2, rfl, ho2, hb2⟩; have L2 := Aside0.mk (L1.out.step hb2); have l2 := sign_look ho2 hbt.1 hbt.2; rw [hsg] at l2; simp only [Option.getD_none, Option.isSome_none] at l2; clear hb2 ho2; have q6 := L2.out.c0; have q7 := L2.out.f0; have z0 := LX.z0 L2.out; have y0 := LX.y0 L2.out; have z1 := LX.z1 L2.out; have y1 := LX.y1 L2.out; have z2 := LX.z2 L2.out; have y2 := LX.y2 L2.out; have z3 := LX.z3 L2.out; have y3 := LX.y3 L2.out; have z4 := LX.z4 L2.out; have y4 := LX.y4 L2.out; clear q3 q4) | (go_at_call 16; with_reducible refine (lex_names.calls _).mono ?_; rintro e w3 ⟨b3, rfl, ho3, hb3⟩; have L3 := Aside0.mk (L2.out.step hb3); have l3 := name_look ho3 hbt.1 hbt.2; rw [hnm] at l3; simp only [Option.getD_none, Option.isSome_none, tkV_zero] at l3; clear hb3 ho3 z0 z1 z2 z3 z4 y0 y1 y2 y3 y4; have q9 := LX.c0 (LX.alloc L3.out (.cells (tkC 0 0 0 0 ⟨#[]⟩) 24)); have z0 := LX.z0 L3.out; have y0 := LX.y0 L3.out; have z1 := LX.z1 L3.out; have y1 := LX.y1 L3.out; have z2 := LX.z2 L3.out; have y2 := LX.y2 L3.out; have z3 := LX.z3 L3.out; have y3 := LX.y3 L3.out; have z4 := LX.z4 L3.out; have y4 := LX.y4 L3.out; clear q6 q7) | (go_at_call 19; with_reducible refine (num_Scan.calls a0 a x1 x2 _ _ (by unfold num_Scan.f; rw [if_pos hs2, HUN.out])).mono ?_; rintro e w6 ⟨rfl, hb6⟩; have L6 := Aside0.mk ((LX.alloc L3.out _).step hb6); clear hb6 q9 z0 z1 z2 z3 z4 y0 y1 y2 y3 y4; have q11 := L6.out.c0; have q12 := L6.out.f0; have z0 := LX.z0 L6.out; have y0 := LX.y0 L6.out; have z1 := LX.z1 L6.out; have y1 := LX.y1 L6.out; have z2 := LX.z2 L6.out; have y2 := LX.y2 L6.out; have z3 := LX.z3 L6.out; have y3 := LX.y3 L6.out; have z4 := LX.z4 L6.out; have y4 := LX.y4 L6.out))
                refine bodyPost_ret (results_ct rfl _ _ (w.heap.size + 1) 24 (tkC 11 a x2 x1 ⟨#[]⟩) (0, 0) _ rfl (put5 L6.out.z _ _ _ _ _) hu rfl (by kernel_rfl)) rfl ?_
                exact ⟨by simp [tkC], set5_below L6.out.B (by omega) _ _ _ _ _⟩
              rw [if_neg c8] at H
              have c8b : (x3 == 0) = false := by simp [c8]
              have c8c : (x3 != 0) = true := by simp [c8]
              clear c8
              simp only [failP, Prod.mk.injEq] at H
              obtain ⟨rfl, rfl, rfl, rfl, rfl, rfl⟩ := H
              go_wp2_with (first | (go_at_call 13; with_reducible refine (lex_blank.calls _ _ _ (blank_f _)).mono ?_; rintro e w1 ⟨rfl, hd⟩; obtain ⟨⟨nd, rfl⟩⟩ := hd; have L1 := Aside0.mk (LX.drewN L0.out nd); have q3 := L1.out.c0; have q4 := L1.out.f0; clear q0 q1) | (go_at_call 15; with_reducible refine (lex_signs.calls _).mono ?_; rintro e w2 ⟨b2, rfl, ho2, hb2⟩; have L2 := Aside0.mk (L1.out.step hb2); have l2 := sign_look ho2 hbt.1 hbt.2; rw [hsg] at l2; simp only [Option.getD_none, Option.isSome_none] at l2; clear hb2 ho2; have q6 := L2.out.c0; have q7 := L2.out.f0; have z0 := LX.z0 L2.out; have y0 := LX.y0 L2.out; have z1 := LX.z1 L2.out; have y1 := LX.y1 L2.out; have z2 := LX.z2 L2.out; have y2 := LX.y2 L2.out; have z3 := LX.z3 L2.out; have y3 := LX.y3 L2.out; have z4 := LX.z4 L2.out; have y4 := LX.y4 L2.out; clear q3 q4) | (go_at_call 16; with_reducible refine (lex_names.calls _).mono ?_; rintro e w3 ⟨b3, rfl, ho3, hb3⟩; have L3 := Aside0.mk (L2.out.step hb3); have l3 := name_look ho3 hbt.1 hbt.2; rw [hnm] at l3; simp only [Option.getD_none, Option.isSome_none, tkV_zero] at l3; clear hb3 ho3 z0 z1 z2 z3 z4 y0 y1 y2 y3 y4; have q9 := LX.c0 (LX.alloc L3.out (.cells (tkC 0 0 0 0 ⟨#[]⟩) 24)); have z0 := LX.z0 L3.out; have y0 := LX.y0 L3.out; have z1 := LX.z1 L3.out; have y1 := LX.y1 L3.out; have z2 := LX.z2 L3.out; have y2 := LX.y2 L3.out; have z3 := LX.z3 L3.out; have y3 := LX.y3 L3.out; have z4 := LX.z4 L3.out; have y4 := LX.y4 L3.out; clear q6 q7) | (go_at_call 19; with_reducible refine (num_Scan.calls a0 a x1 x2 _ _ (by unfold num_Scan.f; rw [if_pos hs2, HUN.out])).mono ?_; rintro e w6 ⟨rfl, hb6⟩; have L6 := Aside0.mk ((LX.alloc L3.out _).step hb6); clear hb6 q9 z0 z1 z2 z3 z4 y0 y1 y2 y3 y4; have q11 := L6.out.c0; have q12 := L6.out.f0; have z0 := LX.z0 L6.out; have y0 := LX.y0 L6.out; have z1 := LX.z1 L6.out; have y1 := LX.y1 L6.out; have z2 := LX.z2 L6.out; have y2 := LX.y2 L6.out; have z3 := LX.z3 L6.out; have y3 := LX.y3 L6.out; have z4 := LX.z4 L6.out; have y4 := LX.y4 L6.out) | (go_at_call 14; with_reducible refine (lex_fails x3 a _ _ q11).mono ?_; rintro e w5 ⟨rfl, hb5⟩; clear z0 z1 z2 z3 z4 y0 y1 y2 y3 y4; have L5 := Aside0.mk (L6.out.step hb5); have z0 := LX.z0 L5.out; have y0 := LX.y0 L5.out; have z1 := LX.z1 L5.out; have y1 := LX.y1 L5.out; have z2 := LX.z2 L5.out; have y2 := LX.y2 L5.out; have z3 := LX.z3 L5.out; have y3 := LX.y3 L5.out; have z4 := LX.z4 L5.out; have y4 := LX.y4 L5.out; clear hb5 q11 q12))
              refine bodyPost_ret (results_ct rfl _ _ (w.heap.size + 1) 24 (tkC 0 a 0 0 ⟨#[]⟩) (0, 0) _ rfl (put5 L5.out.z _ _ _ _ _) hu rfl (by kernel_rfl)) rfl ?_
              exact ⟨by simp [tkC], set5_below L5.out.B (by omega) _ _ _ _ _⟩
            have c6b : (bt a0 a == 45) = false := by simp [c6]
            have c7 : 48 ≤ bt a0 a := by omega
            have c8 : bt a0 a ≤ 57 := by omega
            clear c6 c5
            cases hun : numScan a0 a with | mk x1 x2 =>
            obtain ⟨x2, x3⟩ := x2
            rw [hun] at H
            simp only at H
            have HUN := Aside0.mk hun
            clear hun
            by_cases c8 : x3 = 0
            case pos =>
              rw [if_pos c8] at H
              subst c8
              simp only [Prod.mk.injEq] at H
              obtain ⟨rfl, rfl, rfl, rfl, rfl, rfl⟩ := H
              go_wp2_with (first | (go_at_call 13; with_reducible refine (lex_blank.calls _ _ _ (blank_f _)).mono ?_; rintro e w1 ⟨rfl, hd⟩; obtain ⟨⟨nd, rfl⟩⟩ := hd; have L1 := Aside0.mk (LX.drewN L0.out nd); have q3 := L1.out.c0; have q4 := L1.out.f0; clear q0 q1) | (go_at_call 15; with_reducible refine (lex_signs.calls _).mono ?_; rintro e w2 ⟨b2, rfl, ho2, hb2⟩; have L2 := Aside0.mk (L1.out.step hb2); have l2 := sign_look ho2 hbt.1 hbt.2; rw [hsg] at l2; simp only [Option.getD_none, Option.isSome_none] at l2; clear hb2 ho2; have q6 := L2.out.c0; have q7 := L2.out.f0; have z0 := LX.z0 L2.out; have y0 := LX.y0 L2.out; have z1 := LX.z1 L2.out; have y1 := LX.y1 L2.out; have z2 := LX.z2 L2.out; have y2 := LX.y2 L2.out; have z3 := LX.z3 L2.out; have y3 := LX.y3 L2.out; have z4 := LX.z4 L2.out; have y4 := LX.y4 L2.out; clear q3 q4) | (go_at_call 16; with_reducible refine (lex_names.calls _).mono ?_; rintro e w3 ⟨b3, rfl, ho3, hb3⟩; have L3 := Aside0.mk (L2.out.step hb3); have l3 := name_look ho3 hbt.1 hbt.2; rw [hnm] at l3; simp only [Option.getD_none, Option.isSome_none, tkV_zero] at l3; clear hb3 ho3 z0 z1 z2 z3 z4 y0 y1 y2 y3 y4; have q9 := LX.c0 (LX.alloc L3.out (.cells (tkC 0 0 0 0 ⟨#[]⟩) 24)); have z0 := LX.z0 L3.out; have y0 := LX.y0 L3.out; have z1 := LX.z1 L3.out; have y1 := LX.y1 L3.out; have z2 := LX.z2 L3.out; have y2 := LX.y2 L3.out; have z3 := LX.z3 L3.out; have y3 := LX.y3 L3.out; have z4 := LX.z4 L3.out; have y4 := LX.y4 L3.out; clear q6 q7) | (go_at_call 19; with_reducible refine (num_Scan.calls a0 a x1 x2 _ _ (by unfold num_Scan.f; rw [if_pos hs2, HUN.out])).mono ?_; rintro e w6 ⟨rfl, hb6⟩; have L6 := Aside0.mk ((LX.alloc L3.out _).step hb6); clear hb6 q9 z0 z1 z2 z3 z4 y0 y1 y2 y3 y4; have q11 := L6.out.c0; have q12 := L6.out.f0; have z0 := LX.z0 L6.out; have y0 := LX.y0 L6.out; have z1 := LX.z1 L6.out; have y1 := LX.y1 L6.out; have z2 := LX.z2 L6.out; have y2 := LX.y2 L6.out; have z3 := LX.z3 L6.out; have y3 := LX.y3 L6.out; have z4 := LX.z4 L6.out; have y4 := LX.y4 L6.out))
              refine bodyPost_ret (results_ct rfl _ _ (w.heap.size + 1) 24 (tkC 11 a x2 x1 ⟨#[]⟩) (0, 0) _ rfl (put5 L6.out.z _ _ _ _ _) hu rfl (by kernel_rfl)) rfl ?_
              exact ⟨by simp [tkC], set5_below L6.out.B (by omega) _ _ _ _ _⟩
            rw [if_neg c8] at H
            have c8b : (x3 == 0) = false := by simp [c8]
            have c8c : (x3 != 0) = true := by simp [c8]
            clear c8
            simp only [failP, Prod.mk.injEq] at H
            obtain ⟨rfl, rfl, rfl, rfl, rfl, rfl⟩ := H
            go_wp2_with (first | (go_at_call 13; with_reducible refine (lex_blank.calls _ _ _ (blank_f _)).mono ?_; rintro e w1 ⟨rfl, hd⟩; obtain ⟨⟨nd, rfl⟩⟩ := hd; have L1 := Aside0.mk (LX.drewN L0.out nd); have q3 := L1.out.c0; have q4 := L1.out.f0; clear q0 q1) | (go_at_call 15; with_reducible refine (lex_signs.calls _).mono ?_; rintro e w2 ⟨b2, rfl, ho2, hb2⟩; have L2 := Aside0.mk (L1.out.step hb2); have l2 := sign_look ho2 hbt.1 hbt.2; rw [hsg] at l2; simp only [Option.getD_none, Option.isSome_none] at l2; clear hb2 ho2; have q6 := L2.out.c0; have q7 := L2.out.f0; have z0 := LX.z0 L2.out; have y0 := LX.y0 L2.out; have z1 := LX.z1 L2.out; have y1 := LX.y1 L2.out; have z2 := LX.z2 L2.out; have y2 := LX.y2 L2.out; have z3 := LX.z3 L2.out; have y3 := LX.y3 L2.out; have z4 := LX.z4 L2.out; have y4 := LX.y4 L2.out; clear q3 q4) | (go_at_call 16; with_reducible refine (lex_names.calls _).mono ?_; rintro e w3 ⟨b3, rfl, ho3, hb3⟩; have L3 := Aside0.mk (L2.out.step hb3); have l3 := name_look ho3 hbt.1 hbt.2; rw [hnm] at l3; simp only [Option.getD_none, Option.isSome_none, tkV_zero] at l3; clear hb3 ho3 z0 z1 z2 z3 z4 y0 y1 y2 y3 y4; have q9 := LX.c0 (LX.alloc L3.out (.cells (tkC 0 0 0 0 ⟨#[]⟩) 24)); have z0 := LX.z0 L3.out; have y0 := LX.y0 L3.out; have z1 := LX.z1 L3.out; have y1 := LX.y1 L3.out; have z2 := LX.z2 L3.out; have y2 := LX.y2 L3.out; have z3 := LX.z3 L3.out; have y3 := LX.y3 L3.out; have z4 := LX.z4 L3.out; have y4 := LX.y4 L3.out; clear q6 q7) | (go_at_call 19; with_reducible refine (num_Scan.calls a0 a x1 x2 _ _ (by unfold num_Scan.f; rw [if_pos hs2, HUN.out])).mono ?_; rintro e w6 ⟨rfl, hb6⟩; have L6 := Aside0.mk ((LX.alloc L3.out _).step hb6); clear hb6 q9 z0 z1 z2 z3 z4 y0 y1 y2 y3 y4; have q11 := L6.out.c0; have q12 := L6.out.f0; have z0 := LX.z0 L6.out; have y0 := LX.y0 L6.out; have z1 := LX.z1 L6.out; have y1 := LX.y1 L6.out; have z2 := LX.z2 L6.out; have y2 := LX.y2 L6.out; have z3 := LX.z3 L6.out; have y3 := LX.y3 L6.out; have z4 := LX.z4 L6.out; have y4 := LX.y4 L6.out) | (go_at_call 14; with_reducible refine (lex_fails x3 a _ _ q11).mono ?_; rintro e w5 ⟨rfl, hb5⟩; clear z0 z1 z2 z3 z4 y0 y1 y2 y3 y4; have L5 := Aside0.mk (L6.out.step hb5); have z0 := LX.z0 L5.out; have y0 := LX.y0 L5.out; have z1 := LX.z1 L5.out; have y1 := LX.y1 L5.out; have z2 := LX.z2 L5.out; have y2 := LX.y2 L5.out; have z3 := LX.z3 L5.out; have y3 := LX.y3 L5.out; have z4 := LX.z4 L5.out; have y4 := LX.y4 L5.out; clear hb5 q11 q12))
            refine bodyPost_ret (results_ct rfl _ _ (w.heap.size + 1) 24 (tkC 0 a 0 0 ⟨#[]⟩) (0, 0) _ rfl (put5 L5.out.z _ _ _ _ _) hu rfl (by kernel_rfl)) rfl ?_
            exact ⟨by simp [tkC], set5_below L5.out.B (by omega) _ _ _ _ _⟩
          rw [if_neg c5] at H
          simp only [failP, Prod.mk.injEq] at H
          obtain ⟨rfl, rfl, rfl, rfl, rfl, rfl⟩ := H
          have c5a : (bt a0 a == 45) = false := by simp; omega
          by_cases c6 : 48 ≤ bt a0 a
          case pos =>
            have c7 : ¬ bt a0 a ≤ 57 := by omega
            clear c5
            go_wp2_with (first | (go_at_call 13; with_reducible refine (lex_blank.calls _ _ _ (blank_f _)).mono ?_; rintro e w1 ⟨rfl, hd⟩; obtain ⟨⟨nd, rfl⟩⟩ := hd; have L1 := Aside0.mk (LX.drewN L0.out nd); have q3 := L1.out.c0; have q4 := L1.out.f0; clear q0 q1) | (go_at_call 15; with_reducible refine (lex_signs.calls _).mono ?_; rintro e w2 ⟨b2, rfl, ho2, hb2⟩; have L2 := Aside0.mk (L1.out.step hb2); have l2 := sign_look ho2 hbt.1 hbt.2; rw [hsg] at l2; simp only [Option.getD_none, Option.isSome_none] at l2; clear hb2 ho2; have q6 := L2.out.c0; have q7 := L2.out.f0; have z0 := LX.z0 L2.out; have y0 := LX.y0 L2.out; have z1 := LX.z1 L2.out; have y1 := LX.y1 L2.out; have z2 := LX.z2 L2.out; have y2 := LX.y2 L2.out; have z3 := LX.z3 L2.out; have y3 := LX.y3 L2.out; have z4 := LX.z4 L2.out; have y4 := LX.y4 L2.out; clear q3 q4) | (go_at_call 16; with_reducible refine (lex_names.calls _).mono ?_; rintro e w3 ⟨b3, rfl, ho3, hb3⟩; have L3 := Aside0.mk (L2.out.step hb3); have l3 := name_look ho3 hbt.1 hbt.2; rw [hnm] at l3; simp only [Option.getD_none, Option.isSome_none, tkV_zero] at l3; clear hb3 ho3 z0 z1 z2 z3 z4 y0 y1 y2 y3 y4; have q9 := LX.c0 (LX.alloc L3.out (.cells (tkC 0 0 0 0 ⟨#[]⟩) 24)); have z0 := LX.z0 L3.out; have y0 := LX.y0 L3.out; have z1 := LX.z1 L3.out; have y1 := LX.y1 L3.out; have z2 := LX.z2 L3.out; have y2 := LX.y2 L3.out; have z3 := LX.z3 L3.out; have y3 := LX.y3 L3.out; have z4 := LX.z4 L3.out; have y4 := LX.y4 L3.out; clear q6 q7) | (go_at_call 14; with_reducible refine (lex_fails 6 a _ _ (LX.c0 (LX.alloc L3.out _))).mono ?_; rintro e w5 ⟨rfl, hb5⟩; clear z0 z1 z2 z3 z4 y0 y1 y2 y3 y4; have L5 := Aside0.mk ((LX.alloc L3.out _).step hb5); have z0 := LX.z0 L5.out; have y0 := LX.y0 L5.out; have z1 := LX.z1 L5.out; have y1 := LX.y1 L5.out; have z2 := LX.z2 L5.out; have y2 := LX.y2 L5.out; have z3 := LX.z3 L5.out; have y3 := LX.y3 L5.out; have z4 := LX.z4 L5.out; have y4 := LX.y4 L5.out; clear hb5 q9))
            refine bodyPost_ret (results_ct rfl _ _ (w.heap.size + 1) 24 (tkC 0 a 0 0 ⟨#[]⟩) (0, 0) _ rfl (put5 L5.out.z _ _ _ _ _) hu rfl (by kernel_rfl)) rfl ?_
            exact ⟨by simp [tkC], set5_below L5.out.B (by omega) _ _ _ _ _⟩
          case neg =>
            skip
            clear c5
            go_wp2_with (first | (go_at_call 13; with_reducible refine (lex_blank.calls _ _ _ (blank_f _)).mono ?_; rintro e w1 ⟨rfl, hd⟩; obtain ⟨⟨nd, rfl⟩⟩ := hd; have L1 := Aside0.mk (LX.drewN L0.out nd); have q3 := L1.out.c0; have q4 := L1.out.f0; clear q0 q1) | (go_at_call 15; with_reducible refine (lex_signs.calls _).mono ?_; rintro e w2 ⟨b2, rfl, ho2, hb2⟩; have L2 := Aside0.mk (L1.out.step hb2); have l2 := sign_look ho2 hbt.1 hbt.2; rw [hsg] at l2; simp only [Option.getD_none, Option.isSome_none] at l2; clear hb2 ho2; have q6 := L2.out.c0; have q7 := L2.out.f0; have z0 := LX.z0 L2.out; have y0 := LX.y0 L2.out; have z1 := LX.z1 L2.out; have y1 := LX.y1 L2.out; have z2 := LX.z2 L2.out; have y2 := LX.y2 L2.out; have z3 := LX.z3 L2.out; have y3 := LX.y3 L2.out; have z4 := LX.z4 L2.out; have y4 := LX.y4 L2.out; clear q3 q4) | (go_at_call 16; with_reducible refine (lex_names.calls _).mono ?_; rintro e w3 ⟨b3, rfl, ho3, hb3⟩; have L3 := Aside0.mk (L2.out.step hb3); have l3 := name_look ho3 hbt.1 hbt.2; rw [hnm] at l3; simp only [Option.getD_none, Option.isSome_none, tkV_zero] at l3; clear hb3 ho3 z0 z1 z2 z3 z4 y0 y1 y2 y3 y4; have q9 := LX.c0 (LX.alloc L3.out (.cells (tkC 0 0 0 0 ⟨#[]⟩) 24)); have z0 := LX.z0 L3.out; have y0 := LX.y0 L3.out; have z1 := LX.z1 L3.out; have y1 := LX.y1 L3.out; have z2 := LX.z2 L3.out; have y2 := LX.y2 L3.out; have z3 := LX.z3 L3.out; have y3 := LX.y3 L3.out; have z4 := LX.z4 L3.out; have y4 := LX.y4 L3.out; clear q6 q7) | (go_at_call 14; with_reducible refine (lex_fails 6 a _ _ (LX.c0 (LX.alloc L3.out _))).mono ?_; rintro e w5 ⟨rfl, hb5⟩; clear z0 z1 z2 z3 z4 y0 y1 y2 y3 y4; have L5 := Aside0.mk ((LX.alloc L3.out _).step hb5); have z0 := LX.z0 L5.out; have y0 := LX.y0 L5.out; have z1 := LX.z1 L5.out; have y1 := LX.y1 L5.out; have z2 := LX.z2 L5.out; have y2 := LX.y2 L5.out; have z3 := LX.z3 L5.out; have y3 := LX.y3 L5.out; have z4 := LX.z4 L5.out; have y4 := LX.y4 L5.out; clear hb5 q9))
            refine bodyPost_ret (results_ct rfl _ _ (w.heap.size + 1) 24 (tkC 0 a 0 0 ⟨#[]⟩) (0, 0) _ rfl (put5 L5.out.z _ _ _ _ _) hu rfl (by kernel_rfl)) rfl ?_
            exact ⟨by simp [tkC], set5_below L5.out.B (by omega) _ _ _ _ _⟩
end Go.Proofs.Ytjdgjifacdnkgaa.X
end
section
namespace Go.Proofs.Ytjdgjifacdnkgaa.X
open Go.RowKit Go.Proofs.YtjdgjifacdnkgaaW.PrintWords Go.Proofs.YtjdgjifacdnkgaaW.PrintLast Go.Proofs.YtjdgjifacdnkgaaW.PrintMore
set_option linter.unusedVariables false
set_option linter.unusedSimpArgs false
theorem skip_range (t : ByteArray) : ∀ (k : Nat) (a : Int), a ≤ (t.size : Int) → a ≤ skipP t k a ∧ skipP t k a ≤ (t.size : Int)
  | 0, a, h => ⟨by simp [skipP], by simpa [skipP] using h⟩
  | k + 1, a, h => by
    unfold skipP
    split
    · split
      · have := skip_range t k (a + 1) (by omega)
        omega
      · omega
    · omega
theorem text_place (t : ByteArray) : ∀ (f : Nat) (a : Int) (l l' : List Int) (b : Int), 0 ≤ a → textP t f a l = .ok (l', b) → a < b ∧ b ≤ (t.size : Int)
  | 0, a, l, l', b, h0, h => by simp [textP] at h
  | f + 1, a, l, l', b, h0, h => by
    unfold textP at h
    by_cases c1 : a < (t.size : Int)
    · rw [if_pos c1] at h
      by_cases c2 : bt t a = 34
      · rw [if_pos c2] at h
        simp only [Except.ok.injEq, Prod.mk.injEq] at h
        omega
      · rw [if_neg c2] at h
        by_cases c3 : bt t a = 92
        · rw [if_pos c3] at h
          cases he : escP t (a + 1) with
          | error e => rw [he] at h; cases h
          | ok x =>
            obtain ⟨v, b1⟩ := x
            rw [he] at h
            simp only at h
            have p := esc_place (by omega) he
            have := text_place t f b1 _ l' b (by omega) h
            omega
        · rw [if_neg c3] at h
          by_cases c4 : bt t a < 32
          · rw [if_pos c4] at h; cases h
          · rw [if_neg c4] at h
            cases hd : dec t a.toNat with
            | none => rw [hd] at h; cases h
            | some x =>
              obtain ⟨v, n⟩ := x
              rw [hd] at h
              simp only at h
              have := text_place t f (a + n) _ l' b (by omega) h
              omega
    · rw [if_neg c1] at h; cases h
theorem must_ne {t : ByteArray} {c a : Int} : mustP t c a ≠ .error 0 := by
  unfold mustP; split
  · split <;> simp
  · simp
theorem four_ne (t : ByteArray) : ∀ (k : Nat) (n a : Int), fourP t k n a ≠ .error 0
  | 0, n, a => by simp [fourP]
  | k + 1, n, a => by
    unfold fourP; split
    · split
      · simp
      · exact four_ne t k _ _
    · simp
theorem pair_ne (t : ByteArray) (n a : Int) : pairP t n a ≠ .error 0 := by
  unfold pairP
  cases h1 : mustP t 92 a with
  | error e => simp only; intro h; injection h with h; subst h; exact must_ne h1
  | ok x =>
    simp only
    cases h2 : mustP t 117 x.2 with
    | error e => simp only; intro h; injection h with h; subst h; exact must_ne h2
    | ok y =>
      simp only
      cases h3 : fourP t 4 0 y.2 with
      | error e => simp only; intro h; injection h with h; subst h; exact four_ne _ _ _ _ h3
      | ok z =>
        simp only
        split
        · simp
        · split <;> simp
theorem esc_ne (t : ByteArray) (a : Int) : escP t a ≠ .error 0 := by
  unfold escP
  split
  · split
    · simp
    · split
      · cases h3 : fourP t 4 0 (a + 1) with
        | error e => simp only; intro h; injection h with h; subst h; exact four_ne _ _ _ _ h3
        | ok z =>
          simp only
          split
          · simp
          · split
            · simp
            · split
              · simp
              · exact pair_ne _ _ _
      · simp
  · simp
theorem text_ne (t : ByteArray) : ∀ (f : Nat) (a : Int) (l : List Int), 0 ≤ a → a ≤ (t.size : Int) → (t.size : Int) < f + a → textP t f a l ≠ .error 0
  | 0, a, l, h0, ha, hf => by omega
  | f + 1, a, l, h0, ha, hf => by
    unfold textP
    by_cases c1 : a < (t.size : Int)
    · rw [if_pos c1]
      by_cases c2 : bt t a = 34
      · rw [if_pos c2]; simp
      · rw [if_neg c2]
        by_cases c3 : bt t a = 92
        · rw [if_pos c3]
          cases he : escP t (a + 1) with
          | error e => simp only; intro h; injection h with h; subst h; exact esc_ne _ _ he
          | ok x =>
            obtain ⟨v, b1⟩ := x
            have p := esc_place (by omega) he
            exact text_ne t f b1 _ (by omega) (by omega) (by omega)
        · rw [if_neg c3]
          by_cases c4 : bt t a < 32
          · rw [if_pos c4]; simp
          · rw [if_neg c4]
            cases hd : dec t a.toNat with
            | none => simp
            | some x =>
              obtain ⟨v, n⟩ := x
              have q1 := (dec_form hd).2.1
              have q2 := (dec_range hd).1
              exact text_ne t f (a + n) _ (by omega) (by omega) (by omega)
    · rw [if_neg c1]; simp
theorem unq_place {t : ByteArray} {a b : Int} {s : ByteArray} (h0 : 0 ≤ a) (h : unqP t a = (s, b, 0)) : a < b ∧ b ≤ (t.size : Int) := by
  unfold unqP at h
  split at h
  · simp at h
  · split at h
    · simp at h
    · split at h
      · simp at h
      · split at h
        · cases hx : textP t (t.size + 1) (a + 1) [] with
          | error e => rw [hx] at h; simp only [Prod.mk.injEq] at h; obtain ⟨_, _, rfl⟩ := h; exact absurd hx (text_ne t _ _ _ (by omega) (by omega) (by omega))
          | ok x =>
            obtain ⟨l, b1⟩ := x
            rw [hx] at h
            simp only [Prod.mk.injEq] at h
            have := text_place t _ _ _ _ _ (by omega) hx
            omega
        · simp at h
theorem scanL_ge (s : ByteArray) : ∀ (k : Nat) (n i : Int) (o : Bool), i ≤ (s.size : Int) → i ≤ (scanL s k n i o).2.1 ∧ (scanL s k n i o).2.1 ≤ (s.size : Int)
  | 0, n, i, o, h => by simp [scanL, h]
  | k + 1, n, i, o, h => by
    unfold scanL
    by_cases hd : isDig s i = true
    · have hi : i < (s.size : Int) := by simp [isDig] at hd; exact hd.1
      rw [if_pos hd]
      split
      · have := scanL_ge s k 9007199254740991 (i + 1) true (by omega); omega
      · have := scanL_ge s k (10 * n + (bt s i - 48)) (i + 1) o (by omega); omega
    · rw [if_neg hd]; exact ⟨Int.le_refl _, h⟩
theorem scanEnd_place {s : ByteArray} {a b n i : Int} {o : Bool} {x y : Int} (h : scanEnd s a b n i o = (x, y, 0)) : y = i := by
  unfold scanEnd at h
  repeat' split at h
  all_goals (simp only [Prod.mk.injEq] at h; omega)
theorem scanFrom_place {s : ByteArray} {a b x y : Int} (hb : b ≤ (s.size : Int)) (h : scanFrom s a b = (x, y, 0)) : b < y ∧ y ≤ (s.size : Int) := by
  unfold scanFrom at h
  split at h
  · simp at h
  · split at h
    · rename_i hd
      have := scanEnd_place h
      have hi : b < (s.size : Int) := by simp [isDig] at hd; exact hd.1
      have hg := scanL_ge s (((s.size : Int) - b).toNat + 1) 0 b false hb
      have hstep : b + 1 ≤ (scanL s (((s.size : Int) - b).toNat + 1) 0 b false).2.1 := by
        unfold scanL
        rw [if_pos hd]
        split
        · exact (scanL_ge s _ _ (b + 1) true (by omega)).1
        · exact (scanL_ge s _ _ (b + 1) false (by omega)).1
      omega
    · simp at h
theorem num_place {s : ByteArray} {a x y : Int} (h0 : 0 ≤ a) (ha : a < (s.size : Int)) (h : numScan s a = (x, y, 0)) : a < y ∧ y ≤ (s.size : Int) := by
  unfold numScan at h
  rw [if_neg (by omega), if_neg (by omega)] at h
  split at h
  · have := scanFrom_place (by omega) h; omega
  · exact scanFrom_place (by omega) h
theorem pre_size : ∀ (a b : List UInt8), Lib.hasPrefix a b = true → b.length ≤ a.length := by
  intro a b h
  unfold Lib.hasPrefix at h
  exact (List.isPrefixOf_iff_prefix.1 h).length_le
theorem sign_ne {c k : Int} (h : signP c = some k) : k ≠ 12 := by
  unfold signP at h
  repeat' split at h
  all_goals first | (cases h; done) | (simp only [Option.some.injEq] at h; omega)
theorem name_in {c k : Int} (h : nameP c = some k) : k = 7 ∨ k = 8 ∨ k = 9 := by
  unfold nameP at h
  repeat' split at h
  all_goals first | (cases h; done) | (simp only [Option.some.injEq] at h; omega)
theorem name_size {k : Int} (h : k = 7 ∨ k = 8 ∨ k = 9) : 4 ≤ (nameS k).size := by
  rcases h with rfl | rfl | rfl <;> decide
theorem tok_place {t : ByteArray} {a kd f b n : Int} {s : ByteArray} (h0 : 0 ≤ a) (ha : a ≤ (t.size : Int)) (h : tokP t a = (kd, f, b, n, s, 0)) : f = a ∧ ((kd = 12 ∧ a = (t.size : Int)) ∨ (kd ≠ 12 ∧ a < b ∧ b ≤ (t.size : Int))) := by
  unfold tokP failP at h
  by_cases c1 : a = (t.size : Int)
  · rw [if_pos c1] at h
    simp only [Prod.mk.injEq] at h
    omega
  rw [if_neg c1] at h
  cases hs : signP (bt t a) with
  | some k =>
    rw [hs] at h
    simp only [Prod.mk.injEq] at h
    have := sign_ne hs
    omega
  | none =>
    rw [hs] at h
    simp only at h
    cases hn : nameP (bt t a) with
    | some k =>
      rw [hn] at h
      simp only at h
      have hk := name_in hn
      have hz := name_size hk
      by_cases c2 : preP t a (nameS k) = true
      · rw [if_pos c2] at h
        simp only [Prod.mk.injEq] at h
        have hp := pre_size _ _ c2
        simp only [ByteArray.data_extract, Array.toList_extract, List.extract_eq_take_drop, List.length_take, List.length_drop, Array.length_toList] at hp
        have e1 : (nameS k).data.size = (nameS k).size := rfl
        have e2 : t.data.size = t.size := rfl
        omega
      · rw [if_neg c2] at h
        simp at h
    | none =>
      rw [hn] at h
      simp only at h
      by_cases c3 : bt t a = 34
      · rw [if_pos c3] at h
        cases hu : unqP t a with
        | mk x y =>
          obtain ⟨y, e⟩ := y
          rw [hu] at h
          simp only at h
          by_cases c4 : e = 0
          · rw [if_pos c4] at h
            subst c4
            have := unq_place h0 hu
            simp only [Prod.mk.injEq] at h
            omega
          · rw [if_neg c4] at h
            simp only [Prod.mk.injEq] at h
            omega
      · rw [if_neg c3] at h
        by_cases c5 : bt t a = 45 ∨ (48 ≤ bt t a ∧ bt t a ≤ 57)
        · rw [if_pos c5] at h
          cases hu : numScan t a with
          | mk x y =>
            obtain ⟨y, e⟩ := y
            rw [hu] at h
            simp only at h
            by_cases c4 : e = 0
            · rw [if_pos c4] at h
              subst c4
              have := num_place h0 (by omega) hu
              simp only [Prod.mk.injEq] at h
              omega
            · rw [if_neg c4] at h
              simp only [Prod.mk.injEq] at h
              omega
        · rw [if_neg c5] at h
          simp at h
theorem next_place {t : ByteArray} {a kd f b n : Int} {s : ByteArray} (h : nextP t a = (kd, f, b, n, s, 0)) : 0 ≤ a ∧ a ≤ f ∧ f = skipP t (t.size + 1) a ∧ f ≤ (t.size : Int) ∧ ((kd = 12 ∧ f = (t.size : Int)) ∨ (kd ≠ 12 ∧ f < b ∧ b ≤ (t.size : Int))) := by
  unfold nextP failP at h
  split at h
  · simp at h
  · split at h
    · simp at h
    · have hr := skip_range t (t.size + 1) a (by omega)
      have := tok_place (by omega) hr.2 h
      omega
end Go.Proofs.Ytjdgjifacdnkgaa.X
end
section
namespace Go.Proofs.Ytjdgjifacdnkgaa.X
open Go.RowKit Go.Shelf Go.Proofs.YtjdgjifacdnkgaaW.PrintWords
attribute [local go_sem] Oper.semAt_some
set_option linter.unusedVariables false
set_option linter.unusedSimpArgs false
def lexL (t : ByteArray) : Nat → Int → Option (List S24 × Int × Int)
  | 0, _ => none
  | k + 1, a => match nextP t a with
    | (kd, f, b, n, s, e) => if e = 0 then (if kd = 12 then some ([⟨kd, f, b, n, s⟩], 0, 0) else (lexL t k b).map fun y => (⟨kd, f, b, n, s⟩ :: y.1, y.2)) else some ([], f, e)
abbrev tokW (x : S24) : Value := .agg #[.int .i64 x.f0, .int .i64 x.f1, .int .i64 x.f2, .int .i64 x.f3, .string x.f4]
abbrev encTok (x : S24) : Array Value := #[tokW x]
def KeepTok (Bn : Nat) (v : Value) (W W' : World) : Prop := (W.cell? ⟨Bn, 0, none⟩ = some v → W'.cell? ⟨Bn, 0, none⟩ = some v) ∧ ∀ (b : Nat) (cs : Array Value), Bn ≤ b → W.heap[b]? = some (.cells cs 24 (0, 0)) → cs.size = 5 → W'.heap[b]? = some (.cells cs 24 (0, 0))
theorem keepTok_t {Bn : Nat} {v : Value} {A B C : World} (h : KeepTok Bn v A B) (k : KeepTok Bn v B C) : KeepTok Bn v A C := ⟨fun x => k.1 (h.1 x), fun b cs hb h1 h2 => k.2 b cs hb (h.2 b cs hb h1 h2) h2⟩
theorem keepTok_b {Bn : Nat} {v : Value} (n : Nat) (W : World) (l : Nat) (o o' : Obj) (_ : n ≤ l) (ho : W.heap[l]? = some o) (hc : o.isCells = false) (_ : o.isWalk = false) : KeepTok Bn v W (W.putObj l o') :=
  ⟨fun h => cell_kept h (grownBy_putObj' W l o') (fun r e => by cases e; exact ⟨o, ho, hc⟩), fun b cs _ h1 _ => ((grownBy_putObj' W l o').block b (Array.getElem?_eq_some_iff.1 h1).1 (fun e => by cases e; rw [ho] at h1; cases h1; simp [Obj.isCells] at hc)).trans h1⟩
theorem next_f {t : ByteArray} (hs : t.size ≤ 35184372080000) (a : Int) : lex_Next.f t a = some (nextP t a) := by unfold lex_Next.f; rw [if_pos hs]
set_option maxRecDepth 100000 in
set_option maxHeartbeats 2000000 in
theorem lex_All1 (n : Nat) (hn : 1 ≤ n) (l Bn : Nat) (k : Nat) (t : ByteArray) (hs : t.size ≤ 35184372080000) (xs : List S24) (en : Int × Int) (hx : lexL t k 0 = some (xs, en)) (J Jx : List S24 → World → Prop) (B : Nat) (hJ : AbidesFrom B J)
    (hY : ∀ pre x W, J pre W → pre.length < xs.length → YieldAt Fence.wide (n - 1) Try.prog l (encTok x) W fun e W' =>
      (e = .returned (.bool true) ∧ J (pre ++ [x]) W' ∧ KeepTok Bn (.string t) W W') ∨ (e = .returned (.bool false) ∧ Jx (pre ++ [x]) W'))
    (W : World) (hBn : W.cell? ⟨Bn, 0, none⟩ = some (.string t)) (h0 : J [] W) :
    CallsIn Fence.wide n Try.prog 24 #[.func (.yield l) #[] #[], .pointer (some ⟨Bn, 0, none⟩)] W fun e W' => (∃ v, e = .returned v) ∧
      ((∃ ys, ys = xs ∧ J ys W') ∨ (∃ pre, pre <+: xs ∧ Jx pre W')) := by
  refine callsIn_of_wp Try.func24 rfl trivial ?_ rfl
  simp only [Try.ntmps24, List.size_toArray, List.length_cons, List.length_nil, Nat.reduceAdd, Nat.reduceSub, Array.replicate_succ, Array.replicate_zero, List.push_toArray, List.append_toArray, List.nil_append, List.cons_append]
  gi_wp2
  gi_loopw [3, 4, 5] (fun p3 p4 p5 wr => ∃ (at_ : Int) (pre rest : List S24) (k1 : Nat), p3 = .int .i64 at_ ∧ xs = pre ++ rest ∧ Aside0 (lexL t k1 at_ = some (rest, en)) ∧ wr.cell? ⟨Bn, 0, none⟩ = some (.string t) ∧ J pre wr)
    (fun p3 p4 p5 wr => ((t.size : Int) - intOf p3).toNat)
  case atStart =>
    exact ⟨0, [], xs, k, rfl, rfl, ⟨hx⟩, hBn, h0⟩
  case round =>
    obtain ⟨at_, pre, rest, k1, rfl, hxs, HA, hc, hJs⟩ := hrel
    have H := HA.out
    cases k1 with
    | zero => simp [lexL] at H
    | succ k1 =>
      unfold lexL at H
      cases hN : nextP t at_ with
      | mk kd y =>
      obtain ⟨f, b, nn, s, e⟩ := y
      rw [hN] at H
      simp only at H
      have A1 : Aside0 (lex_Next.f t at_ = some (kd, f, b, nn, s, e)) := ⟨by rw [next_f hs, hN]⟩
      by_cases c1 : e = 0
      · subst c1
        rw [if_pos rfl] at H
        have hp := next_place hN
        by_cases c2 : kd = 12
        · rw [if_pos c2] at H
          have c2b : (kd == 12) = true := by simp [c2]
          have c2h := Aside0.mk c2
          clear c2
          simp only [Option.some.injEq, Prod.mk.injEq] at H
          obtain ⟨rfl, H⟩ := H
          have H' := Aside0.mk H
          clear H HA
          have hN' := Aside0.mk hN
          clear hN
          have c3 := Aside0.mk hp
          clear hp
          gi_wp2_with (refine ⟨trivial, ?_⟩; gi_at_call 7; refine (callsIn_wide.2 (lex_Next.calls t _ kd f b nn s 0 _ A1.out)).mono ?_; rintro e w1 ⟨rfl, hb⟩; have hJ1 := hJ _ _ _ none hJs ⟨hb.os, hb.tape, hb.output, hb.size, fun k hk _ => hb.block k hk⟩ (fun r e => by cases e); have hc1 := (hb.cell (p := ⟨Bn, 0, none⟩) (World.block_lt_of_cell? _ _ hc)).trans hc; have hJ2 := hJ _ _ _ none hJ1 (World.grownBy_alloc w1 (.cells #[.int .i64 kd, .int .i64 f, .int .i64 b, .int .i64 nn, .string s] 24) none) (fun r e => by cases e); have hc2 := boxv_cell (.cells #[.int .i64 kd, .int .i64 f, .int .i64 b, .int .i64 nn, .string s] 24) hc1; obtain ⟨fn, tmps, assign, body, hy, hR⟩ := hY pre ⟨kd, f, b, nn, s⟩ _ hJ2 (by rw [hxs]; simp); dsimp only [encTok, tokW] at hy)
          refine hR.mono ?_
          rintro e W3 (⟨rfl, hJ3, hk3⟩ | ⟨rfl, hJx3⟩)
          · have hc3 : W3.cell? ⟨Bn, 0, none⟩ = some (.string t) := hk3.1 hc2
            have hT := hk3.2 w1.heap.size _ (Nat.le_of_lt (World.block_lt_of_cell? _ _ hc1)) (blk_new w1 _) rfl
            have t0 : W3.cell? ⟨w1.heap.size, 0, none⟩ = some (.int .i64 kd) := (blk_cell hT 0).trans rfl
            have t2 : W3.cell? ⟨w1.heap.size, 2, none⟩ = some (.int .i64 b) := (blk_cell hT 2).trans rfl
            clear hT
            gi_wp2
            refine bodyPost_ret (results_none rfl _ _ _) rfl ?_
            exact ⟨⟨_, rfl⟩, .inl ⟨pre ++ [⟨kd, f, b, nn, s⟩], by simp [hxs], hJ3⟩⟩
          · gi_wp2
            refine bodyPost_ret (results_none rfl _ _ _) rfl ?_
            exact ⟨⟨_, rfl⟩, .inr ⟨pre ++ [⟨kd, f, b, nn, s⟩], by simp [hxs], hJx3⟩⟩
        · rw [if_neg c2] at H
          replace hp : at_ < b ∧ b ≤ (t.size : Int) := by omega
          have c2b : (kd == 12) = false := by simp [c2]
          clear c2
          obtain ⟨⟨rest', en'⟩, H2, e2⟩ := Option.map_eq_some_iff.1 H
          simp only [Prod.mk.injEq] at e2
          obtain ⟨rfl, rfl⟩ := e2
          have H' := Aside0.mk H2
          clear H H2 HA
          have hN' := Aside0.mk hN
          clear hN
          have c3 := Aside0.mk hp
          clear hp
          gi_wp2_with (refine ⟨trivial, ?_⟩; gi_at_call 7; refine (callsIn_wide.2 (lex_Next.calls t _ kd f b nn s 0 _ A1.out)).mono ?_; rintro e w1 ⟨rfl, hb⟩; have hJ1 := hJ _ _ _ none hJs ⟨hb.os, hb.tape, hb.output, hb.size, fun k hk _ => hb.block k hk⟩ (fun r e => by cases e); have hc1 := (hb.cell (p := ⟨Bn, 0, none⟩) (World.block_lt_of_cell? _ _ hc)).trans hc; have hJ2 := hJ _ _ _ none hJ1 (World.grownBy_alloc w1 (.cells #[.int .i64 kd, .int .i64 f, .int .i64 b, .int .i64 nn, .string s] 24) none) (fun r e => by cases e); have hc2 := boxv_cell (.cells #[.int .i64 kd, .int .i64 f, .int .i64 b, .int .i64 nn, .string s] 24) hc1; obtain ⟨fn, tmps, assign, body, hy, hR⟩ := hY pre ⟨kd, f, b, nn, s⟩ _ hJ2 (by rw [hxs]; simp); dsimp only [encTok, tokW] at hy)
          refine hR.mono ?_
          rintro e W3 (⟨rfl, hJ3, hk3⟩ | ⟨rfl, hJx3⟩)
          · have hc3 : W3.cell? ⟨Bn, 0, none⟩ = some (.string t) := hk3.1 hc2
            have hT := hk3.2 w1.heap.size _ (Nat.le_of_lt (World.block_lt_of_cell? _ _ hc1)) (blk_new w1 _) rfl
            have t0 : W3.cell? ⟨w1.heap.size, 0, none⟩ = some (.int .i64 kd) := (blk_cell hT 0).trans rfl
            have t2 : W3.cell? ⟨w1.heap.size, 2, none⟩ = some (.int .i64 b) := (blk_cell hT 2).trans rfl
            clear hT
            gi_wp2
            go_roundw
            case rel => exact ⟨_, pre ++ [⟨kd, f, b, nn, s⟩], rest', k1, rfl, by simp [hxs], H', hc3, hJ3⟩
            case measure => have := c3.out; simp [intOf]; omega
          · gi_wp2
            refine bodyPost_ret (results_none rfl _ _ _) rfl ?_
            exact ⟨⟨_, rfl⟩, .inr ⟨pre ++ [⟨kd, f, b, nn, s⟩], ⟨rest', by simp [hxs]⟩, hJx3⟩⟩
      · rw [if_neg c1] at H
        have c1b : (e != 0) = true := by simp [c1]
        have c1c : (e == 0) = false := by simp [c1]
        clear c1
        simp only [Option.some.injEq, Prod.mk.injEq] at H
        obtain ⟨rfl, H⟩ := H
        have H' := Aside0.mk H
        clear H HA
        have hN' := Aside0.mk hN
        clear hN
        gi_wp2_with (refine ⟨trivial, ?_⟩; gi_at_call 7; refine (callsIn_wide.2 (lex_Next.calls t _ kd f b nn s e _ A1.out)).mono ?_; rintro e w1 ⟨rfl, hb⟩; have hJ1 := hJ _ _ _ none hJs ⟨hb.os, hb.tape, hb.output, hb.size, fun k hk _ => hb.block k hk⟩ (fun r e => by cases e); have hc1 := (hb.cell (p := ⟨Bn, 0, none⟩) (World.block_lt_of_cell? _ _ hc)).trans hc; have hJ2 := hJ _ _ _ none hJ1 (World.grownBy_alloc w1 (.cells #[.int .i64 kd, .int .i64 f, .int .i64 b, .int .i64 nn, .string s] 24) none) (fun r e => by cases e))
        refine ⟨fun _ h => (by cases h), ?_⟩
        gi_wp2
        refine bodyPost_ret (results_none rfl _ _ _) rfl ?_
        exact ⟨⟨_, rfl⟩, .inl ⟨pre, by simp [hxs], hJ2⟩⟩
theorem lex_All_stops (n : Nat) (hn : 1 ≤ n) (Bn : Nat) (k : Nat) (t : ByteArray) (hs : t.size ≤ 35184372080000) (xs : List S24) (en : Int × Int) (hx : lexL t k 0 = some (xs, en)) (w : World) (hBn : Bn < w.heap.size)
    (hc : w.cell? ⟨Bn, 0, none⟩ = some (.string t)) :
    SeqStopsK Fence.wide n Try.prog 24 #[.pointer (some ⟨Bn, 0, none⟩)] encTok (KeepTok Bn (.string t)) (fun ys => ys = xs) (fun pre => pre <+: xs) xs.length w := fun l J Jx W hW hJ _ hY h0 =>
  lex_All1 n hn l Bn k t hs xs en hx J Jx _ hJ hY W ((hW.cell (p := ⟨Bn, 0, none⟩) hBn).trans hc) h0
theorem lex_All_in (n : Nat) (t : ByteArray) (w : World) :
    CallsIn Fence.wide n Try.prog 11 #[.string t] w fun e w' => e = .returned (.func (.func 24) #[] #[.pointer (some ⟨w.heap.size, 0, none⟩)]) ∧ w' = w.alloc (.cells #[.string t] 9) := by
  refine callsIn_of_wp Try.func11 rfl trivial ?_ rfl
  simp only [Try.ntmps11, List.size_toArray, List.length_cons, List.length_nil, Nat.reduceAdd, Nat.reduceSub, Array.replicate_succ, Array.replicate_zero, List.push_toArray, List.append_toArray, List.nil_append, List.cons_append]
  gi_wp2
  go_ret
  exact ⟨rfl, rfl⟩
end Go.Proofs.Ytjdgjifacdnkgaa.X
end
section
namespace Go.Proofs.Ytjdgjifacdnkgaa.X
open Go.RowKit Go.Shelf Go.Proofs.YtjdgjifacdnkgaaW.PrintWords
set_option linter.unusedVariables false
set_option linter.unusedSimpArgs false
theorem run_append_keep {P : Program} (w : World) (base : Nat) (t ty e : TypeId) (i : TypeInfo) (z : Value) (size bytes : Nat) (h1 : P.underlying t = some (.slice e)) (h2 : P.info? e = some i) (h3 : i.zero = some z) (h4 : i.size = size) (h5 : i.bytes = bytes) (h6 : z.cells.size = size) (h7 : 0 < size)
    (v : Value) (k : Nat) (xs : List Value) (hown : w.ownsRow base e size v k xs) (hk : v = .slice none 0 0 ∨ 1 ≤ k) (ad : Addr) (c : Nat) (news : List Value) (hn : news.length = size)
    (hc : ∀ j u, news[j]? = some u → w.cell? (ad.add j) = some u) (h1c : ∀ u ∈ news, u.oneCell' = true) (b1 : k + 1 ≤ maxLen) (b2 : (k + 1) * bytes ≤ 140737488355328) (b3 : base ≤ w.heap.size) :
    ∃ v' w', (Builtin.append_ #[t, t] ty #[v, .slice (some ad) 1 c]).run P w = .ok v' w' ∧ w'.ownsRow base e size v' (k + 1) (xs ++ news) ∧ w.grownBy w' v.ownBlock ∧
      ∀ (b : Nat) (cs : Array Value), w.heap[b]? = some (.cells cs e (0, 0)) → cs.size = size → w'.heap[b]? = some (.cells cs e (0, 0)) := by
  obtain ⟨v', w', hr, ho, hg, _⟩ := run_append_own (P := P) w base t ty e i z size bytes h1 h2 h3 h4 h5 h6 h7 v k xs hown ad 1 c news (by simpa using hn) hc h1c b1 b2 b3
  refine ⟨v', w', hr, ho, hg, fun b cs hb hs => ?_⟩
  rcases hown.2 with ⟨hv, _⟩ | ⟨g, cap, cur, hv, hbg, hgb, hnc, hcm, hcs, htake⟩
  · subst hv
    exact (hg.block b (blk_lt hb) (by simp [Value.ownBlock])).trans hb
  · by_cases hbg2 : b = g
    · subst hbg2
      rw [hgb] at hb
      cases hb
      subst hv
      by_cases hroom : k + 1 ≤ cap
      · exfalso
        rcases hk with hk | hk
        · cases hk
        · rw [hcs] at hs
          have : 2 * size ≤ cap * size := Nat.mul_le_mul_right _ (by omega)
          omega
      · obtain ⟨v2, w2, hr2, _, hg2⟩ := run_append_arg_grows (P := P) w t ty e i z size bytes h1 h2 h3 h4 h5 h6 h7 ⟨b, 0, none⟩ k cap xs hown.1 (fun j u hj => hown.cells (g := b) rfl j u hj) ad 1 c news (by simpa using hn) hc (by omega) b1 b2
        rw [hr] at hr2
        cases hr2
        exact (hg2.block b (blk_lt hgb) (by simp)).trans hgb
    · exact (hg.block b (blk_lt hb) (by subst hv; simp [Value.ownBlock]; exact hbg2)).trans hb
theorem wpListIn_append_keep {F : Fence} {n : Nat} {P : Program} (w : World) {ops : Array Oper} {rest : List Oper} {o : Oper} {a : Act} {Q : Exit → Act → World → Prop}
    (hg : o.guard = none) (s x : Operand) (t : TypeId) (hop : o.op = Op.call { callee := Callee.builtin Builtin.append, args := #[s, x], argTypes := #[t, t] })
    (base : Nat) (e : TypeId) (i : TypeInfo) (z : Value) (size bytes : Nat) (h1 : P.underlying t = some (.slice e)) (h2 : P.info? e = some i) (h3 : i.zero = some z) (h4 : i.size = size) (h5 : i.bytes = bytes) (h6 : z.cells.size = size) (h7 : 0 < size)
    (v : Value) (k : Nat) (xs : List Value) (hs : a.eval s = v) (hown : w.ownsRow base e size v k xs) (hk : v = .slice none 0 0 ∨ 1 ≤ k) (ad : Addr) (c : Nat) (news : List Value) (hx : a.eval x = .slice (some ad) 1 c) (hn : news.length = size)
    (hc : ∀ j u, news[j]? = some u → w.cell? (ad.add j) = some u) (h1c : ∀ u ∈ news, u.oneCell' = true) (b1 : k + 1 ≤ maxLen) (b2 : (k + 1) * bytes ≤ 140737488355328) (b3 : base ≤ w.heap.size)
    (hK : ∀ v' w', w'.ownsRow base e size v' (k + 1) (xs ++ news) → w.grownBy w' v.ownBlock → (∀ (b : Nat) (cs : Array Value), w.heap[b]? = some (.cells cs e (0, 0)) → cs.size = size → w'.heap[b]? = some (.cells cs e (0, 0))) → wpListIn F n P ops Q rest (a.put o.dst v') w') :
    wpListIn F n P ops Q (o :: rest) a w := by
  refine wpListIn_plain hg fun K hK' => ?_
  obtain ⟨v', w', hrun, r1, r2, r3⟩ := run_append_keep (P := P) w base t o.type e i z size bytes h1 h2 h3 h4 h5 h6 h7 v k xs hown hk ad c news hn hc h1c b1 b2 b3
  unfold Oper.wpIn
  refine ⟨?_, ?_⟩
  · simp [Oper.about, hop, resolve, Target.leads, Sem.run_pure]
  · rw [Oper.semAt_plain F _ _ (by rw [hop]; intro c hc'; cases hc')]
    simp [execOp, hop, resolve, invoke, builtin, hs, hx, hrun, Result.andThen]
    exact hK' _ _ (hK v' w' r1 r2 r3)
end Go.Proofs.Ytjdgjifacdnkgaa.X
end
section
namespace Go.Proofs.Ytjdgjifacdnkgaa.X
open Go.RowKit Go.Shelf Go.Proofs.YtjdgjifacdnkgaaW.PrintWords
attribute [local go_sem] Oper.semAt_some
set_option linter.unusedVariables false
set_option linter.unusedSimpArgs false
theorem lexL_len (t : ByteArray) : ∀ (k : Nat) (a : Int) (xs : List S24) (en : Int × Int), lexL t k a = some (xs, en) → (xs.length : Int) ≤ (t.size : Int) - a + 1 ∨ xs = []
  | 0, a, xs, en, h => by simp [lexL] at h
  | k + 1, a, xs, en, h => by
    unfold lexL at h
    cases hN : nextP t a with
    | mk kd y =>
    obtain ⟨f, b, nn, s, e⟩ := y
    rw [hN] at h
    simp only at h
    by_cases c1 : e = 0
    · subst c1
      rw [if_pos rfl] at h
      have hp := next_place hN
      by_cases c2 : kd = 12
      · rw [if_pos c2] at h
        simp only [Option.some.injEq, Prod.mk.injEq] at h
        obtain ⟨rfl, h⟩ := h
        left
        simp only [List.length_singleton]
        omega
      · rw [if_neg c2] at h
        obtain ⟨⟨ys, en'⟩, H2, e2⟩ := Option.map_eq_some_iff.1 h
        simp only [Prod.mk.injEq] at e2
        obtain ⟨rfl, rfl⟩ := e2
        left
        rcases lexL_len t k b ys en' H2 with h3 | h3
        · simp only [List.length_cons]; omega
        · subst h3; simp only [List.length_cons, List.length_nil]; omega
    · rw [if_neg c1] at h
      simp only [Option.some.injEq, Prod.mk.injEq] at h
      exact .inr h.1.symm
theorem lexL_some (t : ByteArray) : ∀ (k : Nat) (a : Int), (t.size : Int) - a < k → 0 < k → (lexL t k a).isSome = true
  | 0, a, h, h0 => by omega
  | k + 1, a, h, h0 => by
    unfold lexL
    cases hN : nextP t a with
    | mk kd y =>
    obtain ⟨f, b, nn, s, e⟩ := y
    simp only
    by_cases c1 : e = 0
    · subst c1
      rw [if_pos rfl]
      have hp := next_place hN
      by_cases c2 : kd = 12
      · rw [if_pos c2]; rfl
      · rw [if_neg c2, Option.isSome_map]
        exact lexL_some t k b (by omega) (by omega)
    · rw [if_neg c1]; rfl
def lex_Tokens.f (t : ByteArray) : Option (List S24 × Int × Int) :=
  if t.size ≤ 1000000000 then (lexL t (t.size + 2) 0).map fun y => if y.2.2 = 0 then (y.1, 0, 0) else ([], y.2.1, y.2.2) else none
def tkc (x : S24) : List Value := [.int .i64 x.f0, .int .i64 x.f1, .int .i64 x.f2, .int .i64 x.f3, .string x.f4]
def flat (xs : List S24) : List Value := xs.flatMap tkc
theorem flat_snoc (xs : List S24) (x : S24) : flat (xs ++ [x]) = flat xs ++ tkc x := by simp [flat]
theorem tkR_go {w : World} {base : Nat} {ok : Nat → Prop} : ∀ (l acc : List S24), Reps (k24.M w base ok) 5 acc (flat acc) → Reps (k24.M w base ok) 5 (acc ++ l) (flat (acc ++ l))
  | [], acc, h => by simpa using h
  | x :: l, acc, h => by
    have := tkR_go l (acc ++ [x]) (by rw [flat_snoc]; exact Reps.snoc h (k24_mkM w base ok x) rfl)
    simpa using this
theorem tkR {w : World} {base : Nat} {ok : Nat → Prop} (xs : List S24) : Reps (k24.M w base ok) 5 xs (flat xs) := tkR_go xs [] (Reps.none _ _)
theorem R_flat {w : World} {base : Nat} {v : Value} {xs : List S24} (h : w.ownsRow base 24 5 v xs.length (flat xs)) : Kd.R k24 24 w base (fun _ => True) v xs :=
  ⟨fun _ _ => trivial, flat xs, h, tkR xs⟩
def endFrom (a : Int) : List S24 → Int
  | [] => a
  | x :: l => endFrom x.f2 l
theorem endFrom_snoc (x : S24) : ∀ (a : Int) (l : List S24), endFrom a (l ++ [x]) = x.f2
  | a, [] => rfl
  | a, y :: l => endFrom_snoc x y.f2 l
def tkEnd (l : List S24) : Int := endFrom 0 l
theorem tkEnd_snoc (l : List S24) (x : S24) : tkEnd (l ++ [x]) = x.f2 := endFrom_snoc x 0 l
structure TkI (w : World) (pre : List S24) (W : World) : Prop where
  v : ∃ v, W.heap[w.heap.size]? = some (.cells #[v] 31 (0, 0)) ∧ W.ownsRow (w.heap.size + 3) 24 5 v pre.length (flat pre) ∧ (v = .slice none 0 0 ∨ 1 ≤ pre.length)
  a : W.heap[w.heap.size + 1]? = some (.cells #[.int .i64 (tkEnd pre)] 3 (0, 0))
  B : Below w.heap.size w W
  z : w.heap.size + 3 ≤ W.heap.size
theorem TkI.own (w : World) (B : Nat) (hB : w.heap.size + 3 ≤ B) : OwnFrom B (TkI w) := by
  intro pre W W' row h hg hr
  obtain ⟨⟨v, h1, h2, h3⟩, ha, hb, hz⟩ := h
  have far : ∀ (b : Nat) (cs : Array Value) (t : TypeId), W.heap[b]? = some (.cells cs t (0, 0)) → W'.heap[b]? = some (.cells cs t (0, 0)) := fun b cs t hbk =>
    (hg.block b (blk_lt hbk) (fun e => by obtain ⟨_, o, ho, hc⟩ := hr b e.symm; rw [hbk] at ho; cases ho; simp [Obj.isCells] at hc)).trans hbk
  refine ⟨⟨v, far _ _ _ h1, ?_, h3⟩, far _ _ _ ha, hb.grown hg hb.size (fun k e => by have := (hr k e).1; omega), by have := hg.size; omega⟩
  obtain ⟨h4, h5⟩ := h2
  refine ⟨h4, ?_⟩
  rcases h5 with h5 | ⟨g, cap, cur, e1, e2, e3, e4⟩
  · exact .inl h5
  · exact .inr ⟨g, cap, cur, e1, e2, far _ _ _ e3, e4⟩
theorem TkI.start (w : World) (t : ByteArray) : TkI w [] (((w.alloc (.cells #[.slice none 0 0] 31)).alloc (.cells #[.int .i64 0] 3)).alloc (.cells #[.string t] 9)) := by
  have h1 := blk_new w (.cells #[.slice none 0 0] 31)
  have h2 := blk_new (w.alloc (.cells #[.slice none 0 0] 31)) (.cells #[.int .i64 0] 3)
  rw [World.size_alloc] at h2
  refine ⟨⟨.slice none 0 0, ?_, ⟨rfl, .inl ⟨rfl, rfl⟩⟩, .inl rfl⟩, ?_, (((Below.refl _ w).alloc (Nat.le_refl _) _).alloc (by simp) _).alloc (by simp; omega) _, by simp⟩
  · rw [Below.heap_alloc _ _ _ (by simp; omega), Below.heap_alloc _ _ _ (by simp)]; exact h1
  · rw [Below.heap_alloc _ _ _ (by simp)]; exact h2
theorem lexL_last (t : ByteArray) : ∀ (k : Nat) (a : Int) (xs : List S24) (f en : Int), lexL t k a = some (xs, f, en) →
    (en = 0 → ∃ pre x, xs = pre ++ [x] ∧ x.f0 = 12) ∧ (en ≠ 0 → (∀ x ∈ xs, x.f0 ≠ 12) ∧ ∃ kd b n s, nextP t (endFrom a xs) = (kd, f, b, n, s, en))
  | 0, a, xs, f, en, h => by simp [lexL] at h
  | k + 1, a, xs, f, en, h => by
    unfold lexL at h
    cases hN : nextP t a with
    | mk kd y =>
    obtain ⟨f', b, nn, s, e⟩ := y
    rw [hN] at h
    simp only at h
    by_cases c1 : e = 0
    · subst c1
      rw [if_pos rfl] at h
      by_cases c2 : kd = 12
      · rw [if_pos c2] at h
        simp only [Option.some.injEq, Prod.mk.injEq] at h
        obtain ⟨rfl, rfl, rfl⟩ := h
        exact ⟨fun _ => ⟨[], _, rfl, c2⟩, fun h => absurd rfl h⟩
      · rw [if_neg c2] at h
        obtain ⟨⟨ys, f2, en'⟩, H2, e2⟩ := Option.map_eq_some_iff.1 h
        simp only [Prod.mk.injEq] at e2
        obtain ⟨rfl, rfl, rfl⟩ := e2
        obtain ⟨g1, g2⟩ := lexL_last t k b ys f2 en' H2
        refine ⟨fun h0 => ?_, fun h0 => ⟨?_, (g2 h0).2⟩⟩
        · obtain ⟨pre, x, rfl, hx⟩ := g1 h0
          exact ⟨_ :: pre, x, rfl, hx⟩
        · intro x hx
          rcases List.mem_cons.1 hx with rfl | hx
          · exact c2
          · exact (g2 h0).1 x hx
    · rw [if_neg c1] at h
      simp only [Option.some.injEq, Prod.mk.injEq] at h
      obtain ⟨rfl, rfl, rfl⟩ := h
      exact ⟨fun h => absurd h c1, fun _ => ⟨(fun x hx => by cases hx), kd, b, nn, s, hN⟩⟩
theorem cell_add0 (W : World) (g j : Nat) : W.cell? ((⟨g, 0, none⟩ : Addr).add j) = W.cell? ⟨g, j, none⟩ := by
  congr 1
  unfold Addr.add
  split <;> simp_all
theorem keeps_below {W W1 : World} (h : Below W.heap.size W W1) : KeepsOthers W W1 :=
  ⟨h.size, fun k o hk _ => by have hlt := (Array.getElem?_eq_some_iff.1 hk).1; rw [h.block k hlt]; exact hk⟩
theorem keepTok_below {Bn : Nat} {v : Value} {W W1 : World} (h : Below W.heap.size W W1) : KeepTok Bn v W W1 :=
  ⟨fun hc => (h.cell (p := ⟨Bn, 0, none⟩) (World.block_lt_of_cell? _ _ hc)).trans hc, fun b cs _ h1 _ => (h.block b (blk_lt h1)).trans h1⟩
theorem tok_fresh {W w1 : World} (hb : Below W.heap.size W w1) (kd f b nn : Int) (s : ByteArray) : Below W.heap.size W (w1.alloc (.cells #[.int .i64 kd, .int .i64 f, .int .i64 b, .int .i64 nn, .string s] 24)).drew :=
  below_drew (below_alloc hb _)
theorem tok_kept {W w1 : World} {D : Nat} {o : Obj} (h : W.heap[D]? = some o) (hb : Below W.heap.size W w1) (kd f b nn : Int) (s : ByteArray) :
    (w1.alloc (.cells #[.int .i64 kd, .int .i64 f, .int .i64 b, .int .i64 nn, .string s] 24)).drew.heap[D]? = some o :=
  ((tok_fresh hb kd f b nn s).block D (blk_lt h)).trans h
theorem TkI.step {w W W1 : World} {pre : List S24} {x : S24} {W2 : World} {v v' : Value} (h : TkI w pre W) (hv : W.heap[w.heap.size]? = some (.cells #[v] 31 (0, 0))) (ho : W.ownsRow (w.heap.size + 3) 24 5 v pre.length (flat pre))
    (ho' : W1.ownsRow (w.heap.size + 3) 24 5 v' (pre.length + 1) (flat pre ++ tkc x)) (hb : Below W.heap.size W W2) (hg : W2.grownBy W1 v.ownBlock) :
    TkI w (pre ++ [x]) ((W1.setCell ⟨w.heap.size, 0, none⟩ v').setCell ⟨w.heap.size + 1, 0, none⟩ (.int .i64 x.f2)) := by
  obtain ⟨_, ha, hB, hz⟩ := h
  have hne : ∀ b, v.ownBlock = some b → w.heap.size + 3 ≤ b := own_base ho
  have f1 : W1.heap[w.heap.size]? = some (.cells #[v] 31 (0, 0)) := (hg.block _ (by have := hb.size; omega) (fun e => by have := hne _ e.symm; omega)).trans ((hb.block _ (by omega)).trans hv)
  have f2 : W1.heap[w.heap.size + 1]? = some (.cells #[.int .i64 (tkEnd pre)] 3 (0, 0)) := (hg.block _ (by have := hb.size; omega) (fun e => by have := hne _ e.symm; omega)).trans ((hb.block _ (by omega)).trans ha)
  have f3 : (W1.setCell ⟨w.heap.size, 0, none⟩ v').heap[w.heap.size]? = some (.cells #[v'] 31 (0, 0)) := blk_put f1 0 v' rfl
  have f4 : (W1.setCell ⟨w.heap.size, 0, none⟩ v').heap[w.heap.size + 1]? = some (.cells #[.int .i64 (tkEnd pre)] 3 (0, 0)) := (Below.heap_setCell _ _ _ _ (by simp)).trans f2
  have hne' : ∀ b, v'.ownBlock = some b → w.heap.size + 3 ≤ b := own_base ho'
  refine ⟨⟨v', (Below.heap_setCell _ _ _ _ (by simp)).trans f3, ?_, .inr (by simp)⟩, ?_, ?_, ?_⟩
  · rw [flat_snoc, List.length_append, List.length_singleton]
    exact own_move ho' (fun k hk => by have := hne' k hk; rw [Below.heap_setCell _ _ _ _ (by simp; omega), Below.heap_setCell _ _ _ _ (by simp; omega)])
  · rw [tkEnd_snoc]
    exact blk_put f4 0 _ rfl
  · exact below_set (below_set (below_then hB hB.size hb |>.grown hg (by have := hB.size; have := hb.size; omega) (fun k e => by have := hne k e; omega)) (Nat.le_refl _)) (by simp)
  · have := hb.size; have := hg.size; simp [World.setCell]; omega
structure TokStep (w : World) (W : World) (a0 : ByteArray) (pre : List S24) (x : S24) (b : Nat) (v v' : Value) (w1 : World) : Prop where
  d0 : w1.cell? ⟨w.heap.size, 0, none⟩ = some v
  e0 : w1.frozen? ⟨w.heap.size, 0, none⟩ = false
  d1 : (w1.setCell ⟨w.heap.size, 0, none⟩ v').cell? ⟨w.heap.size + 1, 0, none⟩ = some (.int .i64 (tkEnd pre))
  e1 : w1.frozen? ⟨w.heap.size + 1, 0, none⟩ = false
  t2 : (w1.setCell ⟨w.heap.size, 0, none⟩ v').cell? ⟨b, 2, none⟩ = some (.int .i64 x.f2)
  fin : KeepsFrom (w.heap.size + 3) W ((w1.setCell ⟨w.heap.size, 0, none⟩ v').setCell ⟨w.heap.size + 1, 0, none⟩ (.int .i64 x.f2)) ∧
    KeepTok (w.heap.size + 1 + 1) (.string a0) W ((w1.setCell ⟨w.heap.size, 0, none⟩ v').setCell ⟨w.heap.size + 1, 0, none⟩ (.int .i64 x.f2)) ∧
    TkI w (pre ++ [x]) ((w1.setCell ⟨w.heap.size, 0, none⟩ v').setCell ⟨w.heap.size + 1, 0, none⟩ (.int .i64 x.f2))
theorem tok_step {w W W2 w1 : World} {a0 : ByteArray} {pre : List S24} {x : S24} {b : Nat} {v v' : Value} (hI : TkI w pre W) (hv : W.heap[w.heap.size]? = some (.cells #[v] 31 (0, 0)))
    (ho : W.ownsRow (w.heap.size + 3) 24 5 v pre.length (flat pre)) (hbb : W.heap[b]? = some (.cells #[.int .i64 x.f0, .int .i64 x.f1, .int .i64 x.f2, .int .i64 x.f3, .string x.f4] 24 (0, 0))) (hbz : w.heap.size + 3 ≤ b)
    (hk : v = .slice none 0 0 ∨ 1 ≤ pre.length) (hb : Below W.heap.size W W2) (ho' : w1.ownsRow (w.heap.size + 3) 24 5 v' (pre.length + 1) (flat pre ++ tkc x)) (hg : W2.grownBy w1 v.ownBlock)
    (hk' : ∀ (b : Nat) (cs : Array Value), W2.heap[b]? = some (.cells cs 24 (0, 0)) → cs.size = 5 → w1.heap[b]? = some (.cells cs 24 (0, 0))) : TokStep w W a0 pre x b v v' w1 := by
  have hz := hI.z
  have hne : ∀ b, v.ownBlock = some b → w.heap.size + 3 ≤ b := own_base ho
  have f1 : w1.heap[w.heap.size]? = some (.cells #[v] 31 (0, 0)) := (hg.block _ (by have := hb.size; omega) (fun e => by have := hne _ e.symm; omega)).trans ((hb.block _ (by omega)).trans hv)
  have f2 : w1.heap[w.heap.size + 1]? = some (.cells #[.int .i64 (tkEnd pre)] 3 (0, 0)) := (hg.block _ (by have := hb.size; omega) (fun e => by have := hne _ e.symm; omega)).trans ((hb.block _ (by omega)).trans hI.a)
  have f4 : (w1.setCell ⟨w.heap.size, 0, none⟩ v').heap[w.heap.size + 1]? = some (.cells #[.int .i64 (tkEnd pre)] 3 (0, 0)) := (Below.heap_setCell _ _ _ _ (by simp)).trans f2
  have f5 : w1.heap[b]? = some (.cells #[.int .i64 x.f0, .int .i64 x.f1, .int .i64 x.f2, .int .i64 x.f3, .string x.f4] 24 (0, 0)) := hk' b _ ((hb.block _ (blk_lt hbb)).trans hbb) rfl
  have f6 : (w1.setCell ⟨w.heap.size, 0, none⟩ v').heap[b]? = some (.cells #[.int .i64 x.f0, .int .i64 x.f1, .int .i64 x.f2, .int .i64 x.f3, .string x.f4] 24 (0, 0)) := (Below.heap_setCell _ _ _ _ (by simp; omega)).trans f5
  refine ⟨(blk_cell f1 0).trans rfl, blk_frozen f1 0, (blk_cell f4 0).trans rfl, blk_frozen f2 0, (blk_cell f6 2).trans rfl, ⟨?_, ?_⟩, ⟨fun hc => ?_, ?_⟩, hI.step hv ho ho' hb hg⟩
  · have := hb.size; have := hg.size; simp [World.setCell]; omega
  · intro k o hk0 ho0 hoc
    have hkl := (Array.getElem?_eq_some_iff.1 ho0).1
    rw [Below.heap_setCell _ _ _ _ (by simp; omega), Below.heap_setCell _ _ _ _ (by simp; omega)]
    have h2 := (hb.block k hkl).trans ho0
    refine (hg.block k (by have := hb.size; omega) (fun e => ?_)).trans h2
    obtain ⟨cells, hcl⟩ := own_typed ho k e.symm
    rw [ho0] at hcl
    cases hcl
    simp [Obj.isCells] at hoc
  · have hcl := World.block_lt_of_cell? _ _ hc
    rw [World.cell?_setCell_other _ _ _ _ (fun e => by have := congrArg Addr.block e; simp at this), World.cell?_setCell_other _ _ _ _ (fun e => by have := congrArg Addr.block e; simp at this; omega)]
    have h2 := (hb.cell (p := ⟨w.heap.size + 1 + 1, 0, none⟩) hcl).trans hc
    unfold World.cell? at h2 ⊢
    rw [hg.block (w.heap.size + 1 + 1) (by have := hb.size; simp at hcl; omega) (fun e => by have := hne _ e.symm; omega)]
    exact h2
  · intro c cs hc0 hc1 hc2
    rw [Below.heap_setCell _ _ _ _ (by simp; omega), Below.heap_setCell _ _ _ _ (by simp; omega)]
    exact hk' c cs ((hb.block _ (blk_lt hc1)).trans hc1) hc2
set_option maxRecDepth 100000 in
set_option maxHeartbeats 4000000 in
theorem lex_Tokens.calls (a0 : ByteArray) (r1 : List S24) (r2 r3 : Int) (w : World) (h : lex_Tokens.f a0 = some (r1, r2, r3)) :
    Calls Try.prog 9 #[.string a0] w fun e w' => ∃ v0_ : Value, e = .returned (.tuple #[v0_, .int .i64 r2, .int .i64 r3]) ∧ Kd.R k24 24 w' w.heap.size (fun _ => True) v0_ r1 ∧ Below w.heap.size w w' := by
  unfold lex_Tokens.f at h
  by_cases hs : a0.size ≤ 1000000000
  case neg => rw [if_neg hs] at h; cases h
  rw [if_pos hs] at h
  obtain ⟨⟨xs, f, en⟩, hx, hr⟩ := Option.map_eq_some_iff.1 h
  have hl : xs.length ≤ a0.size + 1 := by
    rcases lexL_len _ _ _ _ _ hx with h | h
    · omega
    · subst h; simp
  have hlast := lexL_last _ _ _ _ _ _ hx
  clear h
  have hx := Aside0.mk hx
  have hr := Aside0.mk hr
  have hl := Aside0.mk hl
  have hlast := Aside0.mk hlast
  refine (callsIn_wide (n := 4)).1 ?_
  refine callsIn_of_wp_marks Try.func9 rfl trivial ?_ rfl
  simp only [Try.ntmps9, List.size_toArray, List.length_cons, List.length_nil, Nat.reduceAdd, Nat.reduceSub, Array.replicate_succ, Array.replicate_zero, List.push_toArray, List.append_toArray, List.nil_append, List.cons_append]
  gi_wp2_with (refine ⟨trivial, ?_⟩; gi_at_call 11; refine (lex_All_in _ _ _).mono ?_; rintro e w' ⟨rfl, rfl⟩)
  have hT0 := TkI.start w a0
  have hb := boxv ((w.alloc (.cells #[.slice none 0 0] 31)).alloc (.cells #[.int .i64 0] 3)) (.string a0) 9
  simp only [World.size_alloc] at hb
  have hW0 : ((((w.alloc (.cells #[.slice none 0 0] 31)).alloc (.cells #[.int .i64 0] 3)).alloc (.cells #[.string a0] 9))).heap.size = w.heap.size + 3 := by simp
  refine wpIn_rangeFunc_ownH rfl (by omega) (gf := 24) (lb := #[.pointer (some ⟨w.heap.size + 1 + 1, 0, none⟩)]) rfl trivial (enters_of Try.func24 (by kernel_rfl) rfl)
    (lex_All_stops _ (by omega) (w.heap.size + 1 + 1) (a0.size + 2) a0 (by omega) xs (f, en) hx.out _ (by simp) hb.1) keepTok_t (keepTok_b _) (Below.refl _ _) (fun _ => rfl)
    (fun pre W => TkI w pre W)
    (fun _ _ _ => False)
    (TkI.own w _ (by simp))
    (fun _ _ _ _ _ hs _ _ => hs)
    hT0
    (fun x a' W => ∃ b, w.heap.size + 3 ≤ b ∧ W.heap[b]? = some (.cells #[.int .i64 x.f0, .int .i64 x.f1, .int .i64 x.f2, .int .i64 x.f3, .string x.f4] 24 (0, 0)) ∧ a' = { tmps := #[.string a0, undef, .slice none 0 0, .int .i64 0, .int .i64 0, .pointer (some ⟨w.heap.size, 0, none⟩), .pointer (some ⟨w.heap.size + 1, 0, none⟩), .pointer (some ⟨b, 0, none⟩), undef, undef, .string a0, .func (.func 24) #[] #[.pointer (some ⟨w.heap.size + 1 + 1, 0, none⟩)], tokW x, undef, undef, undef, undef, undef, undef, undef, undef, undef, undef, undef, undef, undef, undef, undef, undef, undef, undef, undef, undef, undef, undef, undef, undef, undef, undef, undef, undef, undef], defers := [] })
    ?Ax ?assign ?body ?done ?stop
  case Ax =>
    rintro x a' _ W W' row ⟨b, h1, h2, h3⟩ hg hr
    exact ⟨b, h1, (hg.block b (blk_lt h2) (fun e => by obtain ⟨_, o, ho, hc⟩ := hr b e.symm; rw [h2] at ho; cases ho; simp [Obj.isCells] at hc)).trans h2, h3⟩
  case assign =>
    intro l pre x W K hI hK
    have hB := below_alloc (Below.refl W.heap.size W) (.cells #[.int .i64 x.f0, .int .i64 x.f1, .int .i64 x.f2, .int .i64 x.f3, .string x.f4] 24)
    have hKK := hK { tmps := #[.string a0, undef, .slice none 0 0, .int .i64 0, .int .i64 0, .pointer (some ⟨w.heap.size, 0, none⟩), .pointer (some ⟨w.heap.size + 1, 0, none⟩), .pointer (some ⟨W.heap.size, 0, none⟩), undef, undef, .string a0, .func (.func 24) #[] #[.pointer (some ⟨w.heap.size + 1 + 1, 0, none⟩)], tokW x, undef, undef, undef, undef, undef, undef, undef, undef, undef, undef, undef, undef, undef, undef, undef, undef, undef, undef, undef, undef, undef, undef, undef, undef, undef, undef, undef, undef, undef], defers := [] }
      (W.alloc (.cells #[.int .i64 x.f0, .int .i64 x.f1, .int .i64 x.f2, .int .i64 x.f3, .string x.f4] 24)) ((keeps_below hB).from _) (keepTok_below hB) (TkI.own w (w.heap.size + 3) (Nat.le_refl _) pre W _ none hI (World.grownBy_alloc W _ none) (fun r e => by cases e)) ⟨W.heap.size, hI.z, blk_new W _, rfl⟩
    have HK := Aside0.mk hKK
    clear hKK hK hB hI
    gi_wp2
    exact HK.out
  case body =>
    rintro l pre x a' W - - hI ⟨b, hbz, hbb, rfl⟩ hlen
    obtain ⟨v, hv, hown, hk⟩ := hI.v
    obtain ⟨A', cc', rfl⟩ := own_slice hown
    have ha := hI.a
    have hz := hI.z
    have c0 : W.cell? ⟨w.heap.size, 0, none⟩ = some (.slice A' pre.length cc') := (blk_cell hv 0).trans rfl
    have f0 : W.frozen? ⟨w.heap.size, 0, none⟩ = false := blk_frozen hv 0
    have c1 : W.cell? ⟨w.heap.size + 1, 0, none⟩ = some (.int .i64 (tkEnd pre)) := (blk_cell ha 0).trans rfl
    have f1 : W.frozen? ⟨w.heap.size + 1, 0, none⟩ = false := blk_frozen ha 0
    have x0 : W.cell? ⟨b, 0, none⟩ = some (.int .i64 x.f0) := (blk_cell hbb 0).trans rfl
    have x1 : W.cell? ⟨b, 1, none⟩ = some (.int .i64 x.f1) := (blk_cell hbb 1).trans rfl
    have x2 : W.cell? ⟨b, 2, none⟩ = some (.int .i64 x.f2) := (blk_cell hbb 2).trans rfl
    have x3 : W.cell? ⟨b, 3, none⟩ = some (.int .i64 x.f3) := (blk_cell hbb 3).trans rfl
    have x4 : W.cell? ⟨b, 4, none⟩ = some (.string x.f4) := (blk_cell hbb 4).trans rfl
    have hown := Aside0.mk hown
    have hk := Aside0.mk hk
    have hv := Aside0.mk hv
    have hI := Aside0.mk hI
    have hlen := Aside0.mk hlen
    have hbb := Aside0.mk hbb
    have hz' := Aside0.mk hz
    obtain ⟨i0, hi, hz0, hz1, hz2⟩ := info_parts info24
    have hlN := hl.out
    have hBa := below_alloc (Below.refl W.heap.size W) (.cells #[.int .i64 x.f0, .int .i64 x.f1, .int .i64 x.f2, .int .i64 x.f3, .string x.f4] 24)
    have hownA := pw_own_below hown.out hBa
    have hnb := blk_new W (.cells #[.int .i64 x.f0, .int .i64 x.f1, .int .i64 x.f2, .int .i64 x.f3, .string x.f4] 24)
    have hcx : ∀ j u, (tkc x)[j]? = some u → (W.alloc (.cells #[.int .i64 x.f0, .int .i64 x.f1, .int .i64 x.f2, .int .i64 x.f3, .string x.f4] 24)).cell? ((⟨W.heap.size, 0, none⟩ : Addr).add j) = some u := by
      intro j u hj
      rw [show ((⟨W.heap.size, 0, none⟩ : Addr).add j) = ⟨W.heap.size, j, none⟩ by unfold Addr.add; split <;> simp_all]
      refine (blk_cell hnb j).trans ?_
      rw [← hj]
      exact List.getElem?_toArray
    have HCX := Aside0.mk hcx
    have HBa := Aside0.mk hBa
    have HO := Aside0.mk hownA
    have HN := Aside0.mk hnb
    have HC0 := Aside0.mk (show ∀ u ∈ tkc x, u.oneCell' = true by simp [tkc, Value.oneCell'])
    have HC4 := Aside0.mk (show 0 < 5 by decide)
    have HC1 := Aside0.mk (show pre.length + 1 ≤ maxLen by have := hlen.out; unfold maxLen; omega)
    have HC2 := Aside0.mk (show (pre.length + 1) * 48 ≤ 140737488355328 by have := hlen.out; omega)
    have HC3 := Aside0.mk (show w.heap.size + 3 ≤ (W.alloc (.cells #[.int .i64 x.f0, .int .i64 x.f1, .int .i64 x.f2, .int .i64 x.f3, .string x.f4] 24)).heap.size by simp; omega)
    clear ha hz hBa hownA hnb hlN hcx
    gi_wp2_with (gi_at_builtin; (refine wpListIn_append_keep _ rfl (.tmp 13) (.tmp 15) 31 rfl (w.heap.size + 3) 24 i0 _ 5 48 Try.underlying31 hi hz0 hz1 hz2 rfl HC4.out _ pre.length (flat pre) rfl HO.out hk.out ⟨W.heap.size, 0, none⟩ 1 (tkc x) rfl rfl HCX.out HC0.out HC1.out HC2.out HC3.out ?_); (intro v' w1 ho' hg' hk'; obtain ⟨A2, cc2, rfl⟩ := own_slice ho'; have hs := tok_step (a0 := a0) (x := x) hI.out hv.out hown.out hbb.out hbz hk.out HBa.out ho' hg' hk'; have hd0 := hs.d0; have he0 := hs.e0; have hd1 := hs.d1; have he1 := hs.e1; have ht2 := hs.t2; have HS := Aside0.mk hs; clear hs ho' hg' hk'))
    have hfin := HS.out.fin
    refine ⟨?_, hfin.2⟩
    rw [hW0]
    exact hfin.1
  case done =>
    rintro D ys W hD rfl hI hK
    obtain ⟨v, hv, hown, hk⟩ := hI.v
    obtain ⟨A', cc', rfl⟩ := own_slice hown
    have c0 : W.cell? ⟨w.heap.size, 0, none⟩ = some (.slice A' ys.length cc') := (blk_cell hv 0).trans rfl
    have c1 : W.cell? ⟨w.heap.size + 1, 0, none⟩ = some (.int .i64 (tkEnd ys)) := (blk_cell hI.a 0).trans rfl
    by_cases h0 : en = 0
    · obtain ⟨pre, x, e, hx12⟩ := hlast.out.1 h0
      subst e
      have hlen : (pre ++ [x]).length = pre.length + 1 := by simp
      obtain ⟨g, hA⟩ : ∃ g, A' = some ⟨g, 0, none⟩ := by
        rcases hown.2 with ⟨_, h⟩ | ⟨g, cap, cur, h, _⟩
        · rw [hlen] at h; omega
        · injection h with h; exact ⟨g, h⟩
      subst hA
      have k0 : W.cell? ⟨g, pre.length * 5, none⟩ = some (.int .i64 12) := by
        refine (cell_add0 _ _ _).symm.trans (hown.cells (g := g) rfl (pre.length * 5) _ ?_)
        have hfl : (flat pre).length = pre.length * 5 := (tkR (w := W) (base := 0) (ok := fun _ => True) pre).1
        rw [flat_snoc, List.getElem?_append_right (by omega), hfl, Nat.sub_self]
        simp [tkc, hx12]
      rw [hlen] at hown c0
      have hl5 : pre.length + 1 ≤ a0.size + 1 := by have := hl.out; rw [hlen] at this; exact this
      clear hlen
      have HI := Aside0.mk hI
      have HOWN := Aside0.mk hown
      have HK := Aside0.mk hK
      have HD := Aside0.mk hD
      have H12 := Aside0.mk hx12
      have HEN := Aside0.mk h0
      clear hI hown hK hD hx12 h0 hv hk
      gi_wp2
      refine ⟨by simp, .inl ⟨_, _, rfl, run_takeDeferred HK.out, ?_⟩⟩
      have hr2 := hr.out
      rw [if_pos HEN.out] at hr2
      simp only [Prod.mk.injEq] at hr2
      obtain ⟨rfl, rfl, rfl⟩ := hr2
      refine ⟨.tuple #[.slice (some ⟨g, 0, none⟩) (pre.length + 1) cc', .int .i64 0, .int .i64 0], ?_, ⟨_, rfl, ?_, ?_⟩⟩
      · simp [results, Try.f9, go_sem]
      · refine R_flat ?_
        rw [List.length_append, List.length_singleton]
        refine own_weaken (own_move HOWN.out (fun k hk => ?_)) (Nat.le_add_right _ 3)
        obtain ⟨cells, hcl⟩ := own_typed HOWN.out k hk
        exact World.putObj_heap_other (fun e => by have h2 := HK.out; rw [← e, hcl] at h2; cases h2)
      · exact HI.out.B.trans (belowK_b (w := w) (Nat.le_refl _) W D _ _ (by have := HD.out; simp at this; omega) HK.out rfl rfl)
    · obtain ⟨hno, kd, b, nn, s, hN⟩ := hlast.out.2 h0
      have hr2 := hr.out
      rw [if_neg h0] at hr2
      simp only [Prod.mk.injEq] at hr2
      obtain ⟨rfl, rfl, rfl⟩ := hr2
      have A1 : Aside0 (lex_Next.f a0 (tkEnd ys) = some (kd, f, b, nn, s, en)) := ⟨by rw [next_f (by omega)]; exact congrArg some hN⟩
      have HI := Aside0.mk hI
      have HK := Aside0.mk hK
      have HD := Aside0.mk hD
      have hnc : ys = [] ∨ ∃ pre x, ys = pre ++ [x] := by
        rcases List.eq_nil_or_concat ys with h | ⟨pre, x, h⟩
        · exact .inl h
        · exact .inr ⟨pre, x, by rw [h, List.concat_eq_append]⟩
      rcases hnc with rfl | ⟨pre, x, rfl⟩
      · have hA : A' = none := by
          rcases hk with hk | hk
          · injection hk
          · simp at hk
        subst hA
        clear hI hK hD h0 hv hk hno hN hr hlast hown
        gi_wp2_with (refine ⟨trivial, ?_⟩; gi_at_call 7; refine (callsIn_wide.2 (lex_Next.calls a0 _ kd f b nn s en _ A1.out)).mono ?_; rintro e w1 ⟨rfl, hb1⟩; have HB1 := Aside0.mk hb1; clear hb1)
        gi_region
        gi_wp2
        have hKd := tok_kept HK.out HB1.out kd f b nn s
        refine ⟨by simp, .inl ⟨_, _, rfl, run_takeDeferred hKd, ?_⟩⟩
        refine ⟨.tuple #[.slice none 0 0, .int .i64 f, .int .i64 en], ?_, ⟨_, rfl, Kd.R_nil _ _ _ _ _, ?_⟩⟩
        · simp [results, Try.f9, go_sem]
        · exact (below_then HI.out.B HI.out.B.size (tok_fresh HB1.out kd f b nn s)).trans (belowK_b (w := w) (Nat.le_refl _) _ D _ _ (by have := HD.out; simp at this; omega) hKd rfl rfl)
      · have hlen : (pre ++ [x]).length = pre.length + 1 := by simp
        obtain ⟨g, hA⟩ : ∃ g, A' = some ⟨g, 0, none⟩ := by
          rcases hown.2 with ⟨_, h⟩ | ⟨g, cap, cur, h, _⟩
          · rw [hlen] at h; omega
          · injection h with h; exact ⟨g, h⟩
        subst hA
        have k0 : W.cell? ⟨g, pre.length * 5, none⟩ = some (.int .i64 x.f0) := by
          refine (cell_add0 _ _ _).symm.trans (hown.cells (g := g) rfl (pre.length * 5) _ ?_)
          have hfl : (flat pre).length = pre.length * 5 := (tkR (w := W) (base := 0) (ok := fun _ => True) pre).1
          rw [flat_snoc, List.getElem?_append_right (by omega), hfl, Nat.sub_self]
          simp [tkc]
        rw [hlen] at hown c0
        have hl5 : pre.length + 1 ≤ a0.size + 1 := by have := hl.out; rw [hlen] at this; exact this
        have hxb : (x.f0 == 12) = false := by simpa using hno x (by simp)
        clear hlen hI hK hD h0 hv hk hno hN hr hlast hown
        gi_wp2_with (refine ⟨trivial, ?_⟩; gi_at_call 7; refine (callsIn_wide.2 (lex_Next.calls a0 _ kd f b nn s en _ A1.out)).mono ?_; rintro e w1 ⟨rfl, hb1⟩; have HB1 := Aside0.mk hb1; clear hb1)
        gi_region
        gi_wp2
        have hKd := tok_kept HK.out HB1.out kd f b nn s
        refine ⟨by simp, .inl ⟨_, _, rfl, run_takeDeferred hKd, ?_⟩⟩
        refine ⟨.tuple #[.slice none 0 0, .int .i64 f, .int .i64 en], ?_, ⟨_, rfl, Kd.R_nil _ _ _ _ _, ?_⟩⟩
        · simp [results, Try.f9, go_sem]
        · exact (below_then HI.out.B HI.out.B.size (tok_fresh HB1.out kd f b nn s)).trans (belowK_b (w := w) (Nat.le_refl _) _ D _ _ (by have := HD.out; simp at this; omega) hKd rfl rfl)
  case stop =>
    rintro D c pre W _ _ h _
    exact h.elim
end Go.Proofs.Ytjdgjifacdnkgaa.X
end
section
namespace Go.Proofs.Ytjdgjifacdnkgaa.X
open Go.RowKit Go.Proofs.YtjdgjifacdnkgaaW.PrintWords Go.Proofs.YtjdgjifacdnkgaaW.PrintLast Go.Proofs.YtjdgjifacdnkgaaW.PrintMore
attribute [local go_sem] max2_int min2_int max_two min_two max_three min_three max_four min_four
set_option linter.unusedVariables false
set_option linter.unusedSimpArgs false
def sealringlaw06_lives.f  : Option (Bool) := (lex_Tokens.f (⟨#[91, 49, 44, 32, 34, 97, 34, 93]⟩ : ByteArray)).bind fun bt119 => ((lex_Tokens.f (⟨#[91, 48, 49]⟩ : ByteArray)).bind fun bt124 => (if (bt119.1.length : Int) = 6 then (if 3 < (bt119.1.length : Int) then (if ((rd_T24 bt119.1 3).f4).toList = ([97] : List UInt8) then (if bt119.2.1 = 0 then (if bt119.2.2 = 0 then (if bt124.2.1 = 1 then (some (bt124.2.2 == 12)) else (some false)) else (some false)) else (some false)) else (some false)) else (none)) else (some false)))
set_option maxHeartbeats 8000000 in
set_option maxRecDepth 100000 in
theorem sealringlaw06_lives.calls  (r : Bool) (w : World) (h : sealringlaw06_lives.f  = some r) :
    Calls Try.prog 6 #[] w fun e w' => e = .returned (.bool r) ∧ Below w.heap.size w w' := by
  have HB := Aside0.mk (Below.refl w.heap.size w)
  have H : ((lex_Tokens.f (⟨#[91, 49, 44, 32, 34, 97, 34, 93]⟩ : ByteArray)).bind fun bt119 => ((lex_Tokens.f (⟨#[91, 48, 49]⟩ : ByteArray)).bind fun bt124 => (if (bt119.1.length : Int) = 6 then (if 3 < (bt119.1.length : Int) then (if ((rd_T24 bt119.1 3).f4).toList = ([97] : List UInt8) then (if bt119.2.1 = 0 then (if bt119.2.2 = 0 then (if bt124.2.1 = 1 then (some (bt124.2.2 == 12)) else (some false)) else (some false)) else (some false)) else (some false)) else (none)) else (some false)))) = some r := h
  clear h
  replace H := Option.bind_eq_some_iff.mp H
  obtain ⟨⟨t119, t120, t121⟩, A10, H⟩ := H
  replace H : ((lex_Tokens.f (⟨#[91, 48, 49]⟩ : ByteArray)).bind fun bt124 => (if (t119.length : Int) = 6 then (if 3 < (t119.length : Int) then (if ((rd_T24 t119 3).f4).toList = ([97] : List UInt8) then (if t120 = 0 then (if t121 = 0 then (if bt124.2.1 = 1 then (some (bt124.2.2 == 12)) else (some false)) else (some false)) else (some false)) else (some false)) else (none)) else (some false))) = some r := H
  have A1 := Aside0.mk A10
  clear A10
  replace H := Option.bind_eq_some_iff.mp H
  obtain ⟨⟨t124, t125, t126⟩, A20, H⟩ := H
  replace H : (if (t119.length : Int) = 6 then (if 3 < (t119.length : Int) then (if ((rd_T24 t119 3).f4).toList = ([97] : List UInt8) then (if t120 = 0 then (if t121 = 0 then (if t125 = 1 then (some (t126 == 12)) else (some false)) else (some false)) else (some false)) else (some false)) else (none)) else (some false)) = some r := H
  have A2 := Aside0.mk A20
  clear A20
  by_cases c3 : (t119.length : Int) = 6
  · rw [if_pos c3] at H
    have c3b0 : ((t119.length : Int) == 6) = true := beq_iff_eq.mpr c3
    have c3b1 : ((t119.length : Int) != 6) = false := bne_eq_false_iff_eq.mpr c3
    clear c3
    by_cases c4 : 3 < (t119.length : Int)
    · rw [if_pos c4] at H
      have c4b0 : decide (3 < (t119.length : Int)) = true := decide_eq_true c4
      have c4b1 : decide (3 < t119.length) = true := decide_eq_true (by omega)
      clear c4
      by_cases c5 : ((rd_T24 t119 3).f4).toList = ([97] : List UInt8)
      · rw [if_pos c5] at H
        have c5b0 : (((rd_T24 t119 3).f4).toList == ([97] : List UInt8)) = true := beq_iff_eq.mpr c5
        have c5b1 : (((rd_T24 t119 3).f4).toList != ([97] : List UInt8)) = false := bne_eq_false_iff_eq.mpr c5
        clear c5
        by_cases c6 : t120 = 0
        · rw [if_pos c6] at H
          have c6b0 : (t120 == 0) = true := beq_iff_eq.mpr c6
          have c6b1 : (t120 != 0) = false := bne_eq_false_iff_eq.mpr c6
          clear c6
          by_cases c7 : t121 = 0
          · rw [if_pos c7] at H
            have c7b0 : (t121 == 0) = true := beq_iff_eq.mpr c7
            have c7b1 : (t121 != 0) = false := bne_eq_false_iff_eq.mpr c7
            clear c7
            by_cases c8 : t125 = 1
            · rw [if_pos c8] at H
              have c8b0 : (t125 == 1) = true := beq_iff_eq.mpr c8
              have c8b1 : (t125 != 1) = false := bne_eq_false_iff_eq.mpr c8
              clear c8
              obtain rfl := Option.some.inj H
              go_enter Try.func6, Try.ntmps6
              go_wp2_with (first | ((with_reducible refine gate_callee (f := 9) rfl ?_); refine goesL_ (some 8) rfl rfl Try.func9 (by kernel_rfl) rfl #[.string (⟨#[91, 49, 44, 32, 34, 97, 34, 93]⟩ : ByteArray)] rfl (by (try simp only [List.map_toArray, List.map_cons, List.map_nil]); first | done | rfl | (simp only [List.length_drop, List.length_take]; rfl)) ?_; (with_reducible refine (lex_Tokens.calls (⟨#[91, 49, 44, 32, 34, 97, 34, 93]⟩ : ByteArray) t119 t120 t121 _ A1.out).mono ?_); rintro e w9 ⟨v122, rfl, ho0, hb⟩; refine ⟨_, rfl, ?_⟩; have n0_ := Aside0.mk (Kd.R_lower ho0 (below_size (by repeat (first | (with_reducible first | exact HB.out | apply below_alloc | apply pw_below_drewN | apply below_drew1) | exact HB.out)))); have n1_ := Aside0.mk (below_step (by repeat (first | (with_reducible first | exact HB.out | apply below_alloc | apply pw_below_drewN | apply below_drew1) | exact HB.out)) hb); clear HB; have HO123 := n0_; have HB := n1_; clear n0_ n1_; (try clear hb); (try clear hb2); (try clear hk); (try clear hi); (try clear ho0)) | ((with_reducible refine gate_callee (f := 9) rfl ?_); refine goesL_ (some 13) rfl rfl Try.func9 (by kernel_rfl) rfl #[.string (⟨#[91, 48, 49]⟩ : ByteArray)] rfl (by (try simp only [List.map_toArray, List.map_cons, List.map_nil]); first | done | rfl | (simp only [List.length_drop, List.length_take]; rfl)) ?_; (with_reducible refine (lex_Tokens.calls (⟨#[91, 48, 49]⟩ : ByteArray) t124 t125 t126 _ A2.out).mono ?_); rintro e w10 ⟨v127, rfl, ho0, hb⟩; refine ⟨_, rfl, ?_⟩; have n0_ := Aside0.mk (Kd.R_elder' (by (with_reducible repeat (first | apply Kd.R_alloc | apply Kd.R_drewN | apply Kd.R_drew)); exact HO123.out) (Kd.R_base ho0) hb); have n1_ := Aside0.mk (Kd.R_lower (Kd.R_new' ho0 (Kd.R_lt (by (with_reducible repeat (first | apply Kd.R_alloc | apply Kd.R_drewN | apply Kd.R_drew)); exact HO123.out))) (below_size (by repeat (first | (with_reducible first | exact HB.out | apply below_alloc | apply pw_below_drewN | apply below_drew1) | exact HB.out)))); have n2_ := Aside0.mk (below_step (by repeat (first | (with_reducible first | exact HB.out | apply below_alloc | apply pw_below_drewN | apply below_drew1) | exact HB.out)) hb); clear HO123; clear HB; have HO123 := n0_; have HO128 := n1_; have HB := n2_; clear n0_ n1_ n2_; (try clear hb); (try clear hb2); (try clear hk); (try clear hi); (try clear ho0); obtain ⟨Ao11, co11, eo11⟩ := Kd.R_slice HO123.out; subst eo11; have p129 : 0 ≤ (3 : Int) := (by omega); have q129 : 3 < (t119.length : Int) := of_decide_eq_true (by first | (with_reducible assumption) | assumption); obtain ⟨ad129, e129, hx129_0, hx129_1, hx129_2, hx129_3, hx129_4⟩ := at_T24 (Kd.R_reads' HO123.out).2.2 3 p129 q129; cases e129; (try simp only [show (3 : Int).toNat = 3 from rfl, Nat.reduceMul, Nat.reduceEqDiff, Go.Addr.add, ↓reduceIte] at hx129_0); (try simp only [show (3 : Int).toNat = 3 from rfl, Nat.reduceMul, Nat.reduceEqDiff, Go.Addr.add, ↓reduceIte] at hx129_1); (try simp only [show (3 : Int).toNat = 3 from rfl, Nat.reduceMul, Nat.reduceEqDiff, Go.Addr.add, ↓reduceIte] at hx129_2); (try simp only [show (3 : Int).toNat = 3 from rfl, Nat.reduceMul, Nat.reduceEqDiff, Go.Addr.add, ↓reduceIte] at hx129_3); (try simp only [show (3 : Int).toNat = 3 from rfl, Nat.reduceMul, Nat.reduceEqDiff, Go.Addr.add, ↓reduceIte] at hx129_4); have qi129 : (3 < t119.length) = True := eq_true (by omega); (try rw [show ((3 : Int)).toNat = 3 from rfl] at hx129_0); (try rw [show 3 * 5 = 15 from rfl] at hx129_0); (try rw [show ((3 : Int)).toNat = 3 from rfl] at hx129_1); (try rw [show 3 * 5 = 15 from rfl] at hx129_1); (try rw [show ((3 : Int)).toNat = 3 from rfl] at hx129_2); (try rw [show 3 * 5 = 15 from rfl] at hx129_2); (try rw [show ((3 : Int)).toNat = 3 from rfl] at hx129_3); (try rw [show 3 * 5 = 15 from rfl] at hx129_3); (try rw [show ((3 : Int)).toNat = 3 from rfl] at hx129_4); (try rw [show 3 * 5 = 15 from rfl] at hx129_4); replace p129 := eq_true p129; replace q129 := eq_true q129))
              go_ret
              exact ⟨by first | rfl | (simp [errW_none, errW_some] <;> rfl) | (simp [*, errW_none, errW_some] <;> rfl), by repeat (first | (with_reducible first | exact HB.out | apply below_alloc | apply pw_below_drewN | apply below_drew1) | exact HB.out)⟩
            · rw [if_neg c8] at H
              have c8b0 : (t125 == 1) = false := beq_eq_false_iff_ne.mpr c8
              have c8b1 : (t125 != 1) = true := bne_iff_ne.mpr c8
              obtain rfl := Option.some.inj H
              go_enter Try.func6, Try.ntmps6
              go_wp2_with (first | ((with_reducible refine gate_callee (f := 9) rfl ?_); refine goesL_ (some 8) rfl rfl Try.func9 (by kernel_rfl) rfl #[.string (⟨#[91, 49, 44, 32, 34, 97, 34, 93]⟩ : ByteArray)] rfl (by (try simp only [List.map_toArray, List.map_cons, List.map_nil]); first | done | rfl | (simp only [List.length_drop, List.length_take]; rfl)) ?_; (with_reducible refine (lex_Tokens.calls (⟨#[91, 49, 44, 32, 34, 97, 34, 93]⟩ : ByteArray) t119 t120 t121 _ A1.out).mono ?_); rintro e w12 ⟨v122, rfl, ho0, hb⟩; refine ⟨_, rfl, ?_⟩; have n0_ := Aside0.mk (Kd.R_lower ho0 (below_size (by repeat (first | (with_reducible first | exact HB.out | apply below_alloc | apply pw_below_drewN | apply below_drew1) | exact HB.out)))); have n1_ := Aside0.mk (below_step (by repeat (first | (with_reducible first | exact HB.out | apply below_alloc | apply pw_below_drewN | apply below_drew1) | exact HB.out)) hb); clear HB; have HO123 := n0_; have HB := n1_; clear n0_ n1_; (try clear hb); (try clear hb2); (try clear hk); (try clear hi); (try clear ho0)) | ((with_reducible refine gate_callee (f := 9) rfl ?_); refine goesL_ (some 13) rfl rfl Try.func9 (by kernel_rfl) rfl #[.string (⟨#[91, 48, 49]⟩ : ByteArray)] rfl (by (try simp only [List.map_toArray, List.map_cons, List.map_nil]); first | done | rfl | (simp only [List.length_drop, List.length_take]; rfl)) ?_; (with_reducible refine (lex_Tokens.calls (⟨#[91, 48, 49]⟩ : ByteArray) t124 t125 t126 _ A2.out).mono ?_); rintro e w13 ⟨v127, rfl, ho0, hb⟩; refine ⟨_, rfl, ?_⟩; have n0_ := Aside0.mk (Kd.R_elder' (by (with_reducible repeat (first | apply Kd.R_alloc | apply Kd.R_drewN | apply Kd.R_drew)); exact HO123.out) (Kd.R_base ho0) hb); have n1_ := Aside0.mk (Kd.R_lower (Kd.R_new' ho0 (Kd.R_lt (by (with_reducible repeat (first | apply Kd.R_alloc | apply Kd.R_drewN | apply Kd.R_drew)); exact HO123.out))) (below_size (by repeat (first | (with_reducible first | exact HB.out | apply below_alloc | apply pw_below_drewN | apply below_drew1) | exact HB.out)))); have n2_ := Aside0.mk (below_step (by repeat (first | (with_reducible first | exact HB.out | apply below_alloc | apply pw_below_drewN | apply below_drew1) | exact HB.out)) hb); clear HO123; clear HB; have HO123 := n0_; have HO128 := n1_; have HB := n2_; clear n0_ n1_ n2_; (try clear hb); (try clear hb2); (try clear hk); (try clear hi); (try clear ho0); obtain ⟨Ao14, co14, eo14⟩ := Kd.R_slice HO123.out; subst eo14; have p129 : 0 ≤ (3 : Int) := (by omega); have q129 : 3 < (t119.length : Int) := of_decide_eq_true (by first | (with_reducible assumption) | assumption); obtain ⟨ad129, e129, hx129_0, hx129_1, hx129_2, hx129_3, hx129_4⟩ := at_T24 (Kd.R_reads' HO123.out).2.2 3 p129 q129; cases e129; (try simp only [show (3 : Int).toNat = 3 from rfl, Nat.reduceMul, Nat.reduceEqDiff, Go.Addr.add, ↓reduceIte] at hx129_0); (try simp only [show (3 : Int).toNat = 3 from rfl, Nat.reduceMul, Nat.reduceEqDiff, Go.Addr.add, ↓reduceIte] at hx129_1); (try simp only [show (3 : Int).toNat = 3 from rfl, Nat.reduceMul, Nat.reduceEqDiff, Go.Addr.add, ↓reduceIte] at hx129_2); (try simp only [show (3 : Int).toNat = 3 from rfl, Nat.reduceMul, Nat.reduceEqDiff, Go.Addr.add, ↓reduceIte] at hx129_3); (try simp only [show (3 : Int).toNat = 3 from rfl, Nat.reduceMul, Nat.reduceEqDiff, Go.Addr.add, ↓reduceIte] at hx129_4); have qi129 : (3 < t119.length) = True := eq_true (by omega); (try rw [show ((3 : Int)).toNat = 3 from rfl] at hx129_0); (try rw [show 3 * 5 = 15 from rfl] at hx129_0); (try rw [show ((3 : Int)).toNat = 3 from rfl] at hx129_1); (try rw [show 3 * 5 = 15 from rfl] at hx129_1); (try rw [show ((3 : Int)).toNat = 3 from rfl] at hx129_2); (try rw [show 3 * 5 = 15 from rfl] at hx129_2); (try rw [show ((3 : Int)).toNat = 3 from rfl] at hx129_3); (try rw [show 3 * 5 = 15 from rfl] at hx129_3); (try rw [show ((3 : Int)).toNat = 3 from rfl] at hx129_4); (try rw [show 3 * 5 = 15 from rfl] at hx129_4); replace p129 := eq_true p129; replace q129 := eq_true q129))
              go_ret
              exact ⟨by first | rfl | (simp [errW_none, errW_some] <;> rfl) | (simp [*, errW_none, errW_some] <;> rfl), by repeat (first | (with_reducible first | exact HB.out | apply below_alloc | apply pw_below_drewN | apply below_drew1) | exact HB.out)⟩
          · rw [if_neg c7] at H
            have c7b0 : (t121 == 0) = false := beq_eq_false_iff_ne.mpr c7
            have c7b1 : (t121 != 0) = true := bne_iff_ne.mpr c7
            obtain rfl := Option.some.inj H
            go_enter Try.func6, Try.ntmps6
            go_wp2_with (first | ((with_reducible refine gate_callee (f := 9) rfl ?_); refine goesL_ (some 8) rfl rfl Try.func9 (by kernel_rfl) rfl #[.string (⟨#[91, 49, 44, 32, 34, 97, 34, 93]⟩ : ByteArray)] rfl (by (try simp only [List.map_toArray, List.map_cons, List.map_nil]); first | done | rfl | (simp only [List.length_drop, List.length_take]; rfl)) ?_; (with_reducible refine (lex_Tokens.calls (⟨#[91, 49, 44, 32, 34, 97, 34, 93]⟩ : ByteArray) t119 t120 t121 _ A1.out).mono ?_); rintro e w15 ⟨v122, rfl, ho0, hb⟩; refine ⟨_, rfl, ?_⟩; have n0_ := Aside0.mk (Kd.R_lower ho0 (below_size (by repeat (first | (with_reducible first | exact HB.out | apply below_alloc | apply pw_below_drewN | apply below_drew1) | exact HB.out)))); have n1_ := Aside0.mk (below_step (by repeat (first | (with_reducible first | exact HB.out | apply below_alloc | apply pw_below_drewN | apply below_drew1) | exact HB.out)) hb); clear HB; have HO123 := n0_; have HB := n1_; clear n0_ n1_; (try clear hb); (try clear hb2); (try clear hk); (try clear hi); (try clear ho0)) | ((with_reducible refine gate_callee (f := 9) rfl ?_); refine goesL_ (some 13) rfl rfl Try.func9 (by kernel_rfl) rfl #[.string (⟨#[91, 48, 49]⟩ : ByteArray)] rfl (by (try simp only [List.map_toArray, List.map_cons, List.map_nil]); first | done | rfl | (simp only [List.length_drop, List.length_take]; rfl)) ?_; (with_reducible refine (lex_Tokens.calls (⟨#[91, 48, 49]⟩ : ByteArray) t124 t125 t126 _ A2.out).mono ?_); rintro e w16 ⟨v127, rfl, ho0, hb⟩; refine ⟨_, rfl, ?_⟩; have n0_ := Aside0.mk (Kd.R_elder' (by (with_reducible repeat (first | apply Kd.R_alloc | apply Kd.R_drewN | apply Kd.R_drew)); exact HO123.out) (Kd.R_base ho0) hb); have n1_ := Aside0.mk (Kd.R_lower (Kd.R_new' ho0 (Kd.R_lt (by (with_reducible repeat (first | apply Kd.R_alloc | apply Kd.R_drewN | apply Kd.R_drew)); exact HO123.out))) (below_size (by repeat (first | (with_reducible first | exact HB.out | apply below_alloc | apply pw_below_drewN | apply below_drew1) | exact HB.out)))); have n2_ := Aside0.mk (below_step (by repeat (first | (with_reducible first | exact HB.out | apply below_alloc | apply pw_below_drewN | apply below_drew1) | exact HB.out)) hb); clear HO123; clear HB; have HO123 := n0_; have HO128 := n1_; have HB := n2_; clear n0_ n1_ n2_; (try clear hb); (try clear hb2); (try clear hk); (try clear hi); (try clear ho0); obtain ⟨Ao17, co17, eo17⟩ := Kd.R_slice HO123.out; subst eo17; have p129 : 0 ≤ (3 : Int) := (by omega); have q129 : 3 < (t119.length : Int) := of_decide_eq_true (by first | (with_reducible assumption) | assumption); obtain ⟨ad129, e129, hx129_0, hx129_1, hx129_2, hx129_3, hx129_4⟩ := at_T24 (Kd.R_reads' HO123.out).2.2 3 p129 q129; cases e129; (try simp only [show (3 : Int).toNat = 3 from rfl, Nat.reduceMul, Nat.reduceEqDiff, Go.Addr.add, ↓reduceIte] at hx129_0); (try simp only [show (3 : Int).toNat = 3 from rfl, Nat.reduceMul, Nat.reduceEqDiff, Go.Addr.add, ↓reduceIte] at hx129_1); (try simp only [show (3 : Int).toNat = 3 from rfl, Nat.reduceMul, Nat.reduceEqDiff, Go.Addr.add, ↓reduceIte] at hx129_2); (try simp only [show (3 : Int).toNat = 3 from rfl, Nat.reduceMul, Nat.reduceEqDiff, Go.Addr.add, ↓reduceIte] at hx129_3); (try simp only [show (3 : Int).toNat = 3 from rfl, Nat.reduceMul, Nat.reduceEqDiff, Go.Addr.add, ↓reduceIte] at hx129_4); have qi129 : (3 < t119.length) = True := eq_true (by omega); (try rw [show ((3 : Int)).toNat = 3 from rfl] at hx129_0); (try rw [show 3 * 5 = 15 from rfl] at hx129_0); (try rw [show ((3 : Int)).toNat = 3 from rfl] at hx129_1); (try rw [show 3 * 5 = 15 from rfl] at hx129_1); (try rw [show ((3 : Int)).toNat = 3 from rfl] at hx129_2); (try rw [show 3 * 5 = 15 from rfl] at hx129_2); (try rw [show ((3 : Int)).toNat = 3 from rfl] at hx129_3); (try rw [show 3 * 5 = 15 from rfl] at hx129_3); (try rw [show ((3 : Int)).toNat = 3 from rfl] at hx129_4); (try rw [show 3 * 5 = 15 from rfl] at hx129_4); replace p129 := eq_true p129; replace q129 := eq_true q129))
            go_ret
            exact ⟨by first | rfl | (simp [errW_none, errW_some] <;> rfl) | (simp [*, errW_none, errW_some] <;> rfl), by repeat (first | (with_reducible first | exact HB.out | apply below_alloc | apply pw_below_drewN | apply below_drew1) | exact HB.out)⟩
        · rw [if_neg c6] at H
          have c6b0 : (t120 == 0) = false := beq_eq_false_iff_ne.mpr c6
          have c6b1 : (t120 != 0) = true := bne_iff_ne.mpr c6
          obtain rfl := Option.some.inj H
          go_enter Try.func6, Try.ntmps6
          go_wp2_with (first | ((with_reducible refine gate_callee (f := 9) rfl ?_); refine goesL_ (some 8) rfl rfl Try.func9 (by kernel_rfl) rfl #[.string (⟨#[91, 49, 44, 32, 34, 97, 34, 93]⟩ : ByteArray)] rfl (by (try simp only [List.map_toArray, List.map_cons, List.map_nil]); first | done | rfl | (simp only [List.length_drop, List.length_take]; rfl)) ?_; (with_reducible refine (lex_Tokens.calls (⟨#[91, 49, 44, 32, 34, 97, 34, 93]⟩ : ByteArray) t119 t120 t121 _ A1.out).mono ?_); rintro e w18 ⟨v122, rfl, ho0, hb⟩; refine ⟨_, rfl, ?_⟩; have n0_ := Aside0.mk (Kd.R_lower ho0 (below_size (by repeat (first | (with_reducible first | exact HB.out | apply below_alloc | apply pw_below_drewN | apply below_drew1) | exact HB.out)))); have n1_ := Aside0.mk (below_step (by repeat (first | (with_reducible first | exact HB.out | apply below_alloc | apply pw_below_drewN | apply below_drew1) | exact HB.out)) hb); clear HB; have HO123 := n0_; have HB := n1_; clear n0_ n1_; (try clear hb); (try clear hb2); (try clear hk); (try clear hi); (try clear ho0)) | ((with_reducible refine gate_callee (f := 9) rfl ?_); refine goesL_ (some 13) rfl rfl Try.func9 (by kernel_rfl) rfl #[.string (⟨#[91, 48, 49]⟩ : ByteArray)] rfl (by (try simp only [List.map_toArray, List.map_cons, List.map_nil]); first | done | rfl | (simp only [List.length_drop, List.length_take]; rfl)) ?_; (with_reducible refine (lex_Tokens.calls (⟨#[91, 48, 49]⟩ : ByteArray) t124 t125 t126 _ A2.out).mono ?_); rintro e w19 ⟨v127, rfl, ho0, hb⟩; refine ⟨_, rfl, ?_⟩; have n0_ := Aside0.mk (Kd.R_elder' (by (with_reducible repeat (first | apply Kd.R_alloc | apply Kd.R_drewN | apply Kd.R_drew)); exact HO123.out) (Kd.R_base ho0) hb); have n1_ := Aside0.mk (Kd.R_lower (Kd.R_new' ho0 (Kd.R_lt (by (with_reducible repeat (first | apply Kd.R_alloc | apply Kd.R_drewN | apply Kd.R_drew)); exact HO123.out))) (below_size (by repeat (first | (with_reducible first | exact HB.out | apply below_alloc | apply pw_below_drewN | apply below_drew1) | exact HB.out)))); have n2_ := Aside0.mk (below_step (by repeat (first | (with_reducible first | exact HB.out | apply below_alloc | apply pw_below_drewN | apply below_drew1) | exact HB.out)) hb); clear HO123; clear HB; have HO123 := n0_; have HO128 := n1_; have HB := n2_; clear n0_ n1_ n2_; (try clear hb); (try clear hb2); (try clear hk); (try clear hi); (try clear ho0); obtain ⟨Ao20, co20, eo20⟩ := Kd.R_slice HO123.out; subst eo20; have p129 : 0 ≤ (3 : Int) := (by omega); have q129 : 3 < (t119.length : Int) := of_decide_eq_true (by first | (with_reducible assumption) | assumption); obtain ⟨ad129, e129, hx129_0, hx129_1, hx129_2, hx129_3, hx129_4⟩ := at_T24 (Kd.R_reads' HO123.out).2.2 3 p129 q129; cases e129; (try simp only [show (3 : Int).toNat = 3 from rfl, Nat.reduceMul, Nat.reduceEqDiff, Go.Addr.add, ↓reduceIte] at hx129_0); (try simp only [show (3 : Int).toNat = 3 from rfl, Nat.reduceMul, Nat.reduceEqDiff, Go.Addr.add, ↓reduceIte] at hx129_1); (try simp only [show (3 : Int).toNat = 3 from rfl, Nat.reduceMul, Nat.reduceEqDiff, Go.Addr.add, ↓reduceIte] at hx129_2); (try simp only [show (3 : Int).toNat = 3 from rfl, Nat.reduceMul, Nat.reduceEqDiff, Go.Addr.add, ↓reduceIte] at hx129_3); (try simp only [show (3 : Int).toNat = 3 from rfl, Nat.reduceMul, Nat.reduceEqDiff, Go.Addr.add, ↓reduceIte] at hx129_4); have qi129 : (3 < t119.length) = True := eq_true (by omega); (try rw [show ((3 : Int)).toNat = 3 from rfl] at hx129_0); (try rw [show 3 * 5 = 15 from rfl] at hx129_0); (try rw [show ((3 : Int)).toNat = 3 from rfl] at hx129_1); (try rw [show 3 * 5 = 15 from rfl] at hx129_1); (try rw [show ((3 : Int)).toNat = 3 from rfl] at hx129_2); (try rw [show 3 * 5 = 15 from rfl] at hx129_2); (try rw [show ((3 : Int)).toNat = 3 from rfl] at hx129_3); (try rw [show 3 * 5 = 15 from rfl] at hx129_3); (try rw [show ((3 : Int)).toNat = 3 from rfl] at hx129_4); (try rw [show 3 * 5 = 15 from rfl] at hx129_4); replace p129 := eq_true p129; replace q129 := eq_true q129))
          go_ret
          exact ⟨by first | rfl | (simp [errW_none, errW_some] <;> rfl) | (simp [*, errW_none, errW_some] <;> rfl), by repeat (first | (with_reducible first | exact HB.out | apply below_alloc | apply pw_below_drewN | apply below_drew1) | exact HB.out)⟩
      · rw [if_neg c5] at H
        have c5b0 : (((rd_T24 t119 3).f4).toList == ([97] : List UInt8)) = false := beq_eq_false_iff_ne.mpr c5
        have c5b1 : (((rd_T24 t119 3).f4).toList != ([97] : List UInt8)) = true := bne_iff_ne.mpr c5
        obtain rfl := Option.some.inj H
        go_enter Try.func6, Try.ntmps6
        go_wp2_with (first | ((with_reducible refine gate_callee (f := 9) rfl ?_); refine goesL_ (some 8) rfl rfl Try.func9 (by kernel_rfl) rfl #[.string (⟨#[91, 49, 44, 32, 34, 97, 34, 93]⟩ : ByteArray)] rfl (by (try simp only [List.map_toArray, List.map_cons, List.map_nil]); first | done | rfl | (simp only [List.length_drop, List.length_take]; rfl)) ?_; (with_reducible refine (lex_Tokens.calls (⟨#[91, 49, 44, 32, 34, 97, 34, 93]⟩ : ByteArray) t119 t120 t121 _ A1.out).mono ?_); rintro e w21 ⟨v122, rfl, ho0, hb⟩; refine ⟨_, rfl, ?_⟩; have n0_ := Aside0.mk (Kd.R_lower ho0 (below_size (by repeat (first | (with_reducible first | exact HB.out | apply below_alloc | apply pw_below_drewN | apply below_drew1) | exact HB.out)))); have n1_ := Aside0.mk (below_step (by repeat (first | (with_reducible first | exact HB.out | apply below_alloc | apply pw_below_drewN | apply below_drew1) | exact HB.out)) hb); clear HB; have HO123 := n0_; have HB := n1_; clear n0_ n1_; (try clear hb); (try clear hb2); (try clear hk); (try clear hi); (try clear ho0)) | ((with_reducible refine gate_callee (f := 9) rfl ?_); refine goesL_ (some 13) rfl rfl Try.func9 (by kernel_rfl) rfl #[.string (⟨#[91, 48, 49]⟩ : ByteArray)] rfl (by (try simp only [List.map_toArray, List.map_cons, List.map_nil]); first | done | rfl | (simp only [List.length_drop, List.length_take]; rfl)) ?_; (with_reducible refine (lex_Tokens.calls (⟨#[91, 48, 49]⟩ : ByteArray) t124 t125 t126 _ A2.out).mono ?_); rintro e w22 ⟨v127, rfl, ho0, hb⟩; refine ⟨_, rfl, ?_⟩; have n0_ := Aside0.mk (Kd.R_elder' (by (with_reducible repeat (first | apply Kd.R_alloc | apply Kd.R_drewN | apply Kd.R_drew)); exact HO123.out) (Kd.R_base ho0) hb); have n1_ := Aside0.mk (Kd.R_lower (Kd.R_new' ho0 (Kd.R_lt (by (with_reducible repeat (first | apply Kd.R_alloc | apply Kd.R_drewN | apply Kd.R_drew)); exact HO123.out))) (below_size (by repeat (first | (with_reducible first | exact HB.out | apply below_alloc | apply pw_below_drewN | apply below_drew1) | exact HB.out)))); have n2_ := Aside0.mk (below_step (by repeat (first | (with_reducible first | exact HB.out | apply below_alloc | apply pw_below_drewN | apply below_drew1) | exact HB.out)) hb); clear HO123; clear HB; have HO123 := n0_; have HO128 := n1_; have HB := n2_; clear n0_ n1_ n2_; (try clear hb); (try clear hb2); (try clear hk); (try clear hi); (try clear ho0); obtain ⟨Ao23, co23, eo23⟩ := Kd.R_slice HO123.out; subst eo23; have p129 : 0 ≤ (3 : Int) := (by omega); have q129 : 3 < (t119.length : Int) := of_decide_eq_true (by first | (with_reducible assumption) | assumption); obtain ⟨ad129, e129, hx129_0, hx129_1, hx129_2, hx129_3, hx129_4⟩ := at_T24 (Kd.R_reads' HO123.out).2.2 3 p129 q129; cases e129; (try simp only [show (3 : Int).toNat = 3 from rfl, Nat.reduceMul, Nat.reduceEqDiff, Go.Addr.add, ↓reduceIte] at hx129_0); (try simp only [show (3 : Int).toNat = 3 from rfl, Nat.reduceMul, Nat.reduceEqDiff, Go.Addr.add, ↓reduceIte] at hx129_1); (try simp only [show (3 : Int).toNat = 3 from rfl, Nat.reduceMul, Nat.reduceEqDiff, Go.Addr.add, ↓reduceIte] at hx129_2); (try simp only [show (3 : Int).toNat = 3 from rfl, Nat.reduceMul, Nat.reduceEqDiff, Go.Addr.add, ↓reduceIte] at hx129_3); (try simp only [show (3 : Int).toNat = 3 from rfl, Nat.reduceMul, Nat.reduceEqDiff, Go.Addr.add, ↓reduceIte] at hx129_4); have qi129 : (3 < t119.length) = True := eq_true (by omega); (try rw [show ((3 : Int)).toNat = 3 from rfl] at hx129_0); (try rw [show 3 * 5 = 15 from rfl] at hx129_0); (try rw [show ((3 : Int)).toNat = 3 from rfl] at hx129_1); (try rw [show 3 * 5 = 15 from rfl] at hx129_1); (try rw [show ((3 : Int)).toNat = 3 from rfl] at hx129_2); (try rw [show 3 * 5 = 15 from rfl] at hx129_2); (try rw [show ((3 : Int)).toNat = 3 from rfl] at hx129_3); (try rw [show 3 * 5 = 15 from rfl] at hx129_3); (try rw [show ((3 : Int)).toNat = 3 from rfl] at hx129_4); (try rw [show 3 * 5 = 15 from rfl] at hx129_4); replace p129 := eq_true p129; replace q129 := eq_true q129))
        go_ret
        exact ⟨by first | rfl | (simp [errW_none, errW_some] <;> rfl) | (simp [*, errW_none, errW_some] <;> rfl), by repeat (first | (with_reducible first | exact HB.out | apply below_alloc | apply pw_below_drewN | apply below_drew1) | exact HB.out)⟩
    · rw [if_neg c4] at H
      exact absurd H (by simp)
  · rw [if_neg c3] at H
    have c3b0 : ((t119.length : Int) == 6) = false := beq_eq_false_iff_ne.mpr c3
    have c3b1 : ((t119.length : Int) != 6) = true := bne_iff_ne.mpr c3
    obtain rfl := Option.some.inj H
    go_enter Try.func6, Try.ntmps6
    go_wp2_with (first | ((with_reducible refine gate_callee (f := 9) rfl ?_); refine goesL_ (some 8) rfl rfl Try.func9 (by kernel_rfl) rfl #[.string (⟨#[91, 49, 44, 32, 34, 97, 34, 93]⟩ : ByteArray)] rfl (by (try simp only [List.map_toArray, List.map_cons, List.map_nil]); first | done | rfl | (simp only [List.length_drop, List.length_take]; rfl)) ?_; (with_reducible refine (lex_Tokens.calls (⟨#[91, 49, 44, 32, 34, 97, 34, 93]⟩ : ByteArray) t119 t120 t121 _ A1.out).mono ?_); rintro e w24 ⟨v122, rfl, ho0, hb⟩; refine ⟨_, rfl, ?_⟩; have n0_ := Aside0.mk (Kd.R_lower ho0 (below_size (by repeat (first | (with_reducible first | exact HB.out | apply below_alloc | apply pw_below_drewN | apply below_drew1) | exact HB.out)))); have n1_ := Aside0.mk (below_step (by repeat (first | (with_reducible first | exact HB.out | apply below_alloc | apply pw_below_drewN | apply below_drew1) | exact HB.out)) hb); clear HB; have HO123 := n0_; have HB := n1_; clear n0_ n1_; (try clear hb); (try clear hb2); (try clear hk); (try clear hi); (try clear ho0)) | ((with_reducible refine gate_callee (f := 9) rfl ?_); refine goesL_ (some 13) rfl rfl Try.func9 (by kernel_rfl) rfl #[.string (⟨#[91, 48, 49]⟩ : ByteArray)] rfl (by (try simp only [List.map_toArray, List.map_cons, List.map_nil]); first | done | rfl | (simp only [List.length_drop, List.length_take]; rfl)) ?_; (with_reducible refine (lex_Tokens.calls (⟨#[91, 48, 49]⟩ : ByteArray) t124 t125 t126 _ A2.out).mono ?_); rintro e w25 ⟨v127, rfl, ho0, hb⟩; refine ⟨_, rfl, ?_⟩; have n0_ := Aside0.mk (Kd.R_elder' (by (with_reducible repeat (first | apply Kd.R_alloc | apply Kd.R_drewN | apply Kd.R_drew)); exact HO123.out) (Kd.R_base ho0) hb); have n1_ := Aside0.mk (Kd.R_lower (Kd.R_new' ho0 (Kd.R_lt (by (with_reducible repeat (first | apply Kd.R_alloc | apply Kd.R_drewN | apply Kd.R_drew)); exact HO123.out))) (below_size (by repeat (first | (with_reducible first | exact HB.out | apply below_alloc | apply pw_below_drewN | apply below_drew1) | exact HB.out)))); have n2_ := Aside0.mk (below_step (by repeat (first | (with_reducible first | exact HB.out | apply below_alloc | apply pw_below_drewN | apply below_drew1) | exact HB.out)) hb); clear HO123; clear HB; have HO123 := n0_; have HO128 := n1_; have HB := n2_; clear n0_ n1_ n2_; (try clear hb); (try clear hb2); (try clear hk); (try clear hi); (try clear ho0); obtain ⟨Ao26, co26, eo26⟩ := Kd.R_slice HO123.out; subst eo26))
    go_ret
    exact ⟨by first | rfl | (simp [errW_none, errW_some] <;> rfl) | (simp [*, errW_none, errW_some] <;> rfl), by repeat (first | (with_reducible first | exact HB.out | apply below_alloc | apply pw_below_drewN | apply below_drew1) | exact HB.out)⟩
end Go.Proofs.Ytjdgjifacdnkgaa.X
end
section
namespace Go.Proofs.Ytjdgjifacdnkgaa.X
open Go.RowKit Go.Proofs.YtjdgjifacdnkgaaW.PrintWords Go.Proofs.YtjdgjifacdnkgaaW.PrintLast Go.Proofs.YtjdgjifacdnkgaaW.PrintMore
attribute [local go_sem] max2_int min2_int max_two min_two max_three min_three max_four min_four
set_option linter.unusedVariables false
set_option linter.unusedSimpArgs false
mutual
def sealringlaw06_LexBlanks.j0 : Nat → ByteArray → List Int → List (S24) → Bool → Option (Bool)
  | 0, _, _, _, _ => none
  | k + 1, x0, x1, x5, x40 => if x40 = true then ((sealringlaw06_lives.f).bind fun t211 => (some t211)) else (sealringlaw06_LexBlanks.l0 k x0 x1 x5 (⟨#[9, 10, 13, 32]⟩ : ByteArray) (⟨#[]⟩ : ByteArray) 0 x5 (x5.length : Int) 0)
def sealringlaw06_LexBlanks.l0 : Nat → ByteArray → List Int → List (S24) → ByteArray → ByteArray → Int → List (S24) → Int → Int → Option (Bool)
  | 0, _, _, _, _, _, _, _, _, _ => none
  | k + 1, x0, x1, x5, x8, x9, x10, x42, x43, x44 => if x44 < x43 then (if 0 ≤ x44 then (if x44 < (x42.length : Int) then (sealringlaw06_LexBlanks.l1 k x0 x1 x5 x8 x9 x44 x10 x42 x43 x44 ((rd_T24 x42 x44).f0) ((rd_T24 x42 x44).f1) ((rd_T24 x42 x44).f2) ((rd_T24 x42 x44).f3) ((rd_T24 x42 x44).f4)) else (none)) else (none)) else (if x9.size + 1 ≤ 9223372036854775807 then ((lex_Tokens.f (x9 ++ (⟨#[10]⟩ : ByteArray))).bind fun bt216 => (if bt216.2.2 = 0 then (if (bt216.1.length : Int) = (x5.length : Int) then (sealringlaw06_LexBlanks.j3 k x5 bt216.1 (x10 != (x0.size : Int))) else (sealringlaw06_LexBlanks.j3 k x5 bt216.1 true)) else (sealringlaw06_LexBlanks.j3 k x5 bt216.1 true))) else (none))
def sealringlaw06_LexBlanks.l1 : Nat → ByteArray → List Int → List (S24) → ByteArray → ByteArray → Int → Int → List (S24) → Int → Int → Int → Int → Int → Int → ByteArray → Option (Bool)
  | 0, _, _, _, _, _, _, _, _, _, _, _, _, _, _, _ => none
  | k + 1, x0, x1, x5, x8, x9, x11, x13, x42, x43, x44, x214000, x214001, x214002, x214003, x214004 => if x13 < x214001 then (if 0 ≤ x13 then (if x13 < (x0.size : Int) then (if (bt x0 x13) = 9 then (sealringlaw06_LexBlanks.l1 k x0 x1 x5 x8 x9 x11 (wrap64 (x13 + 1)) x42 x43 x44 x214000 x214001 x214002 x214003 x214004) else (if (bt x0 x13) = 10 then (sealringlaw06_LexBlanks.l1 k x0 x1 x5 x8 x9 x11 (wrap64 (x13 + 1)) x42 x43 x44 x214000 x214001 x214002 x214003 x214004) else (if (bt x0 x13) = 13 then (sealringlaw06_LexBlanks.l1 k x0 x1 x5 x8 x9 x11 (wrap64 (x13 + 1)) x42 x43 x44 x214000 x214001 x214002 x214003 x214004) else (if (bt x0 x13) = 32 then (sealringlaw06_LexBlanks.l1 k x0 x1 x5 x8 x9 x11 (wrap64 (x13 + 1)) x42 x43 x44 x214000 x214001 x214002 x214003 x214004) else (some false))))) else (none)) else (none)) else (if x9.size + 1 ≤ 9223372036854775807 then (if x11 < (x1.length : Int) then (if 0 ≤ x11 then (if 0 ≤ (Int.tmod (rd x1 x11) 4) then (if (Int.tmod (rd x1 x11) 4) ≤ (((Int.tmod (rd x1 x11) 4) + 1) % 256) then (if (((Int.tmod (rd x1 x11) 4) + 1) % 256) ≤ (x8.size : Int) then (if (x9 ++ (⟨#[32]⟩ : ByteArray)).size + (x8.extract ((Int.tmod (rd x1 x11) 4) : Int).toNat ((((Int.tmod (rd x1 x11) 4) + 1) % 256) : Int).toNat).size ≤ 9223372036854775807 then (if 0 ≤ x214001 then (if x214001 ≤ x214002 then (if x214002 ≤ (x0.size : Int) then (if ((x9 ++ (⟨#[32]⟩ : ByteArray)) ++ (x8.extract ((Int.tmod (rd x1 x11) 4) : Int).toNat ((((Int.tmod (rd x1 x11) 4) + 1) % 256) : Int).toNat)).size + (x0.extract (x214001 : Int).toNat (x214002 : Int).toNat).size ≤ 9223372036854775807 then (sealringlaw06_LexBlanks.l0 k x0 x1 x5 x8 (((x9 ++ (⟨#[32]⟩ : ByteArray)) ++ (x8.extract ((Int.tmod (rd x1 x11) 4) : Int).toNat ((((Int.tmod (rd x1 x11) 4) + 1) % 256) : Int).toNat)) ++ (x0.extract (x214001 : Int).toNat (x214002 : Int).toNat)) x214002 x42 x43 (wrap64 (x44 + 1))) else (none)) else (none)) else (none)) else (none)) else (none)) else (none)) else (none)) else (none)) else (none)) else (if 0 ≤ x214001 then (if x214001 ≤ x214002 then (if x214002 ≤ (x0.size : Int) then (if (x9 ++ (⟨#[32]⟩ : ByteArray)).size + (x0.extract (x214001 : Int).toNat (x214002 : Int).toNat).size ≤ 9223372036854775807 then (sealringlaw06_LexBlanks.l0 k x0 x1 x5 x8 ((x9 ++ (⟨#[32]⟩ : ByteArray)) ++ (x0.extract (x214001 : Int).toNat (x214002 : Int).toNat)) x214002 x42 x43 (wrap64 (x44 + 1))) else (none)) else (none)) else (none)) else (none))) else (none))
def sealringlaw06_LexBlanks.j3 : Nat → List (S24) → List (S24) → Bool → Option (Bool)
  | 0, _, _, _ => none
  | k + 1, x5, x14, x131 => if x131 = true then (some false) else (sealringlaw06_LexBlanks.l2 k x5 x14 (x14.length : Int) 0)
def sealringlaw06_LexBlanks.l2 : Nat → List (S24) → List (S24) → Int → Int → Option (Bool)
  | 0, _, _, _, _ => none
  | k + 1, x5, x132, x133, x134 => if x134 < x133 then (if 0 ≤ x134 then (if x134 < (x132.length : Int) then (if x134 < (x5.length : Int) then (if ((rd_T24 x132 x134).f0) = ((rd_T24 x5 x134).f0) then (if ((rd_T24 x132 x134).f3) = ((rd_T24 x5 x134).f3) then (if ((rd_T24 x132 x134).f4).toList = ((rd_T24 x5 x134).f4).toList then (sealringlaw06_LexBlanks.l2 k x5 x132 x133 (wrap64 (x134 + 1))) else (some false)) else (some false)) else (some false)) else (none)) else (none)) else (none)) else ((sealringlaw06_lives.f).bind fun t226 => (some t226))
end
def sealringlaw06_LexBlanks.f (k : Nat) (a0 : ByteArray) (l1 : List Int) : Option (Bool) := if (a0.size : Int) > 300 then ((sealringlaw06_lives.f).bind fun t205 => (some t205)) else ((lex_Tokens.f a0).bind fun bt206 => (if bt206.2.2 = 0 then (if (bt206.1.length : Int) > 100 then (sealringlaw06_LexBlanks.j0 k a0 l1 bt206.1 true) else (sealringlaw06_LexBlanks.j0 k a0 l1 bt206.1 ((bt206.1.length : Int) == 0))) else (sealringlaw06_LexBlanks.j0 k a0 l1 bt206.1 true)))
theorem sealringlaw06_LexBlanks.mono_l : ∀ k, (∀ y0 y1 y2 y3, LeO (sealringlaw06_LexBlanks.j0 k y0 y1 y2 y3) (sealringlaw06_LexBlanks.j0 (k + 1) y0 y1 y2 y3)) ∧ (∀ y0 y1 y2 y3 y4 y5 y6 y7 y8, LeO (sealringlaw06_LexBlanks.l0 k y0 y1 y2 y3 y4 y5 y6 y7 y8) (sealringlaw06_LexBlanks.l0 (k + 1) y0 y1 y2 y3 y4 y5 y6 y7 y8)) ∧ (∀ y0 y1 y2 y3 y4 y5 y6 y7 y8 y9 y10 y11 y12 y13 y14, LeO (sealringlaw06_LexBlanks.l1 k y0 y1 y2 y3 y4 y5 y6 y7 y8 y9 y10 y11 y12 y13 y14) (sealringlaw06_LexBlanks.l1 (k + 1) y0 y1 y2 y3 y4 y5 y6 y7 y8 y9 y10 y11 y12 y13 y14)) ∧ (∀ y0 y1 y2, LeO (sealringlaw06_LexBlanks.j3 k y0 y1 y2) (sealringlaw06_LexBlanks.j3 (k + 1) y0 y1 y2)) ∧ (∀ y0 y1 y2 y3, LeO (sealringlaw06_LexBlanks.l2 k y0 y1 y2 y3) (sealringlaw06_LexBlanks.l2 (k + 1) y0 y1 y2 y3))
  | 0 => ⟨fun _ _ _ _ r h => by simp [sealringlaw06_LexBlanks.j0] at h, fun _ _ _ _ _ _ _ _ _ r h => by simp [sealringlaw06_LexBlanks.l0] at h, fun _ _ _ _ _ _ _ _ _ _ _ _ _ _ _ r h => by simp [sealringlaw06_LexBlanks.l1] at h, fun _ _ _ r h => by simp [sealringlaw06_LexBlanks.j3] at h, fun _ _ _ _ r h => by simp [sealringlaw06_LexBlanks.l2] at h⟩
  | k + 1 => by
    obtain ⟨ih0, ih1, ih2, ih3, ih4⟩ := sealringlaw06_LexBlanks.mono_l k
    refine ⟨?_, ?_, ?_, ?_, ?_⟩
    · intro y0 y1 y2 y3
      unfold sealringlaw06_LexBlanks.j0
      repeat' first
      | (with_reducible exact ih0 _ _ _ _)
      | (with_reducible exact ih1 _ _ _ _ _ _ _ _ _)
      | (with_reducible exact ih2 _ _ _ _ _ _ _ _ _ _ _ _ _ _ _)
      | (with_reducible exact ih3 _ _ _)
      | (with_reducible exact ih4 _ _ _ _)
      | (with_reducible exact LeO.refl _)
      | (with_reducible exact LeO.none _)
      | (with_reducible refine LeO.ite ?_ ?_)
      | (with_reducible refine LeO.bind ?_ (fun _ => ?_))
      | exact ih0 _ _ _ _
      | exact ih1 _ _ _ _ _ _ _ _ _
      | exact ih2 _ _ _ _ _ _ _ _ _ _ _ _ _ _ _
      | exact ih3 _ _ _
      | exact ih4 _ _ _ _
      | exact LeO.none _
      | refine LeO.ite ?_ ?_
      | refine LeO.bind ?_ (fun _ => ?_)
    · intro y0 y1 y2 y3 y4 y5 y6 y7 y8
      unfold sealringlaw06_LexBlanks.l0
      repeat' first
      | (with_reducible exact ih0 _ _ _ _)
      | (with_reducible exact ih1 _ _ _ _ _ _ _ _ _)
      | (with_reducible exact ih2 _ _ _ _ _ _ _ _ _ _ _ _ _ _ _)
      | (with_reducible exact ih3 _ _ _)
      | (with_reducible exact ih4 _ _ _ _)
      | (with_reducible exact LeO.refl _)
      | (with_reducible exact LeO.none _)
      | (with_reducible refine LeO.ite ?_ ?_)
      | (with_reducible refine LeO.bind ?_ (fun _ => ?_))
      | exact ih0 _ _ _ _
      | exact ih1 _ _ _ _ _ _ _ _ _
      | exact ih2 _ _ _ _ _ _ _ _ _ _ _ _ _ _ _
      | exact ih3 _ _ _
      | exact ih4 _ _ _ _
      | exact LeO.none _
      | refine LeO.ite ?_ ?_
      | refine LeO.bind ?_ (fun _ => ?_)
    · intro y0 y1 y2 y3 y4 y5 y6 y7 y8 y9 y10 y11 y12 y13 y14
      unfold sealringlaw06_LexBlanks.l1
      repeat' first
      | (with_reducible exact ih0 _ _ _ _)
      | (with_reducible exact ih1 _ _ _ _ _ _ _ _ _)
      | (with_reducible exact ih2 _ _ _ _ _ _ _ _ _ _ _ _ _ _ _)
      | (with_reducible exact ih3 _ _ _)
      | (with_reducible exact ih4 _ _ _ _)
      | (with_reducible exact LeO.refl _)
      | (with_reducible exact LeO.none _)
      | (with_reducible refine LeO.ite ?_ ?_)
      | (with_reducible refine LeO.bind ?_ (fun _ => ?_))
      | exact ih0 _ _ _ _
      | exact ih1 _ _ _ _ _ _ _ _ _
      | exact ih2 _ _ _ _ _ _ _ _ _ _ _ _ _ _ _
      | exact ih3 _ _ _
      | exact ih4 _ _ _ _
      | exact LeO.none _
      | refine LeO.ite ?_ ?_
      | refine LeO.bind ?_ (fun _ => ?_)
    · intro y0 y1 y2
      unfold sealringlaw06_LexBlanks.j3
      repeat' first
      | (with_reducible exact ih0 _ _ _ _)
      | (with_reducible exact ih1 _ _ _ _ _ _ _ _ _)
      | (with_reducible exact ih2 _ _ _ _ _ _ _ _ _ _ _ _ _ _ _)
      | (with_reducible exact ih3 _ _ _)
      | (with_reducible exact ih4 _ _ _ _)
      | (with_reducible exact LeO.refl _)
      | (with_reducible exact LeO.none _)
      | (with_reducible refine LeO.ite ?_ ?_)
      | (with_reducible refine LeO.bind ?_ (fun _ => ?_))
      | exact ih0 _ _ _ _
      | exact ih1 _ _ _ _ _ _ _ _ _
      | exact ih2 _ _ _ _ _ _ _ _ _ _ _ _ _ _ _
      | exact ih3 _ _ _
      | exact ih4 _ _ _ _
      | exact LeO.none _
      | refine LeO.ite ?_ ?_
      | refine LeO.bind ?_ (fun _ => ?_)
    · intro y0 y1 y2 y3
      unfold sealringlaw06_LexBlanks.l2
      repeat' first
      | (with_reducible exact ih0 _ _ _ _)
      | (with_reducible exact ih1 _ _ _ _ _ _ _ _ _)
      | (with_reducible exact ih2 _ _ _ _ _ _ _ _ _ _ _ _ _ _ _)
      | (with_reducible exact ih3 _ _ _)
      | (with_reducible exact ih4 _ _ _ _)
      | (with_reducible exact LeO.refl _)
      | (with_reducible exact LeO.none _)
      | (with_reducible refine LeO.ite ?_ ?_)
      | (with_reducible refine LeO.bind ?_ (fun _ => ?_))
      | exact ih0 _ _ _ _
      | exact ih1 _ _ _ _ _ _ _ _ _
      | exact ih2 _ _ _ _ _ _ _ _ _ _ _ _ _ _ _
      | exact ih3 _ _ _
      | exact ih4 _ _ _ _
      | exact LeO.none _
      | refine LeO.ite ?_ ?_
      | refine LeO.bind ?_ (fun _ => ?_)
theorem sealringlaw06_LexBlanks.mono : ∀ a0 a1 k, LeO (sealringlaw06_LexBlanks.f k a0 a1) (sealringlaw06_LexBlanks.f (k + 1) a0 a1) := by
  intro a0 a1 k
  obtain ⟨ih0, ih1, ih2, ih3, ih4⟩ := sealringlaw06_LexBlanks.mono_l k
  unfold sealringlaw06_LexBlanks.f
  repeat' first
      | (with_reducible exact ih0 _ _ _ _)
      | (with_reducible exact ih1 _ _ _ _ _ _ _ _ _)
      | (with_reducible exact ih2 _ _ _ _ _ _ _ _ _ _ _ _ _ _ _)
      | (with_reducible exact ih3 _ _ _)
      | (with_reducible exact ih4 _ _ _ _)
      | (with_reducible exact LeO.refl _)
      | (with_reducible exact LeO.none _)
      | (with_reducible refine LeO.ite ?_ ?_)
      | (with_reducible refine LeO.bind ?_ (fun _ => ?_))
      | exact ih0 _ _ _ _
      | exact ih1 _ _ _ _ _ _ _ _ _
      | exact ih2 _ _ _ _ _ _ _ _ _ _ _ _ _ _ _
      | exact ih3 _ _ _
      | exact ih4 _ _ _ _
      | exact LeO.none _
      | refine LeO.ite ?_ ?_
      | refine LeO.bind ?_ (fun _ => ?_)
set_option maxHeartbeats 32000000 in
set_option maxRecDepth 100000 in
theorem sealringlaw06_LexBlanks.calls (k : Nat) (a0 : ByteArray) (A1 : Option Addr) (c1 : Nat) (l1 : List Int) (r : Bool) (w : World) (hr1 : Kd.C (Kd.int .u8) w A1 l1.length l1) (hc1 : l1.length ≤ c1) (h : sealringlaw06_LexBlanks.f k a0 l1 = some r) :
    Calls Try.prog 5 #[.string a0, .slice A1 l1.length c1] w fun e w' => e = .returned (.bool r) ∧ Below w.heap.size w w' := by
  have hu24 := Try.underlying24
  have HR1 := Aside0.mk hr1
  have HC1 := Aside0.mk hc1
  clear hr1 hc1
  have HB := Aside0.mk (Below.refl w.heap.size w)
  have H : (if (a0.size : Int) > 300 then ((sealringlaw06_lives.f).bind fun t205 => (some t205)) else ((lex_Tokens.f a0).bind fun bt206 => (if bt206.2.2 = 0 then (if (bt206.1.length : Int) > 100 then (sealringlaw06_LexBlanks.j0 k a0 l1 bt206.1 true) else (sealringlaw06_LexBlanks.j0 k a0 l1 bt206.1 ((bt206.1.length : Int) == 0))) else (sealringlaw06_LexBlanks.j0 k a0 l1 bt206.1 true)))) = some r := h
  clear h
  by_cases c3 : (a0.size : Int) > 300
  · rw [if_pos c3] at H
    have c3b0 : decide (300 < (a0.size : Int)) = true := decide_eq_true c3
    have c3b1 : decide (300 < a0.size) = true := decide_eq_true (by omega)
    clear c3
    replace H := Option.bind_eq_some_iff.mp H
    obtain ⟨t205, A40, H⟩ := H
    replace H : (some t205) = some r := H
    have A4 := Aside0.mk A40
    clear A40
    obtain rfl := Option.some.inj H
    go_enter Try.func5, Try.ntmps5
    go_wp2_with (first | (go_at_call 6; (with_reducible refine (sealringlaw06_lives.calls  t205 _ A4.out).mono ?_); rintro e w5 ⟨rfl, hb⟩; have n0_ := Aside0.mk (below_step (by repeat (first | (with_reducible first | exact HB.out | apply below_alloc | apply pw_below_drewN | apply below_drew1) | exact HB.out)) hb); clear HB; have HB := n0_; clear n0_; (try clear hb); (try clear hb2); (try clear hk); (try clear hi)))
    repeat (go_quiet (first | (go_at_call 6; (with_reducible refine (sealringlaw06_lives.calls  t205 _ A4.out).mono ?_); rintro e w5 ⟨rfl, hb⟩; have n0_ := Aside0.mk (below_step (by repeat (first | (with_reducible first | exact HB.out | apply below_alloc | apply pw_below_drewN | apply below_drew1) | exact HB.out)) hb); clear HB; have HB := n0_; clear n0_; (try clear hb); (try clear hb2); (try clear hk); (try clear hi))); try go_wp2_with (first | (go_at_call 6; (with_reducible refine (sealringlaw06_lives.calls  t205 _ A4.out).mono ?_); rintro e w5 ⟨rfl, hb⟩; have n0_ := Aside0.mk (below_step (by repeat (first | (with_reducible first | exact HB.out | apply below_alloc | apply pw_below_drewN | apply below_drew1) | exact HB.out)) hb); clear HB; have HB := n0_; clear n0_; (try clear hb); (try clear hb2); (try clear hk); (try clear hi))))
    go_ret
    exact ⟨by first | rfl | (simp [errW_none, errW_some] <;> rfl) | (simp [*, errW_none, errW_some] <;> rfl), by repeat (first | (with_reducible first | exact HB.out | apply below_alloc | apply pw_below_drewN | apply below_drew1) | exact HB.out)⟩
  · rw [if_neg c3] at H
    have c3b0 : decide (300 < (a0.size : Int)) = false := decide_eq_false c3
    have c3b1 : decide (300 < a0.size) = false := decide_eq_false (by omega)
    clear c3
    replace H := Option.bind_eq_some_iff.mp H
    obtain ⟨⟨t206, t207, t208⟩, A60, H⟩ := H
    replace H : (if t208 = 0 then (if (t206.length : Int) > 100 then (sealringlaw06_LexBlanks.j0 k a0 l1 t206 true) else (sealringlaw06_LexBlanks.j0 k a0 l1 t206 ((t206.length : Int) == 0))) else (sealringlaw06_LexBlanks.j0 k a0 l1 t206 true)) = some r := H
    have A6 := Aside0.mk A60
    clear A60
    have HC7 := Aside0.mk H
    clear H
    go_enter Try.func5, Try.ntmps5
    go_upto_region 4 with (first | (go_at_call 9; (with_reducible refine (lex_Tokens.calls a0 t206 t207 t208 _ A6.out).mono ?_); rintro e w8 ⟨v209, rfl, ho0, hb⟩; have n0_ := Aside0.mk (Kd.R_lower ho0 (below_size (by repeat (first | (with_reducible first | exact HB.out | apply below_alloc | apply pw_below_drewN | apply below_drew1) | exact HB.out)))); have n1_ := Aside0.mk (below_step (by repeat (first | (with_reducible first | exact HB.out | apply below_alloc | apply pw_below_drewN | apply below_drew1) | exact HB.out)) hb); clear HB; have HO210 := n0_; have HB := n1_; clear n0_ n1_; (try clear hb); (try clear hb2); (try clear hk); (try clear hi); (try clear ho0)))
    repeat (go_quiet (first | (go_at_call 9; (with_reducible refine (lex_Tokens.calls a0 t206 t207 t208 _ A6.out).mono ?_); rintro e w8 ⟨v209, rfl, ho0, hb⟩; have n0_ := Aside0.mk (Kd.R_lower ho0 (below_size (by repeat (first | (with_reducible first | exact HB.out | apply below_alloc | apply pw_below_drewN | apply below_drew1) | exact HB.out)))); have n1_ := Aside0.mk (below_step (by repeat (first | (with_reducible first | exact HB.out | apply below_alloc | apply pw_below_drewN | apply below_drew1) | exact HB.out)) hb); clear HB; have HO210 := n0_; have HB := n1_; clear n0_ n1_; (try clear hb); (try clear hb2); (try clear hk); (try clear hi); (try clear ho0))); go_upto_region 4 with (first | (go_at_call 9; (with_reducible refine (lex_Tokens.calls a0 t206 t207 t208 _ A6.out).mono ?_); rintro e w8 ⟨v209, rfl, ho0, hb⟩; have n0_ := Aside0.mk (Kd.R_lower ho0 (below_size (by repeat (first | (with_reducible first | exact HB.out | apply below_alloc | apply pw_below_drewN | apply below_drew1) | exact HB.out)))); have n1_ := Aside0.mk (below_step (by repeat (first | (with_reducible first | exact HB.out | apply below_alloc | apply pw_below_drewN | apply below_drew1) | exact HB.out)) hb); clear HB; have HO210 := n0_; have HB := n1_; clear n0_ n1_; (try clear hb); (try clear hb2); (try clear hk); (try clear hi); (try clear ho0))))
    (try simp only [Act.put, List.setIfInBounds_toArray, List.set_cons_zero, List.set_cons_succ])
    go_cut [40] (fun v40 wc => ∃ (kq : Nat) (x40_6 : Bool), v40 = .bool x40_6 ∧ Aside0 (sealringlaw06_LexBlanks.j0 kq a0 l1 t206 x40_6 = some r) ∧ Aside0 (kq ≤ k) ∧ Aside0 (Kd.R k24 24 wc w.heap.size (fun _ => True) v209 t206) ∧ Aside0 (Below w.heap.size w wc))
    case first =>
      have H := HC7.out
      clear HC7
      by_cases c9 : t208 = 0
      · rw [if_pos c9] at H
        have c9b0 : (t208 == 0) = true := beq_iff_eq.mpr c9
        have c9b1 : (t208 != 0) = false := bne_eq_false_iff_eq.mpr c9
        clear c9
        (first | rw [c9b0] | (simp only [i64_w, i32_w]; rw [c9b0]) | skip)
        by_cases c10 : (t206.length : Int) > 100
        · rw [if_pos c10] at H
          have c10b0 : decide (100 < (t206.length : Int)) = true := decide_eq_true c10
          have c10b1 : decide (100 < t206.length) = true := decide_eq_true (by omega)
          clear c10
          have H' := Aside0.mk H
          clear H
          obtain ⟨Ao11, co11, eo11⟩ := Kd.R_slice HO210.out
          subst eo11
          go_wp2
          repeat (go_quiet (fail); try go_wp2)
          go_meet
          case rel => exact ⟨_, (true), (by first | rfl | (simp; done) | (simp [*]; done) | (simp [wrap64]; done)), (by first | with_reducible exact H' | exact H' | (subst_vars; exact H')), ⟨by first | omega | exact Nat.le_refl _⟩, ⟨by (with_reducible repeat (first | apply Kd.R_alloc | apply Kd.R_drewN | apply Kd.R_drew)); exact HO210.out⟩, ⟨by repeat (first | (with_reducible first | exact HB.out | apply below_alloc | apply pw_below_drewN | apply below_drew1) | exact HB.out)⟩⟩
        · rw [if_neg c10] at H
          have c10b0 : decide (100 < (t206.length : Int)) = false := decide_eq_false c10
          have c10b1 : decide (100 < t206.length) = false := decide_eq_false (by omega)
          clear c10
          have H' := Aside0.mk H
          clear H
          obtain ⟨Ao12, co12, eo12⟩ := Kd.R_slice HO210.out
          subst eo12
          go_wp2
          repeat (go_quiet (fail); try go_wp2)
          go_meet
          case rel => exact ⟨_, (((t206.length : Int) == 0)), (by first | rfl | (simp; done) | (simp [*]; done) | (simp [wrap64]; done)), (by first | with_reducible exact H' | exact H' | (subst_vars; exact H')), ⟨by first | omega | exact Nat.le_refl _⟩, ⟨by (with_reducible repeat (first | apply Kd.R_alloc | apply Kd.R_drewN | apply Kd.R_drew)); exact HO210.out⟩, ⟨by repeat (first | (with_reducible first | exact HB.out | apply below_alloc | apply pw_below_drewN | apply below_drew1) | exact HB.out)⟩⟩
      · rw [if_neg c9] at H
        have c9b0 : (t208 == 0) = false := beq_eq_false_iff_ne.mpr c9
        have c9b1 : (t208 != 0) = true := bne_iff_ne.mpr c9
        (first | rw [c9b0] | (simp only [i64_w, i32_w]; rw [c9b0]) | skip)
        have H' := Aside0.mk H
        clear H
        go_wp2
        repeat (go_quiet (fail); try go_wp2)
        go_meet
        case rel => exact ⟨_, (true), (by first | rfl | (simp; done) | (simp [*]; done) | (simp [wrap64]; done)), (by first | with_reducible exact H' | exact H' | (subst_vars; exact H')), ⟨by first | omega | exact Nat.le_refl _⟩, ⟨by (with_reducible repeat (first | apply Kd.R_alloc | apply Kd.R_drewN | apply Kd.R_drew)); exact HO210.out⟩, ⟨by repeat (first | (with_reducible first | exact HB.out | apply below_alloc | apply pw_below_drewN | apply below_drew1) | exact HB.out)⟩⟩
    case rest =>
      clear HC7
      try clear c1
      try clear p2
      try clear c3
      try clear c3b0
      try clear c3b1
      try clear c5
      try clear c9
      try clear c9b0
      try clear c9b1
      try clear c10
      try clear c10b0
      try clear c10b1
      obtain ⟨kq, x40_6, rfl, HA, HJ6, HO_5, HB⟩ := hcut
      cases kq with
      | zero => exact absurd HA.out (by simp [sealringlaw06_LexBlanks.j0])
      | succ kj6 =>
        have H := HA.out
        clear HA
        simp only [sealringlaw06_LexBlanks.j0] at H
        by_cases c13 : x40_6 = true
        · subst c13
          have H1 : ((sealringlaw06_lives.f).bind fun t211 => (some t211)) = some r := by rw [if_pos rfl] at H; exact H
          clear H
          have H := H1
          clear H1
          replace H := Option.bind_eq_some_iff.mp H
          obtain ⟨t211, A140, H⟩ := H
          replace H : (some t211) = some r := H
          have A14 := Aside0.mk A140
          clear A140
          obtain rfl := Option.some.inj H
          go_wp2_with (first | (go_at_call 6; (with_reducible refine (sealringlaw06_lives.calls  t211 _ A14.out).mono ?_); rintro e w15 ⟨rfl, hb⟩; have n0_ := Aside0.mk (Kd.R_below (by (with_reducible repeat (first | apply Kd.R_alloc | apply Kd.R_drewN | apply Kd.R_drew)); exact HO_5.out) hb); have n1_ := Aside0.mk (below_step (by repeat (first | (with_reducible first | exact HB.out | apply below_alloc | apply pw_below_drewN | apply below_drew1) | exact HB.out)) hb); clear HO_5; clear HB; have HO_5 := n0_; have HB := n1_; clear n0_ n1_; (try clear hb); (try clear hb2); (try clear hk); (try clear hi)))
          repeat (go_quiet (first | (go_at_call 6; (with_reducible refine (sealringlaw06_lives.calls  t211 _ A14.out).mono ?_); rintro e w15 ⟨rfl, hb⟩; have n0_ := Aside0.mk (Kd.R_below (by (with_reducible repeat (first | apply Kd.R_alloc | apply Kd.R_drewN | apply Kd.R_drew)); exact HO_5.out) hb); have n1_ := Aside0.mk (below_step (by repeat (first | (with_reducible first | exact HB.out | apply below_alloc | apply pw_below_drewN | apply below_drew1) | exact HB.out)) hb); clear HO_5; clear HB; have HO_5 := n0_; have HB := n1_; clear n0_ n1_; (try clear hb); (try clear hb2); (try clear hk); (try clear hi))); try go_wp2_with (first | (go_at_call 6; (with_reducible refine (sealringlaw06_lives.calls  t211 _ A14.out).mono ?_); rintro e w15 ⟨rfl, hb⟩; have n0_ := Aside0.mk (Kd.R_below (by (with_reducible repeat (first | apply Kd.R_alloc | apply Kd.R_drewN | apply Kd.R_drew)); exact HO_5.out) hb); have n1_ := Aside0.mk (below_step (by repeat (first | (with_reducible first | exact HB.out | apply below_alloc | apply pw_below_drewN | apply below_drew1) | exact HB.out)) hb); clear HO_5; clear HB; have HO_5 := n0_; have HB := n1_; clear n0_ n1_; (try clear hb); (try clear hb2); (try clear hk); (try clear hi))))
          go_ret
          exact ⟨by first | rfl | (simp [errW_none, errW_some] <;> rfl) | (simp [*, errW_none, errW_some] <;> rfl), by repeat (first | (with_reducible first | exact HB.out | apply below_alloc | apply pw_below_drewN | apply below_drew1) | exact HB.out)⟩
        · replace c13 := Bool.eq_false_iff.mpr c13
          subst c13
          have H1 : (sealringlaw06_LexBlanks.l0 kj6 a0 l1 t206 (⟨#[9, 10, 13, 32]⟩ : ByteArray) (⟨#[]⟩ : ByteArray) 0 t206 (t206.length : Int) 0) = some r := by rw [if_neg (show ¬ (false = true) by decide)] at H; exact H
          clear H
          have H := H1
          clear H1
          have H' := Aside0.mk H
          clear H
          obtain ⟨Ao16, co16, eo16⟩ := Kd.R_slice HO_5.out
          subst eo16
          go_wp2
          repeat (go_quiet (fail); try go_wp2)
          (try simp only [Go.IntKind.wrap_u8])
          go_loopg [9, 10, 44] kj6 (fun kq v9 v10 v44 w' => ∃ (x9_2 : ByteArray) (x10_2 : Int) (x44_2 : Int), v9 = .string x9_2 ∧ v10 = .int .i64 x10_2 ∧ v44 = .int .i64 x44_2 ∧ Aside0 (sealringlaw06_LexBlanks.l0 kq a0 l1 t206 (⟨#[9, 10, 13, 32]⟩ : ByteArray) x9_2 x10_2 t206 (t206.length : Int) x44_2 = some r) ∧ Aside0 (kq ≤ kj6) ∧ Aside0 (Kd.R k24 24 w' w.heap.size (fun _ => True) (.slice Ao16 t206.length co16) t206) ∧ Aside0 (Kd.R k24 24 w' w.heap.size (fun _ => True) (.slice Ao16 t206.length co16) t206) ∧ Aside0 (Below w.heap.size w w'))
          case atStart => exact ⟨((⟨#[]⟩ : ByteArray)), (0), (0), (by first | rfl | (simp; done) | (simp [*]; done) | (simp [wrap64]; done)), (by first | rfl | (simp; done) | (simp [*]; done) | (simp [wrap64]; done)), (by first | rfl | (simp; done) | (simp [*]; done) | (simp [wrap64]; done)), (by first | with_reducible exact H' | exact H' | (subst_vars; exact H')), ⟨Nat.le_refl _⟩, ⟨by (with_reducible repeat (first | apply Kd.R_alloc | apply Kd.R_drewN | apply Kd.R_drew)); exact HO_5.out⟩, ⟨by (with_reducible repeat (first | apply Kd.R_alloc | apply Kd.R_drewN | apply Kd.R_drew)); exact HO_5.out⟩, ⟨by repeat (first | (with_reducible first | exact HB.out | apply below_alloc | apply pw_below_drewN | apply below_drew1) | exact HB.out)⟩⟩
          case round =>
            clear H'
            try clear c1
            try clear p2
            try clear c3
            try clear c3b0
            try clear c3b1
            try clear c5
            try clear c9
            try clear c9b0
            try clear c9b1
            try clear c10
            try clear c10b0
            try clear c10b1
            try clear c13
            try clear p2
            obtain ⟨x9_2, x10_2, x44_2, rfl, rfl, rfl, HA, HK2, HO_5, HO_42, HB⟩ := hrel
            cases gk with
            | zero => exact absurd HA.out (by simp [sealringlaw06_LexBlanks.l0])
            | succ k2 =>
              have H := HA.out
              clear HA
              simp only [sealringlaw06_LexBlanks.l0] at H
              by_cases c17 : x44_2 < (t206.length : Int)
              · rw [if_pos c17] at H
                have c17b0 : decide (x44_2 < (t206.length : Int)) = true := decide_eq_true c17
                clear c17
                by_cases c18 : 0 ≤ x44_2
                · rw [if_pos c18] at H
                  have c18b0 : decide (0 ≤ x44_2) = true := decide_eq_true c18
                  clear c18
                  by_cases c19 : x44_2 < (t206.length : Int)
                  · rw [if_pos c19] at H
                    have c19b0 : decide (x44_2 < (t206.length : Int)) = true := decide_eq_true c19
                    clear c19
                    have H' := Aside0.mk H
                    clear H
                    have p212 : 0 ≤ (x44_2 : Int) := of_decide_eq_true (by first | (with_reducible assumption) | assumption)
                    have q212 : x44_2 < (t206.length : Int) := of_decide_eq_true (by first | (with_reducible assumption) | assumption)
                    obtain ⟨ad212, e212, hx212_0, hx212_1, hx212_2, hx212_3, hx212_4⟩ := at_T24 (Kd.R_reads' HO_42.out).2.2 x44_2 p212 q212
                    cases e212
                    replace p212 := eq_true p212
                    replace q212 := eq_true q212
                    go_wp2_with (first | ((with_reducible refine gate_dst (N := 12) rfl ?_); (try (refine gate_guard (by rfl) ?_; dsimp only)); refine box_event ?hg (N := 12) ?hd (cs := #[.int .i64 0, .int .i64 0, .int .i64 0, .int .i64 0, .string (⟨#[]⟩ : ByteArray)]) (t := 24) ?hr ?_; (case hd => rfl); (case hg => rfl); (case hr => first | (go_simp; done) | (go_simp; rfl)); intro gb213 hg w20 hbox hb; have n0_ := Aside0.mk (Kd.R_below (Kd.R_elderB (by (with_reducible repeat (first | apply Kd.R_alloc | apply Kd.R_drewN | apply Kd.R_drew)); exact HO_5.out) gb213 (Nat.le_of_eq hg.symm)) hb); have n1_ := Aside0.mk (Kd.R_below (Kd.R_elderB (by (with_reducible repeat (first | apply Kd.R_alloc | apply Kd.R_drewN | apply Kd.R_drew)); exact HO_42.out) gb213 (Nat.le_of_eq hg.symm)) hb); have n2_ := Aside0.mk (below_step (by repeat (first | (with_reducible first | exact HB.out | apply below_alloc | apply pw_below_drewN | apply below_drew1) | exact HB.out)) hb); have n3_ := Aside0.mk (hbox); have n4_ := Aside0.mk ((by rw [hg]; exact (below_size (by repeat (first | (with_reducible first | exact HB.out | apply below_alloc | apply pw_below_drewN | apply below_drew1) | exact HB.out))) : w.heap.size ≤ gb213)); have n5_ := Aside0.mk ((by rw [hg]; exact (below_size (by repeat (first | (with_reducible first | exact HB.out | apply below_alloc | apply pw_below_drewN | apply below_drew1) | exact HB.out))) : w.heap.size ≤ gb213)); clear HO_5; clear HO_42; clear HB; have HO_5 := n0_; have HO_42 := n1_; have HB := n2_; have BK213 := n3_; have GW213 := n4_; have GE213 := n5_; clear n0_ n1_ n2_ n3_ n4_ n5_; clear hb hbox hg; have hcz21_0 : w20.cell? ⟨gb213, 0, none⟩ = some (.int .i64 0) := (blk_cell BK213.out 0).trans rfl; have hcz21_1 : w20.cell? ⟨gb213, 1, none⟩ = some (.int .i64 0) := (blk_cell BK213.out 1).trans rfl; have hcz21_2 : w20.cell? ⟨gb213, 2, none⟩ = some (.int .i64 0) := (blk_cell BK213.out 2).trans rfl; have hcz21_3 : w20.cell? ⟨gb213, 3, none⟩ = some (.int .i64 0) := (blk_cell BK213.out 3).trans rfl; have hcz21_4 : w20.cell? ⟨gb213, 4, none⟩ = some (.string (⟨#[]⟩ : ByteArray)) := (blk_cell BK213.out 4).trans rfl; have hfz21_0 := blk_frozen BK213.out 0; have hfz21_1 := blk_frozen BK213.out 1; have hfz21_2 := blk_frozen BK213.out 2; have hfz21_3 := blk_frozen BK213.out 3; have hfz21_4 := blk_frozen BK213.out 4))
                    repeat (go_quiet (first | ((with_reducible refine gate_dst (N := 12) rfl ?_); (try (refine gate_guard (by rfl) ?_; dsimp only)); refine box_event ?hg (N := 12) ?hd (cs := #[.int .i64 0, .int .i64 0, .int .i64 0, .int .i64 0, .string (⟨#[]⟩ : ByteArray)]) (t := 24) ?hr ?_; (case hd => rfl); (case hg => rfl); (case hr => first | (go_simp; done) | (go_simp; rfl)); intro gb213 hg w20 hbox hb; have n0_ := Aside0.mk (Kd.R_below (Kd.R_elderB (by (with_reducible repeat (first | apply Kd.R_alloc | apply Kd.R_drewN | apply Kd.R_drew)); exact HO_5.out) gb213 (Nat.le_of_eq hg.symm)) hb); have n1_ := Aside0.mk (Kd.R_below (Kd.R_elderB (by (with_reducible repeat (first | apply Kd.R_alloc | apply Kd.R_drewN | apply Kd.R_drew)); exact HO_42.out) gb213 (Nat.le_of_eq hg.symm)) hb); have n2_ := Aside0.mk (below_step (by repeat (first | (with_reducible first | exact HB.out | apply below_alloc | apply pw_below_drewN | apply below_drew1) | exact HB.out)) hb); have n3_ := Aside0.mk (hbox); have n4_ := Aside0.mk ((by rw [hg]; exact (below_size (by repeat (first | (with_reducible first | exact HB.out | apply below_alloc | apply pw_below_drewN | apply below_drew1) | exact HB.out))) : w.heap.size ≤ gb213)); have n5_ := Aside0.mk ((by rw [hg]; exact (below_size (by repeat (first | (with_reducible first | exact HB.out | apply below_alloc | apply pw_below_drewN | apply below_drew1) | exact HB.out))) : w.heap.size ≤ gb213)); clear HO_5; clear HO_42; clear HB; have HO_5 := n0_; have HO_42 := n1_; have HB := n2_; have BK213 := n3_; have GW213 := n4_; have GE213 := n5_; clear n0_ n1_ n2_ n3_ n4_ n5_; clear hb hbox hg; have hcz21_0 : w20.cell? ⟨gb213, 0, none⟩ = some (.int .i64 0) := (blk_cell BK213.out 0).trans rfl; have hcz21_1 : w20.cell? ⟨gb213, 1, none⟩ = some (.int .i64 0) := (blk_cell BK213.out 1).trans rfl; have hcz21_2 : w20.cell? ⟨gb213, 2, none⟩ = some (.int .i64 0) := (blk_cell BK213.out 2).trans rfl; have hcz21_3 : w20.cell? ⟨gb213, 3, none⟩ = some (.int .i64 0) := (blk_cell BK213.out 3).trans rfl; have hcz21_4 : w20.cell? ⟨gb213, 4, none⟩ = some (.string (⟨#[]⟩ : ByteArray)) := (blk_cell BK213.out 4).trans rfl; have hfz21_0 := blk_frozen BK213.out 0; have hfz21_1 := blk_frozen BK213.out 1; have hfz21_2 := blk_frozen BK213.out 2; have hfz21_3 := blk_frozen BK213.out 3; have hfz21_4 := blk_frozen BK213.out 4)); try go_wp2_with (first | ((with_reducible refine gate_dst (N := 12) rfl ?_); (try (refine gate_guard (by rfl) ?_; dsimp only)); refine box_event ?hg (N := 12) ?hd (cs := #[.int .i64 0, .int .i64 0, .int .i64 0, .int .i64 0, .string (⟨#[]⟩ : ByteArray)]) (t := 24) ?hr ?_; (case hd => rfl); (case hg => rfl); (case hr => first | (go_simp; done) | (go_simp; rfl)); intro gb213 hg w20 hbox hb; have n0_ := Aside0.mk (Kd.R_below (Kd.R_elderB (by (with_reducible repeat (first | apply Kd.R_alloc | apply Kd.R_drewN | apply Kd.R_drew)); exact HO_5.out) gb213 (Nat.le_of_eq hg.symm)) hb); have n1_ := Aside0.mk (Kd.R_below (Kd.R_elderB (by (with_reducible repeat (first | apply Kd.R_alloc | apply Kd.R_drewN | apply Kd.R_drew)); exact HO_42.out) gb213 (Nat.le_of_eq hg.symm)) hb); have n2_ := Aside0.mk (below_step (by repeat (first | (with_reducible first | exact HB.out | apply below_alloc | apply pw_below_drewN | apply below_drew1) | exact HB.out)) hb); have n3_ := Aside0.mk (hbox); have n4_ := Aside0.mk ((by rw [hg]; exact (below_size (by repeat (first | (with_reducible first | exact HB.out | apply below_alloc | apply pw_below_drewN | apply below_drew1) | exact HB.out))) : w.heap.size ≤ gb213)); have n5_ := Aside0.mk ((by rw [hg]; exact (below_size (by repeat (first | (with_reducible first | exact HB.out | apply below_alloc | apply pw_below_drewN | apply below_drew1) | exact HB.out))) : w.heap.size ≤ gb213)); clear HO_5; clear HO_42; clear HB; have HO_5 := n0_; have HO_42 := n1_; have HB := n2_; have BK213 := n3_; have GW213 := n4_; have GE213 := n5_; clear n0_ n1_ n2_ n3_ n4_ n5_; clear hb hbox hg; have hcz21_0 : w20.cell? ⟨gb213, 0, none⟩ = some (.int .i64 0) := (blk_cell BK213.out 0).trans rfl; have hcz21_1 : w20.cell? ⟨gb213, 1, none⟩ = some (.int .i64 0) := (blk_cell BK213.out 1).trans rfl; have hcz21_2 : w20.cell? ⟨gb213, 2, none⟩ = some (.int .i64 0) := (blk_cell BK213.out 2).trans rfl; have hcz21_3 : w20.cell? ⟨gb213, 3, none⟩ = some (.int .i64 0) := (blk_cell BK213.out 3).trans rfl; have hcz21_4 : w20.cell? ⟨gb213, 4, none⟩ = some (.string (⟨#[]⟩ : ByteArray)) := (blk_cell BK213.out 4).trans rfl; have hfz21_0 := blk_frozen BK213.out 0; have hfz21_1 := blk_frozen BK213.out 1; have hfz21_2 := blk_frozen BK213.out 2; have hfz21_3 := blk_frozen BK213.out 3; have hfz21_4 := blk_frozen BK213.out 4)))
                    (try simp only [Go.IntKind.wrap_u8])
                    go_loopg [13] k2 (fun kq v13 w' => ∃ (x13_3 : Int), v13 = .int .i64 x13_3 ∧ Aside0 (sealringlaw06_LexBlanks.l1 kq a0 l1 t206 (⟨#[9, 10, 13, 32]⟩ : ByteArray) x9_2 x44_2 x13_3 t206 (t206.length : Int) x44_2 ((rd_T24 t206 x44_2).f0) ((rd_T24 t206 x44_2).f1) ((rd_T24 t206 x44_2).f2) ((rd_T24 t206 x44_2).f3) ((rd_T24 t206 x44_2).f4) = some r) ∧ Aside0 (kq ≤ k2) ∧ Aside0 (Kd.R k24 24 w' w.heap.size (fun k_ => k_ ≠ gb213) (.slice (some ad212) t206.length co16) t206) ∧ Aside0 (Kd.R k24 24 w' w.heap.size (fun k_ => k_ ≠ gb213) (.slice (some ad212) t206.length co16) t206) ∧ Aside0 (w'.heap[gb213]? = some (.cells #[.int .i64 ((rd_T24 t206 x44_2).f0), .int .i64 ((rd_T24 t206 x44_2).f1), .int .i64 ((rd_T24 t206 x44_2).f2), .int .i64 ((rd_T24 t206 x44_2).f3), .string ((rd_T24 t206 x44_2).f4)] 24 (0, 0))) ∧ Aside0 (Below w.heap.size w w'))
                    case atStart => exact ⟨(x10_2), (by first | rfl | (simp; done) | (simp [*]; done) | (simp [wrap64]; done)), (by first | with_reducible exact H' | exact H' | (subst_vars; exact H')), ⟨Nat.le_refl _⟩, ⟨by (with_reducible repeat (first | apply Kd.R_alloc | apply Kd.R_drewN | apply Kd.R_drew)); exact Kd.R_mono (Kd.R_far (p := ⟨gb213, 4, none⟩) (Kd.R_far (p := ⟨gb213, 3, none⟩) (Kd.R_far (p := ⟨gb213, 2, none⟩) (Kd.R_far (p := ⟨gb213, 1, none⟩) (Kd.R_far (p := ⟨gb213, 0, none⟩) (Kd.R_mono HO_5.out (fun k_ hk => (⟨hk, hk.2⟩ : _ ∧ k_ ≠ gb213))) (fun _ hk => hk.2) (.int .i64 ((rd_T24 t206 x44_2).f0))) (fun _ hk => hk.2) (.int .i64 ((rd_T24 t206 x44_2).f1))) (fun _ hk => hk.2) (.int .i64 ((rd_T24 t206 x44_2).f2))) (fun _ hk => hk.2) (.int .i64 ((rd_T24 t206 x44_2).f3))) (fun _ hk => hk.2) (.string ((rd_T24 t206 x44_2).f4))) (fun _ hk => hk.1.2)⟩, ⟨by (with_reducible repeat (first | apply Kd.R_alloc | apply Kd.R_drewN | apply Kd.R_drew)); exact Kd.R_mono (Kd.R_far (p := ⟨gb213, 4, none⟩) (Kd.R_far (p := ⟨gb213, 3, none⟩) (Kd.R_far (p := ⟨gb213, 2, none⟩) (Kd.R_far (p := ⟨gb213, 1, none⟩) (Kd.R_far (p := ⟨gb213, 0, none⟩) (Kd.R_mono HO_42.out (fun k_ hk => (⟨hk, hk.2⟩ : _ ∧ k_ ≠ gb213))) (fun _ hk => hk.2) (.int .i64 ((rd_T24 t206 x44_2).f0))) (fun _ hk => hk.2) (.int .i64 ((rd_T24 t206 x44_2).f1))) (fun _ hk => hk.2) (.int .i64 ((rd_T24 t206 x44_2).f2))) (fun _ hk => hk.2) (.int .i64 ((rd_T24 t206 x44_2).f3))) (fun _ hk => hk.2) (.string ((rd_T24 t206 x44_2).f4))) (fun _ hk => hk.1.2)⟩, ⟨by (with_reducible repeat (first | refine blk_drewN ?_ _ | refine blk_drew ?_ | refine blk_alloc ?_ _)); refine blk_put (cs := #[.int .i64 ((rd_T24 t206 x44_2).f0), .int .i64 ((rd_T24 t206 x44_2).f1), .int .i64 ((rd_T24 t206 x44_2).f2), .int .i64 ((rd_T24 t206 x44_2).f3), .string (⟨#[]⟩ : ByteArray)]) ?_ 4 _ rfl; (with_reducible repeat (first | refine blk_drewN ?_ _ | refine blk_drew ?_ | refine blk_alloc ?_ _)); refine blk_put (cs := #[.int .i64 ((rd_T24 t206 x44_2).f0), .int .i64 ((rd_T24 t206 x44_2).f1), .int .i64 ((rd_T24 t206 x44_2).f2), .int .i64 0, .string (⟨#[]⟩ : ByteArray)]) ?_ 3 _ rfl; (with_reducible repeat (first | refine blk_drewN ?_ _ | refine blk_drew ?_ | refine blk_alloc ?_ _)); refine blk_put (cs := #[.int .i64 ((rd_T24 t206 x44_2).f0), .int .i64 ((rd_T24 t206 x44_2).f1), .int .i64 0, .int .i64 0, .string (⟨#[]⟩ : ByteArray)]) ?_ 2 _ rfl; (with_reducible repeat (first | refine blk_drewN ?_ _ | refine blk_drew ?_ | refine blk_alloc ?_ _)); refine blk_put (cs := #[.int .i64 ((rd_T24 t206 x44_2).f0), .int .i64 0, .int .i64 0, .int .i64 0, .string (⟨#[]⟩ : ByteArray)]) ?_ 1 _ rfl; (with_reducible repeat (first | refine blk_drewN ?_ _ | refine blk_drew ?_ | refine blk_alloc ?_ _)); refine blk_put (cs := #[.int .i64 0, .int .i64 0, .int .i64 0, .int .i64 0, .string (⟨#[]⟩ : ByteArray)]) ?_ 0 _ rfl; (with_reducible repeat (first | refine blk_drewN ?_ _ | refine blk_drew ?_ | refine blk_alloc ?_ _)); exact BK213.out⟩, ⟨by repeat (first | (with_reducible first | exact HB.out | apply below_alloc | apply pw_below_drewN | apply below_drew1 | refine below_set ?_ GE213.out) | exact HB.out)⟩⟩
                    case round =>
                      clear H'
                      try clear c1
                      try clear p2
                      try clear q2
                      try clear hx2
                      try clear c3
                      try clear c3b0
                      try clear c3b1
                      try clear c5
                      try clear c9
                      try clear c9b0
                      try clear c9b1
                      try clear c10
                      try clear c10b0
                      try clear c10b1
                      try clear c13
                      try clear c17
                      try clear c17b0
                      try clear c18
                      try clear c18b0
                      try clear c19
                      try clear c19b0
                      try clear p21
                      try clear q21
                      try clear hx21
                      try clear hcz21_0
                      try clear hcz21_1
                      try clear hcz21_2
                      try clear hcz21_3
                      try clear hcz21_4
                      try clear hfz21_0
                      try clear hfz21_1
                      try clear hfz21_2
                      try clear hfz21_3
                      try clear hfz21_4
                      try clear hx212_0
                      try clear hx212_1
                      try clear hx212_2
                      try clear hx212_3
                      try clear hx212_4
                      try clear p2
                      try clear p212
                      try clear q212
                      obtain ⟨x13_3, rfl, HA, HK3, HO_5, HO_42, BK213, HB⟩ := hrel
                      cases gk with
                      | zero => exact absurd HA.out (by simp [sealringlaw06_LexBlanks.l1])
                      | succ k3 =>
                        have H := HA.out
                        clear HA
                        simp only [sealringlaw06_LexBlanks.l1] at H
                        by_cases c22 : x13_3 < ((rd_T24 t206 x44_2).f1)
                        · rw [if_pos c22] at H
                          have c22b0 : decide (x13_3 < ((rd_T24 t206 x44_2).f1)) = true := decide_eq_true c22
                          clear c22
                          by_cases c23 : 0 ≤ x13_3
                          · rw [if_pos c23] at H
                            have c23b0 : decide (0 ≤ x13_3) = true := decide_eq_true c23
                            clear c23
                            by_cases c24 : x13_3 < (a0.size : Int)
                            · rw [if_pos c24] at H
                              have c24b0 : decide (x13_3 < (a0.size : Int)) = true := decide_eq_true c24
                              clear c24
                              by_cases c26 : (bt a0 x13_3) = 9
                              · rw [if_pos c26] at H
                                have c26b0 : ((bt a0 x13_3) == 9) = true := beq_iff_eq.mpr c26
                                have c26b1 : ((bt a0 x13_3) != 9) = false := bne_eq_false_iff_eq.mpr c26
                                clear c26
                                have H' := Aside0.mk H
                                clear H
                                have hcz27_0 : wr.cell? ⟨gb213, 0, none⟩ = some (.int .i64 ((rd_T24 t206 x44_2).f0)) := (blk_cell BK213.out 0).trans rfl
                                have hcz27_1 : wr.cell? ⟨gb213, 1, none⟩ = some (.int .i64 ((rd_T24 t206 x44_2).f1)) := (blk_cell BK213.out 1).trans rfl
                                have hcz27_2 : wr.cell? ⟨gb213, 2, none⟩ = some (.int .i64 ((rd_T24 t206 x44_2).f2)) := (blk_cell BK213.out 2).trans rfl
                                have hcz27_3 : wr.cell? ⟨gb213, 3, none⟩ = some (.int .i64 ((rd_T24 t206 x44_2).f3)) := (blk_cell BK213.out 3).trans rfl
                                have hcz27_4 : wr.cell? ⟨gb213, 4, none⟩ = some (.string ((rd_T24 t206 x44_2).f4)) := (blk_cell BK213.out 4).trans rfl
                                have hfz27_0 := blk_frozen BK213.out 0
                                have hfz27_1 := blk_frozen BK213.out 1
                                have hfz27_2 := blk_frozen BK213.out 2
                                have hfz27_3 := blk_frozen BK213.out 3
                                have hfz27_4 := blk_frozen BK213.out 4
                                have p25 : 0 ≤ (x13_3 : Int) := of_decide_eq_true (by first | (with_reducible assumption) | assumption)
                                have q25 : x13_3 < (a0.size : Int) := of_decide_eq_true (by first | (with_reducible assumption) | assumption)
                                have hx25 := bt_at a0 x13_3
                                replace p25 := eq_true p25
                                replace q25 := eq_true q25
                                go_wp2
                                repeat (go_quiet (fail); try go_wp2)
                                go_roundg k3
                                case measure => have := HJ6.out; have := HK2.out; have := HK3.out; omega
                                case rel => exact ⟨(wrap64 (x13_3 + 1)), (by first | rfl | (simp; done) | (simp [*]; done) | (simp [wrap64]; done)), (by first | with_reducible exact H' | exact H' | (subst_vars; exact H')), ⟨by have := HJ6.out; have := HK2.out; have := HK3.out; omega⟩, ⟨by (with_reducible repeat (first | apply Kd.R_alloc | apply Kd.R_drewN | apply Kd.R_drew)); exact HO_5.out⟩, ⟨by (with_reducible repeat (first | apply Kd.R_alloc | apply Kd.R_drewN | apply Kd.R_drew)); exact HO_42.out⟩, ⟨by (with_reducible repeat (first | refine blk_drewN ?_ _ | refine blk_drew ?_ | refine blk_alloc ?_ _)); exact BK213.out⟩, ⟨by repeat (first | (with_reducible first | exact HB.out | apply below_alloc | apply pw_below_drewN | apply below_drew1 | refine below_set ?_ GE213.out) | exact HB.out)⟩⟩
                              · rw [if_neg c26] at H
                                have c26b0 : ((bt a0 x13_3) == 9) = false := beq_eq_false_iff_ne.mpr c26
                                have c26b1 : ((bt a0 x13_3) != 9) = true := bne_iff_ne.mpr c26
                                by_cases c29 : (bt a0 x13_3) = 10
                                · rw [if_pos c29] at H
                                  have c29b0 : ((bt a0 x13_3) == 10) = true := beq_iff_eq.mpr c29
                                  have c29b1 : ((bt a0 x13_3) != 10) = false := bne_eq_false_iff_eq.mpr c29
                                  clear c29
                                  have H' := Aside0.mk H
                                  clear H
                                  have hcz30_0 : wr.cell? ⟨gb213, 0, none⟩ = some (.int .i64 ((rd_T24 t206 x44_2).f0)) := (blk_cell BK213.out 0).trans rfl
                                  have hcz30_1 : wr.cell? ⟨gb213, 1, none⟩ = some (.int .i64 ((rd_T24 t206 x44_2).f1)) := (blk_cell BK213.out 1).trans rfl
                                  have hcz30_2 : wr.cell? ⟨gb213, 2, none⟩ = some (.int .i64 ((rd_T24 t206 x44_2).f2)) := (blk_cell BK213.out 2).trans rfl
                                  have hcz30_3 : wr.cell? ⟨gb213, 3, none⟩ = some (.int .i64 ((rd_T24 t206 x44_2).f3)) := (blk_cell BK213.out 3).trans rfl
                                  have hcz30_4 : wr.cell? ⟨gb213, 4, none⟩ = some (.string ((rd_T24 t206 x44_2).f4)) := (blk_cell BK213.out 4).trans rfl
                                  have hfz30_0 := blk_frozen BK213.out 0
                                  have hfz30_1 := blk_frozen BK213.out 1
                                  have hfz30_2 := blk_frozen BK213.out 2
                                  have hfz30_3 := blk_frozen BK213.out 3
                                  have hfz30_4 := blk_frozen BK213.out 4
                                  have p25 : 0 ≤ (x13_3 : Int) := of_decide_eq_true (by first | (with_reducible assumption) | assumption)
                                  have q25 : x13_3 < (a0.size : Int) := of_decide_eq_true (by first | (with_reducible assumption) | assumption)
                                  have hx25 := bt_at a0 x13_3
                                  replace p25 := eq_true p25
                                  replace q25 := eq_true q25
                                  have p28 : 0 ≤ (x13_3 : Int) := of_decide_eq_true (by first | (with_reducible assumption) | assumption)
                                  have q28 : x13_3 < (a0.size : Int) := of_decide_eq_true (by first | (with_reducible assumption) | assumption)
                                  have hx28 := bt_at a0 x13_3
                                  replace p28 := eq_true p28
                                  replace q28 := eq_true q28
                                  go_wp2
                                  repeat (go_quiet (fail); try go_wp2)
                                  go_roundg k3
                                  case measure => have := HJ6.out; have := HK2.out; have := HK3.out; omega
                                  case rel => exact ⟨(wrap64 (x13_3 + 1)), (by first | rfl | (simp; done) | (simp [*]; done) | (simp [wrap64]; done)), (by first | with_reducible exact H' | exact H' | (subst_vars; exact H')), ⟨by have := HJ6.out; have := HK2.out; have := HK3.out; omega⟩, ⟨by (with_reducible repeat (first | apply Kd.R_alloc | apply Kd.R_drewN | apply Kd.R_drew)); exact HO_5.out⟩, ⟨by (with_reducible repeat (first | apply Kd.R_alloc | apply Kd.R_drewN | apply Kd.R_drew)); exact HO_42.out⟩, ⟨by (with_reducible repeat (first | refine blk_drewN ?_ _ | refine blk_drew ?_ | refine blk_alloc ?_ _)); exact BK213.out⟩, ⟨by repeat (first | (with_reducible first | exact HB.out | apply below_alloc | apply pw_below_drewN | apply below_drew1 | refine below_set ?_ GE213.out) | exact HB.out)⟩⟩
                                · rw [if_neg c29] at H
                                  have c29b0 : ((bt a0 x13_3) == 10) = false := beq_eq_false_iff_ne.mpr c29
                                  have c29b1 : ((bt a0 x13_3) != 10) = true := bne_iff_ne.mpr c29
                                  by_cases c32 : (bt a0 x13_3) = 13
                                  · rw [if_pos c32] at H
                                    have c32b0 : ((bt a0 x13_3) == 13) = true := beq_iff_eq.mpr c32
                                    have c32b1 : ((bt a0 x13_3) != 13) = false := bne_eq_false_iff_eq.mpr c32
                                    clear c32
                                    have H' := Aside0.mk H
                                    clear H
                                    have hcz33_0 : wr.cell? ⟨gb213, 0, none⟩ = some (.int .i64 ((rd_T24 t206 x44_2).f0)) := (blk_cell BK213.out 0).trans rfl
                                    have hcz33_1 : wr.cell? ⟨gb213, 1, none⟩ = some (.int .i64 ((rd_T24 t206 x44_2).f1)) := (blk_cell BK213.out 1).trans rfl
                                    have hcz33_2 : wr.cell? ⟨gb213, 2, none⟩ = some (.int .i64 ((rd_T24 t206 x44_2).f2)) := (blk_cell BK213.out 2).trans rfl
                                    have hcz33_3 : wr.cell? ⟨gb213, 3, none⟩ = some (.int .i64 ((rd_T24 t206 x44_2).f3)) := (blk_cell BK213.out 3).trans rfl
                                    have hcz33_4 : wr.cell? ⟨gb213, 4, none⟩ = some (.string ((rd_T24 t206 x44_2).f4)) := (blk_cell BK213.out 4).trans rfl
                                    have hfz33_0 := blk_frozen BK213.out 0
                                    have hfz33_1 := blk_frozen BK213.out 1
                                    have hfz33_2 := blk_frozen BK213.out 2
                                    have hfz33_3 := blk_frozen BK213.out 3
                                    have hfz33_4 := blk_frozen BK213.out 4
                                    have p25 : 0 ≤ (x13_3 : Int) := of_decide_eq_true (by first | (with_reducible assumption) | assumption)
                                    have q25 : x13_3 < (a0.size : Int) := of_decide_eq_true (by first | (with_reducible assumption) | assumption)
                                    have hx25 := bt_at a0 x13_3
                                    replace p25 := eq_true p25
                                    replace q25 := eq_true q25
                                    have p28 : 0 ≤ (x13_3 : Int) := of_decide_eq_true (by first | (with_reducible assumption) | assumption)
                                    have q28 : x13_3 < (a0.size : Int) := of_decide_eq_true (by first | (with_reducible assumption) | assumption)
                                    have hx28 := bt_at a0 x13_3
                                    replace p28 := eq_true p28
                                    replace q28 := eq_true q28
                                    have p31 : 0 ≤ (x13_3 : Int) := of_decide_eq_true (by first | (with_reducible assumption) | assumption)
                                    have q31 : x13_3 < (a0.size : Int) := of_decide_eq_true (by first | (with_reducible assumption) | assumption)
                                    have hx31 := bt_at a0 x13_3
                                    replace p31 := eq_true p31
                                    replace q31 := eq_true q31
                                    go_wp2
                                    repeat (go_quiet (fail); try go_wp2)
                                    go_roundg k3
                                    case measure => have := HJ6.out; have := HK2.out; have := HK3.out; omega
                                    case rel => exact ⟨(wrap64 (x13_3 + 1)), (by first | rfl | (simp; done) | (simp [*]; done) | (simp [wrap64]; done)), (by first | with_reducible exact H' | exact H' | (subst_vars; exact H')), ⟨by have := HJ6.out; have := HK2.out; have := HK3.out; omega⟩, ⟨by (with_reducible repeat (first | apply Kd.R_alloc | apply Kd.R_drewN | apply Kd.R_drew)); exact HO_5.out⟩, ⟨by (with_reducible repeat (first | apply Kd.R_alloc | apply Kd.R_drewN | apply Kd.R_drew)); exact HO_42.out⟩, ⟨by (with_reducible repeat (first | refine blk_drewN ?_ _ | refine blk_drew ?_ | refine blk_alloc ?_ _)); exact BK213.out⟩, ⟨by repeat (first | (with_reducible first | exact HB.out | apply below_alloc | apply pw_below_drewN | apply below_drew1 | refine below_set ?_ GE213.out) | exact HB.out)⟩⟩
                                  · rw [if_neg c32] at H
                                    have c32b0 : ((bt a0 x13_3) == 13) = false := beq_eq_false_iff_ne.mpr c32
                                    have c32b1 : ((bt a0 x13_3) != 13) = true := bne_iff_ne.mpr c32
                                    by_cases c35 : (bt a0 x13_3) = 32
                                    · rw [if_pos c35] at H
                                      have c35b0 : ((bt a0 x13_3) == 32) = true := beq_iff_eq.mpr c35
                                      have c35b1 : ((bt a0 x13_3) != 32) = false := bne_eq_false_iff_eq.mpr c35
                                      clear c35
                                      have H' := Aside0.mk H
                                      clear H
                                      have hcz36_0 : wr.cell? ⟨gb213, 0, none⟩ = some (.int .i64 ((rd_T24 t206 x44_2).f0)) := (blk_cell BK213.out 0).trans rfl
                                      have hcz36_1 : wr.cell? ⟨gb213, 1, none⟩ = some (.int .i64 ((rd_T24 t206 x44_2).f1)) := (blk_cell BK213.out 1).trans rfl
                                      have hcz36_2 : wr.cell? ⟨gb213, 2, none⟩ = some (.int .i64 ((rd_T24 t206 x44_2).f2)) := (blk_cell BK213.out 2).trans rfl
                                      have hcz36_3 : wr.cell? ⟨gb213, 3, none⟩ = some (.int .i64 ((rd_T24 t206 x44_2).f3)) := (blk_cell BK213.out 3).trans rfl
                                      have hcz36_4 : wr.cell? ⟨gb213, 4, none⟩ = some (.string ((rd_T24 t206 x44_2).f4)) := (blk_cell BK213.out 4).trans rfl
                                      have hfz36_0 := blk_frozen BK213.out 0
                                      have hfz36_1 := blk_frozen BK213.out 1
                                      have hfz36_2 := blk_frozen BK213.out 2
                                      have hfz36_3 := blk_frozen BK213.out 3
                                      have hfz36_4 := blk_frozen BK213.out 4
                                      have p25 : 0 ≤ (x13_3 : Int) := of_decide_eq_true (by first | (with_reducible assumption) | assumption)
                                      have q25 : x13_3 < (a0.size : Int) := of_decide_eq_true (by first | (with_reducible assumption) | assumption)
                                      have hx25 := bt_at a0 x13_3
                                      replace p25 := eq_true p25
                                      replace q25 := eq_true q25
                                      have p28 : 0 ≤ (x13_3 : Int) := of_decide_eq_true (by first | (with_reducible assumption) | assumption)
                                      have q28 : x13_3 < (a0.size : Int) := of_decide_eq_true (by first | (with_reducible assumption) | assumption)
                                      have hx28 := bt_at a0 x13_3
                                      replace p28 := eq_true p28
                                      replace q28 := eq_true q28
                                      have p31 : 0 ≤ (x13_3 : Int) := of_decide_eq_true (by first | (with_reducible assumption) | assumption)
                                      have q31 : x13_3 < (a0.size : Int) := of_decide_eq_true (by first | (with_reducible assumption) | assumption)
                                      have hx31 := bt_at a0 x13_3
                                      replace p31 := eq_true p31
                                      replace q31 := eq_true q31
                                      have p34 : 0 ≤ (x13_3 : Int) := of_decide_eq_true (by first | (with_reducible assumption) | assumption)
                                      have q34 : x13_3 < (a0.size : Int) := of_decide_eq_true (by first | (with_reducible assumption) | assumption)
                                      have hx34 := bt_at a0 x13_3
                                      replace p34 := eq_true p34
                                      replace q34 := eq_true q34
                                      go_wp2
                                      repeat (go_quiet (fail); try go_wp2)
                                      go_roundg k3
                                      case measure => have := HJ6.out; have := HK2.out; have := HK3.out; omega
                                      case rel => exact ⟨(wrap64 (x13_3 + 1)), (by first | rfl | (simp; done) | (simp [*]; done) | (simp [wrap64]; done)), (by first | with_reducible exact H' | exact H' | (subst_vars; exact H')), ⟨by have := HJ6.out; have := HK2.out; have := HK3.out; omega⟩, ⟨by (with_reducible repeat (first | apply Kd.R_alloc | apply Kd.R_drewN | apply Kd.R_drew)); exact HO_5.out⟩, ⟨by (with_reducible repeat (first | apply Kd.R_alloc | apply Kd.R_drewN | apply Kd.R_drew)); exact HO_42.out⟩, ⟨by (with_reducible repeat (first | refine blk_drewN ?_ _ | refine blk_drew ?_ | refine blk_alloc ?_ _)); exact BK213.out⟩, ⟨by repeat (first | (with_reducible first | exact HB.out | apply below_alloc | apply pw_below_drewN | apply below_drew1 | refine below_set ?_ GE213.out) | exact HB.out)⟩⟩
                                    · rw [if_neg c35] at H
                                      have c35b0 : ((bt a0 x13_3) == 32) = false := beq_eq_false_iff_ne.mpr c35
                                      have c35b1 : ((bt a0 x13_3) != 32) = true := bne_iff_ne.mpr c35
                                      obtain rfl := Option.some.inj H
                                      have hcz37_0 : wr.cell? ⟨gb213, 0, none⟩ = some (.int .i64 ((rd_T24 t206 x44_2).f0)) := (blk_cell BK213.out 0).trans rfl
                                      have hcz37_1 : wr.cell? ⟨gb213, 1, none⟩ = some (.int .i64 ((rd_T24 t206 x44_2).f1)) := (blk_cell BK213.out 1).trans rfl
                                      have hcz37_2 : wr.cell? ⟨gb213, 2, none⟩ = some (.int .i64 ((rd_T24 t206 x44_2).f2)) := (blk_cell BK213.out 2).trans rfl
                                      have hcz37_3 : wr.cell? ⟨gb213, 3, none⟩ = some (.int .i64 ((rd_T24 t206 x44_2).f3)) := (blk_cell BK213.out 3).trans rfl
                                      have hcz37_4 : wr.cell? ⟨gb213, 4, none⟩ = some (.string ((rd_T24 t206 x44_2).f4)) := (blk_cell BK213.out 4).trans rfl
                                      have hfz37_0 := blk_frozen BK213.out 0
                                      have hfz37_1 := blk_frozen BK213.out 1
                                      have hfz37_2 := blk_frozen BK213.out 2
                                      have hfz37_3 := blk_frozen BK213.out 3
                                      have hfz37_4 := blk_frozen BK213.out 4
                                      have p25 : 0 ≤ (x13_3 : Int) := of_decide_eq_true (by first | (with_reducible assumption) | assumption)
                                      have q25 : x13_3 < (a0.size : Int) := of_decide_eq_true (by first | (with_reducible assumption) | assumption)
                                      have hx25 := bt_at a0 x13_3
                                      replace p25 := eq_true p25
                                      replace q25 := eq_true q25
                                      have p28 : 0 ≤ (x13_3 : Int) := of_decide_eq_true (by first | (with_reducible assumption) | assumption)
                                      have q28 : x13_3 < (a0.size : Int) := of_decide_eq_true (by first | (with_reducible assumption) | assumption)
                                      have hx28 := bt_at a0 x13_3
                                      replace p28 := eq_true p28
                                      replace q28 := eq_true q28
                                      have p31 : 0 ≤ (x13_3 : Int) := of_decide_eq_true (by first | (with_reducible assumption) | assumption)
                                      have q31 : x13_3 < (a0.size : Int) := of_decide_eq_true (by first | (with_reducible assumption) | assumption)
                                      have hx31 := bt_at a0 x13_3
                                      replace p31 := eq_true p31
                                      replace q31 := eq_true q31
                                      have p34 : 0 ≤ (x13_3 : Int) := of_decide_eq_true (by first | (with_reducible assumption) | assumption)
                                      have q34 : x13_3 < (a0.size : Int) := of_decide_eq_true (by first | (with_reducible assumption) | assumption)
                                      have hx34 := bt_at a0 x13_3
                                      replace p34 := eq_true p34
                                      replace q34 := eq_true q34
                                      go_wp2
                                      repeat (go_quiet (fail); try go_wp2)
                                      go_ret
                                      exact ⟨by first | rfl | (simp [errW_none, errW_some] <;> rfl) | (simp [*, errW_none, errW_some] <;> rfl), by repeat (first | (with_reducible first | exact HB.out | apply below_alloc | apply pw_below_drewN | apply below_drew1 | refine below_set ?_ GE213.out) | exact HB.out)⟩
                            · rw [if_neg c24] at H
                              exact absurd H (by simp)
                          · rw [if_neg c23] at H
                            exact absurd H (by simp)
                        · rw [if_neg c22] at H
                          have c22b0 : decide (x13_3 < ((rd_T24 t206 x44_2).f1)) = false := decide_eq_false c22
                          clear c22
                          by_cases c38 : x9_2.size + 1 ≤ 9223372036854775807
                          · rw [if_pos c38] at H
                            have c38b0 := eq_true c38
                            have c38b1 : decide (x9_2.size + 1 ≤ 9223372036854775807) = true := decide_eq_true c38
                            try have c38b2 : (9223372036854775807 < x9_2.size + 1) = False := eq_false (Nat.not_lt.2 c38)
                            by_cases c39 : x44_2 < (l1.length : Int)
                            · rw [if_pos c39] at H
                              have c39b0 : decide (x44_2 < (l1.length : Int)) = true := decide_eq_true c39
                              clear c39
                              by_cases c40 : 0 ≤ x44_2
                              · rw [if_pos c40] at H
                                have c40b0 : decide (0 ≤ x44_2) = true := decide_eq_true c40
                                clear c40
                                obtain ⟨ji41, hji41⟩ : ∃ j_ : Int, (Int.tmod (rd l1 x44_2) 4) = j_ := ⟨_, rfl⟩
                                replace H : (if 0 ≤ (ji41) then (if (ji41) ≤ (((ji41) + 1) % 256) then (if (((ji41) + 1) % 256) ≤ ((⟨#[9, 10, 13, 32]⟩ : ByteArray).size : Int) then (if (x9_2 ++ (⟨#[32]⟩ : ByteArray)).size + ((⟨#[9, 10, 13, 32]⟩ : ByteArray).extract ((ji41) : Int).toNat ((((ji41) + 1) % 256) : Int).toNat).size ≤ 9223372036854775807 then (if 0 ≤ ((rd_T24 t206 x44_2).f1) then (if ((rd_T24 t206 x44_2).f1) ≤ ((rd_T24 t206 x44_2).f2) then (if ((rd_T24 t206 x44_2).f2) ≤ (a0.size : Int) then (if ((x9_2 ++ (⟨#[32]⟩ : ByteArray)) ++ ((⟨#[9, 10, 13, 32]⟩ : ByteArray).extract ((ji41) : Int).toNat ((((ji41) + 1) % 256) : Int).toNat)).size + (a0.extract (((rd_T24 t206 x44_2).f1) : Int).toNat (((rd_T24 t206 x44_2).f2) : Int).toNat).size ≤ 9223372036854775807 then (sealringlaw06_LexBlanks.l0 k3 a0 l1 t206 (⟨#[9, 10, 13, 32]⟩ : ByteArray) (((x9_2 ++ (⟨#[32]⟩ : ByteArray)) ++ ((⟨#[9, 10, 13, 32]⟩ : ByteArray).extract ((ji41) : Int).toNat ((((ji41) + 1) % 256) : Int).toNat)) ++ (a0.extract (((rd_T24 t206 x44_2).f1) : Int).toNat (((rd_T24 t206 x44_2).f2) : Int).toNat)) ((rd_T24 t206 x44_2).f2) t206 (t206.length : Int) (wrap64 (x44_2 + 1))) else (none)) else (none)) else (none)) else (none)) else (none)) else (none)) else (none)) else (none)) = some r := by first | (rw [hji41] at H; exact H) | (simp only [hji41] at H ⊢; exact H)
                                by_cases c42 : 0 ≤ (ji41)
                                · rw [if_pos c42] at H
                                  have c42b0 := eq_true c42
                                  have c42b1 : decide (0 ≤ (ji41)) = true := decide_eq_true c42
                                  clear c42
                                  by_cases c43 : (ji41) ≤ (((ji41) + 1) % 256)
                                  · rw [if_pos c43] at H
                                    have c43b0 := eq_true c43
                                    have c43b1 : decide ((ji41) ≤ (((ji41) + 1) % 256)) = true := decide_eq_true c43
                                    by_cases c44 : (((ji41) + 1) % 256) ≤ ((⟨#[9, 10, 13, 32]⟩ : ByteArray).size : Int)
                                    · rw [if_pos c44] at H
                                      have c44b0 := eq_true c44
                                      have c44b1 : decide ((((ji41) + 1) % 256) ≤ ((⟨#[9, 10, 13, 32]⟩ : ByteArray).size : Int)) = true := decide_eq_true c44
                                      have c44z : ((((ji41) + 1) % 256)) ≤ (4 : Int) := of_decide_eq_true c44b1
                                      by_cases c45 : (x9_2 ++ (⟨#[32]⟩ : ByteArray)).size + ((⟨#[9, 10, 13, 32]⟩ : ByteArray).extract ((ji41) : Int).toNat ((((ji41) + 1) % 256) : Int).toNat).size ≤ 9223372036854775807
                                      · rw [if_pos c45] at H
                                        have c45b0 := eq_true c45
                                        have c45b1 : decide ((x9_2 ++ (⟨#[32]⟩ : ByteArray)).size + ((⟨#[9, 10, 13, 32]⟩ : ByteArray).extract ((ji41) : Int).toNat ((((ji41) + 1) % 256) : Int).toNat).size ≤ 9223372036854775807) = true := decide_eq_true c45
                                        try have c45b2 : (9223372036854775807 < (x9_2 ++ (⟨#[32]⟩ : ByteArray)).size + ((⟨#[9, 10, 13, 32]⟩ : ByteArray).extract ((ji41) : Int).toNat ((((ji41) + 1) % 256) : Int).toNat).size) = False := eq_false (Nat.not_lt.2 c45)
                                        by_cases c46 : 0 ≤ ((rd_T24 t206 x44_2).f1)
                                        · rw [if_pos c46] at H
                                          have c46b0 := eq_true c46
                                          have c46b1 : decide (0 ≤ ((rd_T24 t206 x44_2).f1)) = true := decide_eq_true c46
                                          clear c46
                                          by_cases c47 : ((rd_T24 t206 x44_2).f1) ≤ ((rd_T24 t206 x44_2).f2)
                                          · rw [if_pos c47] at H
                                            have c47b0 := eq_true c47
                                            have c47b1 : decide (((rd_T24 t206 x44_2).f1) ≤ ((rd_T24 t206 x44_2).f2)) = true := decide_eq_true c47
                                            clear c47
                                            by_cases c48 : ((rd_T24 t206 x44_2).f2) ≤ (a0.size : Int)
                                            · rw [if_pos c48] at H
                                              have c48b0 := eq_true c48
                                              have c48b1 : decide (((rd_T24 t206 x44_2).f2) ≤ (a0.size : Int)) = true := decide_eq_true c48
                                              clear c48
                                              by_cases c49 : ((x9_2 ++ (⟨#[32]⟩ : ByteArray)) ++ ((⟨#[9, 10, 13, 32]⟩ : ByteArray).extract ((ji41) : Int).toNat ((((ji41) + 1) % 256) : Int).toNat)).size + (a0.extract (((rd_T24 t206 x44_2).f1) : Int).toNat (((rd_T24 t206 x44_2).f2) : Int).toNat).size ≤ 9223372036854775807
                                              · rw [if_pos c49] at H
                                                have c49b0 := eq_true c49
                                                have c49b1 : decide (((x9_2 ++ (⟨#[32]⟩ : ByteArray)) ++ ((⟨#[9, 10, 13, 32]⟩ : ByteArray).extract ((ji41) : Int).toNat ((((ji41) + 1) % 256) : Int).toNat)).size + (a0.extract (((rd_T24 t206 x44_2).f1) : Int).toNat (((rd_T24 t206 x44_2).f2) : Int).toNat).size ≤ 9223372036854775807) = true := decide_eq_true c49
                                                try have c49b2 : (9223372036854775807 < ((x9_2 ++ (⟨#[32]⟩ : ByteArray)) ++ ((⟨#[9, 10, 13, 32]⟩ : ByteArray).extract ((ji41) : Int).toNat ((((ji41) + 1) % 256) : Int).toNat)).size + (a0.extract (((rd_T24 t206 x44_2).f1) : Int).toNat (((rd_T24 t206 x44_2).f2) : Int).toNat).size) = False := eq_false (Nat.not_lt.2 c49)
                                                have H' := Aside0.mk H
                                                clear H
                                                have hcz50_0 : wr.cell? ⟨gb213, 0, none⟩ = some (.int .i64 ((rd_T24 t206 x44_2).f0)) := (blk_cell BK213.out 0).trans rfl
                                                have hcz50_1 : wr.cell? ⟨gb213, 1, none⟩ = some (.int .i64 ((rd_T24 t206 x44_2).f1)) := (blk_cell BK213.out 1).trans rfl
                                                have hcz50_2 : wr.cell? ⟨gb213, 2, none⟩ = some (.int .i64 ((rd_T24 t206 x44_2).f2)) := (blk_cell BK213.out 2).trans rfl
                                                have hcz50_3 : wr.cell? ⟨gb213, 3, none⟩ = some (.int .i64 ((rd_T24 t206 x44_2).f3)) := (blk_cell BK213.out 3).trans rfl
                                                have hcz50_4 : wr.cell? ⟨gb213, 4, none⟩ = some (.string ((rd_T24 t206 x44_2).f4)) := (blk_cell BK213.out 4).trans rfl
                                                have hfz50_0 := blk_frozen BK213.out 0
                                                have hfz50_1 := blk_frozen BK213.out 1
                                                have hfz50_2 := blk_frozen BK213.out 2
                                                have hfz50_3 := blk_frozen BK213.out 3
                                                have hfz50_4 := blk_frozen BK213.out 4
                                                have p214 : 0 ≤ (x44_2 : Int) := of_decide_eq_true (by first | (with_reducible assumption) | assumption)
                                                have q214 : x44_2 < (l1.length : Int) := of_decide_eq_true (by first | (with_reducible assumption) | assumption)
                                                obtain ⟨ad214, e214, hx214_0⟩ := Kd.at_int HR1.out x44_2 p214 q214
                                                cases e214
                                                (try replace hx214_0 := (HB.out.cell (World.block_lt_of_cell? w _ hx214_0)).trans hx214_0)
                                                replace p214 := eq_true p214
                                                replace q214 := eq_true q214
                                                have p215 : 0 ≤ (x44_2 : Int) := of_decide_eq_true (by first | (with_reducible assumption) | assumption)
                                                have q215 : x44_2 < (l1.length : Int) := of_decide_eq_true (by first | (with_reducible assumption) | assumption)
                                                obtain ⟨ad215, e215, hx215_0⟩ := Kd.at_int HR1.out x44_2 p215 q215
                                                obtain rfl : ad214 = ad215 := (by injection e215)
                                                (try replace hx215_0 := (HB.out.cell (World.block_lt_of_cell? w _ hx215_0)).trans hx215_0)
                                                replace p215 := eq_true p215
                                                replace q215 := eq_true q215
                                                go_wp2
                                                repeat (go_quiet (fail); try go_wp2)
                                                go_roundg k3
                                                case measure => have := HJ6.out; have := HK2.out; have := HK3.out; omega
                                                case rel => exact ⟨(((x9_2 ++ (⟨#[32]⟩ : ByteArray)) ++ ((⟨#[9, 10, 13, 32]⟩ : ByteArray).extract ((ji41) : Int).toNat ((((ji41) + 1) % 256) : Int).toNat)) ++ (a0.extract (((rd_T24 t206 x44_2).f1) : Int).toNat (((rd_T24 t206 x44_2).f2) : Int).toNat)), (((rd_T24 t206 x44_2).f2)), (wrap64 (x44_2 + 1)), (by first | rfl | (simp; done) | (simp only [← hji41] <;> (first | rfl | simp)) | (simp [*]; done) | (simp [wrap64]; done)), (by first | rfl | (simp; done) | (simp [*]; done) | (simp [wrap64]; done)), (by first | rfl | (simp; done) | (simp [*]; done) | (simp [wrap64]; done)), (by first | with_reducible exact H' | exact H' | (subst_vars; exact H')), ⟨by have := HJ6.out; have := HK2.out; have := HK3.out; omega⟩, ⟨by (with_reducible repeat (first | apply Kd.R_alloc | apply Kd.R_drewN | apply Kd.R_drew)); exact Kd.R_mono HO_5.out (fun _ hk => trivial)⟩, ⟨by (with_reducible repeat (first | apply Kd.R_alloc | apply Kd.R_drewN | apply Kd.R_drew)); exact Kd.R_mono HO_42.out (fun _ hk => trivial)⟩, ⟨by repeat (first | (with_reducible first | exact HB.out | apply below_alloc | apply pw_below_drewN | apply below_drew1 | refine below_set ?_ GE213.out) | exact HB.out)⟩⟩
                                              · rw [if_neg c49] at H
                                                exact absurd H (by simp)
                                            · rw [if_neg c48] at H
                                              exact absurd H (by simp)
                                          · rw [if_neg c47] at H
                                            exact absurd H (by simp)
                                        · rw [if_neg c46] at H
                                          exact absurd H (by simp)
                                      · rw [if_neg c45] at H
                                        exact absurd H (by simp)
                                    · rw [if_neg c44] at H
                                      exact absurd H (by simp)
                                  · rw [if_neg c43] at H
                                    exact absurd H (by simp)
                                · rw [if_neg c42] at H
                                  exact absurd H (by simp)
                              · rw [if_neg c40] at H
                                exact absurd H (by simp)
                            · rw [if_neg c39] at H
                              have c39b0 : decide (x44_2 < (l1.length : Int)) = false := decide_eq_false c39
                              clear c39
                              by_cases c51 : 0 ≤ ((rd_T24 t206 x44_2).f1)
                              · rw [if_pos c51] at H
                                have c51b0 := eq_true c51
                                have c51b1 : decide (0 ≤ ((rd_T24 t206 x44_2).f1)) = true := decide_eq_true c51
                                clear c51
                                by_cases c52 : ((rd_T24 t206 x44_2).f1) ≤ ((rd_T24 t206 x44_2).f2)
                                · rw [if_pos c52] at H
                                  have c52b0 := eq_true c52
                                  have c52b1 : decide (((rd_T24 t206 x44_2).f1) ≤ ((rd_T24 t206 x44_2).f2)) = true := decide_eq_true c52
                                  clear c52
                                  by_cases c53 : ((rd_T24 t206 x44_2).f2) ≤ (a0.size : Int)
                                  · rw [if_pos c53] at H
                                    have c53b0 := eq_true c53
                                    have c53b1 : decide (((rd_T24 t206 x44_2).f2) ≤ (a0.size : Int)) = true := decide_eq_true c53
                                    clear c53
                                    by_cases c54 : (x9_2 ++ (⟨#[32]⟩ : ByteArray)).size + (a0.extract (((rd_T24 t206 x44_2).f1) : Int).toNat (((rd_T24 t206 x44_2).f2) : Int).toNat).size ≤ 9223372036854775807
                                    · rw [if_pos c54] at H
                                      have c54b0 := eq_true c54
                                      have c54b1 : decide ((x9_2 ++ (⟨#[32]⟩ : ByteArray)).size + (a0.extract (((rd_T24 t206 x44_2).f1) : Int).toNat (((rd_T24 t206 x44_2).f2) : Int).toNat).size ≤ 9223372036854775807) = true := decide_eq_true c54
                                      try have c54b2 : (9223372036854775807 < (x9_2 ++ (⟨#[32]⟩ : ByteArray)).size + (a0.extract (((rd_T24 t206 x44_2).f1) : Int).toNat (((rd_T24 t206 x44_2).f2) : Int).toNat).size) = False := eq_false (Nat.not_lt.2 c54)
                                      have H' := Aside0.mk H
                                      clear H
                                      have hcz55_0 : wr.cell? ⟨gb213, 0, none⟩ = some (.int .i64 ((rd_T24 t206 x44_2).f0)) := (blk_cell BK213.out 0).trans rfl
                                      have hcz55_1 : wr.cell? ⟨gb213, 1, none⟩ = some (.int .i64 ((rd_T24 t206 x44_2).f1)) := (blk_cell BK213.out 1).trans rfl
                                      have hcz55_2 : wr.cell? ⟨gb213, 2, none⟩ = some (.int .i64 ((rd_T24 t206 x44_2).f2)) := (blk_cell BK213.out 2).trans rfl
                                      have hcz55_3 : wr.cell? ⟨gb213, 3, none⟩ = some (.int .i64 ((rd_T24 t206 x44_2).f3)) := (blk_cell BK213.out 3).trans rfl
                                      have hcz55_4 : wr.cell? ⟨gb213, 4, none⟩ = some (.string ((rd_T24 t206 x44_2).f4)) := (blk_cell BK213.out 4).trans rfl
                                      have hfz55_0 := blk_frozen BK213.out 0
                                      have hfz55_1 := blk_frozen BK213.out 1
                                      have hfz55_2 := blk_frozen BK213.out 2
                                      have hfz55_3 := blk_frozen BK213.out 3
                                      have hfz55_4 := blk_frozen BK213.out 4
                                      go_wp2
                                      repeat (go_quiet (fail); try go_wp2)
                                      go_roundg k3
                                      case measure => have := HJ6.out; have := HK2.out; have := HK3.out; omega
                                      case rel => exact ⟨((x9_2 ++ (⟨#[32]⟩ : ByteArray)) ++ (a0.extract (((rd_T24 t206 x44_2).f1) : Int).toNat (((rd_T24 t206 x44_2).f2) : Int).toNat)), (((rd_T24 t206 x44_2).f2)), (wrap64 (x44_2 + 1)), (by first | rfl | (simp; done) | (simp [*]; done) | (simp [wrap64]; done)), (by first | rfl | (simp; done) | (simp [*]; done) | (simp [wrap64]; done)), (by first | rfl | (simp; done) | (simp [*]; done) | (simp [wrap64]; done)), (by first | with_reducible exact H' | exact H' | (subst_vars; exact H')), ⟨by have := HJ6.out; have := HK2.out; have := HK3.out; omega⟩, ⟨by (with_reducible repeat (first | apply Kd.R_alloc | apply Kd.R_drewN | apply Kd.R_drew)); exact Kd.R_mono HO_5.out (fun _ hk => trivial)⟩, ⟨by (with_reducible repeat (first | apply Kd.R_alloc | apply Kd.R_drewN | apply Kd.R_drew)); exact Kd.R_mono HO_42.out (fun _ hk => trivial)⟩, ⟨by repeat (first | (with_reducible first | exact HB.out | apply below_alloc | apply pw_below_drewN | apply below_drew1 | refine below_set ?_ GE213.out) | exact HB.out)⟩⟩
                                    · rw [if_neg c54] at H
                                      exact absurd H (by simp)
                                  · rw [if_neg c53] at H
                                    exact absurd H (by simp)
                                · rw [if_neg c52] at H
                                  exact absurd H (by simp)
                              · rw [if_neg c51] at H
                                exact absurd H (by simp)
                          · rw [if_neg c38] at H
                            exact absurd H (by simp)
                  · rw [if_neg c19] at H
                    exact absurd H (by simp)
                · rw [if_neg c18] at H
                  exact absurd H (by simp)
              · rw [if_neg c17] at H
                have c17b0 : decide (x44_2 < (t206.length : Int)) = false := decide_eq_false c17
                clear c17
                by_cases c56 : x9_2.size + 1 ≤ 9223372036854775807
                · rw [if_pos c56] at H
                  have c56b0 := eq_true c56
                  have c56b1 : decide (x9_2.size + 1 ≤ 9223372036854775807) = true := decide_eq_true c56
                  try have c56b2 : (9223372036854775807 < x9_2.size + 1) = False := eq_false (Nat.not_lt.2 c56)
                  replace H := Option.bind_eq_some_iff.mp H
                  obtain ⟨⟨t216, t217, t218⟩, A570, H⟩ := H
                  replace H : (if t218 = 0 then (if (t216.length : Int) = (t206.length : Int) then (sealringlaw06_LexBlanks.j3 k2 t206 t216 (x10_2 != (a0.size : Int))) else (sealringlaw06_LexBlanks.j3 k2 t206 t216 true)) else (sealringlaw06_LexBlanks.j3 k2 t206 t216 true)) = some r := H
                  have A57 := Aside0.mk A570
                  clear A570
                  have HC58 := Aside0.mk H
                  clear H
                  go_upto_region 24 with (first | (go_at_call 9; (with_reducible refine (lex_Tokens.calls (x9_2 ++ (⟨#[10]⟩ : ByteArray)) t216 t217 t218 _ A57.out).mono ?_); rintro e w59 ⟨v219, rfl, ho0, hb⟩; have n0_ := Aside0.mk (Kd.R_elder' (by (with_reducible repeat (first | apply Kd.R_alloc | apply Kd.R_drewN | apply Kd.R_drew)); exact HO_5.out) (Kd.R_base ho0) hb); have n1_ := Aside0.mk (Kd.R_elder' (by (with_reducible repeat (first | apply Kd.R_alloc | apply Kd.R_drewN | apply Kd.R_drew)); exact HO_42.out) (Kd.R_base ho0) hb); have n2_ := Aside0.mk (Kd.R_lower (Kd.R_new' (Kd.R_new' ho0 (Kd.R_lt (by (with_reducible repeat (first | apply Kd.R_alloc | apply Kd.R_drewN | apply Kd.R_drew)); exact HO_5.out))) (Kd.R_lt (by (with_reducible repeat (first | apply Kd.R_alloc | apply Kd.R_drewN | apply Kd.R_drew)); exact HO_42.out))) (below_size (by repeat (first | (with_reducible first | exact HB.out | apply below_alloc | apply pw_below_drewN | apply below_drew1) | exact HB.out)))); have n3_ := Aside0.mk (below_step (by repeat (first | (with_reducible first | exact HB.out | apply below_alloc | apply pw_below_drewN | apply below_drew1) | exact HB.out)) hb); clear HO_5; clear HO_42; clear HB; have HO_5 := n0_; have HO_42 := n1_; have HO220 := n2_; have HB := n3_; clear n0_ n1_ n2_ n3_; (try clear hb); (try clear hb2); (try clear hk); (try clear hi); (try clear ho0)))
                  repeat (go_quiet (first | (go_at_call 9; (with_reducible refine (lex_Tokens.calls (x9_2 ++ (⟨#[10]⟩ : ByteArray)) t216 t217 t218 _ A57.out).mono ?_); rintro e w59 ⟨v219, rfl, ho0, hb⟩; have n0_ := Aside0.mk (Kd.R_elder' (by (with_reducible repeat (first | apply Kd.R_alloc | apply Kd.R_drewN | apply Kd.R_drew)); exact HO_5.out) (Kd.R_base ho0) hb); have n1_ := Aside0.mk (Kd.R_elder' (by (with_reducible repeat (first | apply Kd.R_alloc | apply Kd.R_drewN | apply Kd.R_drew)); exact HO_42.out) (Kd.R_base ho0) hb); have n2_ := Aside0.mk (Kd.R_lower (Kd.R_new' (Kd.R_new' ho0 (Kd.R_lt (by (with_reducible repeat (first | apply Kd.R_alloc | apply Kd.R_drewN | apply Kd.R_drew)); exact HO_5.out))) (Kd.R_lt (by (with_reducible repeat (first | apply Kd.R_alloc | apply Kd.R_drewN | apply Kd.R_drew)); exact HO_42.out))) (below_size (by repeat (first | (with_reducible first | exact HB.out | apply below_alloc | apply pw_below_drewN | apply below_drew1) | exact HB.out)))); have n3_ := Aside0.mk (below_step (by repeat (first | (with_reducible first | exact HB.out | apply below_alloc | apply pw_below_drewN | apply below_drew1) | exact HB.out)) hb); clear HO_5; clear HO_42; clear HB; have HO_5 := n0_; have HO_42 := n1_; have HO220 := n2_; have HB := n3_; clear n0_ n1_ n2_ n3_; (try clear hb); (try clear hb2); (try clear hk); (try clear hi); (try clear ho0))); go_upto_region 24 with (first | (go_at_call 9; (with_reducible refine (lex_Tokens.calls (x9_2 ++ (⟨#[10]⟩ : ByteArray)) t216 t217 t218 _ A57.out).mono ?_); rintro e w59 ⟨v219, rfl, ho0, hb⟩; have n0_ := Aside0.mk (Kd.R_elder' (by (with_reducible repeat (first | apply Kd.R_alloc | apply Kd.R_drewN | apply Kd.R_drew)); exact HO_5.out) (Kd.R_base ho0) hb); have n1_ := Aside0.mk (Kd.R_elder' (by (with_reducible repeat (first | apply Kd.R_alloc | apply Kd.R_drewN | apply Kd.R_drew)); exact HO_42.out) (Kd.R_base ho0) hb); have n2_ := Aside0.mk (Kd.R_lower (Kd.R_new' (Kd.R_new' ho0 (Kd.R_lt (by (with_reducible repeat (first | apply Kd.R_alloc | apply Kd.R_drewN | apply Kd.R_drew)); exact HO_5.out))) (Kd.R_lt (by (with_reducible repeat (first | apply Kd.R_alloc | apply Kd.R_drewN | apply Kd.R_drew)); exact HO_42.out))) (below_size (by repeat (first | (with_reducible first | exact HB.out | apply below_alloc | apply pw_below_drewN | apply below_drew1) | exact HB.out)))); have n3_ := Aside0.mk (below_step (by repeat (first | (with_reducible first | exact HB.out | apply below_alloc | apply pw_below_drewN | apply below_drew1) | exact HB.out)) hb); clear HO_5; clear HO_42; clear HB; have HO_5 := n0_; have HO_42 := n1_; have HO220 := n2_; have HB := n3_; clear n0_ n1_ n2_ n3_; (try clear hb); (try clear hb2); (try clear hk); (try clear hi); (try clear ho0))))
                  (try simp only [Act.put, List.setIfInBounds_toArray, List.set_cons_zero, List.set_cons_succ])
                  go_cut [131] (fun v131 wc => ∃ (kq : Nat) (x131_57 : Bool), v131 = .bool x131_57 ∧ Aside0 (sealringlaw06_LexBlanks.j3 kq t206 t216 x131_57 = some r) ∧ Aside0 (kq ≤ k2) ∧ Aside0 (Kd.R k24 24 wc w.heap.size (fun k_ => some k_ ≠ (v219 : Value).ownBlock) (.slice Ao16 t206.length co16) t206) ∧ Aside0 (Kd.R k24 24 wc w.heap.size (fun k_ => some k_ ≠ ((.slice Ao16 t206.length co16) : Value).ownBlock) v219 t216) ∧ Aside0 (Below w.heap.size w wc))
                  case first =>
                    have H := HC58.out
                    clear HC58
                    by_cases c60 : t218 = 0
                    · rw [if_pos c60] at H
                      have c60b0 : (t218 == 0) = true := beq_iff_eq.mpr c60
                      have c60b1 : (t218 != 0) = false := bne_eq_false_iff_eq.mpr c60
                      clear c60
                      (first | rw [c60b0] | (simp only [i64_w, i32_w]; rw [c60b0]) | skip)
                      by_cases c61 : (t216.length : Int) = (t206.length : Int)
                      · rw [if_pos c61] at H
                        have c61b0 : ((t216.length : Int) == (t206.length : Int)) = true := beq_iff_eq.mpr c61
                        have c61b1 : ((t216.length : Int) != (t206.length : Int)) = false := bne_eq_false_iff_eq.mpr c61
                        have c61b2 : (t216.length == t206.length) = true := by first | simpa using c61 | (simp at c61 ⊢; omega)
                        clear c61
                        have H' := Aside0.mk H
                        clear H
                        obtain ⟨Ao62, co62, eo62⟩ := Kd.R_slice HO220.out
                        subst eo62
                        go_wp2
                        repeat (go_quiet (fail); try go_wp2)
                        go_meet
                        case rel => exact ⟨_, ((x10_2 != (a0.size : Int))), (by first | rfl | (simp; done) | (simp [*]; done) | (simp [wrap64]; done)), (by first | with_reducible exact H' | exact H' | (subst_vars; exact H')), ⟨by have := HJ6.out; have := HK2.out; first | omega | exact Nat.le_refl _⟩, ⟨by (with_reducible repeat (first | apply Kd.R_alloc | apply Kd.R_drewN | apply Kd.R_drew)); exact Kd.R_mono HO_5.out (fun _ hk => hk.2)⟩, ⟨by (with_reducible repeat (first | apply Kd.R_alloc | apply Kd.R_drewN | apply Kd.R_drew)); exact Kd.R_mono HO220.out (fun _ hk => hk.1.2)⟩, ⟨by repeat (first | (with_reducible first | exact HB.out | apply below_alloc | apply pw_below_drewN | apply below_drew1) | exact HB.out)⟩⟩
                      · rw [if_neg c61] at H
                        have c61b0 : ((t216.length : Int) == (t206.length : Int)) = false := beq_eq_false_iff_ne.mpr c61
                        have c61b1 : ((t216.length : Int) != (t206.length : Int)) = true := bne_iff_ne.mpr c61
                        have c61b2 : (t216.length == t206.length) = false := by first | simpa using c61 | (simp at c61 ⊢; omega)
                        have H' := Aside0.mk H
                        clear H
                        obtain ⟨Ao63, co63, eo63⟩ := Kd.R_slice HO220.out
                        subst eo63
                        go_wp2
                        repeat (go_quiet (fail); try go_wp2)
                        go_meet
                        case rel => exact ⟨_, (true), (by first | rfl | (simp; done) | (simp [*]; done) | (simp [wrap64]; done)), (by first | with_reducible exact H' | exact H' | (subst_vars; exact H')), ⟨by have := HJ6.out; have := HK2.out; first | omega | exact Nat.le_refl _⟩, ⟨by (with_reducible repeat (first | apply Kd.R_alloc | apply Kd.R_drewN | apply Kd.R_drew)); exact Kd.R_mono HO_5.out (fun _ hk => hk.2)⟩, ⟨by (with_reducible repeat (first | apply Kd.R_alloc | apply Kd.R_drewN | apply Kd.R_drew)); exact Kd.R_mono HO220.out (fun _ hk => hk.1.2)⟩, ⟨by repeat (first | (with_reducible first | exact HB.out | apply below_alloc | apply pw_below_drewN | apply below_drew1) | exact HB.out)⟩⟩
                    · rw [if_neg c60] at H
                      have c60b0 : (t218 == 0) = false := beq_eq_false_iff_ne.mpr c60
                      have c60b1 : (t218 != 0) = true := bne_iff_ne.mpr c60
                      (first | rw [c60b0] | (simp only [i64_w, i32_w]; rw [c60b0]) | skip)
                      have H' := Aside0.mk H
                      clear H
                      go_wp2
                      repeat (go_quiet (fail); try go_wp2)
                      go_meet
                      case rel => exact ⟨_, (true), (by first | rfl | (simp; done) | (simp [*]; done) | (simp [wrap64]; done)), (by first | with_reducible exact H' | exact H' | (subst_vars; exact H')), ⟨by have := HJ6.out; have := HK2.out; first | omega | exact Nat.le_refl _⟩, ⟨by (with_reducible repeat (first | apply Kd.R_alloc | apply Kd.R_drewN | apply Kd.R_drew)); exact Kd.R_mono HO_5.out (fun _ hk => hk.2)⟩, ⟨by (with_reducible repeat (first | apply Kd.R_alloc | apply Kd.R_drewN | apply Kd.R_drew)); exact Kd.R_mono HO220.out (fun _ hk => hk.1.2)⟩, ⟨by repeat (first | (with_reducible first | exact HB.out | apply below_alloc | apply pw_below_drewN | apply below_drew1) | exact HB.out)⟩⟩
                  case rest =>
                    clear HC58
                    try clear c1
                    try clear c2
                    try clear p2
                    try clear q2
                    try clear hx2
                    try clear c3
                    try clear c3b0
                    try clear c3b1
                    try clear p3
                    try clear q3
                    try clear hx3
                    try clear c4
                    try clear c5
                    try clear c6
                    try clear p6
                    try clear c9
                    try clear c9b0
                    try clear c9b1
                    try clear c10
                    try clear c10b0
                    try clear c10b1
                    try clear c13
                    try clear c17
                    try clear c17b0
                    try clear c18
                    try clear c18b0
                    try clear c19
                    try clear c19b0
                    try clear p21
                    try clear q21
                    try clear hx21
                    try clear c22
                    try clear c22b0
                    try clear c23
                    try clear c23b0
                    try clear c24
                    try clear c24b0
                    try clear p25
                    try clear q25
                    try clear hx25
                    try clear c26
                    try clear c26b0
                    try clear c26b1
                    try clear p28
                    try clear q28
                    try clear hx28
                    try clear c29
                    try clear c29b0
                    try clear c29b1
                    try clear p31
                    try clear q31
                    try clear hx31
                    try clear c32
                    try clear c32b0
                    try clear c32b1
                    try clear p34
                    try clear q34
                    try clear hx34
                    try clear c35
                    try clear c35b0
                    try clear c35b1
                    try clear c38
                    try clear c38b0
                    try clear c38b1
                    try clear c38b2
                    try clear c39
                    try clear c39b0
                    try clear c40
                    try clear c40b0
                    try clear c42
                    try clear c42b0
                    try clear c42b1
                    try clear c43
                    try clear c43b0
                    try clear c43b1
                    try clear c44
                    try clear c44b0
                    try clear c44b1
                    try clear c45
                    try clear c45b0
                    try clear c45b1
                    try clear c45b2
                    try clear c46
                    try clear c46b0
                    try clear c46b1
                    try clear c47
                    try clear c47b0
                    try clear c47b1
                    try clear c48
                    try clear c48b0
                    try clear c48b1
                    try clear c49
                    try clear c49b0
                    try clear c49b1
                    try clear c49b2
                    try clear c51
                    try clear c51b0
                    try clear c51b1
                    try clear c52
                    try clear c52b0
                    try clear c52b1
                    try clear c53
                    try clear c53b0
                    try clear c53b1
                    try clear c54
                    try clear c54b0
                    try clear c54b1
                    try clear c54b2
                    try clear c56
                    try clear c56b0
                    try clear c56b1
                    try clear c56b2
                    try clear c60
                    try clear c60b0
                    try clear c60b1
                    try clear c61
                    try clear c61b0
                    try clear c61b1
                    try clear c61b2
                    try clear hcz21_0
                    try clear hcz21_1
                    try clear hcz21_2
                    try clear hcz21_3
                    try clear hcz21_4
                    try clear hcz27_0
                    try clear hcz27_1
                    try clear hcz27_2
                    try clear hcz27_3
                    try clear hcz27_4
                    try clear hcz30_0
                    try clear hcz30_1
                    try clear hcz30_2
                    try clear hcz30_3
                    try clear hcz30_4
                    try clear hcz33_0
                    try clear hcz33_1
                    try clear hcz33_2
                    try clear hcz33_3
                    try clear hcz33_4
                    try clear hcz36_0
                    try clear hcz36_1
                    try clear hcz36_2
                    try clear hcz36_3
                    try clear hcz36_4
                    try clear hcz37_0
                    try clear hcz37_1
                    try clear hcz37_2
                    try clear hcz37_3
                    try clear hcz37_4
                    try clear hcz50_0
                    try clear hcz50_1
                    try clear hcz50_2
                    try clear hcz50_3
                    try clear hcz50_4
                    try clear hcz55_0
                    try clear hcz55_1
                    try clear hcz55_2
                    try clear hcz55_3
                    try clear hcz55_4
                    try clear hfz21_0
                    try clear hfz21_1
                    try clear hfz21_2
                    try clear hfz21_3
                    try clear hfz21_4
                    try clear hfz27_0
                    try clear hfz27_1
                    try clear hfz27_2
                    try clear hfz27_3
                    try clear hfz27_4
                    try clear hfz30_0
                    try clear hfz30_1
                    try clear hfz30_2
                    try clear hfz30_3
                    try clear hfz30_4
                    try clear hfz33_0
                    try clear hfz33_1
                    try clear hfz33_2
                    try clear hfz33_3
                    try clear hfz33_4
                    try clear hfz36_0
                    try clear hfz36_1
                    try clear hfz36_2
                    try clear hfz36_3
                    try clear hfz36_4
                    try clear hfz37_0
                    try clear hfz37_1
                    try clear hfz37_2
                    try clear hfz37_3
                    try clear hfz37_4
                    try clear hfz50_0
                    try clear hfz50_1
                    try clear hfz50_2
                    try clear hfz50_3
                    try clear hfz50_4
                    try clear hfz55_0
                    try clear hfz55_1
                    try clear hfz55_2
                    try clear hfz55_3
                    try clear hfz55_4
                    try clear hx212_0
                    try clear hx212_1
                    try clear hx212_2
                    try clear hx212_3
                    try clear hx212_4
                    try clear hx214_0
                    try clear hx215_0
                    try clear p2
                    try clear p21
                    try clear p212
                    try clear p214
                    try clear p215
                    try clear p25
                    try clear p28
                    try clear p31
                    try clear p34
                    try clear q2
                    try clear q21
                    try clear q212
                    try clear q214
                    try clear q215
                    try clear q25
                    try clear q28
                    try clear q31
                    try clear q34
                    obtain ⟨kq, x131_57, rfl, HA, HJ57, HO_5, HO_14, HB⟩ := hcut
                    cases kq with
                    | zero => exact absurd HA.out (by simp [sealringlaw06_LexBlanks.j3])
                    | succ kj57 =>
                      have H := HA.out
                      clear HA
                      simp only [sealringlaw06_LexBlanks.j3] at H
                      by_cases c64 : x131_57 = true
                      · subst c64
                        have H1 : (some false) = some r := by rw [if_pos rfl] at H; exact H
                        clear H
                        have H := H1
                        clear H1
                        obtain rfl := Option.some.inj H
                        go_wp2
                        repeat (go_quiet (fail); try go_wp2)
                        go_ret
                        exact ⟨by first | rfl | (simp [errW_none, errW_some] <;> rfl) | (simp [*, errW_none, errW_some] <;> rfl), by repeat (first | (with_reducible first | exact HB.out | apply below_alloc | apply pw_below_drewN | apply below_drew1) | exact HB.out)⟩
                      · replace c64 := Bool.eq_false_iff.mpr c64
                        subst c64
                        have H1 : (sealringlaw06_LexBlanks.l2 kj57 t206 t216 (t216.length : Int) 0) = some r := by rw [if_neg (show ¬ (false = true) by decide)] at H; exact H
                        clear H
                        have H := H1
                        clear H1
                        have H' := Aside0.mk H
                        clear H
                        obtain ⟨Ao65, co65, eo65⟩ := Kd.R_slice HO_14.out
                        subst eo65
                        go_wp2
                        repeat (go_quiet (fail); try go_wp2)
                        (try simp only [Go.IntKind.wrap_u8])
                        go_loopg [134] kj57 (fun kq v134 w' => ∃ (x134_4 : Int), v134 = .int .i64 x134_4 ∧ Aside0 (sealringlaw06_LexBlanks.l2 kq t206 t216 (t216.length : Int) x134_4 = some r) ∧ Aside0 (kq ≤ kj57) ∧ Aside0 (Kd.R k24 24 w' w.heap.size (fun k_ => some k_ ≠ ((.slice Ao65 t216.length co65) : Value).ownBlock) (.slice Ao16 t206.length co16) t206) ∧ Aside0 (Kd.R k24 24 w' w.heap.size (fun k_ => some k_ ≠ ((.slice Ao16 t206.length co16) : Value).ownBlock) (.slice Ao65 t216.length co65) t216) ∧ Aside0 (Below w.heap.size w w'))
                        case atStart => exact ⟨(0), (by first | rfl | (simp; done) | (simp [*]; done) | (simp [wrap64]; done)), (by first | with_reducible exact H' | exact H' | (subst_vars; exact H')), ⟨Nat.le_refl _⟩, ⟨by (with_reducible repeat (first | apply Kd.R_alloc | apply Kd.R_drewN | apply Kd.R_drew)); exact HO_5.out⟩, ⟨by (with_reducible repeat (first | apply Kd.R_alloc | apply Kd.R_drewN | apply Kd.R_drew)); exact HO_14.out⟩, ⟨by repeat (first | (with_reducible first | exact HB.out | apply below_alloc | apply pw_below_drewN | apply below_drew1) | exact HB.out)⟩⟩
                        case round =>
                          clear H'
                          try clear c1
                          try clear c2
                          try clear p2
                          try clear q2
                          try clear hx2
                          try clear c3
                          try clear c3b0
                          try clear c3b1
                          try clear p3
                          try clear q3
                          try clear hx3
                          try clear c4
                          try clear c5
                          try clear c6
                          try clear p6
                          try clear c9
                          try clear c9b0
                          try clear c9b1
                          try clear c10
                          try clear c10b0
                          try clear c10b1
                          try clear c13
                          try clear c17
                          try clear c17b0
                          try clear c18
                          try clear c18b0
                          try clear c19
                          try clear c19b0
                          try clear p21
                          try clear q21
                          try clear hx21
                          try clear c22
                          try clear c22b0
                          try clear c23
                          try clear c23b0
                          try clear c24
                          try clear c24b0
                          try clear p25
                          try clear q25
                          try clear hx25
                          try clear c26
                          try clear c26b0
                          try clear c26b1
                          try clear p28
                          try clear q28
                          try clear hx28
                          try clear c29
                          try clear c29b0
                          try clear c29b1
                          try clear p31
                          try clear q31
                          try clear hx31
                          try clear c32
                          try clear c32b0
                          try clear c32b1
                          try clear p34
                          try clear q34
                          try clear hx34
                          try clear c35
                          try clear c35b0
                          try clear c35b1
                          try clear c38
                          try clear c38b0
                          try clear c38b1
                          try clear c38b2
                          try clear c39
                          try clear c39b0
                          try clear c40
                          try clear c40b0
                          try clear c42
                          try clear c42b0
                          try clear c42b1
                          try clear c43
                          try clear c43b0
                          try clear c43b1
                          try clear c44
                          try clear c44b0
                          try clear c44b1
                          try clear c45
                          try clear c45b0
                          try clear c45b1
                          try clear c45b2
                          try clear c46
                          try clear c46b0
                          try clear c46b1
                          try clear c47
                          try clear c47b0
                          try clear c47b1
                          try clear c48
                          try clear c48b0
                          try clear c48b1
                          try clear c49
                          try clear c49b0
                          try clear c49b1
                          try clear c49b2
                          try clear c51
                          try clear c51b0
                          try clear c51b1
                          try clear c52
                          try clear c52b0
                          try clear c52b1
                          try clear c53
                          try clear c53b0
                          try clear c53b1
                          try clear c54
                          try clear c54b0
                          try clear c54b1
                          try clear c54b2
                          try clear c56
                          try clear c56b0
                          try clear c56b1
                          try clear c56b2
                          try clear c60
                          try clear c60b0
                          try clear c60b1
                          try clear c61
                          try clear c61b0
                          try clear c61b1
                          try clear c61b2
                          try clear c64
                          try clear p64
                          try clear hcz21_0
                          try clear hcz21_1
                          try clear hcz21_2
                          try clear hcz21_3
                          try clear hcz21_4
                          try clear hcz27_0
                          try clear hcz27_1
                          try clear hcz27_2
                          try clear hcz27_3
                          try clear hcz27_4
                          try clear hcz30_0
                          try clear hcz30_1
                          try clear hcz30_2
                          try clear hcz30_3
                          try clear hcz30_4
                          try clear hcz33_0
                          try clear hcz33_1
                          try clear hcz33_2
                          try clear hcz33_3
                          try clear hcz33_4
                          try clear hcz36_0
                          try clear hcz36_1
                          try clear hcz36_2
                          try clear hcz36_3
                          try clear hcz36_4
                          try clear hcz37_0
                          try clear hcz37_1
                          try clear hcz37_2
                          try clear hcz37_3
                          try clear hcz37_4
                          try clear hcz50_0
                          try clear hcz50_1
                          try clear hcz50_2
                          try clear hcz50_3
                          try clear hcz50_4
                          try clear hcz55_0
                          try clear hcz55_1
                          try clear hcz55_2
                          try clear hcz55_3
                          try clear hcz55_4
                          try clear hfz21_0
                          try clear hfz21_1
                          try clear hfz21_2
                          try clear hfz21_3
                          try clear hfz21_4
                          try clear hfz27_0
                          try clear hfz27_1
                          try clear hfz27_2
                          try clear hfz27_3
                          try clear hfz27_4
                          try clear hfz30_0
                          try clear hfz30_1
                          try clear hfz30_2
                          try clear hfz30_3
                          try clear hfz30_4
                          try clear hfz33_0
                          try clear hfz33_1
                          try clear hfz33_2
                          try clear hfz33_3
                          try clear hfz33_4
                          try clear hfz36_0
                          try clear hfz36_1
                          try clear hfz36_2
                          try clear hfz36_3
                          try clear hfz36_4
                          try clear hfz37_0
                          try clear hfz37_1
                          try clear hfz37_2
                          try clear hfz37_3
                          try clear hfz37_4
                          try clear hfz50_0
                          try clear hfz50_1
                          try clear hfz50_2
                          try clear hfz50_3
                          try clear hfz50_4
                          try clear hfz55_0
                          try clear hfz55_1
                          try clear hfz55_2
                          try clear hfz55_3
                          try clear hfz55_4
                          try clear hx212_0
                          try clear hx212_1
                          try clear hx212_2
                          try clear hx212_3
                          try clear hx212_4
                          try clear hx214_0
                          try clear hx215_0
                          try clear p2
                          try clear p21
                          try clear p212
                          try clear p214
                          try clear p215
                          try clear p25
                          try clear p28
                          try clear p3
                          try clear p31
                          try clear p34
                          try clear p6
                          try clear q2
                          try clear q21
                          try clear q212
                          try clear q214
                          try clear q215
                          try clear q25
                          try clear q28
                          try clear q3
                          try clear q31
                          try clear q34
                          obtain ⟨x134_4, rfl, HA, HK4, HO_5, HO_132, HB⟩ := hrel
                          cases gk with
                          | zero => exact absurd HA.out (by simp [sealringlaw06_LexBlanks.l2])
                          | succ k4 =>
                            have H := HA.out
                            clear HA
                            simp only [sealringlaw06_LexBlanks.l2] at H
                            by_cases c66 : x134_4 < (t216.length : Int)
                            · rw [if_pos c66] at H
                              have c66b0 : decide (x134_4 < (t216.length : Int)) = true := decide_eq_true c66
                              clear c66
                              by_cases c67 : 0 ≤ x134_4
                              · rw [if_pos c67] at H
                                have c67b0 : decide (0 ≤ x134_4) = true := decide_eq_true c67
                                clear c67
                                by_cases c68 : x134_4 < (t216.length : Int)
                                · rw [if_pos c68] at H
                                  have c68b0 : decide (x134_4 < (t216.length : Int)) = true := decide_eq_true c68
                                  clear c68
                                  by_cases c69 : x134_4 < (t206.length : Int)
                                  · rw [if_pos c69] at H
                                    have c69b0 : decide (x134_4 < (t206.length : Int)) = true := decide_eq_true c69
                                    clear c69
                                    by_cases c70 : ((rd_T24 t216 x134_4).f0) = ((rd_T24 t206 x134_4).f0)
                                    · rw [if_pos c70] at H
                                      have c70b0 : (((rd_T24 t216 x134_4).f0) == ((rd_T24 t206 x134_4).f0)) = true := beq_iff_eq.mpr c70
                                      have c70b1 : (((rd_T24 t216 x134_4).f0) != ((rd_T24 t206 x134_4).f0)) = false := bne_eq_false_iff_eq.mpr c70
                                      clear c70
                                      by_cases c71 : ((rd_T24 t216 x134_4).f3) = ((rd_T24 t206 x134_4).f3)
                                      · rw [if_pos c71] at H
                                        have c71b0 : (((rd_T24 t216 x134_4).f3) == ((rd_T24 t206 x134_4).f3)) = true := beq_iff_eq.mpr c71
                                        have c71b1 : (((rd_T24 t216 x134_4).f3) != ((rd_T24 t206 x134_4).f3)) = false := bne_eq_false_iff_eq.mpr c71
                                        clear c71
                                        by_cases c72 : ((rd_T24 t216 x134_4).f4).toList = ((rd_T24 t206 x134_4).f4).toList
                                        · rw [if_pos c72] at H
                                          have c72b0 : (((rd_T24 t216 x134_4).f4).toList == ((rd_T24 t206 x134_4).f4).toList) = true := beq_iff_eq.mpr c72
                                          have c72b1 : (((rd_T24 t216 x134_4).f4).toList != ((rd_T24 t206 x134_4).f4).toList) = false := bne_eq_false_iff_eq.mpr c72
                                          clear c72
                                          have H' := Aside0.mk H
                                          clear H
                                          have p221 : 0 ≤ (x134_4 : Int) := of_decide_eq_true (by first | (with_reducible assumption) | assumption)
                                          have q221 : x134_4 < (t216.length : Int) := of_decide_eq_true (by first | (with_reducible assumption) | assumption)
                                          obtain ⟨ad221, e221, hx221_0, hx221_1, hx221_2, hx221_3, hx221_4⟩ := at_T24 (Kd.R_reads' HO_132.out).2.2 x134_4 p221 q221
                                          cases e221
                                          replace p221 := eq_true p221
                                          replace q221 := eq_true q221
                                          have p223 : 0 ≤ (x134_4 : Int) := of_decide_eq_true (by first | (with_reducible assumption) | assumption)
                                          have q223 : x134_4 < (t206.length : Int) := of_decide_eq_true (by first | (with_reducible assumption) | assumption)
                                          obtain ⟨ad223, e223, hx223_0, hx223_1, hx223_2, hx223_3, hx223_4⟩ := at_T24 (Kd.R_reads' HO_5.out).2.2 x134_4 p223 q223
                                          cases e223
                                          replace p223 := eq_true p223
                                          replace q223 := eq_true q223
                                          have hy223_0 := ((below_alloc (Below.refl _ _) (.cells #[.int .i64 (rd_T24 t216 x134_4).f0, .int .i64 (rd_T24 t216 x134_4).f1, .int .i64 (rd_T24 t216 x134_4).f2, .int .i64 (rd_T24 t216 x134_4).f3, .string (rd_T24 t216 x134_4).f4] 24 (0, 0))).cell (World.block_lt_of_cell? _ _ hx223_0)).trans hx223_0
                                          have hy223_1 := ((below_alloc (Below.refl _ _) (.cells #[.int .i64 (rd_T24 t216 x134_4).f0, .int .i64 (rd_T24 t216 x134_4).f1, .int .i64 (rd_T24 t216 x134_4).f2, .int .i64 (rd_T24 t216 x134_4).f3, .string (rd_T24 t216 x134_4).f4] 24 (0, 0))).cell (World.block_lt_of_cell? _ _ hx223_1)).trans hx223_1
                                          have hy223_2 := ((below_alloc (Below.refl _ _) (.cells #[.int .i64 (rd_T24 t216 x134_4).f0, .int .i64 (rd_T24 t216 x134_4).f1, .int .i64 (rd_T24 t216 x134_4).f2, .int .i64 (rd_T24 t216 x134_4).f3, .string (rd_T24 t216 x134_4).f4] 24 (0, 0))).cell (World.block_lt_of_cell? _ _ hx223_2)).trans hx223_2
                                          have hy223_3 := ((below_alloc (Below.refl _ _) (.cells #[.int .i64 (rd_T24 t216 x134_4).f0, .int .i64 (rd_T24 t216 x134_4).f1, .int .i64 (rd_T24 t216 x134_4).f2, .int .i64 (rd_T24 t216 x134_4).f3, .string (rd_T24 t216 x134_4).f4] 24 (0, 0))).cell (World.block_lt_of_cell? _ _ hx223_3)).trans hx223_3
                                          have hy223_4 := ((below_alloc (Below.refl _ _) (.cells #[.int .i64 (rd_T24 t216 x134_4).f0, .int .i64 (rd_T24 t216 x134_4).f1, .int .i64 (rd_T24 t216 x134_4).f2, .int .i64 (rd_T24 t216 x134_4).f3, .string (rd_T24 t216 x134_4).f4] 24 (0, 0))).cell (World.block_lt_of_cell? _ _ hx223_4)).trans hx223_4
                                          go_wp2
                                          repeat (go_quiet (fail); try go_wp2)
                                          go_roundg k4
                                          case measure => have := HJ6.out; have := HK2.out; have := HJ57.out; have := HK4.out; omega
                                          case rel => exact ⟨(wrap64 (x134_4 + 1)), (by first | rfl | (simp; done) | (simp [*]; done) | (simp [wrap64]; done)), (by first | with_reducible exact H' | exact H' | (subst_vars; exact H')), ⟨by have := HJ6.out; have := HK2.out; have := HJ57.out; have := HK4.out; omega⟩, ⟨by (with_reducible repeat (first | apply Kd.R_alloc | apply Kd.R_drewN | apply Kd.R_drew)); exact HO_5.out⟩, ⟨by (with_reducible repeat (first | apply Kd.R_alloc | apply Kd.R_drewN | apply Kd.R_drew)); exact HO_132.out⟩, ⟨by repeat (first | (with_reducible first | exact HB.out | apply below_alloc | apply pw_below_drewN | apply below_drew1 | refine below_set ?_ GE222.out) | exact HB.out)⟩⟩
                                        · rw [if_neg c72] at H
                                          have c72b0 : (((rd_T24 t216 x134_4).f4).toList == ((rd_T24 t206 x134_4).f4).toList) = false := beq_eq_false_iff_ne.mpr c72
                                          have c72b1 : (((rd_T24 t216 x134_4).f4).toList != ((rd_T24 t206 x134_4).f4).toList) = true := bne_iff_ne.mpr c72
                                          obtain rfl := Option.some.inj H
                                          have p221 : 0 ≤ (x134_4 : Int) := of_decide_eq_true (by first | (with_reducible assumption) | assumption)
                                          have q221 : x134_4 < (t216.length : Int) := of_decide_eq_true (by first | (with_reducible assumption) | assumption)
                                          obtain ⟨ad221, e221, hx221_0, hx221_1, hx221_2, hx221_3, hx221_4⟩ := at_T24 (Kd.R_reads' HO_132.out).2.2 x134_4 p221 q221
                                          cases e221
                                          replace p221 := eq_true p221
                                          replace q221 := eq_true q221
                                          have p223 : 0 ≤ (x134_4 : Int) := of_decide_eq_true (by first | (with_reducible assumption) | assumption)
                                          have q223 : x134_4 < (t206.length : Int) := of_decide_eq_true (by first | (with_reducible assumption) | assumption)
                                          obtain ⟨ad223, e223, hx223_0, hx223_1, hx223_2, hx223_3, hx223_4⟩ := at_T24 (Kd.R_reads' HO_5.out).2.2 x134_4 p223 q223
                                          cases e223
                                          replace p223 := eq_true p223
                                          replace q223 := eq_true q223
                                          have hy223_0 := ((below_alloc (Below.refl _ _) (.cells #[.int .i64 (rd_T24 t216 x134_4).f0, .int .i64 (rd_T24 t216 x134_4).f1, .int .i64 (rd_T24 t216 x134_4).f2, .int .i64 (rd_T24 t216 x134_4).f3, .string (rd_T24 t216 x134_4).f4] 24 (0, 0))).cell (World.block_lt_of_cell? _ _ hx223_0)).trans hx223_0
                                          have hy223_1 := ((below_alloc (Below.refl _ _) (.cells #[.int .i64 (rd_T24 t216 x134_4).f0, .int .i64 (rd_T24 t216 x134_4).f1, .int .i64 (rd_T24 t216 x134_4).f2, .int .i64 (rd_T24 t216 x134_4).f3, .string (rd_T24 t216 x134_4).f4] 24 (0, 0))).cell (World.block_lt_of_cell? _ _ hx223_1)).trans hx223_1
                                          have hy223_2 := ((below_alloc (Below.refl _ _) (.cells #[.int .i64 (rd_T24 t216 x134_4).f0, .int .i64 (rd_T24 t216 x134_4).f1, .int .i64 (rd_T24 t216 x134_4).f2, .int .i64 (rd_T24 t216 x134_4).f3, .string (rd_T24 t216 x134_4).f4] 24 (0, 0))).cell (World.block_lt_of_cell? _ _ hx223_2)).trans hx223_2
                                          have hy223_3 := ((below_alloc (Below.refl _ _) (.cells #[.int .i64 (rd_T24 t216 x134_4).f0, .int .i64 (rd_T24 t216 x134_4).f1, .int .i64 (rd_T24 t216 x134_4).f2, .int .i64 (rd_T24 t216 x134_4).f3, .string (rd_T24 t216 x134_4).f4] 24 (0, 0))).cell (World.block_lt_of_cell? _ _ hx223_3)).trans hx223_3
                                          have hy223_4 := ((below_alloc (Below.refl _ _) (.cells #[.int .i64 (rd_T24 t216 x134_4).f0, .int .i64 (rd_T24 t216 x134_4).f1, .int .i64 (rd_T24 t216 x134_4).f2, .int .i64 (rd_T24 t216 x134_4).f3, .string (rd_T24 t216 x134_4).f4] 24 (0, 0))).cell (World.block_lt_of_cell? _ _ hx223_4)).trans hx223_4
                                          go_wp2
                                          repeat (go_quiet (fail); try go_wp2)
                                          go_ret
                                          exact ⟨by first | rfl | (simp [errW_none, errW_some] <;> rfl) | (simp [*, errW_none, errW_some] <;> rfl), by repeat (first | (with_reducible first | exact HB.out | apply below_alloc | apply pw_below_drewN | apply below_drew1 | refine below_set ?_ GE222.out) | exact HB.out)⟩
                                      · rw [if_neg c71] at H
                                        have c71b0 : (((rd_T24 t216 x134_4).f3) == ((rd_T24 t206 x134_4).f3)) = false := beq_eq_false_iff_ne.mpr c71
                                        have c71b1 : (((rd_T24 t216 x134_4).f3) != ((rd_T24 t206 x134_4).f3)) = true := bne_iff_ne.mpr c71
                                        obtain rfl := Option.some.inj H
                                        have p221 : 0 ≤ (x134_4 : Int) := of_decide_eq_true (by first | (with_reducible assumption) | assumption)
                                        have q221 : x134_4 < (t216.length : Int) := of_decide_eq_true (by first | (with_reducible assumption) | assumption)
                                        obtain ⟨ad221, e221, hx221_0, hx221_1, hx221_2, hx221_3, hx221_4⟩ := at_T24 (Kd.R_reads' HO_132.out).2.2 x134_4 p221 q221
                                        cases e221
                                        replace p221 := eq_true p221
                                        replace q221 := eq_true q221
                                        have p223 : 0 ≤ (x134_4 : Int) := of_decide_eq_true (by first | (with_reducible assumption) | assumption)
                                        have q223 : x134_4 < (t206.length : Int) := of_decide_eq_true (by first | (with_reducible assumption) | assumption)
                                        obtain ⟨ad223, e223, hx223_0, hx223_1, hx223_2, hx223_3, hx223_4⟩ := at_T24 (Kd.R_reads' HO_5.out).2.2 x134_4 p223 q223
                                        cases e223
                                        replace p223 := eq_true p223
                                        replace q223 := eq_true q223
                                        have hy223_0 := ((below_alloc (Below.refl _ _) (.cells #[.int .i64 (rd_T24 t216 x134_4).f0, .int .i64 (rd_T24 t216 x134_4).f1, .int .i64 (rd_T24 t216 x134_4).f2, .int .i64 (rd_T24 t216 x134_4).f3, .string (rd_T24 t216 x134_4).f4] 24 (0, 0))).cell (World.block_lt_of_cell? _ _ hx223_0)).trans hx223_0
                                        have hy223_1 := ((below_alloc (Below.refl _ _) (.cells #[.int .i64 (rd_T24 t216 x134_4).f0, .int .i64 (rd_T24 t216 x134_4).f1, .int .i64 (rd_T24 t216 x134_4).f2, .int .i64 (rd_T24 t216 x134_4).f3, .string (rd_T24 t216 x134_4).f4] 24 (0, 0))).cell (World.block_lt_of_cell? _ _ hx223_1)).trans hx223_1
                                        have hy223_2 := ((below_alloc (Below.refl _ _) (.cells #[.int .i64 (rd_T24 t216 x134_4).f0, .int .i64 (rd_T24 t216 x134_4).f1, .int .i64 (rd_T24 t216 x134_4).f2, .int .i64 (rd_T24 t216 x134_4).f3, .string (rd_T24 t216 x134_4).f4] 24 (0, 0))).cell (World.block_lt_of_cell? _ _ hx223_2)).trans hx223_2
                                        have hy223_3 := ((below_alloc (Below.refl _ _) (.cells #[.int .i64 (rd_T24 t216 x134_4).f0, .int .i64 (rd_T24 t216 x134_4).f1, .int .i64 (rd_T24 t216 x134_4).f2, .int .i64 (rd_T24 t216 x134_4).f3, .string (rd_T24 t216 x134_4).f4] 24 (0, 0))).cell (World.block_lt_of_cell? _ _ hx223_3)).trans hx223_3
                                        have hy223_4 := ((below_alloc (Below.refl _ _) (.cells #[.int .i64 (rd_T24 t216 x134_4).f0, .int .i64 (rd_T24 t216 x134_4).f1, .int .i64 (rd_T24 t216 x134_4).f2, .int .i64 (rd_T24 t216 x134_4).f3, .string (rd_T24 t216 x134_4).f4] 24 (0, 0))).cell (World.block_lt_of_cell? _ _ hx223_4)).trans hx223_4
                                        go_wp2
                                        repeat (go_quiet (fail); try go_wp2)
                                        go_ret
                                        exact ⟨by first | rfl | (simp [errW_none, errW_some] <;> rfl) | (simp [*, errW_none, errW_some] <;> rfl), by repeat (first | (with_reducible first | exact HB.out | apply below_alloc | apply pw_below_drewN | apply below_drew1 | refine below_set ?_ GE222.out) | exact HB.out)⟩
                                    · rw [if_neg c70] at H
                                      have c70b0 : (((rd_T24 t216 x134_4).f0) == ((rd_T24 t206 x134_4).f0)) = false := beq_eq_false_iff_ne.mpr c70
                                      have c70b1 : (((rd_T24 t216 x134_4).f0) != ((rd_T24 t206 x134_4).f0)) = true := bne_iff_ne.mpr c70
                                      obtain rfl := Option.some.inj H
                                      have p221 : 0 ≤ (x134_4 : Int) := of_decide_eq_true (by first | (with_reducible assumption) | assumption)
                                      have q221 : x134_4 < (t216.length : Int) := of_decide_eq_true (by first | (with_reducible assumption) | assumption)
                                      obtain ⟨ad221, e221, hx221_0, hx221_1, hx221_2, hx221_3, hx221_4⟩ := at_T24 (Kd.R_reads' HO_132.out).2.2 x134_4 p221 q221
                                      cases e221
                                      replace p221 := eq_true p221
                                      replace q221 := eq_true q221
                                      have p223 : 0 ≤ (x134_4 : Int) := of_decide_eq_true (by first | (with_reducible assumption) | assumption)
                                      have q223 : x134_4 < (t206.length : Int) := of_decide_eq_true (by first | (with_reducible assumption) | assumption)
                                      obtain ⟨ad223, e223, hx223_0, hx223_1, hx223_2, hx223_3, hx223_4⟩ := at_T24 (Kd.R_reads' HO_5.out).2.2 x134_4 p223 q223
                                      cases e223
                                      replace p223 := eq_true p223
                                      replace q223 := eq_true q223
                                      have hy223_0 := ((below_alloc (Below.refl _ _) (.cells #[.int .i64 (rd_T24 t216 x134_4).f0, .int .i64 (rd_T24 t216 x134_4).f1, .int .i64 (rd_T24 t216 x134_4).f2, .int .i64 (rd_T24 t216 x134_4).f3, .string (rd_T24 t216 x134_4).f4] 24 (0, 0))).cell (World.block_lt_of_cell? _ _ hx223_0)).trans hx223_0
                                      have hy223_1 := ((below_alloc (Below.refl _ _) (.cells #[.int .i64 (rd_T24 t216 x134_4).f0, .int .i64 (rd_T24 t216 x134_4).f1, .int .i64 (rd_T24 t216 x134_4).f2, .int .i64 (rd_T24 t216 x134_4).f3, .string (rd_T24 t216 x134_4).f4] 24 (0, 0))).cell (World.block_lt_of_cell? _ _ hx223_1)).trans hx223_1
                                      have hy223_2 := ((below_alloc (Below.refl _ _) (.cells #[.int .i64 (rd_T24 t216 x134_4).f0, .int .i64 (rd_T24 t216 x134_4).f1, .int .i64 (rd_T24 t216 x134_4).f2, .int .i64 (rd_T24 t216 x134_4).f3, .string (rd_T24 t216 x134_4).f4] 24 (0, 0))).cell (World.block_lt_of_cell? _ _ hx223_2)).trans hx223_2
                                      have hy223_3 := ((below_alloc (Below.refl _ _) (.cells #[.int .i64 (rd_T24 t216 x134_4).f0, .int .i64 (rd_T24 t216 x134_4).f1, .int .i64 (rd_T24 t216 x134_4).f2, .int .i64 (rd_T24 t216 x134_4).f3, .string (rd_T24 t216 x134_4).f4] 24 (0, 0))).cell (World.block_lt_of_cell? _ _ hx223_3)).trans hx223_3
                                      have hy223_4 := ((below_alloc (Below.refl _ _) (.cells #[.int .i64 (rd_T24 t216 x134_4).f0, .int .i64 (rd_T24 t216 x134_4).f1, .int .i64 (rd_T24 t216 x134_4).f2, .int .i64 (rd_T24 t216 x134_4).f3, .string (rd_T24 t216 x134_4).f4] 24 (0, 0))).cell (World.block_lt_of_cell? _ _ hx223_4)).trans hx223_4
                                      go_wp2
                                      repeat (go_quiet (fail); try go_wp2)
                                      go_ret
                                      exact ⟨by first | rfl | (simp [errW_none, errW_some] <;> rfl) | (simp [*, errW_none, errW_some] <;> rfl), by repeat (first | (with_reducible first | exact HB.out | apply below_alloc | apply pw_below_drewN | apply below_drew1 | refine below_set ?_ GE222.out) | exact HB.out)⟩
                                  · rw [if_neg c69] at H
                                    exact absurd H (by simp)
                                · rw [if_neg c68] at H
                                  exact absurd H (by simp)
                              · rw [if_neg c67] at H
                                exact absurd H (by simp)
                            · rw [if_neg c66] at H
                              have c66b0 : decide (x134_4 < (t216.length : Int)) = false := decide_eq_false c66
                              clear c66
                              replace H := Option.bind_eq_some_iff.mp H
                              obtain ⟨t226, A810, H⟩ := H
                              replace H : (some t226) = some r := H
                              have A81 := Aside0.mk A810
                              clear A810
                              obtain rfl := Option.some.inj H
                              go_wp2_with (first | (go_at_call 6; (with_reducible refine (sealringlaw06_lives.calls  t226 _ A81.out).mono ?_); rintro e w82 ⟨rfl, hb⟩; have n0_ := Aside0.mk (Kd.R_below (by (with_reducible repeat (first | apply Kd.R_alloc | apply Kd.R_drewN | apply Kd.R_drew)); exact HO_5.out) hb); have n1_ := Aside0.mk (Kd.R_below (by (with_reducible repeat (first | apply Kd.R_alloc | apply Kd.R_drewN | apply Kd.R_drew)); exact HO_132.out) hb); have n2_ := Aside0.mk (below_step (by repeat (first | (with_reducible first | exact HB.out | apply below_alloc | apply pw_below_drewN | apply below_drew1) | exact HB.out)) hb); clear HO_5; clear HO_132; clear HB; have HO_5 := n0_; have HO_132 := n1_; have HB := n2_; clear n0_ n1_ n2_; (try clear hb); (try clear hb2); (try clear hk); (try clear hi)))
                              repeat (go_quiet (first | (go_at_call 6; (with_reducible refine (sealringlaw06_lives.calls  t226 _ A81.out).mono ?_); rintro e w82 ⟨rfl, hb⟩; have n0_ := Aside0.mk (Kd.R_below (by (with_reducible repeat (first | apply Kd.R_alloc | apply Kd.R_drewN | apply Kd.R_drew)); exact HO_5.out) hb); have n1_ := Aside0.mk (Kd.R_below (by (with_reducible repeat (first | apply Kd.R_alloc | apply Kd.R_drewN | apply Kd.R_drew)); exact HO_132.out) hb); have n2_ := Aside0.mk (below_step (by repeat (first | (with_reducible first | exact HB.out | apply below_alloc | apply pw_below_drewN | apply below_drew1) | exact HB.out)) hb); clear HO_5; clear HO_132; clear HB; have HO_5 := n0_; have HO_132 := n1_; have HB := n2_; clear n0_ n1_ n2_; (try clear hb); (try clear hb2); (try clear hk); (try clear hi))); try go_wp2_with (first | (go_at_call 6; (with_reducible refine (sealringlaw06_lives.calls  t226 _ A81.out).mono ?_); rintro e w82 ⟨rfl, hb⟩; have n0_ := Aside0.mk (Kd.R_below (by (with_reducible repeat (first | apply Kd.R_alloc | apply Kd.R_drewN | apply Kd.R_drew)); exact HO_5.out) hb); have n1_ := Aside0.mk (Kd.R_below (by (with_reducible repeat (first | apply Kd.R_alloc | apply Kd.R_drewN | apply Kd.R_drew)); exact HO_132.out) hb); have n2_ := Aside0.mk (below_step (by repeat (first | (with_reducible first | exact HB.out | apply below_alloc | apply pw_below_drewN | apply below_drew1) | exact HB.out)) hb); clear HO_5; clear HO_132; clear HB; have HO_5 := n0_; have HO_132 := n1_; have HB := n2_; clear n0_ n1_ n2_; (try clear hb); (try clear hb2); (try clear hk); (try clear hi))))
                              go_ret
                              exact ⟨by first | rfl | (simp [errW_none, errW_some] <;> rfl) | (simp [*, errW_none, errW_some] <;> rfl), by repeat (first | (with_reducible first | exact HB.out | apply below_alloc | apply pw_below_drewN | apply below_drew1) | exact HB.out)⟩
                · rw [if_neg c56] at H
                  exact absurd H (by simp)
def sealringlaw06_LexBlanks.Pure : Prop := ∀ (a0 : ByteArray) (l1 : List Int), a0.size ≤ 140737488351232 → l1.length ≤ maxLen → l1.length * 1 ≤ 140737488351232 → (∀ x ∈ l1, (Lit.int .u8 x).wf = true) → ∃ k, sealringlaw06_LexBlanks.f k a0 l1 = some true
theorem sealringlaw06_LexBlanks.walk (P : sealringlaw06_LexBlanks.Pure) (a0 : ByteArray) (a1 : Option Addr) (len1 cap1 : Nat) (z1 : List Int) (w : World) (w0 : a0.size ≤ 140737488351232) (w1 : (a1 = none ∧ len1 = 0 ∧ cap1 = 0 ∧ z1 = []) ∨ ∃ x, a1 = some x ∧ len1 ≤ cap1 ∧ cap1 ≤ maxLen ∧ z1.length = cap1 ∧ (∀ i, i < z1.length → w.cell? (x.add i) = some (.int .u8 (z1.getD i 0))) ∧ ∀ n ∈ z1, (Lit.int .u8 n).wf = true) (y1 : len1 * 1 ≤ 140737488351232) :
    Calls Try.prog 5 #[.string a0, .slice a1 len1 cap1] w fun e w' => e = .returned (.bool true) ∧ Below w.heap.size w w' := by
  obtain ⟨l1, rfl, hr1, hm1, hw1, hc1⟩ := ReadsInt.ofRowC w1
  obtain ⟨k, h⟩ := P a0 l1 w0 hm1 y1 hw1
  refine (sealringlaw06_LexBlanks.calls k a0 _ _ l1 true w (Kd.C_of_reads (d := (0 : Int)) (h1 := fun _ => rfl) hr1) hc1 h).mono ?_
  rintro e w' ⟨rfl, hd⟩
  exact ⟨rfl, hd⟩
end Go.Proofs.Ytjdgjifacdnkgaa.X
end
section
namespace Go.Proofs.Ytjdgjifacdnkgaa.X
open Go.RowKit Go.Proofs.YtjdgjifacdnkgaaW.PrintWords Go.Proofs.YtjdgjifacdnkgaaW.PrintLast Go.Proofs.YtjdgjifacdnkgaaW.PrintMore
attribute [local go_sem] max2_int min2_int max_two min_two max_three min_three max_four min_four
set_option linter.unusedVariables false
set_option linter.unusedSimpArgs false
def sealringref04_small.j0 : Nat → Int → Bool → Option (Int)
  | 0, _, _ => none
  | k + 1, x0, x8 => if x8 = true then (some ((x0) % 256)) else (if x0 = 8 then (some 98) else (if x0 = 9 then (some 116) else (if x0 = 10 then (some 110) else (if x0 = 12 then (some 102) else (if x0 = 13 then (some 114) else (some 0))))))
def sealringref04_small.f (k : Nat) (a0 : Int) : Option (Int) := if a0 = 34 then (sealringref04_small.j0 k a0 true) else (sealringref04_small.j0 k a0 (a0 == 92))
theorem sealringref04_small.mono_l : ∀ k, (∀ y0 y1, LeO (sealringref04_small.j0 k y0 y1) (sealringref04_small.j0 (k + 1) y0 y1))
  | 0 => fun _ _ r h => by simp [sealringref04_small.j0] at h
  | k + 1 => by
    have ih0 := sealringref04_small.mono_l k
    · intro y0 y1
      unfold sealringref04_small.j0
      repeat' first
      | (with_reducible exact ih0 _ _)
      | (with_reducible exact LeO.refl _)
      | (with_reducible exact LeO.none _)
      | (with_reducible refine LeO.ite ?_ ?_)
      | (with_reducible refine LeO.bind ?_ (fun _ => ?_))
      | exact ih0 _ _
      | exact LeO.none _
      | refine LeO.ite ?_ ?_
      | refine LeO.bind ?_ (fun _ => ?_)
theorem sealringref04_small.mono : ∀ a0 k, LeO (sealringref04_small.f k a0) (sealringref04_small.f (k + 1) a0) := by
  intro a0 k
  have ih0 := sealringref04_small.mono_l k
  unfold sealringref04_small.f
  repeat' first
      | (with_reducible exact ih0 _ _)
      | (with_reducible exact LeO.refl _)
      | (with_reducible exact LeO.none _)
      | (with_reducible refine LeO.ite ?_ ?_)
      | (with_reducible refine LeO.bind ?_ (fun _ => ?_))
      | exact ih0 _ _
      | exact LeO.none _
      | refine LeO.ite ?_ ?_
      | refine LeO.bind ?_ (fun _ => ?_)
set_option maxHeartbeats 8000000 in
set_option maxRecDepth 100000 in
theorem sealringref04_small.calls (k : Nat) (a0 : Int) (r : Int) (w : World) (h : sealringref04_small.f k a0 = some r) :
    Calls Try.prog 41 #[.int .i64 a0] w fun e w' => e = .returned (.int .u8 r) ∧ Drawn0 w w' := by
  have H : (if a0 = 34 then (sealringref04_small.j0 k a0 true) else (sealringref04_small.j0 k a0 (a0 == 92))) = some r := h
  clear h
  have HC2 := Aside0.mk H
  clear H
  go_enter Try.func41, Try.ntmps41
  go_upto_region 1 with (fail)
  go_cut [8] (fun v8 wc => ∃ (kq : Nat) (x8_1 : Bool), v8 = .bool x8_1 ∧ Aside0 (sealringref04_small.j0 kq a0 x8_1 = some r) ∧ Aside0 (kq ≤ k) ∧ Drawn0 w wc)
  case first =>
    have H := HC2.out
    clear HC2
    by_cases c3 : a0 = 34
    · rw [if_pos c3] at H
      have c3b0 : (a0 == 34) = true := beq_iff_eq.mpr c3
      have c3b1 : (a0 != 34) = false := bne_eq_false_iff_eq.mpr c3
      clear c3
      (first | rw [c3b0] | (simp only [i64_w, i32_w]; rw [c3b0]) | skip)
      have H' := Aside0.mk H
      clear H
      go_wp2
      go_meet
      case rel => exact ⟨_, (true), (by first | rfl | (simp; done) | (simp [*]; done) | (simp [wrap64]; done)), (by first | with_reducible exact H' | exact H' | (subst_vars; exact H')), ⟨by first | omega | exact Nat.le_refl _⟩, by repeat (first | exact Drawn0.refl _ | apply Drawn0.step)⟩
    · rw [if_neg c3] at H
      have c3b0 : (a0 == 34) = false := beq_eq_false_iff_ne.mpr c3
      have c3b1 : (a0 != 34) = true := bne_iff_ne.mpr c3
      (first | rw [c3b0] | (simp only [i64_w, i32_w]; rw [c3b0]) | skip)
      have H' := Aside0.mk H
      clear H
      go_wp2
      go_meet
      case rel => exact ⟨_, ((a0 == 92)), (by first | rfl | (simp; done) | (simp [*]; done) | (simp [wrap64]; done)), (by first | with_reducible exact H' | exact H' | (subst_vars; exact H')), ⟨by first | omega | exact Nat.le_refl _⟩, by repeat (first | exact Drawn0.refl _ | apply Drawn0.step)⟩
  case rest =>
    clear HC2
    try clear p2
    try clear c3
    try clear c3b0
    try clear c3b1
    obtain ⟨kq, x8_1, rfl, HA, HJ1, ⟨mc1, rfl⟩⟩ := hcut
    cases kq with
    | zero => exact absurd HA.out (by simp [sealringref04_small.j0])
    | succ kj1 =>
      have H := HA.out
      clear HA
      simp only [sealringref04_small.j0] at H
      by_cases c4 : x8_1 = true
      · subst c4
        have H1 : (some ((a0) % 256)) = some r := by rw [if_pos rfl] at H; exact H
        clear H
        have H := H1
        clear H1
        obtain rfl := Option.some.inj H
        go_wp2
        go_ret
        exact ⟨by first | rfl | (simp; done) | (simp [*]; done), by repeat (first | exact Drawn0.refl _ | apply Drawn0.step)⟩
      · replace c4 := Bool.eq_false_iff.mpr c4
        subst c4
        have H1 : (if a0 = 8 then (some 98) else (if a0 = 9 then (some 116) else (if a0 = 10 then (some 110) else (if a0 = 12 then (some 102) else (if a0 = 13 then (some 114) else (some 0)))))) = some r := by rw [if_neg (show ¬ (false = true) by decide)] at H; exact H
        clear H
        have H := H1
        clear H1
        by_cases c5 : a0 = 8
        · rw [if_pos c5] at H
          have c5b0 : (a0 == 8) = true := beq_iff_eq.mpr c5
          have c5b1 : (a0 != 8) = false := bne_eq_false_iff_eq.mpr c5
          clear c5
          obtain rfl := Option.some.inj H
          go_wp2
          go_ret
          exact ⟨by first | rfl | (simp; done) | (simp [*]; done), by repeat (first | exact Drawn0.refl _ | apply Drawn0.step)⟩
        · rw [if_neg c5] at H
          have c5b0 : (a0 == 8) = false := beq_eq_false_iff_ne.mpr c5
          have c5b1 : (a0 != 8) = true := bne_iff_ne.mpr c5
          by_cases c6 : a0 = 9
          · rw [if_pos c6] at H
            have c6b0 : (a0 == 9) = true := beq_iff_eq.mpr c6
            have c6b1 : (a0 != 9) = false := bne_eq_false_iff_eq.mpr c6
            clear c6
            obtain rfl := Option.some.inj H
            go_wp2
            go_ret
            exact ⟨by first | rfl | (simp; done) | (simp [*]; done), by repeat (first | exact Drawn0.refl _ | apply Drawn0.step)⟩
          · rw [if_neg c6] at H
            have c6b0 : (a0 == 9) = false := beq_eq_false_iff_ne.mpr c6
            have c6b1 : (a0 != 9) = true := bne_iff_ne.mpr c6
            by_cases c7 : a0 = 10
            · rw [if_pos c7] at H
              have c7b0 : (a0 == 10) = true := beq_iff_eq.mpr c7
              have c7b1 : (a0 != 10) = false := bne_eq_false_iff_eq.mpr c7
              clear c7
              obtain rfl := Option.some.inj H
              go_wp2
              go_ret
              exact ⟨by first | rfl | (simp; done) | (simp [*]; done), by repeat (first | exact Drawn0.refl _ | apply Drawn0.step)⟩
            · rw [if_neg c7] at H
              have c7b0 : (a0 == 10) = false := beq_eq_false_iff_ne.mpr c7
              have c7b1 : (a0 != 10) = true := bne_iff_ne.mpr c7
              by_cases c8 : a0 = 12
              · rw [if_pos c8] at H
                have c8b0 : (a0 == 12) = true := beq_iff_eq.mpr c8
                have c8b1 : (a0 != 12) = false := bne_eq_false_iff_eq.mpr c8
                clear c8
                obtain rfl := Option.some.inj H
                go_wp2
                go_ret
                exact ⟨by first | rfl | (simp; done) | (simp [*]; done), by repeat (first | exact Drawn0.refl _ | apply Drawn0.step)⟩
              · rw [if_neg c8] at H
                have c8b0 : (a0 == 12) = false := beq_eq_false_iff_ne.mpr c8
                have c8b1 : (a0 != 12) = true := bne_iff_ne.mpr c8
                by_cases c9 : a0 = 13
                · rw [if_pos c9] at H
                  have c9b0 : (a0 == 13) = true := beq_iff_eq.mpr c9
                  have c9b1 : (a0 != 13) = false := bne_eq_false_iff_eq.mpr c9
                  clear c9
                  obtain rfl := Option.some.inj H
                  go_wp2
                  go_ret
                  exact ⟨by first | rfl | (simp; done) | (simp [*]; done), by repeat (first | exact Drawn0.refl _ | apply Drawn0.step)⟩
                · rw [if_neg c9] at H
                  have c9b0 : (a0 == 13) = false := beq_eq_false_iff_ne.mpr c9
                  have c9b1 : (a0 != 13) = true := bne_iff_ne.mpr c9
                  obtain rfl := Option.some.inj H
                  go_wp2
                  go_ret
                  exact ⟨by first | rfl | (simp; done) | (simp [*]; done), by repeat (first | exact Drawn0.refl _ | apply Drawn0.step)⟩
end Go.Proofs.Ytjdgjifacdnkgaa.X
end
