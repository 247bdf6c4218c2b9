import Derived.Test.YtijfbnkohnlmaaaC04C2
import Derived.Lib.AppendStr
import Derived.Deep.RegionHeld3
import Derived.Defers
import Derived.Recover
import Derived.RegionTactic
section
namespace Go.Proofs.Ytijfbnkohnlmaaa.X
open Go.RowKit Go.Proofs.YtijfbnkohnlmaaaW.PrintWords Go.Proofs.YtijfbnkohnlmaaaW.PrintLast
set_option linter.unusedVariables false
set_option linter.unusedSimpArgs false
theorem utf_sz_of {v : Int} : (0 ≤ v ∧ v < 128 → utf_sz v = 1) ∧ (128 ≤ v ∧ v < 2048 → utf_sz v = 2) := by
  refine ⟨fun h => ?_, fun h => ?_⟩
  · unfold utf_sz; rw [if_neg (by omega), if_pos h.2]
  · unfold utf_sz; rw [if_neg (by omega), if_neg (by omega), if_pos h.2]
theorem utf_sz_3 {v : Int} (h : utf_sz v = 3) : 2048 ≤ v ∧ v < 65536 ∧ (v < 55296 ∨ v > 57343) := by
  unfold utf_sz at h
  have c0 : ¬ (v < 0 ∨ v > 1114111 ∨ v ≥ 55296 ∧ v ≤ 57343) := fun c => by rw [if_pos c] at h; omega
  rw [if_neg c0] at h
  have c1 : ¬ v < 128 := fun c => by rw [if_pos c] at h; omega
  rw [if_neg c1] at h
  have c2 : ¬ v < 2048 := fun c => by rw [if_pos c] at h; omega
  rw [if_neg c2] at h
  have c3 : v < 65536 := by
    by_cases c : v < 65536
    · exact c
    · rw [if_neg c] at h; omega
  omega
theorem utf_sz_4 {v : Int} (h : utf_sz v = 4) : 65536 ≤ v ∧ v ≤ 1114111 := by
  unfold utf_sz at h
  have c0 : ¬ (v < 0 ∨ v > 1114111 ∨ v ≥ 55296 ∧ v ≤ 57343) := fun c => by rw [if_pos c] at h; omega
  rw [if_neg c0] at h
  have c1 : ¬ v < 128 := fun c => by rw [if_pos c] at h; omega
  rw [if_neg c1] at h
  have c2 : ¬ v < 2048 := fun c => by rw [if_pos c] at h; omega
  rw [if_neg c2] at h
  have c3 : ¬ v < 65536 := fun c => by rw [if_pos c] at h; omega
  omega
theorem dec_form {s : ByteArray} {a : Nat} {v : Int} {n : Nat} (h : dec s a = some (v, n)) : a < s.size ∧ a + n ≤ s.size ∧ utf_sz v = (n : Int) ∧
    ((n = 1 ∧ 0 ≤ v ∧ v < 128 ∧ bt s a = v) ∨ (n = 2 ∧ 128 ≤ v ∧ v < 2048 ∧ bt s a = 192 + v / 64 ∧ bt s (a + 1 : Nat) = 128 + v % 64) ∨
     (n = 3 ∧ 2048 ≤ v ∧ v < 65536 ∧ bt s a = 224 + v / 4096 ∧ bt s (a + 1 : Nat) = 128 + v / 64 % 64 ∧ bt s (a + 2 : Nat) = 128 + v % 64) ∨
     (n = 4 ∧ 65536 ≤ v ∧ v ≤ 1114111 ∧ bt s a = 240 + v / 262144 ∧ bt s (a + 1 : Nat) = 128 + v / 4096 % 64 ∧ bt s (a + 2 : Nat) = 128 + v / 64 % 64 ∧ bt s (a + 3 : Nat) = 128 + v % 64)) := by
  have b0 := bt_range s (a : Int)
  unfold dec at h
  by_cases c0 : a < s.size
  · rw [if_neg (show ¬ ¬ a < s.size by omega)] at h
    by_cases c1 : bt s a < 128
    · rw [if_pos c1] at h
      obtain ⟨rfl, rfl⟩ := Prod.mk.inj (Option.some.inj h)
      exact ⟨c0, by omega, utf_sz_of.1 ⟨b0.1, c1⟩, .inl ⟨rfl, b0.1, c1, rfl⟩⟩
    · rw [if_neg c1] at h
      by_cases c2 : 194 ≤ bt s a ∧ bt s a < 224
      · rw [if_pos c2] at h
        by_cases d : a + 2 ≤ s.size ∧ vC (bt s (a + 1 : Nat)) = true
        · rw [if_pos d] at h
          obtain ⟨rfl, rfl⟩ := Prod.mk.inj (Option.some.inj h)
          have d1 := vC_iff.1 d.2
          exact ⟨c0, d.1, utf_sz_of.2 (by omega), .inr (.inl ⟨rfl, by omega, by omega, by omega, by omega⟩)⟩
        · rw [if_neg d] at h; cases h
      · rw [if_neg c2] at h
        by_cases c3 : 224 ≤ bt s a ∧ bt s a < 240
        · rw [if_pos c3] at h
          split at h
          · rename_i d
            obtain ⟨rfl, rfl⟩ := Prod.mk.inj (Option.some.inj h)
            have d1 := vC_iff.1 d.2.1
            have d2 := vC_iff.1 d.2.2.1
            have d3 := utf_sz_3 d.2.2.2
            exact ⟨c0, d.1, d.2.2.2, .inr (.inr (.inl ⟨rfl, by omega, by omega, by omega, by omega, by omega⟩))⟩
          · cases h
        · rw [if_neg c3] at h
          by_cases c4 : 240 ≤ bt s a ∧ bt s a < 245
          · rw [if_pos c4] at h
            split at h
            · rename_i d
              obtain ⟨rfl, rfl⟩ := Prod.mk.inj (Option.some.inj h)
              have d1 := vC_iff.1 d.2.1
              have d2 := vC_iff.1 d.2.2.1
              have d3 := vC_iff.1 d.2.2.2.1
              have d4 := utf_sz_4 d.2.2.2.2
              exact ⟨c0, d.1, d.2.2.2.2, .inr (.inr (.inr ⟨rfl, by omega, by omega, by omega, by omega, by omega, by omega⟩))⟩
            · cases h
          · rw [if_neg c4] at h; cases h
  · rw [if_pos c0] at h; cases h
theorem dec_range {s : ByteArray} {a : Nat} {v : Int} {n : Nat} (h : dec s a = some (v, n)) : 1 ≤ n ∧ n ≤ 4 ∧ 0 ≤ v ∧ v ≤ 1114111 := by
  have := (dec_form h).2.2.2
  omega
def decs (s : ByteArray) : Nat → Nat → List (Nat × Int) × Nat
  | 0, a => ([], a)
  | f + 1, a => match dec s a with | none => ([], a) | some (v, n) => ((a, v) :: (decs s f (a + n)).1, (decs s f (a + n)).2)
section
variable (s : ByteArray) (hs : s.size ≤ 140737488351232)
include hs
theorem uAll_go : ∀ (f a : Nat), s.size < f + a → Ev (fun k => utf_All.l0 k s (a : Int)) ((decs s f a).1.map (fun x => ((x.1 : Int), x.2)), ((decs s f a).2 : Int)) := by
  intro f
  induction f with
  | zero =>
    intro a ha
    refine Ev.step (f := fun _ => some ([], (a : Int))) (fun k => ?_) (Ev.now _)
    rw [utf_All.l0, if_neg (by omega)]
  | succ f ih =>
    intro a ha
    by_cases c : a < s.size
    · refine Ev.step (f := fun k => (utf_Next.f k s (a : Int)).bind fun x => if x.2.2 = true then (utf_All.l0 k s (wrap64 ((a : Int) + x.2.1))).map fun y => (((a : Int), x.1) :: y.1, y.2) else some ([], (a : Int))) (fun k => ?_) ?_
      · rw [utf_All.l0, if_pos (by omega)]
      · refine Ev.bind (f := fun k x => if x.2.2 = true then (utf_All.l0 k s (wrap64 ((a : Int) + x.2.1))).map fun y => (((a : Int), x.1) :: y.1, y.2) else some ([], (a : Int))) (Next_ev s hs a) ?_
        cases hd : dec s a with
        | none =>
          simp only [decs, hd, decT]
          exact evNeg (by simp) (Ev.now _)
        | some vn =>
          obtain ⟨v, n⟩ := vn
          have hr := dec_range hd
          have hf := dec_form hd
          simp only [decs, hd, decT]
          refine evPos (by trivial) ?_
          have h2 := ih (a + n) (by omega)
          rw [w64 (by omega) (by omega), show (a : Int) + (n : Int) = ((a + n : Nat) : Int) by omega]
          obtain ⟨K, hK⟩ := h2
          refine ⟨K, fun k hk => ?_⟩
          have h3 : utf_All.l0 k s ((a + n : Nat) : Int) = some ((decs s f (a + n)).1.map (fun x => ((x.1 : Int), x.2)), ((decs s f (a + n)).2 : Int)) := hK k hk
          show Option.map _ (utf_All.l0 k s ((a + n : Nat) : Int)) = _
          rw [h3]
          rfl
    · have hd : dec s a = none := by unfold dec; rw [if_pos c]
      simp only [decs, hd]
      refine Ev.step (f := fun _ => some ([], (a : Int))) (fun k => ?_) (Ev.now _)
      rw [utf_All.l0, if_neg (by omega)]
end
def allOf (s : ByteArray) : List (Nat × Int) := (decs s (s.size + 1) 0).1
def endOf (s : ByteArray) : Nat := (decs s (s.size + 1) 0).2
theorem decs_end (s : ByteArray) : ∀ (f a : Nat), ((decs s f a).1 = [] ∧ (decs s f a).2 = a) ∨ ∃ p v n, (decs s f a).1.getLast? = some (p, v) ∧ utf_sz v = ((n : Nat) : Int) ∧ (decs s f a).2 = p + n ∧ p + n ≤ s.size
  | 0, a => .inl ⟨rfl, rfl⟩
  | f + 1, a => by
    cases hd : dec s a with
    | none => exact .inl ⟨by simp only [decs, hd], by simp only [decs, hd]⟩
    | some vn =>
      obtain ⟨v, n⟩ := vn
      have hf := dec_form hd
      right
      simp only [decs, hd]
      rcases decs_end s f (a + n) with ⟨h1, h2⟩ | ⟨p, v', n', h1, h2, h3, h4⟩
      · exact ⟨a, v, n, by rw [h1]; rfl, hf.2.2.1, h2, hf.2.1⟩
      · refine ⟨p, v', n', ?_, h2, h3, h4⟩
        rw [List.getLast?_cons, h1]
        rfl
theorem beq_dec (x y : Nat) : (((x : Int)) == ((y : Int))) = decide (x = y) := by
  by_cases h : x = y
  · subst h; simp
  · rw [decide_eq_false h]
    exact beq_eq_false_iff_ne.2 (fun e => h (by omega))
theorem Valid_ev (s : ByteArray) (hs : s.size ≤ 140737488351232) : Ev (fun k => utf_Valid.f k s) (decide (endOf s = s.size)) := by
  unfold utf_Valid.f
  refine Ev.bind (f := fun k y => some (utf_end y.1 == (s.size : Int))) (uAll_go s hs (s.size + 1) 0 (by omega)) ?_
  have : (utf_end ((decs s (s.size + 1) 0).1.map (fun x => ((x.1 : Int), x.2))) == (s.size : Int)) = decide (endOf s = s.size) := by
    unfold endOf
    rcases decs_end s (s.size + 1) 0 with ⟨h1, h2⟩ | ⟨p, v, n, h1, h2, h3, h4⟩
    · rw [h1, h2]
      exact beq_dec 0 s.size
    · unfold utf_end
      rw [List.getLast?_map, h1]
      simp only [Option.map_some]
      rw [h2, w64 (by omega) (by omega), h3, show (p : Int) + (n : Int) = ((p + n : Nat) : Int) by omega]
      exact beq_dec _ _
  rw [this]
  exact Ev.now _
end Go.Proofs.Ytijfbnkohnlmaaa.X
end
section
namespace Go.Proofs.Ytijfbnkohnlmaaa.X
open Go.RowKit Go.Proofs.YtijfbnkohnlmaaaW.PrintWords Go.Proofs.YtijfbnkohnlmaaaW.PrintLast Go.Proofs.YtijfbnkohnlmaaaW.PrintMore
set_option linter.unusedVariables false
set_option linter.unusedSimpArgs false
theorem or192 : ∀ b : Fin 32, Go.bits .or .u8 192 (b.val : Int) = 192 + (b.val : Int) := by decide +kernel
theorem or224 : ∀ b : Fin 16, Go.bits .or .u8 224 (b.val : Int) = 224 + (b.val : Int) := by decide +kernel
theorem or240 : ∀ b : Fin 8, Go.bits .or .u8 240 (b.val : Int) = 240 + (b.val : Int) := by decide +kernel
theorem or192' {x : Int} (h0 : 0 ≤ x) (h1 : x < 32) : Go.bits .or .u8 192 x = 192 + x := by
  have := or192 ⟨x.toNat, by omega⟩
  simp only at this
  rwa [show ((x.toNat : Nat) : Int) = x by omega] at this
theorem or224' {x : Int} (h0 : 0 ≤ x) (h1 : x < 16) : Go.bits .or .u8 224 x = 224 + x := by
  have := or224 ⟨x.toNat, by omega⟩
  simp only at this
  rwa [show ((x.toNat : Nat) : Int) = x by omega] at this
theorem or240' {x : Int} (h0 : 0 ≤ x) (h1 : x < 8) : Go.bits .or .u8 240 x = 240 + x := by
  have := or240 ⟨x.toNat, by omega⟩
  simp only at this
  rwa [show ((x.toNat : Nat) : Int) = x by omega] at this
theorem shr0 (v : Int) : shr .i32 v 0 = v := by unfold shr; simp
theorem shr6 (v : Int) : shr .i32 v 6 = v / 64 := by unfold shr; simp [IntKind.bits]
theorem shr12 (v : Int) : shr .i32 v 12 = v / 4096 := by unfold shr; simp [IntKind.bits]
theorem shr18 (v : Int) : shr .i32 v 18 = v / 262144 := by unfold shr; simp [IntKind.bits]
theorem isv_sz (v : Int) : (isv v = true → 1 ≤ utf_sz v) ∧ (isv v = false → utf_sz v = 0) := by
  unfold isv utf_sz
  constructor
  · intro h
    have h := of_decide_eq_true h
    rw [if_neg (by omega)]
    repeat' split
    all_goals omega
  · intro h
    have h := of_decide_eq_false h
    rw [if_pos (by omega)]
section
variable (l : List Int) (n : Int)
theorem put_tail0 {x4 : List Int} {v i r1 : Int} {r : ByteArray × Int} (h : Ev (fun k => utf_Put.l0 k x4 l n (wrap64 (i + 1)) 0 0 192 224 240) r) : Ev (fun k => utf_Put.l1 k x4 v (-1) l n i 0 0 192 224 240) r := by
  refine Ev.step (fun k => ?_) h
  rw [utf_Put.l1, if_neg (by omega)]
theorem put_tail1 {x4 : List Int} {v i : Int} {r : ByteArray × Int} (hx : x4.length < 140737488355328) (h : Ev (fun k => utf_Put.l0 k (x4 ++ [128 + v % 64]) l n (wrap64 (i + 1)) 0 0 192 224 240) r) : Ev (fun k => utf_Put.l1 k x4 v 0 l n i 0 0 192 224 240) r := by
  refine Ev.step (fun k => ?_) (put_tail0 l n (v := v) (r1 := 0) h)
  rw [utf_Put.l1, if_pos (by omega), show wrap64 (6 * (0 : Int)) = 0 from w64 (by omega) (by omega), if_pos (by omega), if_pos hx, shr0, show wrap64 ((0 : Int) - 1) = -1 from w64 (by omega) (by omega)]
theorem put_tail2 {x4 : List Int} {v i : Int} {r : ByteArray × Int} (hx : x4.length + 1 < 140737488355328) (h : Ev (fun k => utf_Put.l0 k (x4 ++ [128 + v / 64 % 64, 128 + v % 64]) l n (wrap64 (i + 1)) 0 0 192 224 240) r) : Ev (fun k => utf_Put.l1 k x4 v 1 l n i 0 0 192 224 240) r := by
  refine Ev.step (fun k => ?_) (put_tail1 l n (x4 := x4 ++ [128 + v / 64 % 64]) (v := v) (by simp; omega) (by simpa [List.append_assoc] using h))
  rw [utf_Put.l1, if_pos (by omega), show wrap64 (6 * (1 : Int)) = 6 from w64 (by omega) (by omega), if_pos (by omega), if_pos (by omega), shr6, show wrap64 ((1 : Int) - 1) = 0 from w64 (by omega) (by omega)]
theorem put_tail3 {x4 : List Int} {v i : Int} {r : ByteArray × Int} (hx : x4.length + 2 < 140737488355328) (h : Ev (fun k => utf_Put.l0 k (x4 ++ [128 + v / 4096 % 64, 128 + v / 64 % 64, 128 + v % 64]) l n (wrap64 (i + 1)) 0 0 192 224 240) r) : Ev (fun k => utf_Put.l1 k x4 v 2 l n i 0 0 192 224 240) r := by
  refine Ev.step (fun k => ?_) (put_tail2 l n (x4 := x4 ++ [128 + v / 4096 % 64]) (v := v) (by simp; omega) (by simpa [List.append_assoc] using h))
  rw [utf_Put.l1, if_pos (by omega), show wrap64 (6 * (2 : Int)) = 12 from w64 (by omega) (by omega), if_pos (by omega), if_pos (by omega), shr12, show wrap64 ((2 : Int) - 1) = 1 from w64 (by omega) (by omega)]
end
def putL (l : List Int) : List Int := l.flatMap formL
theorem putL_cons (v : Int) (l : List Int) : putL (v :: l) = formL v ++ putL l := rfl
theorem formL_le (v : Int) : 1 ≤ (formL v).length ∧ (formL v).length ≤ 4 := by
  unfold formL
  repeat' split
  all_goals simp
theorem Put_go (l : List Int) (hl : l.length * 4 ≤ 140737488351232) : ∀ (r : List Int) (x4 : List Int) (i : Nat), l.drop i = r → i + r.length = l.length → x4.length ≤ 4 * i →
    Ev (fun k => utf_Put.l0 k x4 l (l.length : Int) (i : Int) 0 0 192 224 240) (if r.all isv = true then (strOfNums (x4 ++ putL r), 0) else (⟨#[]⟩, 2)) := by
  intro r
  induction r with
  | nil =>
    intro x4 i hd hi hx
    simp only [List.length_nil, Nat.add_zero] at hi
    refine Ev.step (f := fun _ => some (strOfNums x4, 0)) (fun k => ?_) ?_
    · rw [utf_Put.l0, if_neg (by omega)]
    · simpa [putL] using Ev.now (strOfNums x4, (0 : Int))
  | cons v r ih =>
    intro x4 i hd hi hx
    simp only [List.length_cons] at hi
    have hrd : rd l (i : Int) = v := by
      have h2 := List.drop_eq_getElem_cons (show i < l.length by omega)
      rw [hd] at h2
      obtain ⟨e1, e2⟩ := List.cons.inj h2
      unfold rd
      rw [show ((i : Int)).toNat = i from rfl, List.getD_eq_getElem?_getD, List.getElem?_eq_getElem (by omega)]
      exact e1.symm
    have hdr : l.drop (i + 1) = r := by
      have h2 := List.drop_eq_getElem_cons (show i < l.length by omega)
      rw [hd] at h2
      exact (List.cons.inj h2).2.symm
    have hs : Ev (fun k => utf_size.f k v) (utf_sz v) := Ev.step (f := fun _ => some (utf_sz v)) (fun k => utf_size_f k v) (Ev.now _)
    have ih1 : ∀ y : List Int, y.length ≤ x4.length + 4 → Ev (fun k => utf_Put.l0 k y l (l.length : Int) (wrap64 ((i : Int) + 1)) 0 0 192 224 240) (if r.all isv = true then (strOfNums (y ++ putL r), 0) else (⟨#[]⟩, 2)) := fun y hy => by
      rw [w64s i (by omega)]
      exact ih y (i + 1) hdr (by omega) (by omega)
    have b0 : (i : Int) < (l.length : Int) := by omega
    have b1 : 0 ≤ (i : Int) := by omega
    refine Ev.step (f := fun k => (utf_size.f k v).bind fun t103 => (if t103 = 0 then (some ((⟨#[]⟩ : ByteArray), 2)) else (if t103 = 1 then (if x4.length < 140737488355328 then (utf_Put.l0 k (x4 ++ [v % 256]) l (l.length : Int) (wrap64 ((i : Int) + 1)) 0 0 192 224 240) else (none)) else (if t103 = 2 then (if 0 ≤ (wrap64 (6 * (wrap64 (t103 - 1)))) then (if x4.length < 140737488355328 then (utf_Put.l1 k (x4 ++ [Go.bits .or .u8 192 ((shr .i32 v (wrap64 (6 * (wrap64 (t103 - 1))))) % 256)]) v (wrap64 (t103 - 2)) l (l.length : Int) (i : Int) 0 0 192 224 240) else (none)) else (none)) else (if t103 = 3 then (if 0 ≤ (wrap64 (6 * (wrap64 (t103 - 1)))) then (if x4.length < 140737488355328 then (utf_Put.l1 k (x4 ++ [Go.bits .or .u8 224 ((shr .i32 v (wrap64 (6 * (wrap64 (t103 - 1))))) % 256)]) v (wrap64 (t103 - 2)) l (l.length : Int) (i : Int) 0 0 192 224 240) else (none)) else (none)) else (if t103 = 4 then (if 0 ≤ (wrap64 (6 * (wrap64 (t103 - 1)))) then (if x4.length < 140737488355328 then (utf_Put.l1 k (x4 ++ [Go.bits .or .u8 240 ((shr .i32 v (wrap64 (6 * (wrap64 (t103 - 1))))) % 256)]) v (wrap64 (t103 - 2)) l (l.length : Int) (i : Int) 0 0 192 224 240) else (none)) else (none)) else (none))))))) (fun k => ?_) ?_
    · rw [utf_Put.l0, if_pos b0, if_pos b1, if_pos b0, hrd]
    · refine Ev.bind hs ?_
      cases hv : isv v with
      | false =>
        have h0 := (isv_sz v).2 hv
        refine evPos h0 ?_
        simpa [hv] using Ev.now ((⟨#[]⟩ : ByteArray), (2 : Int))
      | true =>
        have h1 := (isv_sz v).1 hv
        have hr := isv_iff.1 hv
        refine evNeg (by omega) ?_
        have hall : (v :: r).all isv = r.all isv := by simp [hv]
        rw [hall, putL_cons]
        by_cases c1 : v < 128
        · have hz : utf_sz v = 1 := utf_sz_of.1 ⟨hr.1, c1⟩
          refine evPos hz (evPos (by omega) ?_)
          have := ih1 (x4 ++ [v]) (by simp)
          rw [show v % 256 = v by omega]
          simpa [formL, c1, List.append_assoc] using this
        · by_cases c2 : v < 2048
          · have hz : utf_sz v = 2 := utf_sz_of.2 ⟨by omega, c2⟩
            refine evNeg (by omega) (evPos hz ?_)
            rw [hz, show wrap64 (6 * wrap64 ((2 : Int) - 1)) = 6 by decide +kernel, show wrap64 ((2 : Int) - 2) = 0 by decide +kernel, shr6, show v / 64 % 256 = v / 64 by omega, or192' (by omega) (by omega)]
            refine evPos (by omega) (evPos (by omega) (put_tail1 l _ (by simp; omega) ?_))
            have := ih1 (x4 ++ [192 + v / 64, 128 + v % 64]) (by simp)
            simpa [formL, c1, c2, List.append_assoc] using this
          · by_cases c3 : v < 65536
            · have hz : utf_sz v = 3 := by unfold utf_sz; rw [if_neg (by omega), if_neg c1, if_neg c2, if_pos c3]
              refine evNeg (by omega) (evNeg (by omega) (evPos hz ?_))
              rw [hz, show wrap64 (6 * wrap64 ((3 : Int) - 1)) = 12 by decide +kernel, show wrap64 ((3 : Int) - 2) = 1 by decide +kernel, shr12, show v / 4096 % 256 = v / 4096 by omega, or224' (by omega) (by omega)]
              refine evPos (by omega) (evPos (by omega) (put_tail2 l _ (by simp; omega) ?_))
              have := ih1 (x4 ++ [224 + v / 4096, 128 + v / 64 % 64, 128 + v % 64]) (by simp)
              simpa [formL, c1, c2, c3, List.append_assoc] using this
            · have hz : utf_sz v = 4 := by unfold utf_sz; rw [if_neg (by omega), if_neg c1, if_neg c2, if_neg c3]
              refine evNeg (by omega) (evNeg (by omega) (evNeg (by omega) (evPos hz ?_)))
              rw [hz, show wrap64 (6 * wrap64 ((4 : Int) - 1)) = 18 by decide +kernel, show wrap64 ((4 : Int) - 2) = 2 by decide +kernel, shr18, show v / 262144 % 256 = v / 262144 by omega, or240' (by omega) (by omega)]
              refine evPos (by omega) (evPos (by omega) (put_tail3 l _ (by simp; omega) ?_))
              have := ih1 (x4 ++ [240 + v / 262144, 128 + v / 4096 % 64, 128 + v / 64 % 64, 128 + v % 64]) (by simp)
              simpa [formL, c1, c2, c3, List.append_assoc] using this
theorem Put_ev (l : List Int) (hl : l.length * 4 ≤ 140737488351232) : Ev (fun k => utf_Put.f k l) (if l.all isv = true then (strOfNums (putL l), 0) else (⟨#[]⟩, 2)) := by
  unfold utf_Put.f
  exact Put_go l hl l [] 0 rfl (by simp) (by simp)
theorem putL_u8 : ∀ l : List Int, l.all isv = true → ∀ x ∈ putL l, isU8 x
  | [], _, x, h => by simp [putL] at h
  | v :: l, hl, x, h => by
    simp only [List.all_cons, Bool.and_eq_true] at hl
    rw [putL_cons, List.mem_append] at h
    rcases h with h | h
    · obtain ⟨i, hi, rfl⟩ := List.getElem_of_mem h
      have := isv_iff.1 hl.1
      exact formL_u8 v this.1 (by omega) i hi
    · exact putL_u8 l hl.2 x h
theorem dec_put {s : ByteArray} {a : Nat} {v : Int} (hv : isv v = true) (hs : a + (formL v).length ≤ s.size) (hb : ∀ i (h : i < (formL v).length), bt s ((a + i : Nat) : Int) = (formL v)[i]) : dec s a = some (v, (formL v).length) := by
  have hr := isv_iff.1 hv
  unfold dec
  by_cases c1 : v < 128
  · have e : formL v = [v] := by unfold formL; rw [if_pos c1]
    rw [e] at hs hb ⊢
    have h0 := hb 0 (by simp)
    simp at h0 hs
    rw [if_neg (by omega), h0, if_pos c1]
    rfl
  · by_cases c2 : v < 2048
    · have e : formL v = [192 + v / 64, 128 + v % 64] := by unfold formL; rw [if_neg c1, if_pos c2]
      rw [e] at hs hb ⊢
      have h0 := hb 0 (by simp)
      have h1 := hb 1 (by simp)
      simp only [List.getElem_cons_zero, List.getElem_cons_succ, Nat.add_zero] at h0 h1
      simp at hs
      rw [if_neg (by omega), h0, h1, if_neg (by omega), if_pos (by omega), if_pos ⟨hs, vC_iff.2 (by omega)⟩]
      simp
      omega
    · by_cases c3 : v < 65536
      · have e : formL v = [224 + v / 4096, 128 + v / 64 % 64, 128 + v % 64] := by unfold formL; rw [if_neg c1, if_neg c2, if_pos c3]
        rw [e] at hs hb ⊢
        have h0 := hb 0 (by simp)
        have h1 := hb 1 (by simp)
        have h2 := hb 2 (by simp)
        simp only [List.getElem_cons_zero, List.getElem_cons_succ, Nat.add_zero] at h0 h1 h2
        simp at hs
        have hval : ((224 + v / 4096) % 16 * 64 + (128 + v / 64 % 64) % 64) * 64 + (128 + v % 64) % 64 = v := by omega
        rw [if_neg (by omega), h0, h1, h2, if_neg (by omega), if_neg (by omega), if_pos (by omega), hval, if_pos ⟨hs, vC_iff.2 (by omega), vC_iff.2 (by omega), by unfold utf_sz; rw [if_neg (by omega), if_neg c1, if_neg c2, if_pos c3]⟩]
        rfl
      · have e : formL v = [240 + v / 262144, 128 + v / 4096 % 64, 128 + v / 64 % 64, 128 + v % 64] := by unfold formL; rw [if_neg c1, if_neg c2, if_neg c3]
        rw [e] at hs hb ⊢
        have h0 := hb 0 (by simp)
        have h1 := hb 1 (by simp)
        have h2 := hb 2 (by simp)
        have h3 := hb 3 (by simp)
        simp only [List.getElem_cons_zero, List.getElem_cons_succ, Nat.add_zero] at h0 h1 h2 h3
        simp at hs
        have hval : (((240 + v / 262144) % 8 * 64 + (128 + v / 4096 % 64) % 64) * 64 + (128 + v / 64 % 64) % 64) * 64 + (128 + v % 64) % 64 = v := by omega
        rw [if_neg (by omega), h0, h1, h2, h3, if_neg (by omega), if_neg (by omega), if_neg (by omega), if_pos (by omega), hval, if_pos ⟨hs, vC_iff.2 (by omega), vC_iff.2 (by omega), vC_iff.2 (by omega), by unfold utf_sz; rw [if_neg (by omega), if_neg c1, if_neg c2, if_neg c3]⟩]
        rfl
theorem decs_put (f : Nat) : ∀ (l pre : List Int), l.all isv = true → (∀ x ∈ pre, isU8 x) → (putL l).length < f →
    (decs (strOfNums (pre ++ putL l)) f pre.length).1.map (·.2) = l ∧ (decs (strOfNums (pre ++ putL l)) f pre.length).2 = (pre ++ putL l).length := by
  induction f with
  | zero => intro l pre _ _ h; omega
  | succ f ih =>
    intro l pre hl hp hf
    cases l with
    | nil =>
      have : dec (strOfNums (pre ++ putL [])) pre.length = none := by
        unfold dec
        rw [if_pos (by rw [son_size]; simp [putL])]
      simp only [decs, this]
      simp [putL]
    | cons v l =>
      have hall := hl
      simp only [List.all_cons, Bool.and_eq_true] at hl
      have hu : ∀ x ∈ pre ++ putL (v :: l), isU8 x := fun x hx => by
        rcases List.mem_append.1 hx with h | h
        · exact hp x h
        · exact putL_u8 _ hall x h
      have hd : dec (strOfNums (pre ++ putL (v :: l))) pre.length = some (v, (formL v).length) := by
        refine dec_put hl.1 ?_ ?_
        · rw [son_size, putL_cons]
          simp
        · intro i hi
          have hlt : pre.length + i < (pre ++ putL (v :: l)).length := by rw [putL_cons]; simp; omega
          rw [son_bt _ _ hlt (hu _ (List.getElem_mem _))]
          simp only [putL_cons]
          rw [List.getElem_append_right (by omega)]
          rw [List.getElem_append_left (by omega)]
          simp
      have h2 := ih l (pre ++ formL v) hl.2 (fun x hx => by
        rcases List.mem_append.1 hx with h | h
        · exact hp x h
        · exact hu x (by rw [putL_cons]; simp [h])) (by
          have := formL_le v
          rw [putL_cons, List.length_append] at hf
          omega)
      rw [List.length_append, List.append_assoc, ← putL_cons] at h2
      simp only [decs, hd, List.map_cons, h2.1, h2.2]
      exact ⟨trivial, trivial⟩
end Go.Proofs.Ytijfbnkohnlmaaa.X
end
section
namespace Go.Proofs.Ytijfbnkohnlmaaa.X
open Go.RowKit Go.Proofs.YtijfbnkohnlmaaaW.PrintWords Go.Proofs.YtijfbnkohnlmaaaW.PrintLast Go.Proofs.YtijfbnkohnlmaaaW.PrintMore
set_option linter.unusedVariables false
set_option linter.unusedSimpArgs false
theorem strCells_son (l : List Int) (h : ∀ x ∈ l, isU8 x) : Lib.strCells (strOfNums l) = nums .u8 l := by
  unfold Lib.strCells nums strOfNums
  simp only [List.map_map]
  apply List.map_congr_left
  intro x hx
  have := h x hx
  obtain ⟨h0, h1⟩ := this
  simp only [Function.comp]
  congr 1
  rw [UInt8.toNat_ofNat']
  omega
theorem own_apart {w : World} {base n bb : Nat} {e t : TypeId} {v : Value} {cs : Array Value} {xs : List Value} (h : w.ownsRow base e 1 v n xs) (hb : w.heap[bb]? = some (.cells cs t (0, 0))) (hne : e ≠ t) : v.ownBlock ≠ some bb := by
  intro hk
  obtain ⟨cells, hc⟩ := own_typed h bb hk
  rw [hb] at hc
  simp only [Option.some.injEq, Obj.cells.injEq] at hc
  exact hne hc.2.1.symm
theorem own_slice {w : World} {base n size : Nat} {e : TypeId} {v : Value} {xs : List Value} (h : w.ownsRow base e size v n xs) : ∃ A c, v = .slice A n c := by
  rcases h.2 with ⟨rfl, rfl⟩ | ⟨g, cap, cur, rfl, _⟩
  · exact ⟨none, 0, rfl⟩
  · exact ⟨_, _, rfl⟩
theorem formL_all8 {c : Int} (hc : isv c = true) : ∀ x ∈ formL c, isU8 x := fun x hx => by
  have hr := isv_iff.1 hc
  obtain ⟨i, hi, rfl⟩ := List.getElem_of_mem hx
  exact formL_u8 c hr.1 (by omega) i hi
def Buf (bb base : Nat) (l : List Int) (W : World) : Prop := ∃ v, W.heap[bb]? = some (.cells #[v] 54 (0, 0)) ∧ W.ownsRow base 5 1 v l.length (nums .u8 l)
def PutPost (bb base : Nat) (l : List Int) (W : World) (e : Ending) (W' : World) : Prop := e = .returned (.tuple #[]) ∧ Below base W W' ∧ Buf bb base l W'
theorem below_of_grown {base : Nat} {a b : World} {r : Option Nat} (h : a.grownBy b r) (hr : ∀ k, r = some k → base ≤ k) (hb : base ≤ a.heap.size) : Below base a b :=
  ⟨h.os, h.tape, h.output, h.size, fun k hk => h.block k (by omega) (fun e => by have := hr k e.symm; omega)⟩
set_option maxRecDepth 100000 in
set_option maxHeartbeats 4000000 in
theorem text_put (c : Int) (hc : isv c = true) (bb base : Nat) (l : List Int) (W : World) (hW : Buf bb base l W) (hbase : base ≤ bb) (hl : l.length ≤ 140737488355000) :
    Calls Try.prog 39 #[.int .i32 c, .pointer (some ⟨bb, 0, none⟩)] W (PutPost bb base (l ++ formL c) W) := by
  obtain ⟨v, hbox, hown⟩ := hW
  obtain ⟨k, hP⟩ := (Put_ev [c] (by simp)).rounds
  rw [show [c].all isv = true by simp [hc], if_pos rfl, show putL [c] = formL c by simp [putL]] at hP
  have HP := Aside0.mk hP
  clear hP
  have hbW := Below.refl W.heap.size W
  have hc1 := boxv W (.int .i32 c) 21
  have hkd : Kd.C (Kd.int .i32) (W.alloc (.cells #[.int .i32 c] 21)) (some ⟨W.heap.size, 0, none⟩) 1 [c] := Kd.C_of_reads (d := (0 : Int)) (h1 := fun _ => rfl) ⟨rfl, by omega, fun _ => ⟨⟨W.heap.size, 0, none⟩, rfl, fun j (hj : j < 1) => by
    obtain rfl : j = 0 := by omega
    exact hc1.1⟩⟩
  have HKD := Aside0.mk hkd
  have HBOX := Aside0.mk hbox
  have HOWN := Aside0.mk hown
  have HC := Aside0.mk hc
  clear hkd hc1 hbox hown hc
  have hlf := (formL_le c).2
  obtain ⟨i0, hi, hz0, hz1, hz2⟩ : ∃ i, Try.prog.info? 5 = some i ∧ i.zero = some (.int .u8 0) ∧ i.size = 1 ∧ i.bytes = 1 := info_parts (by kernel_rfl)
  go_enter Try.func39, Try.ntmps39
  have s1 : l.length + (strOfNums (formL c)).size ≤ maxLen := by rw [son_size]; unfold maxLen; omega
  have s2 : l.length + (strOfNums (formL c)).size ≤ 140737488355328 := by rw [son_size]; omega
  have s3 : base ≤ W.heap.size := by have := blk_lt HBOX.out; omega
  go_wp2_with (first | (go_at_call 10; refine (utf_Put.calls k _ 1 [c] _ _ _ HKD.out (Nat.le_refl _) HP.out).mono ?_; rintro e w1 ⟨rfl, hb1⟩; have HB1 := Aside0.mk ((hbW.alloc (Nat.le_refl _) _).trans (hb1.mono (by simp))); have HX1 := Aside0.mk (blk_below HBOX.out HB1.out); have hq0 := (blk_cell HX1.out 0).trans rfl; have hqf := blk_frozen HX1.out 0; have HO1 := Aside0.mk (own_move HOWN.out (fun q hq => HB1.out.block q (HOWN.out.lt q hq).2))) | (at_builtin; refine Lib.wpList_append_own_string _ rfl _ _ 54 9 rfl base 5 i0 Try.underlying54 Try.underlying9 hi hz0 hz1 hz2 v l.length (nums .u8 l) rfl HO1.out (strOfNums (formL c)) rfl s1 s2 (Nat.le_trans s3 HB1.out.size) ?_; intro v2 w2 hown2 hg2 hnil; clear hnil; obtain ⟨A2, k2, e2⟩ := own_slice hown2; subst e2; have HX2 := Aside0.mk (blk_grown HX1.out hg2 (fun e => own_apart HO1.out HX1.out (by decide) e.symm)); have HO2 := Aside0.mk hown2; have HB2 := Aside0.mk (HB1.out.mono (Nat.le_trans s3 (Nat.le_refl _)) |>.trans (below_of_grown hg2 (fun q hq => (HO1.out.lt q hq).1) (Nat.le_trans s3 HB1.out.size))); clear hown2 hg2; have hq2 := (blk_cell HX2.out 0).trans rfl; have hqg := blk_frozen HX2.out 0))
  go_end0
  refine ⟨rfl, HB2.out.setCell (p := ⟨bb, 0, none⟩) hbase _, _, blk_put HX2.out 0 _ rfl, ?_⟩
  have e : l.length + (strOfNums (formL c)).size = (l ++ formL c).length := by rw [son_size, List.length_append]
  have hne := own_apart HO2.out HX2.out (by decide)
  have h9 := own_move (w1 := w2.setCell ⟨bb, 0, none⟩ (.slice A2 (l.length + (strOfNums (formL c)).size) k2)) HO2.out (fun q hq => Below.heap_setCell _ _ _ _ (fun e => hne (by rw [hq, e])))
  rw [strCells_son _ (formL_all8 HC.out), ← nums_append] at h9
  rw [← e]
  exact h9
end Go.Proofs.Ytijfbnkohnlmaaa.X
end
section
namespace Go.Proofs.Ytijfbnkohnlmaaa.X
open Go.RowKit Go.Proofs.YtijfbnkohnlmaaaW.PrintWords Go.Proofs.YtijfbnkohnlmaaaW.PrintLast Go.Proofs.YtijfbnkohnlmaaaW.PrintMore
set_option linter.unusedVariables false
set_option linter.unusedSimpArgs false
def textP (t : ByteArray) : Nat → Int → List Int → Except Int (List Int × Int)
  | 0, _, _ => .error 0
  | f + 1, a, l =>
    if a < (t.size : Int) then
      if bt t a = 34 then .ok (l, a + 1)
      else if bt t a = 92 then
        match escP t (a + 1) with
        | .error e => .error e
        | .ok (v, b) => textP t f b (l ++ formL v)
      else if bt t a < 32 then .error 6
      else match dec t a.toNat with
        | none => .error 10
        | some (v, n) => textP t f (a + n) (l ++ formL v)
    else .error 5
theorem shortP_isv {c v : Int} (h : shortP c = some v) : isv v = true := by
  unfold shortP at h
  repeat' split at h
  all_goals first | (cases h; decide +kernel) | cases h
theorem pair_place {t : ByteArray} {n a v b : Int} (h0 : 0 ≤ a) (hn : 55296 ≤ n) (hn2 : n ≤ 56319) (h : pairP t n a = .ok (v, b)) : isv v = true ∧ a + 1 ≤ b ∧ b ≤ (t.size : Int) := by
  unfold pairP at h
  cases h1 : mustP t 92 a with
  | error e => rw [h1] at h; cases h
  | ok x =>
    obtain ⟨⟨⟩, b1⟩ := x
    rw [h1] at h
    simp only at h
    have p1 := must_place h0 h1
    cases h2 : mustP t 117 b1 with
    | error e => rw [h2] at h; cases h
    | ok x =>
      obtain ⟨⟨⟩, b2⟩ := x
      rw [h2] at h
      simp only at h
      have p2 := must_place p1.1 h2
      cases h3 : fourP t 4 0 b2 with
      | error e => rw [h3] at h; cases h
      | ok x =>
        obtain ⟨m, b3⟩ := x
        rw [h3] at h
        simp only at h
        have p3 := four_place 4 0 b2 p2.1 p2.2.1 h3
        split at h
        · cases h
        · split at h
          · cases h
          · simp only [Except.ok.injEq, Prod.mk.injEq] at h
            refine ⟨?_, by omega, by omega⟩
            rw [isv_iff]
            omega
theorem esc_place {t : ByteArray} {a v b : Int} (h0 : 0 ≤ a) (h : escP t a = .ok (v, b)) : isv v = true ∧ a + 1 ≤ b ∧ b ≤ (t.size : Int) := by
  unfold escP at h
  by_cases c1 : a < (t.size : Int)
  · rw [if_pos c1] at h
    cases hs : shortP (bt t a) with
    | some x =>
      rw [hs] at h
      simp only [Except.ok.injEq, Prod.mk.injEq] at h
      obtain ⟨rfl, rfl⟩ := h
      exact ⟨shortP_isv hs, by omega, by omega⟩
    | none =>
      rw [hs] at h
      simp only at h
      by_cases c2 : bt t a = 117
      · rw [if_pos c2] at h
        cases hf : fourP t 4 0 (a + 1) with
        | error e => rw [hf] at h; cases h
        | ok x =>
          obtain ⟨n, b1⟩ := x
          rw [hf] at h
          simp only at h
          have p := four_place 4 0 (a + 1) (by omega) (by omega) hf
          have hn := p.2.2.2 (by omega)
          by_cases d1 : n < 55296
          · rw [if_pos d1] at h
            simp only [Except.ok.injEq, Prod.mk.injEq] at h
            obtain ⟨rfl, rfl⟩ := h
            exact ⟨isv_iff.2 (by omega), by omega, by omega⟩
          · rw [if_neg d1] at h
            by_cases d2 : n > 57343
            · rw [if_pos d2] at h
              simp only [Except.ok.injEq, Prod.mk.injEq] at h
              obtain ⟨rfl, rfl⟩ := h
              exact ⟨isv_iff.2 (by omega), by omega, by omega⟩
            · rw [if_neg d2] at h
              by_cases d3 : n > 56319
              · rw [if_pos d3] at h; cases h
              · rw [if_neg d3] at h
                have := pair_place (by omega) (by omega) (by omega) h
                exact ⟨this.1, by omega, this.2.2⟩
      · rw [if_neg c2] at h; cases h
  · rw [if_neg c1] at h; cases h
theorem esc_ok {t : ByteArray} {B : Nat} {a n b : Int} (w : World) (hs : t.size ≤ 140737488351232) (h0 : 0 ≤ a) (ha : a ≤ (t.size : Int)) (hB : w.heap[B]? = some (rdrBlk t a)) (hr : escP t a = .ok (n, b)) :
    Calls Try.prog 41 #[.pointer (some ⟨B, 0, none⟩)] w fun e w' => e = .returned (.int .i32 n) ∧ w'.heap[B]? = some (rdrBlk t b) ∧ w.grownBy w' (some B) :=
  (esc_escape t B a w hs h0 ha hB).mono fun e w' h => h.ok hr
theorem esc_no {t : ByteArray} {B : Nat} {a c : Int} (w : World) (hs : t.size ≤ 140737488351232) (h0 : 0 ≤ a) (ha : a ≤ (t.size : Int)) (hB : w.heap[B]? = some (rdrBlk t a)) (hr : escP t a = .error c) :
    Calls Try.prog 41 #[.pointer (some ⟨B, 0, none⟩)] w fun e w' => e = pan c ∧ w.grownBy w' (some B) :=
  (esc_escape t B a w hs h0 ha hB).mono fun e w' h => h.no hr
structure TextRel (t : ByteArray) (B : Nat) (w : World) (R : Except Int (List Int × Int)) (k : Nat) (a : Int) (l : List Int) (W : World) : Prop where
  a0 : 0 ≤ a
  a1 : a ≤ (t.size : Int)
  k1 : (t.size : Int) < k + a
  l1 : (l.length : Int) ≤ 4 * a
  r : textP t k a l = R
  b : W.heap[B]? = some (rdrBlk t a)
  g : w.grownBy W (some B)
  f : Buf w.heap.size w.heap.size l W
theorem TextRel.put {t : ByteArray} {B : Nat} {w W W1 W2 : World} {R : Except Int (List Int × Int)} {k k' : Nat} {a b v : Int} {l : List Int} (h : TextRel t B w R k a l W) (hb : B < w.heap.size)
    (h1 : W1.heap[B]? = some (rdrBlk t b)) (hg : W.grownBy W1 (some B)) (hab : a + 1 ≤ b) (hb1 : b ≤ (t.size : Int)) (hr : textP t k' b (l ++ formL v) = R) (hk : k = k' + 1) (h2 : Below w.heap.size W1 W2) (h3 : Buf w.heap.size w.heap.size (l ++ formL v) W2) : TextRel t B w R k' b (l ++ formL v) W2 := by
  have := h.a0
  have := h.k1
  have := h.l1
  have := (formL_le v).2
  refine ⟨by omega, hb1, by omega, ?_, hr, (h2.block B hb).trans h1, ?_, h3⟩
  · rw [List.length_append]; omega
  · have h5 := grow_tr h.g hg
    exact ⟨h2.os.trans h5.os, h2.tape.trans h5.tape, h2.output.trans h5.output, Nat.le_trans h5.size h2.size, fun i hi hr => (h2.block i hi).trans (h5.block i hi hr)⟩
theorem Buf.kept {w W W1 : World} {B : Nat} {l : List Int} (h : Buf w.heap.size w.heap.size l W) (hg : W.grownBy W1 (some B)) (hb : B < w.heap.size) : Buf w.heap.size w.heap.size l W1 := by
  obtain ⟨v, h1, h2⟩ := h
  refine ⟨v, blk_grown h1 hg (by simp; omega), own_move h2 (fun q hq => ?_)⟩
  have := h2.lt q hq
  exact hg.block q this.2 (by simp; omega)
theorem TextRel.put2 {t : ByteArray} {B : Nat} {w W W1 W2 : World} {R : Except Int (List Int × Int)} {k k' : Nat} {a b c v : Int} {l : List Int} (h : TextRel t B w R k a l W) (hb : B < w.heap.size)
    (h1 : W1.heap[B]? = some (rdrBlk t c)) (hg : W.grownBy W1 (some B)) (hab : a + 1 ≤ b) (hb1 : b ≤ (t.size : Int)) (hr : textP t k' b (l ++ formL v) = R) (hk : k = k' + 1) (h2 : Below w.heap.size W1 W2) (h3 : Buf w.heap.size w.heap.size (l ++ formL v) W2) (b' : Int) (hbb : b' = b) : TextRel t B w R k' b (l ++ formL v) (W2.setCell ⟨B, 1, none⟩ (.int .i64 b')) := by
  subst hbb
  have h9 := h.a0
  have := h.k1
  have := h.l1
  have := (formL_le v).2
  refine ⟨by omega, hb1, by omega, ?_, hr, blk_put ((h2.block B hb).trans h1) 1 _ rfl, ?_, h3.kept (grow_set 1 _) hb⟩
  · rw [List.length_append]; omega
  · have h5 := grow_tr h.g hg
    exact grow_tr ⟨h2.os.trans h5.os, h2.tape.trans h5.tape, h2.output.trans h5.output, Nat.le_trans h5.size h2.size, fun i hi hr => (h2.block i hi).trans (h5.block i hi hr)⟩ (grow_set 1 _)
theorem grow_drew {w w' : World} {r : Option Nat} (h : w.grownBy w' r) : w.grownBy w'.drew r := ⟨h.os, h.tape, h.output, h.size, h.block⟩
set_option maxRecDepth 100000 in
set_option maxHeartbeats 16000000 in
theorem esc_text (t : ByteArray) (B : Nat) (a : Int) (w : World) (hs : t.size ≤ 35184372080000) (h0 : 0 ≤ a) (ha : a ≤ (t.size : Int)) (hB : w.heap[B]? = some (rdrBlk t a)) :
    Calls Try.prog 34 #[.pointer (some ⟨B, 0, none⟩)] w (RdP (fun l => .string (strOfNums l)) t B w (textP t (t.size + 1) a [])) := by
  generalize hR : textP t (t.size + 1) a [] = R
  have hmf : ∀ (fn : Fn) (first cap : Array Value) (w : World), (Instr.makeFunc fn first cap).run Try.prog w = .ok (.func fn first cap) w := fun _ _ _ _ => rfl
  have HBw := Aside0.mk (blk_lt hB)
  have HT0 : Aside0 (TextRel t B w R (t.size + 1) a [] (w.alloc (.cells #[.slice none 0 0] 54))) :=
    ⟨⟨h0, ha, by omega, by simp; omega, hR, blk_alloc hB _, World.grownBy_alloc w _ _, ⟨_, blk_new w _, by simpa [nums] using own_nil (w.alloc (.cells #[.slice none 0 0] 54)) w.heap.size 5 1⟩⟩⟩
  have hs2 : t.size ≤ 140737488351232 := by omega
  clear hR hB h0 ha
  go_enter Try.func34, Try.ntmps34
  go_wp2_with fail
  go_loopg [5] (t.size + 1) (fun kq v5 W => ∃ (a : Int) (l : List Int), Aside0 (TextRel t B w R kq a l W))
  case atStart => exact ⟨a, [], HT0⟩
  case round =>
    clear HT0
    obtain ⟨W, rfl⟩ : ∃ W : World, W = wr := ⟨_, rfl⟩
    obtain ⟨a, l, H⟩ := hrel
    cases gk with
    | zero => exact absurd H.out.k1 (by have := H.out.a1; omega)
    | succ k1 =>
      have h0 := H.out.a0
      have ha := H.out.a1
      by_cases c1 : a < (t.size : Int)
      case neg =>
        have TK := Aside0.mk (take_no t B a W hs2 h0 (by omega) H.out.b)
        go_wp2_with (go_at_call 40; refine TK.out.mono ?_; rintro e w1 ⟨rfl, hg1⟩; have HG1 := Aside0.mk hg1; clear hg1)
        refine ⟨rfl, grow_tr H.out.g HG1.out, ?_⟩
        rw [← H.out.r, textP, if_neg (by omega)]
      have hr := H.out.r
      rw [textP, if_pos c1] at hr
      have TK := Aside0.mk (take_ok t B a W hs2 h0 c1 H.out.b)
      have bb := bt_range t a
      generalize hc : bt t a = c at TK bb hr
      have hC := Aside0.mk hc
      clear hc
      by_cases c2 : c = 34
      · rw [if_pos c2] at hr
        have HR := Aside0.mk hr
        subst c2
        clear hr
        go_wp2_with (go_at_call 40; refine TK.out.mono ?_; rintro e w1 ⟨rfl, hB1, hg1⟩; have HB1 := Aside0.mk hB1; have HG1 := Aside0.mk hg1; obtain ⟨v, hf1, hf2⟩ := Buf.kept H.out.f hg1 HBw.out; obtain ⟨A2, k2, e2⟩ := own_slice hf2; subst e2; have hv := own_string (P := Try.prog) Try.underlying54 Try.underlying5 Try.underlying9 hf2; have q0 := (blk_cell hf1 0).trans rfl; clear hB1 hg1 hf1 hf2)
        go_ret
        refine ⟨grow_tr H.out.g HG1.out, ?_⟩
        rw [← HR.out]
        exact ⟨rfl, HB1.out⟩
      rw [if_neg c2] at hr
      have c2' : (c == 34) = false := by simp [c2]
      clear c2
      by_cases c3 : c = 92
      · rw [if_pos c3] at hr
        subst c3
        cases he : escP t (a + 1) with
        | error e =>
          rw [he] at hr
          have HE := Aside0.mk he
          have HR := Aside0.mk hr
          clear he hr
          go_wp2_with (first | (go_at_call 40; refine TK.out.mono ?_; rintro e w1 ⟨rfl, hB1, hg1⟩; have HB1 := Aside0.mk hB1; have HG1 := Aside0.mk hg1; clear hB1 hg1) | (go_at_call 41; with_reducible refine (esc_no _ hs2 (by omega) (by omega) HB1.out HE.out).mono ?_; rintro e w2 ⟨rfl, hg⟩; have HG2 := Aside0.mk (grow_tr HG1.out hg); clear hg))
          refine ⟨rfl, grow_tr H.out.g HG2.out, ?_⟩
          rw [← HR.out]
        | ok vb =>
          obtain ⟨v, b⟩ := vb
          rw [he] at hr
          simp only at hr
          have hp := esc_place (by omega) he
          have HV := Aside0.mk hp.1
          have p1 := hp.2.1
          have p2 := hp.2.2
          have HE := Aside0.mk he
          have HR := Aside0.mk hr
          clear he hr hp
          go_wp2_with (first | (go_at_call 40; refine TK.out.mono ?_; rintro e w1 ⟨rfl, hB1, hg1⟩; have HB1 := Aside0.mk hB1; have HG1 := Aside0.mk hg1; clear hB1 hg1) | (go_at_call 41; with_reducible refine (esc_ok _ hs2 (by omega) (by omega) HB1.out HE.out).mono ?_; rintro e w2 ⟨rfl, hB2, hg⟩; have HB2 := Aside0.mk hB2; have HG2 := Aside0.mk (grow_tr HG1.out hg); clear hg hB2) | (go_at_call 39; refine (text_put v HV.out w.heap.size w.heap.size l _ (Buf.kept H.out.f HG2.out HBw.out) (Nat.le_refl _) (by have := H.out.l1; omega)).mono ?_; rintro e w3 ⟨rfl, hb3, hf3⟩; have HT := Aside0.mk (H.out.put HBw.out HB2.out HG2.out (by omega) p2 HR.out rfl hb3 hf3); clear hb3 hf3))
          go_roundg k1
          case measure => omega
          case rel => exact ⟨_, _, HT⟩
      rw [if_neg c3] at hr
      have c3' : (c == 92) = false := by simp [c3]
      clear c3
      by_cases c4 : c < 32
      · rw [if_pos c4] at hr
        have HR := Aside0.mk hr
        clear hr
        go_wp2_with (go_at_call 40; refine TK.out.mono ?_; rintro e w1 ⟨rfl, hB1, hg1⟩; have HB1 := Aside0.mk hB1; have HG1 := Aside0.mk hg1; clear hB1 hg1)
        refine ⟨rfl, grow_tr H.out.g HG1.out, ?_⟩
        rw [← HR.out]
      rw [if_neg c4] at hr
      have hN := Next_ev t hs2 a.toNat
      obtain ⟨kN, hN⟩ := hN.rounds
      rw [show ((a.toNat : Nat) : Int) = a by omega] at hN
      cases hd : dec t a.toNat with
      | none =>
        rw [hd] at hr hN
        have HN : Aside0 (utf_Next.f kN t a = some (0, 0, false)) := ⟨hN⟩
        have HR := Aside0.mk hr
        clear hr hN hd
        have hwa : IntKind.i64.wrap a = a := by rw [IntKind.wrap_i64]; omega
        go_wp2_with (go_at_call 40; refine TK.out.mono ?_; rintro e w1 ⟨rfl, hB1, hg1⟩; have HB1 := Aside0.mk hB1; have HG1 := Aside0.mk hg1; have p0 := (blk_cell hB1 0).trans rfl; have p1 := (blk_cell hB1 1).trans rfl; clear hB1 hg1)
        go_region_held3 (fun w' => w'.cell? ⟨B, 0, none⟩ = some (.string t) ∧ w'.cell? ⟨B, 1, none⟩ = some (.int .i64 (a + 1))) (first | exact ⟨p0, p1⟩ | exact ⟨pw_cell_below hb2 p0, pw_cell_below hb2 p1⟩) ((go_at_call 15; with_reducible refine (utf_Next.calls kN t a _ _ _ _ HN.out).mono ?_; rintro e w2 ⟨rfl, hb2⟩))
        have HB2 := Aside0.mk (blk_below (blk_drew HB1.out) hb2)
        have HG2 := Aside0.mk (grow_tr HG1.out (grow_tr (grow_drew (World.grownBy.refl w1 _)) (grow_below hb2 _)))
        clear hb2
        go_wp2_with fail
        refine ⟨rfl, grow_tr H.out.g HG2.out, ?_⟩
        rw [← HR.out]
      | some vn =>
        obtain ⟨v, n⟩ := vn
        rw [hd] at hr hN
        have HN : Aside0 (utf_Next.f kN t a = some (v, (n : Int), true)) := ⟨hN⟩
        have hdf := dec_form hd
        have hdr := dec_range hd
        have HV : Aside0 (isv v = true) := ⟨by rw [isv_iff]; have := (isv_sz v).2; by_cases hv : isv v = true; exact isv_iff.1 hv; exact absurd (this (by simpa using hv)) (by omega)⟩
        have n1 := hdr.1
        have n4 := hdr.2.1
        have n5 : a + n ≤ (t.size : Int) := by omega
        have HR := Aside0.mk hr
        clear hr hN hd hdf hdr
        have hwa : IntKind.i64.wrap a = a := by rw [IntKind.wrap_i64]; omega
        go_wp2_with (go_at_call 40; refine TK.out.mono ?_; rintro e w1 ⟨rfl, hB1, hg1⟩; have HB1 := Aside0.mk hB1; have HG1 := Aside0.mk hg1; have p0 := (blk_cell hB1 0).trans rfl; have p1 := (blk_cell hB1 1).trans rfl; clear hB1 hg1)
        go_region_held3 (fun w' => w'.cell? ⟨B, 0, none⟩ = some (.string t) ∧ w'.cell? ⟨B, 1, none⟩ = some (.int .i64 (a + 1))) (first | exact ⟨p0, p1⟩ | exact ⟨pw_cell_below hb2 p0, pw_cell_below hb2 p1⟩) ((go_at_call 15; with_reducible refine (utf_Next.calls kN t a _ _ _ _ HN.out).mono ?_; rintro e w2 ⟨rfl, hb2⟩))
        have HB2 := Aside0.mk (blk_below (blk_drew HB1.out) hb2)
        have HG2 := Aside0.mk (grow_tr HG1.out (grow_tr (grow_drew (World.grownBy.refl w1 _)) (grow_below hb2 _)))
        clear hb2
        go_wp2_with (go_at_call 39; refine (text_put v HV.out w.heap.size w.heap.size l _ (Buf.kept H.out.f HG2.out HBw.out) (Nat.le_refl _) (by have := H.out.l1; omega)).mono ?_; rintro e w3 ⟨rfl, hb3, hf3⟩; have HP := Aside0.mk (H.out.put2 HBw.out HB2.out HG2.out (b := a + n) (by omega) n5 HR.out rfl hb3 hf3); have hx3 := (hb3.block B HBw.out).trans HB2.out; have q1 := (blk_cell hx3 1).trans rfl; have qf := blk_frozen hx3 1; clear hb3 hf3 hx3)
        go_roundg k1
        case measure => omega
        case rel => exact ⟨_, _, ⟨HP.out _ (by omega)⟩⟩
end Go.Proofs.Ytijfbnkohnlmaaa.X
end
section
namespace Go.Proofs.Ytijfbnkohnlmaaa.X
open Go.RowKit Go.Proofs.YtijfbnkohnlmaaaW.PrintWords Go.Proofs.YtijfbnkohnlmaaaW.PrintLast Go.Proofs.YtijfbnkohnlmaaaW.PrintMore
set_option linter.unusedVariables false
set_option linter.unusedSimpArgs false
set_option maxRecDepth 100000 in
set_option maxHeartbeats 4000000 in
theorem catch_idle (p q r : Addr) (w : World) :
    CallsD Try.prog 33 #[.pointer (some p), .pointer (some q), .pointer (some r)] .returning w fun e u' w' => e = .returned (.tuple #[]) ∧ u' = .returning ∧ w' = w := by
  refine callsD_of_wpS Try.func33 rfl fun c₀ cs hu => ?_
  apply wpS_seq
  apply wpS_region
  simp [wpOpsS, go_sem, recoverD, hu, Try.ntmps33, Exit.thenS]
  refine wpS_of_wp ?_
  go_wp2
  cases c₀
  simp_all [bodyPostS, results, Try.results33]
set_option maxRecDepth 100000 in
set_option maxHeartbeats 4000000 in
theorem catch_pan (p q r : Addr) (x : ByteArray) (y z c : Int) (w : World) (hp : w.cell? p = some (.string x)) (hq : w.cell? q = some (.int .i64 y)) (hr : w.cell? r = some (.int .i64 z)) (fp : w.frozen? p = false) (fq : w.frozen? q = false) (fr : w.frozen? r = false) (npq : p.block ≠ q.block) (npr : p.block ≠ r.block) (nqr : q.block ≠ r.block) :
    CallsD Try.prog 33 #[.pointer (some p), .pointer (some q), .pointer (some r)] (.panicking ({ v := .iface 63 (.agg #[.int .i64 c]), recovered := false } :: [])) w fun e u' w' =>
      e = .returned (.tuple #[]) ∧ u' = .panicking ({ v := .iface 63 (.agg #[.int .i64 c]), recovered := true } :: []) ∧ ∃ W1, Below w.heap.size w W1 ∧ w' = (((W1.setCell p (.string ⟨#[]⟩)).setCell q (.int .i64 0)).setCell r (.int .i64 c)).drew := by
  refine callsD_of_wpS Try.func33 rfl fun c₀ cs hu => ?_
  apply wpS_seq
  apply wpS_region
  simp [wpOpsS, go_sem, recoverD, hu, Try.ntmps33, Exit.thenS]
  refine wpS_of_wp ?_
  have lp := World.block_lt_of_cell? w _ hp
  have lq := World.block_lt_of_cell? w _ hq
  have lr := World.block_lt_of_cell? w _ hr
  have hta : ∀ w, (Instr.typeAssert (.iface 63 (.agg #[.int .i64 c])) 20 63 true).run Try.prog w = .ok (.tuple #[.agg #[.int .i64 c], .bool true]) w := fun _ => by kernel_rfl
  clear hu
  simp only [Array.replicate_succ, Array.replicate_zero, List.push_toArray, List.append_toArray, List.nil_append, List.cons_append, List.setIfInBounds_toArray, List.set_cons_zero, List.set_cons_succ]
  go_wp2
  generalize hW : w.alloc (.cells #[.int .i64 c] 63) = W0
  have HB : Aside0 (Below w.heap.size w W0) := ⟨by rw [← hW]; exact (Below.refl _ w).alloc (Nat.le_refl _) _⟩
  have hbx := boxv w (.int .i64 c) 63
  rw [hW] at hbx
  have a1 := (pw_cell_below HB.out hp)
  have a2 := (pw_cell_below HB.out hq)
  have a3 := (pw_cell_below HB.out hr)
  have a4 := hbx.1
  have g1 := (HB.out.frozen lp).trans fp
  have g2 := (HB.out.frozen lq).trans fq
  have g3 := (HB.out.frozen lr).trans fr
  have s2 := (World.cell?_setCell_other W0 p q (.string ⟨#[]⟩) (fun e => npq (by rw [e]))).trans a2
  have s3 := (World.cell?_setCell_other W0 p r (.string ⟨#[]⟩) (fun e => npr (by rw [e]))).trans a3
  have s4 := (World.cell?_setCell_other W0 p ⟨w.heap.size, 0, none⟩ (.string ⟨#[]⟩) (fun e => by rw [e] at lp; simp at lp)).trans a4
  have u3 := (World.cell?_setCell_other (W0.setCell p (.string ⟨#[]⟩)) q r (.int .i64 0) (fun e => nqr (by rw [e]))).trans s3
  have u4 := (World.cell?_setCell_other (W0.setCell p (.string ⟨#[]⟩)) q ⟨w.heap.size, 0, none⟩ (.int .i64 0) (fun e => by rw [e] at lq; simp at lq)).trans s4
  clear hW hbx hp hq hr fp fq fr npq npr nqr lp lq lr
  go_region
  clear hta a1 a2 a3 a4 g1 g2 g3 s2 s3 s4 u3 u4
  show _ ∧ _
  refine ⟨rfl, _, rfl, .tuple #[], ?_, rfl, rfl, W0, HB.out, rfl⟩
  simp [results, Try.results33, go_sem]
end Go.Proofs.Ytijfbnkohnlmaaa.X
end
section
namespace Go.Proofs.Ytijfbnkohnlmaaa.X
open Go.RowKit Go.Proofs.YtijfbnkohnlmaaaW.PrintWords Go.Proofs.YtijfbnkohnlmaaaW.PrintLast Go.Proofs.YtijfbnkohnlmaaaW.PrintMore
set_option linter.unusedVariables false
set_option linter.unusedSimpArgs false
def unqP (t : ByteArray) (at_ : Int) : ByteArray × Int × Int :=
  if at_ < 0 then (⟨#[]⟩, 0, 1) else if at_ > (t.size : Int) then (⟨#[]⟩, 0, 1) else if at_ = (t.size : Int) then (⟨#[]⟩, 0, 5) else if bt t at_ = 34 then
    match textP t (t.size + 1) (at_ + 1) [] with
    | .error e => (⟨#[]⟩, 0, e)
    | .ok (l, b) => (strOfNums l, b, 0)
  else (⟨#[]⟩, 0, 6)
def esc_Unquote.f (t : ByteArray) (at_ : Int) : Option (ByteArray × Int × Int) := if t.size ≤ 35184372080000 then some (unqP t at_) else none
theorem text_ok {t : ByteArray} {B : Nat} {a b : Int} {l : List Int} (w : World) (hs : t.size ≤ 35184372080000) (h0 : 0 ≤ a) (ha : a ≤ (t.size : Int)) (hB : w.heap[B]? = some (rdrBlk t a)) (hr : textP t (t.size + 1) a [] = .ok (l, b)) :
    Calls Try.prog 34 #[.pointer (some ⟨B, 0, none⟩)] w fun e w' => e = .returned (.string (strOfNums l)) ∧ w'.heap[B]? = some (rdrBlk t b) ∧ w.grownBy w' (some B) :=
  (esc_text t B a w hs h0 ha hB).mono fun e w' h => h.ok hr
theorem text_no {t : ByteArray} {B : Nat} {a c : Int} (w : World) (hs : t.size ≤ 35184372080000) (h0 : 0 ≤ a) (ha : a ≤ (t.size : Int)) (hB : w.heap[B]? = some (rdrBlk t a)) (hr : textP t (t.size + 1) a [] = .error c) :
    Calls Try.prog 34 #[.pointer (some ⟨B, 0, none⟩)] w fun e w' => e = pan c ∧ w.grownBy w' (some B) :=
  (esc_text t B a w hs h0 ha hB).mono fun e w' h => h.no hr
structure Box3 (w : World) (x : ByteArray) (y z : Int) (W : World) : Prop where
  c0 : W.cell? ⟨w.heap.size, 0, none⟩ = some (.string x)
  c1 : W.cell? ⟨w.heap.size + 1, 0, none⟩ = some (.int .i64 y)
  c2 : W.cell? ⟨w.heap.size + 1 + 1, 0, none⟩ = some (.int .i64 z)
  f0 : W.frozen? ⟨w.heap.size, 0, none⟩ = false
  f1 : W.frozen? ⟨w.heap.size + 1, 0, none⟩ = false
  f2 : W.frozen? ⟨w.heap.size + 1 + 1, 0, none⟩ = false
  B : Below w.heap.size w W
theorem Box3.start (w : World) (x : ByteArray) (y z : Int) (t u v : TypeId) : Box3 w x y z (((w.alloc (.cells #[.string x] t)).alloc (.cells #[.int .i64 y] u)).alloc (.cells #[.int .i64 z] v)) := by
  have h1 := boxv w (.string x) t
  have h2 := boxv (w.alloc (.cells #[.string x] t)) (.int .i64 y) u
  have h3 := boxv ((w.alloc (.cells #[.string x] t)).alloc (.cells #[.int .i64 y] u)) (.int .i64 z) v
  simp only [World.size_alloc] at h2 h3
  exact ⟨boxv_cell _ (boxv_cell _ h1.1), boxv_cell _ h2.1, h3.1, boxv_frozen _ (boxv_cell _ h1.1) (boxv_frozen _ h1.1 h1.2), boxv_frozen _ h2.1 h2.2, h3.2, (((Below.refl _ w).alloc (Nat.le_refl _) _).alloc (by simp) _).alloc (by simp; omega) _⟩
theorem Box3.alloc {w W : World} {x : ByteArray} {y z : Int} (h : Box3 w x y z W) (o : Obj) : Box3 w x y z (W.alloc o) :=
  ⟨boxv_cell _ h.c0, boxv_cell _ h.c1, boxv_cell _ h.c2, boxv_frozen _ h.c0 h.f0, boxv_frozen _ h.c1 h.f1, boxv_frozen _ h.c2 h.f2, h.B.alloc h.B.size _⟩
theorem Box3.step {w W W1 : World} {x : ByteArray} {y z : Int} {B : Nat} (h : Box3 w x y z W) (hg : W.grownBy W1 (some B)) (hB : w.heap.size + 2 < B) : Box3 w x y z W1 :=
  ⟨hg.cell h.c0 (by simp; omega), hg.cell h.c1 (by simp; omega), hg.cell h.c2 (by simp; omega), (hg.frozen_far _ (World.block_lt_of_cell? _ _ h.c0) (by simp; omega)).trans h.f0, (hg.frozen_far _ (World.block_lt_of_cell? _ _ h.c1) (by simp; omega)).trans h.f1, (hg.frozen_far _ (World.block_lt_of_cell? _ _ h.c2) (by simp; omega)).trans h.f2,
    h.B.grown hg h.B.size (fun k e => by cases e; omega)⟩
theorem Box3.set0 {w W : World} {x : ByteArray} {y z : Int} (h : Box3 w x y z W) (x' : ByteArray) : Box3 w x' y z (W.setCell ⟨w.heap.size, 0, none⟩ (.string x')) :=
  ⟨World.cell?_setCell_same' _ _ _ (by rw [h.c0]; rfl), (World.cell?_setCell_other _ _ _ _ (fun e => by have := congrArg Addr.block e; simp at this)).trans h.c1, (World.cell?_setCell_other _ _ _ _ (fun e => by have := congrArg Addr.block e; simp at this; omega)).trans h.c2,
    by rw [World.frozen?_setCell]; exact h.f0, by rw [World.frozen?_setCell]; exact h.f1, by rw [World.frozen?_setCell]; exact h.f2, h.B.setCell (p := ⟨w.heap.size, 0, none⟩) (Nat.le_refl _) _⟩
theorem Box3.set1 {w W : World} {x : ByteArray} {y z : Int} (h : Box3 w x y z W) (y' : Int) : Box3 w x y' z (W.setCell ⟨w.heap.size + 1, 0, none⟩ (.int .i64 y')) :=
  ⟨(World.cell?_setCell_other _ _ _ _ (fun e => by have := congrArg Addr.block e; simp at this)).trans h.c0, World.cell?_setCell_same' _ _ _ (by rw [h.c1]; rfl), (World.cell?_setCell_other _ _ _ _ (fun e => by have := congrArg Addr.block e; simp at this)).trans h.c2,
    by rw [World.frozen?_setCell]; exact h.f0, by rw [World.frozen?_setCell]; exact h.f1, by rw [World.frozen?_setCell]; exact h.f2, h.B.setCell (p := ⟨w.heap.size + 1, 0, none⟩) (by simp) _⟩
theorem Box3.set2 {w W : World} {x : ByteArray} {y z : Int} (h : Box3 w x y z W) (z' : Int) : Box3 w x y z' (W.setCell ⟨w.heap.size + 1 + 1, 0, none⟩ (.int .i64 z')) :=
  ⟨(World.cell?_setCell_other _ _ _ _ (fun e => by have := congrArg Addr.block e; simp at this; omega)).trans h.c0, (World.cell?_setCell_other _ _ _ _ (fun e => by have := congrArg Addr.block e; simp at this)).trans h.c1, World.cell?_setCell_same' _ _ _ (by rw [h.c2]; rfl),
    by rw [World.frozen?_setCell]; exact h.f0, by rw [World.frozen?_setCell]; exact h.f1, by rw [World.frozen?_setCell]; exact h.f2, h.B.setCell (p := ⟨w.heap.size + 1 + 1, 0, none⟩) (by simp; omega) _⟩
theorem Box3.drew {w W : World} {x : ByteArray} {y z : Int} (h : Box3 w x y z W) : Box3 w x y z W.drew := ⟨h.c0, h.c1, h.c2, h.f0, h.f1, h.f2, h.B.drew⟩
theorem Box3.below {w W W1 : World} {x : ByteArray} {y z : Int} (h : Box3 w x y z W) (hb : Below W.heap.size W W1) : Box3 w x y z W1 :=
  ⟨pw_cell_below hb h.c0, pw_cell_below hb h.c1, pw_cell_below hb h.c2, (hb.frozen (World.block_lt_of_cell? _ _ h.c0)).trans h.f0, (hb.frozen (World.block_lt_of_cell? _ _ h.c1)).trans h.f1, (hb.frozen (World.block_lt_of_cell? _ _ h.c2)).trans h.f2, below_then h.B h.B.size hb⟩
set_option maxRecDepth 100000 in
set_option maxHeartbeats 16000000 in
theorem esc_Unquote.calls (a0 : ByteArray) (a1 : Int) (r1 : ByteArray) (r2 r3 : Int) (w : World) (h : esc_Unquote.f a0 a1 = some (r1, r2, r3)) :
    Calls Try.prog 22 #[.string a0, .int .i64 a1] w fun e w' => e = .returned (.tuple #[.string r1, .int .i64 r2, .int .i64 r3]) ∧ Below w.heap.size w w' := by
  unfold esc_Unquote.f at h
  by_cases hs : a0.size ≤ 35184372080000
  case neg => rw [if_neg hs] at h; cases h
  rw [if_pos hs] at h
  have H : unqP a0 a1 = (r1, r2, r3) := Option.some.inj h
  clear h
  have hmf : ∀ (fn : Fn) (first cap : Array Value) (w : World), (Instr.makeFunc fn first cap).run Try.prog w = .ok (.func fn first cap) w := fun _ _ _ _ => rfl
  have HS := fun z : Int => Box3.start w ⟨#[]⟩ 0 z 9 3 24
  unfold unqP at H
  by_cases c1 : a1 < 0
  · rw [if_pos c1] at H
    simp only [Prod.mk.injEq] at H
    obtain ⟨rfl, rfl, rfl⟩ := H
    have hX := HS 1
    have k0 := hX.c0
    have k1 := hX.c1
    have k2 := hX.c2
    have HB := Aside0.mk hX.B
    clear hX HS
    go_enter_defers Try.func22, Try.ntmps22
    go_wp2
    show ∃ v, _ ∧ _
    refine ⟨.tuple #[.string ⟨#[]⟩, .int .i64 0, .int .i64 1], ?_, rfl, HB.out⟩
    simp [results, Try.results22, go_sem, k0, k1, k2]
  rw [if_neg c1] at H
  by_cases c2 : a1 > (a0.size : Int)
  · rw [if_pos c2] at H
    simp only [Prod.mk.injEq] at H
    obtain ⟨rfl, rfl, rfl⟩ := H
    have hX := HS 1
    have k0 := hX.c0
    have k1 := hX.c1
    have k2 := hX.c2
    have HB := Aside0.mk hX.B
    clear hX HS
    go_enter_defers Try.func22, Try.ntmps22
    go_wp2
    show ∃ v, _ ∧ _
    refine ⟨.tuple #[.string ⟨#[]⟩, .int .i64 0, .int .i64 1], ?_, rfl, HB.out⟩
    simp [results, Try.results22, go_sem, k0, k1, k2]
  rw [if_neg c2] at H
  by_cases c3 : a1 = (a0.size : Int)
  · rw [if_pos c3] at H
    have c3' : (a1 == (a0.size : Int)) = true := by simp [c3]
    clear c3
    simp only [Prod.mk.injEq] at H
    obtain ⟨rfl, rfl, rfl⟩ := H
    have hX := HS 5
    have k0 := hX.c0
    have k1 := hX.c1
    have k2 := hX.c2
    have HB := Aside0.mk hX.B
    clear hX HS
    go_enter_defers Try.func22, Try.ntmps22
    go_wp2
    show ∃ v, _ ∧ _
    refine ⟨.tuple #[.string ⟨#[]⟩, .int .i64 0, .int .i64 5], ?_, rfl, HB.out⟩
    simp [results, Try.results22, go_sem, k0, k1, k2]
  rw [if_neg c3] at H
  have c3' : (a1 == (a0.size : Int)) = false := by simp [c3]
  have hx := bt_at a0 a1
  have c4 : a1 < (a0.size : Int) := by omega
  by_cases c5 : bt a0 a1 = 34
  case neg =>
    rw [if_neg c5] at H
    have c5' : (bt a0 a1 != 34) = true := by simp [c5]
    clear c5
    simp only [Prod.mk.injEq] at H
    obtain ⟨rfl, rfl, rfl⟩ := H
    have hX := HS 6
    have k0 := hX.c0
    have k1 := hX.c1
    have k2 := hX.c2
    have HB := Aside0.mk hX.B
    clear hX HS
    go_enter_defers Try.func22, Try.ntmps22
    go_wp2
    show ∃ v, _ ∧ _
    refine ⟨.tuple #[.string ⟨#[]⟩, .int .i64 0, .int .i64 6], ?_, rfl, HB.out⟩
    simp [results, Try.results22, go_sem, k0, k1, k2]
  rw [if_pos c5] at H
  have c5' : (bt a0 a1 != 34) = false := by simp [c5]
  have HX := Aside0.mk (HS 0)
  have HN := Aside0.mk (show ((((w.alloc (.cells #[.string ⟨#[]⟩] 9)).alloc (.cells #[.int .i64 0] 3)).alloc (.cells #[.int .i64 0] 24)).alloc (.cells #[.string a0, .int .i64 (a1 + 1)] 66)).heap[w.heap.size + 1 + 1 + 1]? = some (rdrBlk a0 (a1 + 1)) by
    simpa [rdrBlk] using blk_new (((w.alloc (.cells #[.string ⟨#[]⟩] 9)).alloc (.cells #[.int .i64 0] 3)).alloc (.cells #[.int .i64 0] 24)) (.cells #[.string a0, .int .i64 (a1 + 1)] 66))
  clear HS
  cases ht : textP a0 (a0.size + 1) (a1 + 1) [] with
  | error e =>
    rw [ht] at H
    simp only [Prod.mk.injEq] at H
    obtain ⟨rfl, rfl, rfl⟩ := H
    have HT := Aside0.mk ht
    clear ht c3 c5
    go_enter_defers Try.func22, Try.ntmps22
    go_wp2_with (go_at_call 34; refine (text_no (B := w.heap.size + 1 + 1 + 1) _ hs (by omega) (by omega) HN.out HT.out).mono ?_; rintro e w1 ⟨rfl, hg1⟩; have HX1 := Aside0.mk ((HX.out.alloc _).step hg1 (by omega)); clear hg1)
    refine leaves_cons (f := 33) (args := #[.pointer (some ⟨w.heap.size, 0, none⟩), .pointer (some ⟨w.heap.size + 1, 0, none⟩), .pointer (some ⟨w.heap.size + 1 + 1, 0, none⟩)]) (by simp) (by simp [go_sem]) ?_
    refine (catch_pan _ _ _ _ _ _ _ _ HX1.out.c0 HX1.out.c1 HX1.out.c2 HX1.out.f0 HX1.out.f1 HX1.out.f2 (by simp) (by simp; omega) (by simp)).mono ?_
    rintro e u' w2 ⟨rfl, rfl, W1, hb, rfl⟩
    have hX := ((((HX1.out.below hb).set0 ⟨#[]⟩).set1 0).set2 e).drew
    have k0 := hX.c0
    have k1 := hX.c1
    have k2 := hX.c2
    show ∃ v, _ ∧ _
    refine ⟨.tuple #[.string ⟨#[]⟩, .int .i64 0, .int .i64 e], ?_, rfl, hX.B⟩
    simp [results, Try.results22, go_sem, k0, k1, k2]
  | ok lb =>
    obtain ⟨l, b⟩ := lb
    rw [ht] at H
    simp only [Prod.mk.injEq] at H
    obtain ⟨rfl, rfl, rfl⟩ := H
    have HT := Aside0.mk ht
    clear ht c3 c5
    go_enter_defers Try.func22, Try.ntmps22
    go_wp2_with (go_at_call 34; refine (text_ok (B := w.heap.size + 1 + 1 + 1) _ hs (by omega) (by omega) HN.out HT.out).mono ?_; rintro e w1 ⟨rfl, hB1, hg1⟩; have HX1 := Aside0.mk ((HX.out.alloc _).step hg1 (by omega)); have HB1 := Aside0.mk hB1; have m0 := HX1.out.c0; have n0 := HX1.out.f0; clear hg1 hB1)
    have hY := HX1.out.set0 (strOfNums l)
    have hC : (w1.setCell ⟨w.heap.size, 0, none⟩ (.string (strOfNums l))).cell? ⟨w.heap.size + 1 + 1 + 1, 1, none⟩ = some (.int .i64 b) :=
      (World.cell?_setCell_other _ _ _ _ (fun e => by have := congrArg Addr.block e; simp at this; omega)).trans ((blk_cell HB1.out 1).trans rfl)
    generalize w1.setCell ⟨w.heap.size, 0, none⟩ (.string (strOfNums l)) = W2 at hY hC ⊢
    have hC2 : (W2.setCell ⟨w.heap.size, 0, none⟩ (.string (strOfNums l))).cell? ⟨w.heap.size + 1 + 1 + 1, 1, none⟩ = some (.int .i64 b) :=
      (World.cell?_setCell_other _ _ _ _ (fun e => by have := congrArg Addr.block e; simp at this; omega)).trans hC
    have y0 := hY.c0
    have y1 := hY.c1
    have y2 := hY.c2
    have f0 := hY.f0
    have f1 := hY.f1
    have f2 := hY.f2
    have z1 := (hY.set0 (strOfNums l)).c1
    have z2 := (hY.set0 (strOfNums l)).c2
    have v2 := ((hY.set0 (strOfNums l)).set1 b).c2
    have HY := Aside0.mk hY
    clear hY m0 n0
    go_region
    all_goals clear y0 y1 y2 f0 f1 f2 z1 z2 v2 hC hC2
    all_goals go_wp2
    refine leaves_cons (f := 33) (args := #[.pointer (some ⟨w.heap.size, 0, none⟩), .pointer (some ⟨w.heap.size + 1, 0, none⟩), .pointer (some ⟨w.heap.size + 1 + 1, 0, none⟩)]) (by simp) (by simp [go_sem]) ?_
    refine (catch_idle _ _ _ _).mono ?_
    rintro e u' w2 ⟨rfl, rfl, rfl⟩
    have hX := (((HY.out.set0 (strOfNums l)).set1 b).set2 0).drew
    have k0 := hX.c0
    have k1 := hX.c1
    have k2 := hX.c2
    show ∃ v, _ ∧ _
    refine ⟨.tuple #[.string (strOfNums l), .int .i64 b, .int .i64 0], ?_, rfl, hX.B⟩
    simp [results, Try.results22, go_sem, k0, k1, k2]
end Go.Proofs.Ytijfbnkohnlmaaa.X
end
section
namespace Go.Proofs.Ytijfbnkohnlmaaa.X
open Go.RowKit Go.Proofs.YtijfbnkohnlmaaaW.PrintWords Go.Proofs.YtijfbnkohnlmaaaW.PrintLast Go.Proofs.YtijfbnkohnlmaaaW.PrintMore
attribute [local go_sem] max2_int min2_int max_two min_two max_three min_three max_four min_four
set_option linter.unusedVariables false
set_option linter.unusedSimpArgs false
def sealringlaw04_lives.f (k : Nat)  : Option (Bool) := (esc_Quote.f k (⟨#[10]⟩ : ByteArray)).bind fun bt213 => ((esc_Unquote.f (⟨#[34, 92, 117, 100, 56, 51, 100, 92, 117, 100, 101, 48, 48, 34]⟩ : ByteArray) 0).bind fun bt215 => ((esc_Unquote.f (⟨#[34, 92, 120, 34]⟩ : ByteArray) 0).bind fun bt218 => (if bt213.1.toList = ([34, 92, 110, 34] : List UInt8) then (if bt213.2 = 0 then (if bt215.1.toList = ([240, 159, 152, 128] : List UInt8) then (if bt215.2.1 = 14 then (if bt215.2.2 = 0 then (some (bt218.2.2 == 11)) else (some false)) else (some false)) else (some false)) else (some false)) else (some false))))
theorem sealringlaw04_lives.mono : ∀ k, LeO (sealringlaw04_lives.f k ) (sealringlaw04_lives.f (k + 1) ) := by
  intro  k
  unfold sealringlaw04_lives.f
  repeat' first
      | (with_reducible exact esc_Quote.mono _ _)
      | (with_reducible exact LeO.refl _)
      | (with_reducible exact LeO.none _)
      | (with_reducible refine LeO.ite ?_ ?_)
      | (with_reducible refine LeO.bind ?_ (fun _ => ?_))
      | exact esc_Quote.mono _ _
      | exact LeO.none _
      | refine LeO.ite ?_ ?_
      | refine LeO.bind ?_ (fun _ => ?_)
set_option maxHeartbeats 8000000 in
set_option maxRecDepth 100000 in
theorem sealringlaw04_lives.calls (k : Nat)  (r : Bool) (w : World) (h : sealringlaw04_lives.f k  = some r) :
    Calls Try.prog 21 #[] w fun e w' => e = .returned (.bool r) ∧ Below w.heap.size w w' := by
  have HB := Aside0.mk (Below.refl w.heap.size w)
  have H : ((esc_Quote.f k (⟨#[10]⟩ : ByteArray)).bind fun bt213 => ((esc_Unquote.f (⟨#[34, 92, 117, 100, 56, 51, 100, 92, 117, 100, 101, 48, 48, 34]⟩ : ByteArray) 0).bind fun bt215 => ((esc_Unquote.f (⟨#[34, 92, 120, 34]⟩ : ByteArray) 0).bind fun bt218 => (if bt213.1.toList = ([34, 92, 110, 34] : List UInt8) then (if bt213.2 = 0 then (if bt215.1.toList = ([240, 159, 152, 128] : List UInt8) then (if bt215.2.1 = 14 then (if bt215.2.2 = 0 then (some (bt218.2.2 == 11)) else (some false)) else (some false)) else (some false)) else (some false)) else (some false))))) = some r := h
  clear h
  replace H := Option.bind_eq_some_iff.mp H
  obtain ⟨⟨t213, t214⟩, A10, H⟩ := H
  replace H : ((esc_Unquote.f (⟨#[34, 92, 117, 100, 56, 51, 100, 92, 117, 100, 101, 48, 48, 34]⟩ : ByteArray) 0).bind fun bt215 => ((esc_Unquote.f (⟨#[34, 92, 120, 34]⟩ : ByteArray) 0).bind fun bt218 => (if t213.toList = ([34, 92, 110, 34] : List UInt8) then (if t214 = 0 then (if bt215.1.toList = ([240, 159, 152, 128] : List UInt8) then (if bt215.2.1 = 14 then (if bt215.2.2 = 0 then (some (bt218.2.2 == 11)) else (some false)) else (some false)) else (some false)) else (some false)) else (some false)))) = some r := H
  have A1 := Aside0.mk A10
  clear A10
  replace H := Option.bind_eq_some_iff.mp H
  obtain ⟨⟨t215, t216, t217⟩, A20, H⟩ := H
  replace H : ((esc_Unquote.f (⟨#[34, 92, 120, 34]⟩ : ByteArray) 0).bind fun bt218 => (if t213.toList = ([34, 92, 110, 34] : List UInt8) then (if t214 = 0 then (if t215.toList = ([240, 159, 152, 128] : List UInt8) then (if t216 = 14 then (if t217 = 0 then (some (bt218.2.2 == 11)) else (some false)) else (some false)) else (some false)) else (some false)) else (some false))) = some r := H
  have A2 := Aside0.mk A20
  clear A20
  replace H := Option.bind_eq_some_iff.mp H
  obtain ⟨⟨t218, t219, t220⟩, A30, H⟩ := H
  replace H : (if t213.toList = ([34, 92, 110, 34] : List UInt8) then (if t214 = 0 then (if t215.toList = ([240, 159, 152, 128] : List UInt8) then (if t216 = 14 then (if t217 = 0 then (some (t220 == 11)) else (some false)) else (some false)) else (some false)) else (some false)) else (some false)) = some r := H
  have A3 := Aside0.mk A30
  clear A30
  by_cases c4 : t213.toList = ([34, 92, 110, 34] : List UInt8)
  · rw [if_pos c4] at H
    have c4b0 : (t213.toList == ([34, 92, 110, 34] : List UInt8)) = true := beq_iff_eq.mpr c4
    have c4b1 : (t213.toList != ([34, 92, 110, 34] : List UInt8)) = false := bne_eq_false_iff_eq.mpr c4
    clear c4
    by_cases c5 : t214 = 0
    · rw [if_pos c5] at H
      have c5b0 : (t214 == 0) = true := beq_iff_eq.mpr c5
      have c5b1 : (t214 != 0) = false := bne_eq_false_iff_eq.mpr c5
      clear c5
      by_cases c6 : t215.toList = ([240, 159, 152, 128] : List UInt8)
      · rw [if_pos c6] at H
        have c6b0 : (t215.toList == ([240, 159, 152, 128] : List UInt8)) = true := beq_iff_eq.mpr c6
        have c6b1 : (t215.toList != ([240, 159, 152, 128] : List UInt8)) = false := bne_eq_false_iff_eq.mpr c6
        clear c6
        by_cases c7 : t216 = 14
        · rw [if_pos c7] at H
          have c7b0 : (t216 == 14) = true := beq_iff_eq.mpr c7
          have c7b1 : (t216 != 14) = false := bne_eq_false_iff_eq.mpr c7
          clear c7
          by_cases c8 : t217 = 0
          · rw [if_pos c8] at H
            have c8b0 : (t217 == 0) = true := beq_iff_eq.mpr c8
            have c8b1 : (t217 != 0) = false := bne_eq_false_iff_eq.mpr c8
            clear c8
            obtain rfl := Option.some.inj H
            go_enter Try.func21, Try.ntmps21
            go_wp2_with (first | ((with_reducible refine gate_callee (f := 24) rfl ?_); refine goesL_ (some 10) rfl rfl Try.func24 (by kernel_rfl) rfl #[.string (⟨#[10]⟩ : ByteArray)] rfl (by (try simp only [List.map_toArray, List.map_cons, List.map_nil]); first | done | rfl | (simp only [List.length_drop, List.length_take]; rfl)) ?_; (with_reducible refine (esc_Quote.calls k (⟨#[10]⟩ : ByteArray) t213 t214 _ A1.out).mono ?_); rintro e w9 ⟨rfl, hb⟩; refine ⟨_, rfl, ?_⟩; have n0_ := Aside0.mk (below_step (by repeat (first | (with_reducible first | exact HB.out | apply below_alloc | apply pw_below_drewN | apply below_drew1) | exact HB.out)) hb); clear HB; have HB := n0_; clear n0_; (try clear hb); (try clear hb2); (try clear hk); (try clear hi)) | ((with_reducible refine gate_callee (f := 22) rfl ?_); refine goesL_ (some 14) rfl rfl Try.func22 (by kernel_rfl) rfl #[.string (⟨#[34, 92, 117, 100, 56, 51, 100, 92, 117, 100, 101, 48, 48, 34]⟩ : ByteArray), .int .i64 0] rfl (by (try simp only [List.map_toArray, List.map_cons, List.map_nil]); first | done | rfl | (simp only [List.length_drop, List.length_take]; rfl)) ?_; (with_reducible refine (esc_Unquote.calls (⟨#[34, 92, 117, 100, 56, 51, 100, 92, 117, 100, 101, 48, 48, 34]⟩ : ByteArray) 0 t215 t216 t217 _ A2.out).mono ?_); rintro e w10 ⟨rfl, hb⟩; refine ⟨_, rfl, ?_⟩; have n0_ := Aside0.mk (below_step (by repeat (first | (with_reducible first | exact HB.out | apply below_alloc | apply pw_below_drewN | apply below_drew1) | exact HB.out)) hb); clear HB; have HB := n0_; clear n0_; (try clear hb); (try clear hb2); (try clear hk); (try clear hi)) | ((with_reducible refine gate_callee (f := 22) rfl ?_); refine goesL_ (some 19) rfl rfl Try.func22 (by kernel_rfl) rfl #[.string (⟨#[34, 92, 120, 34]⟩ : ByteArray), .int .i64 0] rfl (by (try simp only [List.map_toArray, List.map_cons, List.map_nil]); first | done | rfl | (simp only [List.length_drop, List.length_take]; rfl)) ?_; (with_reducible refine (esc_Unquote.calls (⟨#[34, 92, 120, 34]⟩ : ByteArray) 0 t218 t219 t220 _ A3.out).mono ?_); rintro e w11 ⟨rfl, hb⟩; refine ⟨_, rfl, ?_⟩; have n0_ := Aside0.mk (below_step (by repeat (first | (with_reducible first | exact HB.out | apply below_alloc | apply pw_below_drewN | apply below_drew1) | exact HB.out)) hb); clear HB; have HB := n0_; clear n0_; (try clear hb); (try clear hb2); (try clear hk); (try clear hi)))
            go_ret
            exact ⟨by first | rfl | (simp [errW_none, errW_some] <;> rfl) | (simp [*, errW_none, errW_some] <;> rfl), by repeat (first | (with_reducible first | exact HB.out | apply below_alloc | apply pw_below_drewN | apply below_drew1) | exact HB.out)⟩
          · rw [if_neg c8] at H
            have c8b0 : (t217 == 0) = false := beq_eq_false_iff_ne.mpr c8
            have c8b1 : (t217 != 0) = true := bne_iff_ne.mpr c8
            obtain rfl := Option.some.inj H
            go_enter Try.func21, Try.ntmps21
            go_wp2_with (first | ((with_reducible refine gate_callee (f := 24) rfl ?_); refine goesL_ (some 10) rfl rfl Try.func24 (by kernel_rfl) rfl #[.string (⟨#[10]⟩ : ByteArray)] rfl (by (try simp only [List.map_toArray, List.map_cons, List.map_nil]); first | done | rfl | (simp only [List.length_drop, List.length_take]; rfl)) ?_; (with_reducible refine (esc_Quote.calls k (⟨#[10]⟩ : ByteArray) t213 t214 _ A1.out).mono ?_); rintro e w12 ⟨rfl, hb⟩; refine ⟨_, rfl, ?_⟩; have n0_ := Aside0.mk (below_step (by repeat (first | (with_reducible first | exact HB.out | apply below_alloc | apply pw_below_drewN | apply below_drew1) | exact HB.out)) hb); clear HB; have HB := n0_; clear n0_; (try clear hb); (try clear hb2); (try clear hk); (try clear hi)) | ((with_reducible refine gate_callee (f := 22) rfl ?_); refine goesL_ (some 14) rfl rfl Try.func22 (by kernel_rfl) rfl #[.string (⟨#[34, 92, 117, 100, 56, 51, 100, 92, 117, 100, 101, 48, 48, 34]⟩ : ByteArray), .int .i64 0] rfl (by (try simp only [List.map_toArray, List.map_cons, List.map_nil]); first | done | rfl | (simp only [List.length_drop, List.length_take]; rfl)) ?_; (with_reducible refine (esc_Unquote.calls (⟨#[34, 92, 117, 100, 56, 51, 100, 92, 117, 100, 101, 48, 48, 34]⟩ : ByteArray) 0 t215 t216 t217 _ A2.out).mono ?_); rintro e w13 ⟨rfl, hb⟩; refine ⟨_, rfl, ?_⟩; have n0_ := Aside0.mk (below_step (by repeat (first | (with_reducible first | exact HB.out | apply below_alloc | apply pw_below_drewN | apply below_drew1) | exact HB.out)) hb); clear HB; have HB := n0_; clear n0_; (try clear hb); (try clear hb2); (try clear hk); (try clear hi)) | ((with_reducible refine gate_callee (f := 22) rfl ?_); refine goesL_ (some 19) rfl rfl Try.func22 (by kernel_rfl) rfl #[.string (⟨#[34, 92, 120, 34]⟩ : ByteArray), .int .i64 0] rfl (by (try simp only [List.map_toArray, List.map_cons, List.map_nil]); first | done | rfl | (simp only [List.length_drop, List.length_take]; rfl)) ?_; (with_reducible refine (esc_Unquote.calls (⟨#[34, 92, 120, 34]⟩ : ByteArray) 0 t218 t219 t220 _ A3.out).mono ?_); rintro e w14 ⟨rfl, hb⟩; refine ⟨_, rfl, ?_⟩; have n0_ := Aside0.mk (below_step (by repeat (first | (with_reducible first | exact HB.out | apply below_alloc | apply pw_below_drewN | apply below_drew1) | exact HB.out)) hb); clear HB; have HB := n0_; clear n0_; (try clear hb); (try clear hb2); (try clear hk); (try clear hi)))
            go_ret
            exact ⟨by first | rfl | (simp [errW_none, errW_some] <;> rfl) | (simp [*, errW_none, errW_some] <;> rfl), by repeat (first | (with_reducible first | exact HB.out | apply below_alloc | apply pw_below_drewN | apply below_drew1) | exact HB.out)⟩
        · rw [if_neg c7] at H
          have c7b0 : (t216 == 14) = false := beq_eq_false_iff_ne.mpr c7
          have c7b1 : (t216 != 14) = true := bne_iff_ne.mpr c7
          obtain rfl := Option.some.inj H
          go_enter Try.func21, Try.ntmps21
          go_wp2_with (first | ((with_reducible refine gate_callee (f := 24) rfl ?_); refine goesL_ (some 10) rfl rfl Try.func24 (by kernel_rfl) rfl #[.string (⟨#[10]⟩ : ByteArray)] rfl (by (try simp only [List.map_toArray, List.map_cons, List.map_nil]); first | done | rfl | (simp only [List.length_drop, List.length_take]; rfl)) ?_; (with_reducible refine (esc_Quote.calls k (⟨#[10]⟩ : ByteArray) t213 t214 _ A1.out).mono ?_); rintro e w15 ⟨rfl, hb⟩; refine ⟨_, rfl, ?_⟩; have n0_ := Aside0.mk (below_step (by repeat (first | (with_reducible first | exact HB.out | apply below_alloc | apply pw_below_drewN | apply below_drew1) | exact HB.out)) hb); clear HB; have HB := n0_; clear n0_; (try clear hb); (try clear hb2); (try clear hk); (try clear hi)) | ((with_reducible refine gate_callee (f := 22) rfl ?_); refine goesL_ (some 14) rfl rfl Try.func22 (by kernel_rfl) rfl #[.string (⟨#[34, 92, 117, 100, 56, 51, 100, 92, 117, 100, 101, 48, 48, 34]⟩ : ByteArray), .int .i64 0] rfl (by (try simp only [List.map_toArray, List.map_cons, List.map_nil]); first | done | rfl | (simp only [List.length_drop, List.length_take]; rfl)) ?_; (with_reducible refine (esc_Unquote.calls (⟨#[34, 92, 117, 100, 56, 51, 100, 92, 117, 100, 101, 48, 48, 34]⟩ : ByteArray) 0 t215 t216 t217 _ A2.out).mono ?_); rintro e w16 ⟨rfl, hb⟩; refine ⟨_, rfl, ?_⟩; have n0_ := Aside0.mk (below_step (by repeat (first | (with_reducible first | exact HB.out | apply below_alloc | apply pw_below_drewN | apply below_drew1) | exact HB.out)) hb); clear HB; have HB := n0_; clear n0_; (try clear hb); (try clear hb2); (try clear hk); (try clear hi)) | ((with_reducible refine gate_callee (f := 22) rfl ?_); refine goesL_ (some 19) rfl rfl Try.func22 (by kernel_rfl) rfl #[.string (⟨#[34, 92, 120, 34]⟩ : ByteArray), .int .i64 0] rfl (by (try simp only [List.map_toArray, List.map_cons, List.map_nil]); first | done | rfl | (simp only [List.length_drop, List.length_take]; rfl)) ?_; (with_reducible refine (esc_Unquote.calls (⟨#[34, 92, 120, 34]⟩ : ByteArray) 0 t218 t219 t220 _ A3.out).mono ?_); rintro e w17 ⟨rfl, hb⟩; refine ⟨_, rfl, ?_⟩; have n0_ := Aside0.mk (below_step (by repeat (first | (with_reducible first | exact HB.out | apply below_alloc | apply pw_below_drewN | apply below_drew1) | exact HB.out)) hb); clear HB; have HB := n0_; clear n0_; (try clear hb); (try clear hb2); (try clear hk); (try clear hi)))
          go_ret
          exact ⟨by first | rfl | (simp [errW_none, errW_some] <;> rfl) | (simp [*, errW_none, errW_some] <;> rfl), by repeat (first | (with_reducible first | exact HB.out | apply below_alloc | apply pw_below_drewN | apply below_drew1) | exact HB.out)⟩
      · rw [if_neg c6] at H
        have c6b0 : (t215.toList == ([240, 159, 152, 128] : List UInt8)) = false := beq_eq_false_iff_ne.mpr c6
        have c6b1 : (t215.toList != ([240, 159, 152, 128] : List UInt8)) = true := bne_iff_ne.mpr c6
        obtain rfl := Option.some.inj H
        go_enter Try.func21, Try.ntmps21
        go_wp2_with (first | ((with_reducible refine gate_callee (f := 24) rfl ?_); refine goesL_ (some 10) rfl rfl Try.func24 (by kernel_rfl) rfl #[.string (⟨#[10]⟩ : ByteArray)] rfl (by (try simp only [List.map_toArray, List.map_cons, List.map_nil]); first | done | rfl | (simp only [List.length_drop, List.length_take]; rfl)) ?_; (with_reducible refine (esc_Quote.calls k (⟨#[10]⟩ : ByteArray) t213 t214 _ A1.out).mono ?_); rintro e w18 ⟨rfl, hb⟩; refine ⟨_, rfl, ?_⟩; have n0_ := Aside0.mk (below_step (by repeat (first | (with_reducible first | exact HB.out | apply below_alloc | apply pw_below_drewN | apply below_drew1) | exact HB.out)) hb); clear HB; have HB := n0_; clear n0_; (try clear hb); (try clear hb2); (try clear hk); (try clear hi)) | ((with_reducible refine gate_callee (f := 22) rfl ?_); refine goesL_ (some 14) rfl rfl Try.func22 (by kernel_rfl) rfl #[.string (⟨#[34, 92, 117, 100, 56, 51, 100, 92, 117, 100, 101, 48, 48, 34]⟩ : ByteArray), .int .i64 0] rfl (by (try simp only [List.map_toArray, List.map_cons, List.map_nil]); first | done | rfl | (simp only [List.length_drop, List.length_take]; rfl)) ?_; (with_reducible refine (esc_Unquote.calls (⟨#[34, 92, 117, 100, 56, 51, 100, 92, 117, 100, 101, 48, 48, 34]⟩ : ByteArray) 0 t215 t216 t217 _ A2.out).mono ?_); rintro e w19 ⟨rfl, hb⟩; refine ⟨_, rfl, ?_⟩; have n0_ := Aside0.mk (below_step (by repeat (first | (with_reducible first | exact HB.out | apply below_alloc | apply pw_below_drewN | apply below_drew1) | exact HB.out)) hb); clear HB; have HB := n0_; clear n0_; (try clear hb); (try clear hb2); (try clear hk); (try clear hi)) | ((with_reducible refine gate_callee (f := 22) rfl ?_); refine goesL_ (some 19) rfl rfl Try.func22 (by kernel_rfl) rfl #[.string (⟨#[34, 92, 120, 34]⟩ : ByteArray), .int .i64 0] rfl (by (try simp only [List.map_toArray, List.map_cons, List.map_nil]); first | done | rfl | (simp only [List.length_drop, List.length_take]; rfl)) ?_; (with_reducible refine (esc_Unquote.calls (⟨#[34, 92, 120, 34]⟩ : ByteArray) 0 t218 t219 t220 _ A3.out).mono ?_); rintro e w20 ⟨rfl, hb⟩; refine ⟨_, rfl, ?_⟩; have n0_ := Aside0.mk (below_step (by repeat (first | (with_reducible first | exact HB.out | apply below_alloc | apply pw_below_drewN | apply below_drew1) | exact HB.out)) hb); clear HB; have HB := n0_; clear n0_; (try clear hb); (try clear hb2); (try clear hk); (try clear hi)))
        go_ret
        exact ⟨by first | rfl | (simp [errW_none, errW_some] <;> rfl) | (simp [*, errW_none, errW_some] <;> rfl), by repeat (first | (with_reducible first | exact HB.out | apply below_alloc | apply pw_below_drewN | apply below_drew1) | exact HB.out)⟩
    · rw [if_neg c5] at H
      have c5b0 : (t214 == 0) = false := beq_eq_false_iff_ne.mpr c5
      have c5b1 : (t214 != 0) = true := bne_iff_ne.mpr c5
      obtain rfl := Option.some.inj H
      go_enter Try.func21, Try.ntmps21
      go_wp2_with (first | ((with_reducible refine gate_callee (f := 24) rfl ?_); refine goesL_ (some 10) rfl rfl Try.func24 (by kernel_rfl) rfl #[.string (⟨#[10]⟩ : ByteArray)] rfl (by (try simp only [List.map_toArray, List.map_cons, List.map_nil]); first | done | rfl | (simp only [List.length_drop, List.length_take]; rfl)) ?_; (with_reducible refine (esc_Quote.calls k (⟨#[10]⟩ : ByteArray) t213 t214 _ A1.out).mono ?_); rintro e w21 ⟨rfl, hb⟩; refine ⟨_, rfl, ?_⟩; have n0_ := Aside0.mk (below_step (by repeat (first | (with_reducible first | exact HB.out | apply below_alloc | apply pw_below_drewN | apply below_drew1) | exact HB.out)) hb); clear HB; have HB := n0_; clear n0_; (try clear hb); (try clear hb2); (try clear hk); (try clear hi)) | ((with_reducible refine gate_callee (f := 22) rfl ?_); refine goesL_ (some 14) rfl rfl Try.func22 (by kernel_rfl) rfl #[.string (⟨#[34, 92, 117, 100, 56, 51, 100, 92, 117, 100, 101, 48, 48, 34]⟩ : ByteArray), .int .i64 0] rfl (by (try simp only [List.map_toArray, List.map_cons, List.map_nil]); first | done | rfl | (simp only [List.length_drop, List.length_take]; rfl)) ?_; (with_reducible refine (esc_Unquote.calls (⟨#[34, 92, 117, 100, 56, 51, 100, 92, 117, 100, 101, 48, 48, 34]⟩ : ByteArray) 0 t215 t216 t217 _ A2.out).mono ?_); rintro e w22 ⟨rfl, hb⟩; refine ⟨_, rfl, ?_⟩; have n0_ := Aside0.mk (below_step (by repeat (first | (with_reducible first | exact HB.out | apply below_alloc | apply pw_below_drewN | apply below_drew1) | exact HB.out)) hb); clear HB; have HB := n0_; clear n0_; (try clear hb); (try clear hb2); (try clear hk); (try clear hi)) | ((with_reducible refine gate_callee (f := 22) rfl ?_); refine goesL_ (some 19) rfl rfl Try.func22 (by kernel_rfl) rfl #[.string (⟨#[34, 92, 120, 34]⟩ : ByteArray), .int .i64 0] rfl (by (try simp only [List.map_toArray, List.map_cons, List.map_nil]); first | done | rfl | (simp only [List.length_drop, List.length_take]; rfl)) ?_; (with_reducible refine (esc_Unquote.calls (⟨#[34, 92, 120, 34]⟩ : ByteArray) 0 t218 t219 t220 _ A3.out).mono ?_); rintro e w23 ⟨rfl, hb⟩; refine ⟨_, rfl, ?_⟩; have n0_ := Aside0.mk (below_step (by repeat (first | (with_reducible first | exact HB.out | apply below_alloc | apply pw_below_drewN | apply below_drew1) | exact HB.out)) hb); clear HB; have HB := n0_; clear n0_; (try clear hb); (try clear hb2); (try clear hk); (try clear hi)))
      go_ret
      exact ⟨by first | rfl | (simp [errW_none, errW_some] <;> rfl) | (simp [*, errW_none, errW_some] <;> rfl), by repeat (first | (with_reducible first | exact HB.out | apply below_alloc | apply pw_below_drewN | apply below_drew1) | exact HB.out)⟩
  · rw [if_neg c4] at H
    have c4b0 : (t213.toList == ([34, 92, 110, 34] : List UInt8)) = false := beq_eq_false_iff_ne.mpr c4
    have c4b1 : (t213.toList != ([34, 92, 110, 34] : List UInt8)) = true := bne_iff_ne.mpr c4
    obtain rfl := Option.some.inj H
    go_enter Try.func21, Try.ntmps21
    go_wp2_with (first | ((with_reducible refine gate_callee (f := 24) rfl ?_); refine goesL_ (some 10) rfl rfl Try.func24 (by kernel_rfl) rfl #[.string (⟨#[10]⟩ : ByteArray)] rfl (by (try simp only [List.map_toArray, List.map_cons, List.map_nil]); first | done | rfl | (simp only [List.length_drop, List.length_take]; rfl)) ?_; (with_reducible refine (esc_Quote.calls k (⟨#[10]⟩ : ByteArray) t213 t214 _ A1.out).mono ?_); rintro e w24 ⟨rfl, hb⟩; refine ⟨_, rfl, ?_⟩; have n0_ := Aside0.mk (below_step (by repeat (first | (with_reducible first | exact HB.out | apply below_alloc | apply pw_below_drewN | apply below_drew1) | exact HB.out)) hb); clear HB; have HB := n0_; clear n0_; (try clear hb); (try clear hb2); (try clear hk); (try clear hi)) | ((with_reducible refine gate_callee (f := 22) rfl ?_); refine goesL_ (some 14) rfl rfl Try.func22 (by kernel_rfl) rfl #[.string (⟨#[34, 92, 117, 100, 56, 51, 100, 92, 117, 100, 101, 48, 48, 34]⟩ : ByteArray), .int .i64 0] rfl (by (try simp only [List.map_toArray, List.map_cons, List.map_nil]); first | done | rfl | (simp only [List.length_drop, List.length_take]; rfl)) ?_; (with_reducible refine (esc_Unquote.calls (⟨#[34, 92, 117, 100, 56, 51, 100, 92, 117, 100, 101, 48, 48, 34]⟩ : ByteArray) 0 t215 t216 t217 _ A2.out).mono ?_); rintro e w25 ⟨rfl, hb⟩; refine ⟨_, rfl, ?_⟩; have n0_ := Aside0.mk (below_step (by repeat (first | (with_reducible first | exact HB.out | apply below_alloc | apply pw_below_drewN | apply below_drew1) | exact HB.out)) hb); clear HB; have HB := n0_; clear n0_; (try clear hb); (try clear hb2); (try clear hk); (try clear hi)) | ((with_reducible refine gate_callee (f := 22) rfl ?_); refine goesL_ (some 19) rfl rfl Try.func22 (by kernel_rfl) rfl #[.string (⟨#[34, 92, 120, 34]⟩ : ByteArray), .int .i64 0] rfl (by (try simp only [List.map_toArray, List.map_cons, List.map_nil]); first | done | rfl | (simp only [List.length_drop, List.length_take]; rfl)) ?_; (with_reducible refine (esc_Unquote.calls (⟨#[34, 92, 120, 34]⟩ : ByteArray) 0 t218 t219 t220 _ A3.out).mono ?_); rintro e w26 ⟨rfl, hb⟩; refine ⟨_, rfl, ?_⟩; have n0_ := Aside0.mk (below_step (by repeat (first | (with_reducible first | exact HB.out | apply below_alloc | apply pw_below_drewN | apply below_drew1) | exact HB.out)) hb); clear HB; have HB := n0_; clear n0_; (try clear hb); (try clear hb2); (try clear hk); (try clear hi)))
    go_ret
    exact ⟨by first | rfl | (simp [errW_none, errW_some] <;> rfl) | (simp [*, errW_none, errW_some] <;> rfl), by repeat (first | (with_reducible first | exact HB.out | apply below_alloc | apply pw_below_drewN | apply below_drew1) | exact HB.out)⟩
end Go.Proofs.Ytijfbnkohnlmaaa.X
end
section
namespace Go.Proofs.Ytijfbnkohnlmaaa.X
open Go.RowKit Go.Proofs.YtijfbnkohnlmaaaW.PrintWords Go.Proofs.YtijfbnkohnlmaaaW.PrintLast Go.Proofs.YtijfbnkohnlmaaaW.PrintMore
attribute [local go_sem] max2_int min2_int max_two min_two max_three min_three max_four min_four
set_option linter.unusedVariables false
set_option linter.unusedSimpArgs false
mutual
def sealringlaw04_EscBack.j0 : Nat → ByteArray → ByteArray → Bool → Option (Bool)
  | 0, _, _, _ => none
  | k + 1, x0, x1, x22 => if x22 = true then ((sealringlaw04_lives.f k).bind fun t244 => (some t244)) else ((esc_Quote.f k x0).bind fun bt245 => (if bt245.2 = 0 then ((esc_Unquote.f bt245.1 0).bind fun bt247 => (if bt247.1.toList = x0.toList then (if bt247.2.1 = (bt245.1.size : Int) then (if bt247.2.2 = 0 then (sealringlaw04_EscBack.j1 k x1) else (some false)) else (some false)) else (some false))) else (sealringlaw04_EscBack.j1 k x1)))
def sealringlaw04_EscBack.j1 : Nat → ByteArray → Option (Bool)
  | 0, _ => none
  | k + 1, x1 => (esc_Unquote.f x1 0).bind fun bt250 => (if bt250.2.2 = 0 then ((esc_Quote.f k bt250.1).bind fun bt253 => (if bt253.2 = 0 then (if (bt253.1.size : Int) ≤ bt250.2.1 then ((sealringlaw04_lives.f k).bind fun t255 => (some t255)) else (some false)) else (some false))) else ((sealringlaw04_lives.f k).bind fun t256 => (some t256)))
end
def sealringlaw04_EscBack.f (k : Nat) (a0 : ByteArray) (a1 : ByteArray) : Option (Bool) := if (a0.size : Int) > 300 then (sealringlaw04_EscBack.j0 k a0 a1 true) else (sealringlaw04_EscBack.j0 k a0 a1 (decide ((a1.size : Int) > 300)))
theorem sealringlaw04_EscBack.mono_l : ∀ k, (∀ y0 y1 y2, LeO (sealringlaw04_EscBack.j0 k y0 y1 y2) (sealringlaw04_EscBack.j0 (k + 1) y0 y1 y2)) ∧ (∀ y0, LeO (sealringlaw04_EscBack.j1 k y0) (sealringlaw04_EscBack.j1 (k + 1) y0))
  | 0 => ⟨fun _ _ _ r h => by simp [sealringlaw04_EscBack.j0] at h, fun _ r h => by simp [sealringlaw04_EscBack.j1] at h⟩
  | k + 1 => by
    obtain ⟨ih0, ih1⟩ := sealringlaw04_EscBack.mono_l k
    refine ⟨?_, ?_⟩
    · intro y0 y1 y2
      unfold sealringlaw04_EscBack.j0
      repeat' first
      | (with_reducible exact ih0 _ _ _)
      | (with_reducible exact ih1 _)
      | (with_reducible exact esc_Quote.mono _ _)
      | (with_reducible exact sealringlaw04_lives.mono _)
      | (with_reducible exact LeO.refl _)
      | (with_reducible exact LeO.none _)
      | (with_reducible refine LeO.ite ?_ ?_)
      | (with_reducible refine LeO.bind ?_ (fun _ => ?_))
      | exact ih0 _ _ _
      | exact ih1 _
      | exact esc_Quote.mono _ _
      | exact sealringlaw04_lives.mono _
      | exact LeO.none _
      | refine LeO.ite ?_ ?_
      | refine LeO.bind ?_ (fun _ => ?_)
    · intro y0
      unfold sealringlaw04_EscBack.j1
      repeat' first
      | (with_reducible exact ih0 _ _ _)
      | (with_reducible exact ih1 _)
      | (with_reducible exact esc_Quote.mono _ _)
      | (with_reducible exact sealringlaw04_lives.mono _)
      | (with_reducible exact LeO.refl _)
      | (with_reducible exact LeO.none _)
      | (with_reducible refine LeO.ite ?_ ?_)
      | (with_reducible refine LeO.bind ?_ (fun _ => ?_))
      | exact ih0 _ _ _
      | exact ih1 _
      | exact esc_Quote.mono _ _
      | exact sealringlaw04_lives.mono _
      | exact LeO.none _
      | refine LeO.ite ?_ ?_
      | refine LeO.bind ?_ (fun _ => ?_)
theorem sealringlaw04_EscBack.mono : ∀ a0 a1 k, LeO (sealringlaw04_EscBack.f k a0 a1) (sealringlaw04_EscBack.f (k + 1) a0 a1) := by
  intro a0 a1 k
  obtain ⟨ih0, ih1⟩ := sealringlaw04_EscBack.mono_l k
  unfold sealringlaw04_EscBack.f
  repeat' first
      | (with_reducible exact ih0 _ _ _)
      | (with_reducible exact ih1 _)
      | (with_reducible exact esc_Quote.mono _ _)
      | (with_reducible exact sealringlaw04_lives.mono _)
      | (with_reducible exact LeO.refl _)
      | (with_reducible exact LeO.none _)
      | (with_reducible refine LeO.ite ?_ ?_)
      | (with_reducible refine LeO.bind ?_ (fun _ => ?_))
      | exact ih0 _ _ _
      | exact ih1 _
      | exact esc_Quote.mono _ _
      | exact sealringlaw04_lives.mono _
      | exact LeO.none _
      | refine LeO.ite ?_ ?_
      | refine LeO.bind ?_ (fun _ => ?_)
set_option maxHeartbeats 8000000 in
set_option maxRecDepth 100000 in
theorem sealringlaw04_EscBack.calls (k : Nat) (a0 : ByteArray) (a1 : ByteArray) (r : Bool) (w : World) (h : sealringlaw04_EscBack.f k a0 a1 = some r) :
    Calls Try.prog 7 #[.string a0, .string a1] w fun e w' => e = .returned (.bool r) ∧ Below w.heap.size w w' := by
  have HB := Aside0.mk (Below.refl w.heap.size w)
  have H : (if (a0.size : Int) > 300 then (sealringlaw04_EscBack.j0 k a0 a1 true) else (sealringlaw04_EscBack.j0 k a0 a1 (decide ((a1.size : Int) > 300)))) = some r := h
  clear h
  have HC3 := Aside0.mk H
  clear H
  go_enter Try.func7, Try.ntmps7
  go_upto_region 1 with (fail)
  go_cut [22] (fun v22 wc => ∃ (kq : Nat) (x22_2 : Bool), v22 = .bool x22_2 ∧ Aside0 (sealringlaw04_EscBack.j0 kq a0 a1 x22_2 = some r) ∧ Aside0 (kq ≤ k) ∧ Aside0 (Below w.heap.size w wc))
  case first =>
    have H := HC3.out
    clear HC3
    by_cases c4 : (a0.size : Int) > 300
    · rw [if_pos c4] at H
      have c4b0 : decide (300 < (a0.size : Int)) = true := decide_eq_true c4
      have c4b1 : decide (300 < a0.size) = true := decide_eq_true (by omega)
      clear c4
      (first | rw [c4b0] | (simp only [i64_w, i32_w]; rw [c4b0]) | skip)
      have H' := Aside0.mk H
      clear H
      go_wp2
      go_meet
      case rel => exact ⟨_, (true), (by first | rfl | (simp; done) | (simp [*]; done) | (simp [wrap64]; done)), (by first | with_reducible exact H' | exact H' | (subst_vars; exact H')), ⟨by first | omega | exact Nat.le_refl _⟩, ⟨by repeat (first | (with_reducible first | exact HB.out | apply below_alloc | apply pw_below_drewN | apply below_drew1) | exact HB.out)⟩⟩
    · rw [if_neg c4] at H
      have c4b0 : decide (300 < (a0.size : Int)) = false := decide_eq_false c4
      have c4b1 : decide (300 < a0.size) = false := decide_eq_false (by omega)
      clear c4
      (first | rw [c4b0] | (simp only [i64_w, i32_w]; rw [c4b0]) | skip)
      have H' := Aside0.mk H
      clear H
      go_wp2
      go_meet
      case rel => exact ⟨_, (decide ((a1.size : Int) > 300)), (by first | rfl | (simp; done) | (simp [*]; done) | (simp [wrap64]; done)), (by first | with_reducible exact H' | exact H' | (subst_vars; exact H')), ⟨by first | omega | exact Nat.le_refl _⟩, ⟨by repeat (first | (with_reducible first | exact HB.out | apply below_alloc | apply pw_below_drewN | apply below_drew1) | exact HB.out)⟩⟩
  case rest =>
    clear HC3
    try clear p2
    try clear c4
    try clear c4b0
    try clear c4b1
    obtain ⟨kq, x22_2, rfl, HA, HJ2, HB⟩ := hcut
    cases kq with
    | zero => exact absurd HA.out (by simp [sealringlaw04_EscBack.j0])
    | succ kj2 =>
      have H := HA.out
      clear HA
      simp only [sealringlaw04_EscBack.j0] at H
      by_cases c5 : x22_2 = true
      · subst c5
        have H1 : ((sealringlaw04_lives.f kj2).bind fun t244 => (some t244)) = some r := by rw [if_pos rfl] at H; exact H
        clear H
        have H := H1
        clear H1
        replace H := Option.bind_eq_some_iff.mp H
        obtain ⟨t244, A60, H⟩ := H
        replace H : (some t244) = some r := H
        have A6 := Aside0.mk A60
        clear A60
        obtain rfl := Option.some.inj H
        go_wp2_with (first | ((with_reducible refine gate_callee (f := 21) rfl ?_); refine goesL_ (some 23) rfl rfl Try.func21 (by kernel_rfl) rfl #[] rfl (by (try simp only [List.map_toArray, List.map_cons, List.map_nil]); first | done | rfl | (simp only [List.length_drop, List.length_take]; rfl)) ?_; (with_reducible refine (sealringlaw04_lives.calls kj2  t244 _ A6.out).mono ?_); rintro e w7 ⟨rfl, hb⟩; refine ⟨_, rfl, ?_⟩; have n0_ := Aside0.mk (below_step (by repeat (first | (with_reducible first | exact HB.out | apply below_alloc | apply pw_below_drewN | apply below_drew1) | exact HB.out)) hb); clear HB; have HB := n0_; clear n0_; (try clear hb); (try clear hb2); (try clear hk); (try clear hi)))
        go_ret
        exact ⟨by first | rfl | (simp [errW_none, errW_some] <;> rfl) | (simp [*, errW_none, errW_some] <;> rfl), by repeat (first | (with_reducible first | exact HB.out | apply below_alloc | apply pw_below_drewN | apply below_drew1) | exact HB.out)⟩
      · replace c5 := Bool.eq_false_iff.mpr c5
        subst c5
        have H1 : ((esc_Quote.f kj2 a0).bind fun bt245 => (if bt245.2 = 0 then ((esc_Unquote.f bt245.1 0).bind fun bt247 => (if bt247.1.toList = a0.toList then (if bt247.2.1 = (bt245.1.size : Int) then (if bt247.2.2 = 0 then (sealringlaw04_EscBack.j1 kj2 a1) else (some false)) else (some false)) else (some false))) else (sealringlaw04_EscBack.j1 kj2 a1))) = some r := by rw [if_neg (show ¬ (false = true) by decide)] at H; exact H
        clear H
        have H := H1
        clear H1
        replace H := Option.bind_eq_some_iff.mp H
        obtain ⟨⟨t245, t246⟩, A80, H⟩ := H
        replace H : (if t246 = 0 then ((esc_Unquote.f t245 0).bind fun bt247 => (if bt247.1.toList = a0.toList then (if bt247.2.1 = (t245.size : Int) then (if bt247.2.2 = 0 then (sealringlaw04_EscBack.j1 kj2 a1) else (some false)) else (some false)) else (some false))) else (sealringlaw04_EscBack.j1 kj2 a1)) = some r := H
        have A8 := Aside0.mk A80
        clear A80
        have HC9 := Aside0.mk H
        clear H
        go_upto_if 30 with (first | ((with_reducible refine gate_callee (f := 24) rfl ?_); refine goesL_ (some 26) rfl rfl Try.func24 (by kernel_rfl) rfl #[.string a0] rfl (by (try simp only [List.map_toArray, List.map_cons, List.map_nil]); first | done | rfl | (simp only [List.length_drop, List.length_take]; rfl)) ?_; (with_reducible refine (esc_Quote.calls kj2 a0 t245 t246 _ A8.out).mono ?_); rintro e w10 ⟨rfl, hb⟩; refine ⟨_, rfl, ?_⟩; have n0_ := Aside0.mk (below_step (by repeat (first | (with_reducible first | exact HB.out | apply below_alloc | apply pw_below_drewN | apply below_drew1) | exact HB.out)) hb); clear HB; have HB := n0_; clear n0_; (try clear hb); (try clear hb2); (try clear hk); (try clear hi)))
        (try simp only [Act.put, List.setIfInBounds_toArray, List.set_cons_zero, List.set_cons_succ])
        go_cut [] (fun wc => ∃ (kq : Nat), Aside0 (sealringlaw04_EscBack.j1 kq a1 = some r) ∧ Aside0 (kq ≤ kj2) ∧ Aside0 (Below w.heap.size w wc))
        case first =>
          have H := HC9.out
          clear HC9
          by_cases c11 : t246 = 0
          · rw [if_pos c11] at H
            have c11b0 : (t246 == 0) = true := beq_iff_eq.mpr c11
            have c11b1 : (t246 != 0) = false := bne_eq_false_iff_eq.mpr c11
            clear c11
            (first | rw [c11b0] | (simp only [i64_w, i32_w]; rw [c11b0]) | skip)
            replace H := Option.bind_eq_some_iff.mp H
            obtain ⟨⟨t247, t248, t249⟩, A120, H⟩ := H
            replace H : (if t247.toList = a0.toList then (if t248 = (t245.size : Int) then (if t249 = 0 then (sealringlaw04_EscBack.j1 kj2 a1) else (some false)) else (some false)) else (some false)) = some r := H
            have A12 := Aside0.mk A120
            clear A120
            by_cases c13 : t247.toList = a0.toList
            · rw [if_pos c13] at H
              have c13b0 : (t247.toList == a0.toList) = true := beq_iff_eq.mpr c13
              have c13b1 : (t247.toList != a0.toList) = false := bne_eq_false_iff_eq.mpr c13
              clear c13
              by_cases c14 : t248 = (t245.size : Int)
              · rw [if_pos c14] at H
                have c14b0 : (t248 == (t245.size : Int)) = true := beq_iff_eq.mpr c14
                have c14b1 : (t248 != (t245.size : Int)) = false := bne_eq_false_iff_eq.mpr c14
                clear c14
                by_cases c15 : t249 = 0
                · rw [if_pos c15] at H
                  have c15b0 : (t249 == 0) = true := beq_iff_eq.mpr c15
                  have c15b1 : (t249 != 0) = false := bne_eq_false_iff_eq.mpr c15
                  clear c15
                  have H' := Aside0.mk H
                  clear H
                  go_wp2_with (first | ((with_reducible refine gate_callee (f := 22) rfl ?_); refine goesL_ (some 33) rfl rfl Try.func22 (by kernel_rfl) rfl #[.string t245, .int .i64 0] rfl (by (try simp only [List.map_toArray, List.map_cons, List.map_nil]); first | done | rfl | (simp only [List.length_drop, List.length_take]; rfl)) ?_; (with_reducible refine (esc_Unquote.calls t245 0 t247 t248 t249 _ A12.out).mono ?_); rintro e w16 ⟨rfl, hb⟩; refine ⟨_, rfl, ?_⟩; have n0_ := Aside0.mk (below_step (by repeat (first | (with_reducible first | exact HB.out | apply below_alloc | apply pw_below_drewN | apply below_drew1) | exact HB.out)) hb); clear HB; have HB := n0_; clear n0_; (try clear hb); (try clear hb2); (try clear hk); (try clear hi)))
                  go_meet
                  case rel => exact ⟨_, (by first | with_reducible exact H' | exact H' | (subst_vars; exact H')), ⟨by have := HJ2.out; first | omega | exact Nat.le_refl _⟩, ⟨by repeat (first | (with_reducible first | exact HB.out | apply below_alloc | apply pw_below_drewN | apply below_drew1) | exact HB.out)⟩⟩
                · rw [if_neg c15] at H
                  have c15b0 : (t249 == 0) = false := beq_eq_false_iff_ne.mpr c15
                  have c15b1 : (t249 != 0) = true := bne_iff_ne.mpr c15
                  obtain rfl := Option.some.inj H
                  go_wp2_with (first | ((with_reducible refine gate_callee (f := 22) rfl ?_); refine goesL_ (some 33) rfl rfl Try.func22 (by kernel_rfl) rfl #[.string t245, .int .i64 0] rfl (by (try simp only [List.map_toArray, List.map_cons, List.map_nil]); first | done | rfl | (simp only [List.length_drop, List.length_take]; rfl)) ?_; (with_reducible refine (esc_Unquote.calls t245 0 t247 t248 t249 _ A12.out).mono ?_); rintro e w17 ⟨rfl, hb⟩; refine ⟨_, rfl, ?_⟩; have n0_ := Aside0.mk (below_step (by repeat (first | (with_reducible first | exact HB.out | apply below_alloc | apply pw_below_drewN | apply below_drew1) | exact HB.out)) hb); clear HB; have HB := n0_; clear n0_; (try clear hb); (try clear hb2); (try clear hk); (try clear hi)))
                  go_ret
                  exact ⟨by first | rfl | (simp [errW_none, errW_some] <;> rfl) | (simp [*, errW_none, errW_some] <;> rfl), by repeat (first | (with_reducible first | exact HB.out | apply below_alloc | apply pw_below_drewN | apply below_drew1) | exact HB.out)⟩
              · rw [if_neg c14] at H
                have c14b0 : (t248 == (t245.size : Int)) = false := beq_eq_false_iff_ne.mpr c14
                have c14b1 : (t248 != (t245.size : Int)) = true := bne_iff_ne.mpr c14
                obtain rfl := Option.some.inj H
                go_wp2_with (first | ((with_reducible refine gate_callee (f := 22) rfl ?_); refine goesL_ (some 33) rfl rfl Try.func22 (by kernel_rfl) rfl #[.string t245, .int .i64 0] rfl (by (try simp only [List.map_toArray, List.map_cons, List.map_nil]); first | done | rfl | (simp only [List.length_drop, List.length_take]; rfl)) ?_; (with_reducible refine (esc_Unquote.calls t245 0 t247 t248 t249 _ A12.out).mono ?_); rintro e w18 ⟨rfl, hb⟩; refine ⟨_, rfl, ?_⟩; have n0_ := Aside0.mk (below_step (by repeat (first | (with_reducible first | exact HB.out | apply below_alloc | apply pw_below_drewN | apply below_drew1) | exact HB.out)) hb); clear HB; have HB := n0_; clear n0_; (try clear hb); (try clear hb2); (try clear hk); (try clear hi)))
                go_ret
                exact ⟨by first | rfl | (simp [errW_none, errW_some] <;> rfl) | (simp [*, errW_none, errW_some] <;> rfl), by repeat (first | (with_reducible first | exact HB.out | apply below_alloc | apply pw_below_drewN | apply below_drew1) | exact HB.out)⟩
            · rw [if_neg c13] at H
              have c13b0 : (t247.toList == a0.toList) = false := beq_eq_false_iff_ne.mpr c13
              have c13b1 : (t247.toList != a0.toList) = true := bne_iff_ne.mpr c13
              obtain rfl := Option.some.inj H
              go_wp2_with (first | ((with_reducible refine gate_callee (f := 22) rfl ?_); refine goesL_ (some 33) rfl rfl Try.func22 (by kernel_rfl) rfl #[.string t245, .int .i64 0] rfl (by (try simp only [List.map_toArray, List.map_cons, List.map_nil]); first | done | rfl | (simp only [List.length_drop, List.length_take]; rfl)) ?_; (with_reducible refine (esc_Unquote.calls t245 0 t247 t248 t249 _ A12.out).mono ?_); rintro e w19 ⟨rfl, hb⟩; refine ⟨_, rfl, ?_⟩; have n0_ := Aside0.mk (below_step (by repeat (first | (with_reducible first | exact HB.out | apply below_alloc | apply pw_below_drewN | apply below_drew1) | exact HB.out)) hb); clear HB; have HB := n0_; clear n0_; (try clear hb); (try clear hb2); (try clear hk); (try clear hi)))
              go_ret
              exact ⟨by first | rfl | (simp [errW_none, errW_some] <;> rfl) | (simp [*, errW_none, errW_some] <;> rfl), by repeat (first | (with_reducible first | exact HB.out | apply below_alloc | apply pw_below_drewN | apply below_drew1) | exact HB.out)⟩
          · rw [if_neg c11] at H
            have c11b0 : (t246 == 0) = false := beq_eq_false_iff_ne.mpr c11
            have c11b1 : (t246 != 0) = true := bne_iff_ne.mpr c11
            (first | rw [c11b0] | (simp only [i64_w, i32_w]; rw [c11b0]) | skip)
            have H' := Aside0.mk H
            clear H
            go_wp2
            go_meet
            case rel => exact ⟨_, (by first | with_reducible exact H' | exact H' | (subst_vars; exact H')), ⟨by have := HJ2.out; first | omega | exact Nat.le_refl _⟩, ⟨by repeat (first | (with_reducible first | exact HB.out | apply below_alloc | apply pw_below_drewN | apply below_drew1) | exact HB.out)⟩⟩
        case rest =>
          clear HC9
          try clear c1
          try clear c2
          try clear p2
          try clear c4
          try clear c4b0
          try clear c4b1
          try clear c5
          try clear c7
          try clear c11
          try clear c11b0
          try clear c11b1
          try clear c13
          try clear c13b0
          try clear c13b1
          try clear c14
          try clear c14b0
          try clear c14b1
          try clear c15
          try clear c15b0
          try clear c15b1
          try clear p2
          obtain ⟨kq, HA, HJ8, HB⟩ := hcut
          cases kq with
          | zero => exact absurd HA.out (by simp [sealringlaw04_EscBack.j1])
          | succ kj8 =>
            have H := HA.out
            clear HA
            simp only [sealringlaw04_EscBack.j1] at H
            replace H := Option.bind_eq_some_iff.mp H
            obtain ⟨⟨t250, t251, t252⟩, A200, H⟩ := H
            replace H : (if t252 = 0 then ((esc_Quote.f kj8 t250).bind fun bt253 => (if bt253.2 = 0 then (if (bt253.1.size : Int) ≤ t251 then ((sealringlaw04_lives.f kj8).bind fun t255 => (some t255)) else (some false)) else (some false))) else ((sealringlaw04_lives.f kj8).bind fun t256 => (some t256))) = some r := H
            have A20 := Aside0.mk A200
            clear A200
            by_cases c21 : t252 = 0
            · rw [if_pos c21] at H
              have c21b0 : (t252 == 0) = true := beq_iff_eq.mpr c21
              have c21b1 : (t252 != 0) = false := bne_eq_false_iff_eq.mpr c21
              clear c21
              replace H := Option.bind_eq_some_iff.mp H
              obtain ⟨⟨t253, t254⟩, A220, H⟩ := H
              replace H : (if t254 = 0 then (if (t253.size : Int) ≤ t251 then ((sealringlaw04_lives.f kj8).bind fun t255 => (some t255)) else (some false)) else (some false)) = some r := H
              have A22 := Aside0.mk A220
              clear A220
              by_cases c23 : t254 = 0
              · rw [if_pos c23] at H
                have c23b0 : (t254 == 0) = true := beq_iff_eq.mpr c23
                have c23b1 : (t254 != 0) = false := bne_eq_false_iff_eq.mpr c23
                clear c23
                by_cases c24 : (t253.size : Int) ≤ t251
                · rw [if_pos c24] at H
                  have c24b0 : decide ((t253.size : Int) ≤ t251) = true := decide_eq_true c24
                  clear c24
                  replace H := Option.bind_eq_some_iff.mp H
                  obtain ⟨t255, A250, H⟩ := H
                  replace H : (some t255) = some r := H
                  have A25 := Aside0.mk A250
                  clear A250
                  obtain rfl := Option.some.inj H
                  go_wp2_with (first | ((with_reducible refine gate_callee (f := 22) rfl ?_); refine goesL_ (some 52) rfl rfl Try.func22 (by kernel_rfl) rfl #[.string a1, .int .i64 0] rfl (by (try simp only [List.map_toArray, List.map_cons, List.map_nil]); first | done | rfl | (simp only [List.length_drop, List.length_take]; rfl)) ?_; (with_reducible refine (esc_Unquote.calls a1 0 t250 t251 t252 _ A20.out).mono ?_); rintro e w26 ⟨rfl, hb⟩; refine ⟨_, rfl, ?_⟩; have n0_ := Aside0.mk (below_step (by repeat (first | (with_reducible first | exact HB.out | apply below_alloc | apply pw_below_drewN | apply below_drew1) | exact HB.out)) hb); clear HB; have HB := n0_; clear n0_; (try clear hb); (try clear hb2); (try clear hk); (try clear hi)) | ((with_reducible refine gate_callee (f := 24) rfl ?_); refine goesL_ (some 61) rfl rfl Try.func24 (by kernel_rfl) rfl #[.string t250] rfl (by (try simp only [List.map_toArray, List.map_cons, List.map_nil]); first | done | rfl | (simp only [List.length_drop, List.length_take]; rfl)) ?_; (with_reducible refine (esc_Quote.calls kj8 t250 t253 t254 _ A22.out).mono ?_); rintro e w27 ⟨rfl, hb⟩; refine ⟨_, rfl, ?_⟩; have n0_ := Aside0.mk (below_step (by repeat (first | (with_reducible first | exact HB.out | apply below_alloc | apply pw_below_drewN | apply below_drew1) | exact HB.out)) hb); clear HB; have HB := n0_; clear n0_; (try clear hb); (try clear hb2); (try clear hk); (try clear hi)) | (go_at_call 21; (with_reducible refine (sealringlaw04_lives.calls kj8  t255 _ A25.out).mono ?_); rintro e w28 ⟨rfl, hb⟩; have n0_ := Aside0.mk (below_step (by repeat (first | (with_reducible first | exact HB.out | apply below_alloc | apply pw_below_drewN | apply below_drew1) | exact HB.out)) hb); clear HB; have HB := n0_; clear n0_; (try clear hb); (try clear hb2); (try clear hk); (try clear hi)))
                  go_ret
                  exact ⟨by first | rfl | (simp [errW_none, errW_some] <;> rfl) | (simp [*, errW_none, errW_some] <;> rfl), by repeat (first | (with_reducible first | exact HB.out | apply below_alloc | apply pw_below_drewN | apply below_drew1) | exact HB.out)⟩
                · rw [if_neg c24] at H
                  have c24b0 : decide ((t253.size : Int) ≤ t251) = false := decide_eq_false c24
                  clear c24
                  obtain rfl := Option.some.inj H
                  go_wp2_with (first | ((with_reducible refine gate_callee (f := 22) rfl ?_); refine goesL_ (some 52) rfl rfl Try.func22 (by kernel_rfl) rfl #[.string a1, .int .i64 0] rfl (by (try simp only [List.map_toArray, List.map_cons, List.map_nil]); first | done | rfl | (simp only [List.length_drop, List.length_take]; rfl)) ?_; (with_reducible refine (esc_Unquote.calls a1 0 t250 t251 t252 _ A20.out).mono ?_); rintro e w29 ⟨rfl, hb⟩; refine ⟨_, rfl, ?_⟩; have n0_ := Aside0.mk (below_step (by repeat (first | (with_reducible first | exact HB.out | apply below_alloc | apply pw_below_drewN | apply below_drew1) | exact HB.out)) hb); clear HB; have HB := n0_; clear n0_; (try clear hb); (try clear hb2); (try clear hk); (try clear hi)) | ((with_reducible refine gate_callee (f := 24) rfl ?_); refine goesL_ (some 61) rfl rfl Try.func24 (by kernel_rfl) rfl #[.string t250] rfl (by (try simp only [List.map_toArray, List.map_cons, List.map_nil]); first | done | rfl | (simp only [List.length_drop, List.length_take]; rfl)) ?_; (with_reducible refine (esc_Quote.calls kj8 t250 t253 t254 _ A22.out).mono ?_); rintro e w30 ⟨rfl, hb⟩; refine ⟨_, rfl, ?_⟩; have n0_ := Aside0.mk (below_step (by repeat (first | (with_reducible first | exact HB.out | apply below_alloc | apply pw_below_drewN | apply below_drew1) | exact HB.out)) hb); clear HB; have HB := n0_; clear n0_; (try clear hb); (try clear hb2); (try clear hk); (try clear hi)))
                  go_ret
                  exact ⟨by first | rfl | (simp [errW_none, errW_some] <;> rfl) | (simp [*, errW_none, errW_some] <;> rfl), by repeat (first | (with_reducible first | exact HB.out | apply below_alloc | apply pw_below_drewN | apply below_drew1) | exact HB.out)⟩
              · rw [if_neg c23] at H
                have c23b0 : (t254 == 0) = false := beq_eq_false_iff_ne.mpr c23
                have c23b1 : (t254 != 0) = true := bne_iff_ne.mpr c23
                obtain rfl := Option.some.inj H
                go_wp2_with (first | ((with_reducible refine gate_callee (f := 22) rfl ?_); refine goesL_ (some 52) rfl rfl Try.func22 (by kernel_rfl) rfl #[.string a1, .int .i64 0] rfl (by (try simp only [List.map_toArray, List.map_cons, List.map_nil]); first | done | rfl | (simp only [List.length_drop, List.length_take]; rfl)) ?_; (with_reducible refine (esc_Unquote.calls a1 0 t250 t251 t252 _ A20.out).mono ?_); rintro e w31 ⟨rfl, hb⟩; refine ⟨_, rfl, ?_⟩; have n0_ := Aside0.mk (below_step (by repeat (first | (with_reducible first | exact HB.out | apply below_alloc | apply pw_below_drewN | apply below_drew1) | exact HB.out)) hb); clear HB; have HB := n0_; clear n0_; (try clear hb); (try clear hb2); (try clear hk); (try clear hi)) | ((with_reducible refine gate_callee (f := 24) rfl ?_); refine goesL_ (some 61) rfl rfl Try.func24 (by kernel_rfl) rfl #[.string t250] rfl (by (try simp only [List.map_toArray, List.map_cons, List.map_nil]); first | done | rfl | (simp only [List.length_drop, List.length_take]; rfl)) ?_; (with_reducible refine (esc_Quote.calls kj8 t250 t253 t254 _ A22.out).mono ?_); rintro e w32 ⟨rfl, hb⟩; refine ⟨_, rfl, ?_⟩; have n0_ := Aside0.mk (below_step (by repeat (first | (with_reducible first | exact HB.out | apply below_alloc | apply pw_below_drewN | apply below_drew1) | exact HB.out)) hb); clear HB; have HB := n0_; clear n0_; (try clear hb); (try clear hb2); (try clear hk); (try clear hi)))
                go_ret
                exact ⟨by first | rfl | (simp [errW_none, errW_some] <;> rfl) | (simp [*, errW_none, errW_some] <;> rfl), by repeat (first | (with_reducible first | exact HB.out | apply below_alloc | apply pw_below_drewN | apply below_drew1) | exact HB.out)⟩
            · rw [if_neg c21] at H
              have c21b0 : (t252 == 0) = false := beq_eq_false_iff_ne.mpr c21
              have c21b1 : (t252 != 0) = true := bne_iff_ne.mpr c21
              replace H := Option.bind_eq_some_iff.mp H
              obtain ⟨t256, A330, H⟩ := H
              replace H : (some t256) = some r := H
              have A33 := Aside0.mk A330
              clear A330
              obtain rfl := Option.some.inj H
              go_wp2_with (first | ((with_reducible refine gate_callee (f := 22) rfl ?_); refine goesL_ (some 52) rfl rfl Try.func22 (by kernel_rfl) rfl #[.string a1, .int .i64 0] rfl (by (try simp only [List.map_toArray, List.map_cons, List.map_nil]); first | done | rfl | (simp only [List.length_drop, List.length_take]; rfl)) ?_; (with_reducible refine (esc_Unquote.calls a1 0 t250 t251 t252 _ A20.out).mono ?_); rintro e w34 ⟨rfl, hb⟩; refine ⟨_, rfl, ?_⟩; have n0_ := Aside0.mk (below_step (by repeat (first | (with_reducible first | exact HB.out | apply below_alloc | apply pw_below_drewN | apply below_drew1) | exact HB.out)) hb); clear HB; have HB := n0_; clear n0_; (try clear hb); (try clear hb2); (try clear hk); (try clear hi)) | ((with_reducible refine gate_callee (f := 21) rfl ?_); refine goesL_ (some 58) rfl rfl Try.func21 (by kernel_rfl) rfl #[] rfl (by (try simp only [List.map_toArray, List.map_cons, List.map_nil]); first | done | rfl | (simp only [List.length_drop, List.length_take]; rfl)) ?_; (with_reducible refine (sealringlaw04_lives.calls kj8  t256 _ A33.out).mono ?_); rintro e w35 ⟨rfl, hb⟩; refine ⟨_, rfl, ?_⟩; have n0_ := Aside0.mk (below_step (by repeat (first | (with_reducible first | exact HB.out | apply below_alloc | apply pw_below_drewN | apply below_drew1) | exact HB.out)) hb); clear HB; have HB := n0_; clear n0_; (try clear hb); (try clear hb2); (try clear hk); (try clear hi)))
              go_ret
              exact ⟨by first | rfl | (simp [errW_none, errW_some] <;> rfl) | (simp [*, errW_none, errW_some] <;> rfl), by repeat (first | (with_reducible first | exact HB.out | apply below_alloc | apply pw_below_drewN | apply below_drew1) | exact HB.out)⟩
def sealringlaw04_EscBack.Pure : Prop := ∀ (a0 : ByteArray) (a1 : ByteArray), a0.size ≤ 140737488351232 → a1.size ≤ 140737488351232 → ∃ k, sealringlaw04_EscBack.f k a0 a1 = some true
theorem sealringlaw04_EscBack.walk (P : sealringlaw04_EscBack.Pure) (a0 : ByteArray) (a1 : ByteArray) (w : World) (w0 : a0.size ≤ 140737488351232) (w1 : a1.size ≤ 140737488351232) :
    Calls Try.prog 7 #[.string a0, .string a1] w fun e w' => e = .returned (.bool true) ∧ Below w.heap.size w w' := by
  obtain ⟨k, h⟩ := P a0 a1 w0 w1
  refine (sealringlaw04_EscBack.calls k a0 a1 true w h).mono ?_
  rintro e w' ⟨rfl, hd⟩
  exact ⟨rfl, hd⟩
end Go.Proofs.Ytijfbnkohnlmaaa.X
end
section
namespace Go.Proofs.Ytijfbnkohnlmaaa.X
open Go.RowKit Go.Proofs.YtijfbnkohnlmaaaW.PrintWords Go.Proofs.YtijfbnkohnlmaaaW.PrintLast Go.Proofs.YtijfbnkohnlmaaaW.PrintMore
attribute [local go_sem] max2_int min2_int max_two min_two max_three min_three max_four min_four
set_option linter.unusedVariables false
set_option linter.unusedSimpArgs false
def sealringref04_small.j0 : Nat → Int → Bool → Option (Int)
  | 0, _, _ => none
  | k + 1, x0, x8 => if x8 = true then (some ((x0) % 256)) else (if x0 = 8 then (some 98) else (if x0 = 9 then (some 116) else (if x0 = 10 then (some 110) else (if x0 = 12 then (some 102) else (if x0 = 13 then (some 114) else (some 0))))))
def sealringref04_small.f (k : Nat) (a0 : Int) : Option (Int) := if a0 = 34 then (sealringref04_small.j0 k a0 true) else (sealringref04_small.j0 k a0 (a0 == 92))
theorem sealringref04_small.mono_l : ∀ k, (∀ y0 y1, LeO (sealringref04_small.j0 k y0 y1) (sealringref04_small.j0 (k + 1) y0 y1))
  | 0 => fun _ _ r h => by simp [sealringref04_small.j0] at h
  | k + 1 => by
    have ih0 := sealringref04_small.mono_l k
    · intro y0 y1
      unfold sealringref04_small.j0
      repeat' first
      | (with_reducible exact ih0 _ _)
      | (with_reducible exact LeO.refl _)
      | (with_reducible exact LeO.none _)
      | (with_reducible refine LeO.ite ?_ ?_)
      | (with_reducible refine LeO.bind ?_ (fun _ => ?_))
      | exact ih0 _ _
      | exact LeO.none _
      | refine LeO.ite ?_ ?_
      | refine LeO.bind ?_ (fun _ => ?_)
theorem sealringref04_small.mono : ∀ a0 k, LeO (sealringref04_small.f k a0) (sealringref04_small.f (k + 1) a0) := by
  intro a0 k
  have ih0 := sealringref04_small.mono_l k
  unfold sealringref04_small.f
  repeat' first
      | (with_reducible exact ih0 _ _)
      | (with_reducible exact LeO.refl _)
      | (with_reducible exact LeO.none _)
      | (with_reducible refine LeO.ite ?_ ?_)
      | (with_reducible refine LeO.bind ?_ (fun _ => ?_))
      | exact ih0 _ _
      | exact LeO.none _
      | refine LeO.ite ?_ ?_
      | refine LeO.bind ?_ (fun _ => ?_)
set_option maxHeartbeats 8000000 in
set_option maxRecDepth 100000 in
theorem sealringref04_small.calls (k : Nat) (a0 : Int) (r : Int) (w : World) (h : sealringref04_small.f k a0 = some r) :
    Calls Try.prog 42 #[.int .i64 a0] w fun e w' => e = .returned (.int .u8 r) ∧ Drawn0 w w' := by
  have H : (if a0 = 34 then (sealringref04_small.j0 k a0 true) else (sealringref04_small.j0 k a0 (a0 == 92))) = some r := h
  clear h
  have HC2 := Aside0.mk H
  clear H
  go_enter Try.func42, Try.ntmps42
  go_upto_region 1 with (fail)
  go_cut [8] (fun v8 wc => ∃ (kq : Nat) (x8_1 : Bool), v8 = .bool x8_1 ∧ Aside0 (sealringref04_small.j0 kq a0 x8_1 = some r) ∧ Aside0 (kq ≤ k) ∧ Drawn0 w wc)
  case first =>
    have H := HC2.out
    clear HC2
    by_cases c3 : a0 = 34
    · rw [if_pos c3] at H
      have c3b0 : (a0 == 34) = true := beq_iff_eq.mpr c3
      have c3b1 : (a0 != 34) = false := bne_eq_false_iff_eq.mpr c3
      clear c3
      (first | rw [c3b0] | (simp only [i64_w, i32_w]; rw [c3b0]) | skip)
      have H' := Aside0.mk H
      clear H
      go_wp2
      go_meet
      case rel => exact ⟨_, (true), (by first | rfl | (simp; done) | (simp [*]; done) | (simp [wrap64]; done)), (by first | with_reducible exact H' | exact H' | (subst_vars; exact H')), ⟨by first | omega | exact Nat.le_refl _⟩, by repeat (first | exact Drawn0.refl _ | apply Drawn0.step)⟩
    · rw [if_neg c3] at H
      have c3b0 : (a0 == 34) = false := beq_eq_false_iff_ne.mpr c3
      have c3b1 : (a0 != 34) = true := bne_iff_ne.mpr c3
      (first | rw [c3b0] | (simp only [i64_w, i32_w]; rw [c3b0]) | skip)
      have H' := Aside0.mk H
      clear H
      go_wp2
      go_meet
      case rel => exact ⟨_, ((a0 == 92)), (by first | rfl | (simp; done) | (simp [*]; done) | (simp [wrap64]; done)), (by first | with_reducible exact H' | exact H' | (subst_vars; exact H')), ⟨by first | omega | exact Nat.le_refl _⟩, by repeat (first | exact Drawn0.refl _ | apply Drawn0.step)⟩
  case rest =>
    clear HC2
    try clear p2
    try clear c3
    try clear c3b0
    try clear c3b1
    obtain ⟨kq, x8_1, rfl, HA, HJ1, ⟨mc1, rfl⟩⟩ := hcut
    cases kq with
    | zero => exact absurd HA.out (by simp [sealringref04_small.j0])
    | succ kj1 =>
      have H := HA.out
      clear HA
      simp only [sealringref04_small.j0] at H
      by_cases c4 : x8_1 = true
      · subst c4
        have H1 : (some ((a0) % 256)) = some r := by rw [if_pos rfl] at H; exact H
        clear H
        have H := H1
        clear H1
        obtain rfl := Option.some.inj H
        go_wp2
        go_ret
        exact ⟨by first | rfl | (simp; done) | (simp [*]; done), by repeat (first | exact Drawn0.refl _ | apply Drawn0.step)⟩
      · replace c4 := Bool.eq_false_iff.mpr c4
        subst c4
        have H1 : (if a0 = 8 then (some 98) else (if a0 = 9 then (some 116) else (if a0 = 10 then (some 110) else (if a0 = 12 then (some 102) else (if a0 = 13 then (some 114) else (some 0)))))) = some r := by rw [if_neg (show ¬ (false = true) by decide)] at H; exact H
        clear H
        have H := H1
        clear H1
        by_cases c5 : a0 = 8
        · rw [if_pos c5] at H
          have c5b0 : (a0 == 8) = true := beq_iff_eq.mpr c5
          have c5b1 : (a0 != 8) = false := bne_eq_false_iff_eq.mpr c5
          clear c5
          obtain rfl := Option.some.inj H
          go_wp2
          go_ret
          exact ⟨by first | rfl | (simp; done) | (simp [*]; done), by repeat (first | exact Drawn0.refl _ | apply Drawn0.step)⟩
        · rw [if_neg c5] at H
          have c5b0 : (a0 == 8) = false := beq_eq_false_iff_ne.mpr c5
          have c5b1 : (a0 != 8) = true := bne_iff_ne.mpr c5
          by_cases c6 : a0 = 9
          · rw [if_pos c6] at H
            have c6b0 : (a0 == 9) = true := beq_iff_eq.mpr c6
            have c6b1 : (a0 != 9) = false := bne_eq_false_iff_eq.mpr c6
            clear c6
            obtain rfl := Option.some.inj H
            go_wp2
            go_ret
            exact ⟨by first | rfl | (simp; done) | (simp [*]; done), by repeat (first | exact Drawn0.refl _ | apply Drawn0.step)⟩
          · rw [if_neg c6] at H
            have c6b0 : (a0 == 9) = false := beq_eq_false_iff_ne.mpr c6
            have c6b1 : (a0 != 9) = true := bne_iff_ne.mpr c6
            by_cases c7 : a0 = 10
            · rw [if_pos c7] at H
              have c7b0 : (a0 == 10) = true := beq_iff_eq.mpr c7
              have c7b1 : (a0 != 10) = false := bne_eq_false_iff_eq.mpr c7
              clear c7
              obtain rfl := Option.some.inj H
              go_wp2
              go_ret
              exact ⟨by first | rfl | (simp; done) | (simp [*]; done), by repeat (first | exact Drawn0.refl _ | apply Drawn0.step)⟩
            · rw [if_neg c7] at H
              have c7b0 : (a0 == 10) = false := beq_eq_false_iff_ne.mpr c7
              have c7b1 : (a0 != 10) = true := bne_iff_ne.mpr c7
              by_cases c8 : a0 = 12
              · rw [if_pos c8] at H
                have c8b0 : (a0 == 12) = true := beq_iff_eq.mpr c8
                have c8b1 : (a0 != 12) = false := bne_eq_false_iff_eq.mpr c8
                clear c8
                obtain rfl := Option.some.inj H
                go_wp2
                go_ret
                exact ⟨by first | rfl | (simp; done) | (simp [*]; done), by repeat (first | exact Drawn0.refl _ | apply Drawn0.step)⟩
              · rw [if_neg c8] at H
                have c8b0 : (a0 == 12) = false := beq_eq_false_iff_ne.mpr c8
                have c8b1 : (a0 != 12) = true := bne_iff_ne.mpr c8
                by_cases c9 : a0 = 13
                · rw [if_pos c9] at H
                  have c9b0 : (a0 == 13) = true := beq_iff_eq.mpr c9
                  have c9b1 : (a0 != 13) = false := bne_eq_false_iff_eq.mpr c9
                  clear c9
                  obtain rfl := Option.some.inj H
                  go_wp2
                  go_ret
                  exact ⟨by first | rfl | (simp; done) | (simp [*]; done), by repeat (first | exact Drawn0.refl _ | apply Drawn0.step)⟩
                · rw [if_neg c9] at H
                  have c9b0 : (a0 == 13) = false := beq_eq_false_iff_ne.mpr c9
                  have c9b1 : (a0 != 13) = true := bne_iff_ne.mpr c9
                  obtain rfl := Option.some.inj H
                  go_wp2
                  go_ret
                  exact ⟨by first | rfl | (simp; done) | (simp [*]; done), by repeat (first | exact Drawn0.refl _ | apply Drawn0.step)⟩
end Go.Proofs.Ytijfbnkohnlmaaa.X
end
section
namespace Go.Proofs.Ytijfbnkohnlmaaa.X
open Go.RowKit Go.Proofs.YtijfbnkohnlmaaaW.PrintWords Go.Proofs.YtijfbnkohnlmaaaW.PrintLast Go.Proofs.YtijfbnkohnlmaaaW.PrintMore
attribute [local go_sem] max2_int min2_int max_two min_two max_three min_three max_four min_four
set_option linter.unusedVariables false
set_option linter.unusedSimpArgs false
mutual
def sealringref04_digit.j0 : Nat → Int → Bool → Option (Int)
  | 0, _, _ => none
  | k + 1, x0, x8 => if x8 = true then (some ((x0 - 48) % 256)) else (if x0 ≥ 97 then (sealringref04_digit.j1 k x0 (decide (x0 ≤ 102))) else (sealringref04_digit.j1 k x0 false))
def sealringref04_digit.j1 : Nat → Int → Bool → Option (Int)
  | 0, _, _ => none
  | k + 1, x0, x17 => if x17 = true then (some (((x0 - 97) % 256) + 10)) else (if x0 ≥ 65 then (if x0 ≤ 70 then (some (((x0 - 65) % 256) + 10)) else (some (-1))) else (some (-1)))
end
def sealringref04_digit.f (k : Nat) (a0 : Int) : Option (Int) := if a0 ≥ 48 then (sealringref04_digit.j0 k a0 (decide (a0 ≤ 57))) else (sealringref04_digit.j0 k a0 false)
theorem sealringref04_digit.mono_l : ∀ k, (∀ y0 y1, LeO (sealringref04_digit.j0 k y0 y1) (sealringref04_digit.j0 (k + 1) y0 y1)) ∧ (∀ y0 y1, LeO (sealringref04_digit.j1 k y0 y1) (sealringref04_digit.j1 (k + 1) y0 y1))
  | 0 => ⟨fun _ _ r h => by simp [sealringref04_digit.j0] at h, fun _ _ r h => by simp [sealringref04_digit.j1] at h⟩
  | k + 1 => by
    obtain ⟨ih0, ih1⟩ := sealringref04_digit.mono_l k
    refine ⟨?_, ?_⟩
    · intro y0 y1
      unfold sealringref04_digit.j0
      repeat' first
      | (with_reducible exact ih0 _ _)
      | (with_reducible exact ih1 _ _)
      | (with_reducible exact LeO.refl _)
      | (with_reducible exact LeO.none _)
      | (with_reducible refine LeO.ite ?_ ?_)
      | (with_reducible refine LeO.bind ?_ (fun _ => ?_))
      | exact ih0 _ _
      | exact ih1 _ _
      | exact LeO.none _
      | refine LeO.ite ?_ ?_
      | refine LeO.bind ?_ (fun _ => ?_)
    · intro y0 y1
      unfold sealringref04_digit.j1
      repeat' first
      | (with_reducible exact ih0 _ _)
      | (with_reducible exact ih1 _ _)
      | (with_reducible exact LeO.refl _)
      | (with_reducible exact LeO.none _)
      | (with_reducible refine LeO.ite ?_ ?_)
      | (with_reducible refine LeO.bind ?_ (fun _ => ?_))
      | exact ih0 _ _
      | exact ih1 _ _
      | exact LeO.none _
      | refine LeO.ite ?_ ?_
      | refine LeO.bind ?_ (fun _ => ?_)
theorem sealringref04_digit.mono : ∀ a0 k, LeO (sealringref04_digit.f k a0) (sealringref04_digit.f (k + 1) a0) := by
  intro a0 k
  obtain ⟨ih0, ih1⟩ := sealringref04_digit.mono_l k
  unfold sealringref04_digit.f
  repeat' first
      | (with_reducible exact ih0 _ _)
      | (with_reducible exact ih1 _ _)
      | (with_reducible exact LeO.refl _)
      | (with_reducible exact LeO.none _)
      | (with_reducible refine LeO.ite ?_ ?_)
      | (with_reducible refine LeO.bind ?_ (fun _ => ?_))
      | exact ih0 _ _
      | exact ih1 _ _
      | exact LeO.none _
      | refine LeO.ite ?_ ?_
      | refine LeO.bind ?_ (fun _ => ?_)
set_option maxHeartbeats 8000000 in
set_option maxRecDepth 100000 in
theorem sealringref04_digit.calls (k : Nat) (a0 : Int) (r : Int) (w : World) (h : sealringref04_digit.f k a0 = some r) :
    Calls Try.prog 50 #[.int .u8 a0] w fun e w' => e = .returned (.int .i64 r) ∧ Drawn0 w w' := by
  have H : (if a0 ≥ 48 then (sealringref04_digit.j0 k a0 (decide (a0 ≤ 57))) else (sealringref04_digit.j0 k a0 false)) = some r := h
  clear h
  have HC2 := Aside0.mk H
  clear H
  go_enter Try.func50, Try.ntmps50
  go_upto_region 1 with (fail)
  go_cut [8] (fun v8 wc => ∃ (kq : Nat) (x8_1 : Bool), v8 = .bool x8_1 ∧ Aside0 (sealringref04_digit.j0 kq a0 x8_1 = some r) ∧ Aside0 (kq ≤ k) ∧ Drawn0 w wc)
  case first =>
    have H := HC2.out
    clear HC2
    by_cases c3 : a0 ≥ 48
    · rw [if_pos c3] at H
      have c3b0 : decide (48 ≤ a0) = true := decide_eq_true c3
      clear c3
      (first | rw [c3b0] | (simp only [i64_w, i32_w]; rw [c3b0]) | skip)
      have H' := Aside0.mk H
      clear H
      go_wp2
      go_meet
      case rel => exact ⟨_, (decide (a0 ≤ 57)), (by first | rfl | (simp; done) | (simp [*]; done) | (simp [wrap64]; done)), (by first | with_reducible exact H' | exact H' | (subst_vars; exact H')), ⟨by first | omega | exact Nat.le_refl _⟩, by repeat (first | exact Drawn0.refl _ | apply Drawn0.step)⟩
    · rw [if_neg c3] at H
      have c3b0 : decide (48 ≤ a0) = false := decide_eq_false c3
      clear c3
      (first | rw [c3b0] | (simp only [i64_w, i32_w]; rw [c3b0]) | skip)
      have H' := Aside0.mk H
      clear H
      go_wp2
      go_meet
      case rel => exact ⟨_, (false), (by first | rfl | (simp; done) | (simp [*]; done) | (simp [wrap64]; done)), (by first | with_reducible exact H' | exact H' | (subst_vars; exact H')), ⟨by first | omega | exact Nat.le_refl _⟩, by repeat (first | exact Drawn0.refl _ | apply Drawn0.step)⟩
  case rest =>
    clear HC2
    try clear p2
    try clear c3
    try clear c3b0
    obtain ⟨kq, x8_1, rfl, HA, HJ1, ⟨mc1, rfl⟩⟩ := hcut
    cases kq with
    | zero => exact absurd HA.out (by simp [sealringref04_digit.j0])
    | succ kj1 =>
      have H := HA.out
      clear HA
      simp only [sealringref04_digit.j0] at H
      by_cases c4 : x8_1 = true
      · subst c4
        have H1 : (some ((a0 - 48) % 256)) = some r := by rw [if_pos rfl] at H; exact H
        clear H
        have H := H1
        clear H1
        obtain rfl := Option.some.inj H
        go_wp2
        go_ret
        exact ⟨by first | rfl | (simp; done) | (simp [*]; done), by repeat (first | exact Drawn0.refl _ | apply Drawn0.step)⟩
      · replace c4 := Bool.eq_false_iff.mpr c4
        subst c4
        have H1 : (if a0 ≥ 97 then (sealringref04_digit.j1 kj1 a0 (decide (a0 ≤ 102))) else (sealringref04_digit.j1 kj1 a0 false)) = some r := by rw [if_neg (show ¬ (false = true) by decide)] at H; exact H
        clear H
        have H := H1
        clear H1
        have HC5 := Aside0.mk H
        clear H
        go_upto_region 3 with (fail)
        go_cut [17] (fun v17 wc => ∃ (kq : Nat) (x17_4 : Bool), v17 = .bool x17_4 ∧ Aside0 (sealringref04_digit.j1 kq a0 x17_4 = some r) ∧ Aside0 (kq ≤ kj1) ∧ Drawn0 w wc)
        case first =>
          have H := HC5.out
          clear HC5
          by_cases c6 : a0 ≥ 97
          · rw [if_pos c6] at H
            have c6b0 : decide (97 ≤ a0) = true := decide_eq_true c6
            clear c6
            (first | rw [c6b0] | (simp only [i64_w, i32_w]; rw [c6b0]) | skip)
            have H' := Aside0.mk H
            clear H
            go_wp2
            go_meet
            case rel => exact ⟨_, (decide (a0 ≤ 102)), (by first | rfl | (simp; done) | (simp [*]; done) | (simp [wrap64]; done)), (by first | with_reducible exact H' | exact H' | (subst_vars; exact H')), ⟨by have := HJ1.out; first | omega | exact Nat.le_refl _⟩, by repeat (first | exact Drawn0.refl _ | apply Drawn0.step)⟩
          · rw [if_neg c6] at H
            have c6b0 : decide (97 ≤ a0) = false := decide_eq_false c6
            clear c6
            (first | rw [c6b0] | (simp only [i64_w, i32_w]; rw [c6b0]) | skip)
            have H' := Aside0.mk H
            clear H
            go_wp2
            go_meet
            case rel => exact ⟨_, (false), (by first | rfl | (simp; done) | (simp [*]; done) | (simp [wrap64]; done)), (by first | with_reducible exact H' | exact H' | (subst_vars; exact H')), ⟨by have := HJ1.out; first | omega | exact Nat.le_refl _⟩, by repeat (first | exact Drawn0.refl _ | apply Drawn0.step)⟩
        case rest =>
          clear HC5
          try clear c1
          try clear p2
          try clear c3
          try clear c3b0
          try clear c4
          try clear c5
          try clear c6
          try clear c6b0
          try clear p2
          obtain ⟨kq, x17_4, rfl, HA, HJ4, ⟨mc4, rfl⟩⟩ := hcut
          cases kq with
          | zero => exact absurd HA.out (by simp [sealringref04_digit.j1])
          | succ kj4 =>
            have H := HA.out
            clear HA
            simp only [sealringref04_digit.j1] at H
            by_cases c7 : x17_4 = true
            · subst c7
              have H1 : (some (((a0 - 97) % 256) + 10)) = some r := by rw [if_pos rfl] at H; exact H
              clear H
              have H := H1
              clear H1
              obtain rfl := Option.some.inj H
              go_wp2
              go_ret
              exact ⟨by first | rfl | (simp; done) | (simp [*]; done), by repeat (first | exact Drawn0.refl _ | apply Drawn0.step)⟩
            · replace c7 := Bool.eq_false_iff.mpr c7
              subst c7
              have H1 : (if a0 ≥ 65 then (if a0 ≤ 70 then (some (((a0 - 65) % 256) + 10)) else (some (-1))) else (some (-1))) = some r := by rw [if_neg (show ¬ (false = true) by decide)] at H; exact H
              clear H
              have H := H1
              clear H1
              by_cases c8 : a0 ≥ 65
              · rw [if_pos c8] at H
                have c8b0 : decide (65 ≤ a0) = true := decide_eq_true c8
                clear c8
                by_cases c9 : a0 ≤ 70
                · rw [if_pos c9] at H
                  have c9b0 : decide (a0 ≤ 70) = true := decide_eq_true c9
                  clear c9
                  obtain rfl := Option.some.inj H
                  go_wp2
                  go_ret
                  exact ⟨by first | rfl | (simp; done) | (simp [*]; done), by repeat (first | exact Drawn0.refl _ | apply Drawn0.step)⟩
                · rw [if_neg c9] at H
                  have c9b0 : decide (a0 ≤ 70) = false := decide_eq_false c9
                  clear c9
                  obtain rfl := Option.some.inj H
                  go_wp2
                  go_ret
                  exact ⟨by first | rfl | (simp; done) | (simp [*]; done), by repeat (first | exact Drawn0.refl _ | apply Drawn0.step)⟩
              · rw [if_neg c8] at H
                have c8b0 : decide (65 ≤ a0) = false := decide_eq_false c8
                clear c8
                obtain rfl := Option.some.inj H
                go_wp2
                go_ret
                exact ⟨by first | rfl | (simp; done) | (simp [*]; done), by repeat (first | exact Drawn0.refl _ | apply Drawn0.step)⟩
end Go.Proofs.Ytijfbnkohnlmaaa.X
end
section
namespace Go.Proofs.Ytijfbnkohnlmaaa.X
open Go.RowKit Go.Proofs.YtijfbnkohnlmaaaW.PrintWords Go.Proofs.YtijfbnkohnlmaaaW.PrintLast Go.Proofs.YtijfbnkohnlmaaaW.PrintMore
attribute [local go_sem] max2_int min2_int max_two min_two max_three min_three max_four min_four
set_option linter.unusedVariables false
set_option linter.unusedSimpArgs false
def sealringref04_four.l0 : Nat → ByteArray → Int → Int → Int → Option (Int × Int)
  | 0, _, _, _, _ => none
  | k + 1, x0, x1, x6, x7 => if x7 < 4 then (if (wrap64 (x1 + x7)) ≥ (x0.size : Int) then (some (0, 5)) else (if 0 ≤ (wrap64 (x1 + x7)) then (if (wrap64 (x1 + x7)) < (x0.size : Int) then ((sealringref04_digit.f k (bt x0 (wrap64 (x1 + x7)))).bind fun t221 => (if t221 < 0 then (some (0, 11)) else (sealringref04_four.l0 k x0 x1 (wrap64 ((wrap64 (16 * x6)) + t221)) (wrap64 (x7 + 1))))) else (none)) else (none))) else (some (x6, 0))
def sealringref04_four.f (k : Nat) (a0 : ByteArray) (a1 : Int) : Option (Int × Int) := sealringref04_four.l0 k a0 a1 0 0
theorem sealringref04_four.mono_l : ∀ k, (∀ y0 y1 y2 y3, LeO (sealringref04_four.l0 k y0 y1 y2 y3) (sealringref04_four.l0 (k + 1) y0 y1 y2 y3))
  | 0 => fun _ _ _ _ r h => by simp [sealringref04_four.l0] at h
  | k + 1 => by
    have ih0 := sealringref04_four.mono_l k
    · intro y0 y1 y2 y3
      unfold sealringref04_four.l0
      repeat' first
      | (with_reducible exact ih0 _ _ _ _)
      | (with_reducible exact sealringref04_digit.mono _ _)
      | (with_reducible exact LeO.refl _)
      | (with_reducible exact LeO.none _)
      | (with_reducible refine LeO.ite ?_ ?_)
      | (with_reducible refine LeO.bind ?_ (fun _ => ?_))
      | exact ih0 _ _ _ _
      | exact sealringref04_digit.mono _ _
      | exact LeO.none _
      | refine LeO.ite ?_ ?_
      | refine LeO.bind ?_ (fun _ => ?_)
theorem sealringref04_four.mono : ∀ a0 a1 k, LeO (sealringref04_four.f k a0 a1) (sealringref04_four.f (k + 1) a0 a1) := by
  intro a0 a1 k
  have ih0 := sealringref04_four.mono_l k
  unfold sealringref04_four.f
  repeat' first
      | (with_reducible exact ih0 _ _ _ _)
      | (with_reducible exact sealringref04_digit.mono _ _)
      | (with_reducible exact LeO.refl _)
      | (with_reducible exact LeO.none _)
      | (with_reducible refine LeO.ite ?_ ?_)
      | (with_reducible refine LeO.bind ?_ (fun _ => ?_))
      | exact ih0 _ _ _ _
      | exact sealringref04_digit.mono _ _
      | exact LeO.none _
      | refine LeO.ite ?_ ?_
      | refine LeO.bind ?_ (fun _ => ?_)
set_option maxHeartbeats 8000000 in
set_option maxRecDepth 100000 in
theorem sealringref04_four.calls (k : Nat) (a0 : ByteArray) (a1 : Int) (r1 : Int) (r2 : Int) (w : World) (h : sealringref04_four.f k a0 a1 = some (r1, r2)) :
    Calls Try.prog 43 #[.string a0, .int .i64 a1] w fun e w' => e = .returned (.tuple #[.int .i64 r1, .int .i64 r2]) ∧ Drawn0 w w' := by
  have H : (sealringref04_four.l0 k a0 a1 0 0) = some (r1, r2) := h
  clear h
  have H' := Aside0.mk H
  clear H
  go_enter Try.func43, Try.ntmps43
  go_wp2
  go_loopg [6, 7] k (fun kq v6 v7 w' => ∃ (x6_1 : Int) (x7_1 : Int), v6 = .int .i64 x6_1 ∧ v7 = .int .i64 x7_1 ∧ Aside0 (sealringref04_four.l0 kq a0 a1 x6_1 x7_1 = some (r1, r2)) ∧ Aside0 (kq ≤ k) ∧ Drawn0 w w')
  case atStart => exact ⟨(0), (0), (by first | rfl | (simp; done) | (simp [*]; done) | (simp [wrap64]; done)), (by first | rfl | (simp; done) | (simp [*]; done) | (simp [wrap64]; done)), (by first | with_reducible exact H' | exact H' | (subst_vars; exact H')), ⟨Nat.le_refl _⟩, by repeat (first | exact Drawn0.refl _ | apply Drawn0.step)⟩
  case round =>
    clear H'
    try clear p2
    obtain ⟨x6_1, x7_1, rfl, rfl, HA, HK1, ⟨m1, rfl⟩⟩ := hrel
    cases gk with
    | zero => exact absurd HA.out (by simp [sealringref04_four.l0])
    | succ k1 =>
      have H := HA.out
      clear HA
      simp only [sealringref04_four.l0] at H
      by_cases c3 : x7_1 < 4
      · rw [if_pos c3] at H
        have c3b0 : decide (x7_1 < 4) = true := decide_eq_true c3
        clear c3
        by_cases c4 : (wrap64 (a1 + x7_1)) ≥ (a0.size : Int)
        · rw [if_pos c4] at H
          have c4b0 : decide ((a0.size : Int) ≤ (wrap64 (a1 + x7_1))) = true := decide_eq_true c4
          clear c4
          simp only [Option.some.injEq, Prod.mk.injEq] at H
          obtain ⟨rfl, rfl⟩ := H
          go_wp2
          go_ret2
          exact ⟨by first | rfl | (simp; done) | (simp [*]; done), by repeat (first | exact Drawn0.refl _ | apply Drawn0.step)⟩
        · rw [if_neg c4] at H
          have c4b0 : decide ((a0.size : Int) ≤ (wrap64 (a1 + x7_1))) = false := decide_eq_false c4
          clear c4
          obtain ⟨ji5, hji5⟩ : ∃ j_ : Int, (wrap64 (a1 + x7_1)) = j_ := ⟨_, rfl⟩
          replace H : (if 0 ≤ (ji5) then (if (ji5) < (a0.size : Int) then ((sealringref04_digit.f k1 (bt a0 (ji5))).bind fun t221 => (if t221 < 0 then (some (0, 11)) else (sealringref04_four.l0 k1 a0 a1 (wrap64 ((wrap64 (16 * x6_1)) + t221)) (wrap64 (x7_1 + 1))))) else (none)) else (none)) = some (r1, r2) := by first | (rw [hji5] at H; exact H) | (simp only [hji5] at H ⊢; exact H)
          (try rw [hji5] at c4b0)
          have hji5w : (IntKind.i64.wrap (a1 + x7_1)) = ji5 := (i64_w _).trans hji5
          by_cases c6 : 0 ≤ (ji5)
          · rw [if_pos c6] at H
            have c6b0 : decide (0 ≤ (ji5)) = true := decide_eq_true c6
            clear c6
            by_cases c7 : (ji5) < (a0.size : Int)
            · rw [if_pos c7] at H
              have c7b0 : decide ((ji5) < (a0.size : Int)) = true := decide_eq_true c7
              clear c7
              replace H := Option.bind_eq_some_iff.mp H
              obtain ⟨t221, A90, H⟩ := H
              replace H : (if t221 < 0 then (some (0, 11)) else (sealringref04_four.l0 k1 a0 a1 (wrap64 ((wrap64 (16 * x6_1)) + t221)) (wrap64 (x7_1 + 1)))) = some (r1, r2) := H
              have A9 := Aside0.mk A90
              clear A90
              by_cases c10 : t221 < 0
              · rw [if_pos c10] at H
                have c10b0 : decide (t221 < 0) = true := decide_eq_true c10
                clear c10
                simp only [Option.some.injEq, Prod.mk.injEq] at H
                obtain ⟨rfl, rfl⟩ := H
                have p8 : 0 ≤ ((ji5) : Int) := of_decide_eq_true (by first | (with_reducible assumption) | assumption)
                have q8 : (ji5) < (a0.size : Int) := of_decide_eq_true (by first | (with_reducible assumption) | assumption)
                have hx8 := bt_at a0 (ji5)
                replace p8 := eq_true p8
                replace q8 := eq_true q8
                go_wp2_with (first | ((with_reducible refine gate_callee (f := 50) rfl ?_); refine goesL_ (some 24) rfl rfl Try.func50 (by kernel_rfl) rfl #[.int .u8 (bt a0 (ji5))] rfl (by (try simp only [List.map_toArray, List.map_cons, List.map_nil]); first | done | (simp only [hji5]; rfl) | rfl | (simp only [List.length_drop, List.length_take]; rfl)) ?_; (with_reducible refine (sealringref04_digit.calls k1 (bt a0 (ji5)) t221 _ A9.out).mono ?_); rintro e w' ⟨rfl, ⟨nd, rfl⟩⟩; refine ⟨_, rfl, ?_⟩))
                go_ret2
                exact ⟨by first | rfl | (simp; done) | (simp only [← hji5] <;> (first | rfl | simp)) | (simp [*]; done), by repeat (first | exact Drawn0.refl _ | apply Drawn0.step)⟩
              · rw [if_neg c10] at H
                have c10b0 : decide (t221 < 0) = false := decide_eq_false c10
                clear c10
                have H' := Aside0.mk H
                clear H
                have p8 : 0 ≤ ((ji5) : Int) := of_decide_eq_true (by first | (with_reducible assumption) | assumption)
                have q8 : (ji5) < (a0.size : Int) := of_decide_eq_true (by first | (with_reducible assumption) | assumption)
                have hx8 := bt_at a0 (ji5)
                replace p8 := eq_true p8
                replace q8 := eq_true q8
                go_wp2_with (first | ((with_reducible refine gate_callee (f := 50) rfl ?_); refine goesL_ (some 24) rfl rfl Try.func50 (by kernel_rfl) rfl #[.int .u8 (bt a0 (ji5))] rfl (by (try simp only [List.map_toArray, List.map_cons, List.map_nil]); first | done | (simp only [hji5]; rfl) | rfl | (simp only [List.length_drop, List.length_take]; rfl)) ?_; (with_reducible refine (sealringref04_digit.calls k1 (bt a0 (ji5)) t221 _ A9.out).mono ?_); rintro e w' ⟨rfl, ⟨nd, rfl⟩⟩; refine ⟨_, rfl, ?_⟩))
                go_roundg k1
                case measure => have := HK1.out; omega
                case rel => exact ⟨(wrap64 ((wrap64 (16 * x6_1)) + t221)), (wrap64 (x7_1 + 1)), (by first | rfl | (simp; done) | (simp [*]; done) | (simp [wrap64]; done)), (by first | rfl | (simp; done) | (simp [*]; done) | (simp [wrap64]; done)), (by first | with_reducible exact H' | exact H' | (subst_vars; exact H')), ⟨by have := HK1.out; omega⟩, by repeat (first | exact Drawn0.refl _ | apply Drawn0.step)⟩
            · rw [if_neg c7] at H
              exact absurd H (by simp)
          · rw [if_neg c6] at H
            exact absurd H (by simp)
      · rw [if_neg c3] at H
        have c3b0 : decide (x7_1 < 4) = false := decide_eq_false c3
        clear c3
        simp only [Option.some.injEq, Prod.mk.injEq] at H
        obtain ⟨rfl, rfl⟩ := H
        go_wp2
        go_ret2
        exact ⟨by first | rfl | (simp; done) | (simp [*]; done), by repeat (first | exact Drawn0.refl _ | apply Drawn0.step)⟩
end Go.Proofs.Ytijfbnkohnlmaaa.X
end
section
namespace Go.Proofs.Ytijfbnkohnlmaaa.X
open Go.RowKit Go.Proofs.YtijfbnkohnlmaaaW.PrintWords Go.Proofs.YtijfbnkohnlmaaaW.PrintLast Go.Proofs.YtijfbnkohnlmaaaW.PrintMore
attribute [local go_sem] max2_int min2_int max_two min_two max_three min_three max_four min_four
set_option linter.unusedVariables false
set_option linter.unusedSimpArgs false
def sealringref04_pair.f (k : Nat) (a0 : ByteArray) (a1 : Int) : Option (Int × Int) := if a1 ≥ (a0.size : Int) then (some (0, 5)) else (if 0 ≤ a1 then (if a1 < (a0.size : Int) then (if (bt a0 a1) = 92 then (if (wrap64 (a1 + 1)) ≥ (a0.size : Int) then (some (0, 5)) else (if 0 ≤ (wrap64 (a1 + 1)) then (if (wrap64 (a1 + 1)) < (a0.size : Int) then (if (bt a0 (wrap64 (a1 + 1))) = 117 then ((sealringref04_four.f k a0 (wrap64 (a1 + 2))).bind fun bt222 => (if bt222.2 = 0 then (if bt222.1 < 56320 then (some (0, 11)) else (if bt222.1 > 57343 then (some (0, 11)) else (some (bt222.1, bt222.2)))) else (some (bt222.1, bt222.2)))) else (some (0, 11))) else (none)) else (none))) else (some (0, 11))) else (none)) else (none))
theorem sealringref04_pair.mono : ∀ a0 a1 k, LeO (sealringref04_pair.f k a0 a1) (sealringref04_pair.f (k + 1) a0 a1) := by
  intro a0 a1 k
  unfold sealringref04_pair.f
  repeat' first
      | (with_reducible exact sealringref04_four.mono _ _ _)
      | (with_reducible exact LeO.refl _)
      | (with_reducible exact LeO.none _)
      | (with_reducible refine LeO.ite ?_ ?_)
      | (with_reducible refine LeO.bind ?_ (fun _ => ?_))
      | exact sealringref04_four.mono _ _ _
      | exact LeO.none _
      | refine LeO.ite ?_ ?_
      | refine LeO.bind ?_ (fun _ => ?_)
set_option maxHeartbeats 8000000 in
set_option maxRecDepth 100000 in
theorem sealringref04_pair.calls (k : Nat) (a0 : ByteArray) (a1 : Int) (r1 : Int) (r2 : Int) (w : World) (h : sealringref04_pair.f k a0 a1 = some (r1, r2)) :
    Calls Try.prog 44 #[.string a0, .int .i64 a1] w fun e w' => e = .returned (.tuple #[.int .i64 r1, .int .i64 r2]) ∧ Drawn0 w w' := by
  have H : (if a1 ≥ (a0.size : Int) then (some (0, 5)) else (if 0 ≤ a1 then (if a1 < (a0.size : Int) then (if (bt a0 a1) = 92 then (if (wrap64 (a1 + 1)) ≥ (a0.size : Int) then (some (0, 5)) else (if 0 ≤ (wrap64 (a1 + 1)) then (if (wrap64 (a1 + 1)) < (a0.size : Int) then (if (bt a0 (wrap64 (a1 + 1))) = 117 then ((sealringref04_four.f k a0 (wrap64 (a1 + 2))).bind fun bt222 => (if bt222.2 = 0 then (if bt222.1 < 56320 then (some (0, 11)) else (if bt222.1 > 57343 then (some (0, 11)) else (some (bt222.1, bt222.2)))) else (some (bt222.1, bt222.2)))) else (some (0, 11))) else (none)) else (none))) else (some (0, 11))) else (none)) else (none))) = some (r1, r2) := h
  clear h
  by_cases c3 : a1 ≥ (a0.size : Int)
  · rw [if_pos c3] at H
    have c3b0 : decide ((a0.size : Int) ≤ a1) = true := decide_eq_true c3
    clear c3
    simp only [Option.some.injEq, Prod.mk.injEq] at H
    obtain ⟨rfl, rfl⟩ := H
    go_enter Try.func44, Try.ntmps44
    go_wp2
    go_ret2
    exact ⟨by first | rfl | (simp; done) | (simp [*]; done), by repeat (first | exact Drawn0.refl _ | apply Drawn0.step)⟩
  · rw [if_neg c3] at H
    have c3b0 : decide ((a0.size : Int) ≤ a1) = false := decide_eq_false c3
    clear c3
    by_cases c4 : 0 ≤ a1
    · rw [if_pos c4] at H
      have c4b0 : decide (0 ≤ a1) = true := decide_eq_true c4
      clear c4
      by_cases c5 : a1 < (a0.size : Int)
      · rw [if_pos c5] at H
        have c5b0 : decide (a1 < (a0.size : Int)) = true := decide_eq_true c5
        clear c5
        by_cases c7 : (bt a0 a1) = 92
        · rw [if_pos c7] at H
          have c7b0 : ((bt a0 a1) == 92) = true := beq_iff_eq.mpr c7
          have c7b1 : ((bt a0 a1) != 92) = false := bne_eq_false_iff_eq.mpr c7
          clear c7
          by_cases c8 : (wrap64 (a1 + 1)) ≥ (a0.size : Int)
          · rw [if_pos c8] at H
            have c8b0 : decide ((a0.size : Int) ≤ (wrap64 (a1 + 1))) = true := decide_eq_true c8
            clear c8
            simp only [Option.some.injEq, Prod.mk.injEq] at H
            obtain ⟨rfl, rfl⟩ := H
            have p6 : 0 ≤ (a1 : Int) := of_decide_eq_true (by first | (with_reducible assumption) | assumption)
            have q6 : a1 < (a0.size : Int) := of_decide_eq_true (by first | (with_reducible assumption) | assumption)
            have hx6 := bt_at a0 a1
            replace p6 := eq_true p6
            replace q6 := eq_true q6
            go_enter Try.func44, Try.ntmps44
            go_wp2
            go_ret2
            exact ⟨by first | rfl | (simp; done) | (simp [*]; done), by repeat (first | exact Drawn0.refl _ | apply Drawn0.step)⟩
          · rw [if_neg c8] at H
            have c8b0 : decide ((a0.size : Int) ≤ (wrap64 (a1 + 1))) = false := decide_eq_false c8
            clear c8
            obtain ⟨ji9, hji9⟩ : ∃ j_ : Int, (wrap64 (a1 + 1)) = j_ := ⟨_, rfl⟩
            replace H : (if 0 ≤ (ji9) then (if (ji9) < (a0.size : Int) then (if (bt a0 (ji9)) = 117 then ((sealringref04_four.f k a0 (wrap64 (a1 + 2))).bind fun bt222 => (if bt222.2 = 0 then (if bt222.1 < 56320 then (some (0, 11)) else (if bt222.1 > 57343 then (some (0, 11)) else (some (bt222.1, bt222.2)))) else (some (bt222.1, bt222.2)))) else (some (0, 11))) else (none)) else (none)) = some (r1, r2) := by first | (rw [hji9] at H; exact H) | (simp only [hji9] at H ⊢; exact H)
            (try rw [hji9] at c8b0)
            have hji9w : (IntKind.i64.wrap (a1 + 1)) = ji9 := (i64_w _).trans hji9
            by_cases c10 : 0 ≤ (ji9)
            · rw [if_pos c10] at H
              have c10b0 : decide (0 ≤ (ji9)) = true := decide_eq_true c10
              clear c10
              by_cases c11 : (ji9) < (a0.size : Int)
              · rw [if_pos c11] at H
                have c11b0 : decide ((ji9) < (a0.size : Int)) = true := decide_eq_true c11
                clear c11
                by_cases c13 : (bt a0 (ji9)) = 117
                · rw [if_pos c13] at H
                  have c13b0 : ((bt a0 (ji9)) == 117) = true := beq_iff_eq.mpr c13
                  have c13b1 : ((bt a0 (ji9)) != 117) = false := bne_eq_false_iff_eq.mpr c13
                  clear c13
                  replace H := Option.bind_eq_some_iff.mp H
                  obtain ⟨⟨t222, t223⟩, A140, H⟩ := H
                  replace H : (if t223 = 0 then (if t222 < 56320 then (some (0, 11)) else (if t222 > 57343 then (some (0, 11)) else (some (t222, t223)))) else (some (t222, t223))) = some (r1, r2) := H
                  have A14 := Aside0.mk A140
                  clear A140
                  by_cases c15 : t223 = 0
                  · rw [if_pos c15] at H
                    have c15b0 : (t223 == 0) = true := beq_iff_eq.mpr c15
                    have c15b1 : (t223 != 0) = false := bne_eq_false_iff_eq.mpr c15
                    clear c15
                    by_cases c16 : t222 < 56320
                    · rw [if_pos c16] at H
                      have c16b0 : decide (t222 < 56320) = true := decide_eq_true c16
                      clear c16
                      simp only [Option.some.injEq, Prod.mk.injEq] at H
                      obtain ⟨rfl, rfl⟩ := H
                      have p6 : 0 ≤ (a1 : Int) := of_decide_eq_true (by first | (with_reducible assumption) | assumption)
                      have q6 : a1 < (a0.size : Int) := of_decide_eq_true (by first | (with_reducible assumption) | assumption)
                      have hx6 := bt_at a0 a1
                      replace p6 := eq_true p6
                      replace q6 := eq_true q6
                      have p12 : 0 ≤ ((ji9) : Int) := of_decide_eq_true (by first | (with_reducible assumption) | assumption)
                      have q12 : (ji9) < (a0.size : Int) := of_decide_eq_true (by first | (with_reducible assumption) | assumption)
                      have hx12 := bt_at a0 (ji9)
                      replace p12 := eq_true p12
                      replace q12 := eq_true q12
                      go_enter Try.func44, Try.ntmps44
                      go_wp2_with (first | ((with_reducible refine gate_callee (f := 43) rfl ?_); refine goesL_ (some 30) rfl rfl Try.func43 (by kernel_rfl) rfl #[.string a0, .int .i64 (wrap64 (a1 + 2))] rfl (by (try simp only [List.map_toArray, List.map_cons, List.map_nil]); first | done | rfl | (simp only [List.length_drop, List.length_take]; rfl)) ?_; (with_reducible refine (sealringref04_four.calls k a0 (wrap64 (a1 + 2)) t222 t223 _ A14.out).mono ?_); rintro e w' ⟨rfl, ⟨nd, rfl⟩⟩; refine ⟨_, rfl, ?_⟩))
                      go_ret2
                      exact ⟨by first | rfl | (simp; done) | (simp only [← hji9] <;> (first | rfl | simp)) | (simp [*]; done), by repeat (first | exact Drawn0.refl _ | apply Drawn0.step)⟩
                    · rw [if_neg c16] at H
                      have c16b0 : decide (t222 < 56320) = false := decide_eq_false c16
                      clear c16
                      by_cases c17 : t222 > 57343
                      · rw [if_pos c17] at H
                        have c17b0 : decide (57343 < t222) = true := decide_eq_true c17
                        clear c17
                        simp only [Option.some.injEq, Prod.mk.injEq] at H
                        obtain ⟨rfl, rfl⟩ := H
                        have p6 : 0 ≤ (a1 : Int) := of_decide_eq_true (by first | (with_reducible assumption) | assumption)
                        have q6 : a1 < (a0.size : Int) := of_decide_eq_true (by first | (with_reducible assumption) | assumption)
                        have hx6 := bt_at a0 a1
                        replace p6 := eq_true p6
                        replace q6 := eq_true q6
                        have p12 : 0 ≤ ((ji9) : Int) := of_decide_eq_true (by first | (with_reducible assumption) | assumption)
                        have q12 : (ji9) < (a0.size : Int) := of_decide_eq_true (by first | (with_reducible assumption) | assumption)
                        have hx12 := bt_at a0 (ji9)
                        replace p12 := eq_true p12
                        replace q12 := eq_true q12
                        go_enter Try.func44, Try.ntmps44
                        go_wp2_with (first | ((with_reducible refine gate_callee (f := 43) rfl ?_); refine goesL_ (some 30) rfl rfl Try.func43 (by kernel_rfl) rfl #[.string a0, .int .i64 (wrap64 (a1 + 2))] rfl (by (try simp only [List.map_toArray, List.map_cons, List.map_nil]); first | done | rfl | (simp only [List.length_drop, List.length_take]; rfl)) ?_; (with_reducible refine (sealringref04_four.calls k a0 (wrap64 (a1 + 2)) t222 t223 _ A14.out).mono ?_); rintro e w' ⟨rfl, ⟨nd, rfl⟩⟩; refine ⟨_, rfl, ?_⟩))
                        go_ret2
                        exact ⟨by first | rfl | (simp; done) | (simp only [← hji9] <;> (first | rfl | simp)) | (simp [*]; done), by repeat (first | exact Drawn0.refl _ | apply Drawn0.step)⟩
                      · rw [if_neg c17] at H
                        have c17b0 : decide (57343 < t222) = false := decide_eq_false c17
                        clear c17
                        simp only [Option.some.injEq, Prod.mk.injEq] at H
                        obtain ⟨rfl, rfl⟩ := H
                        have p6 : 0 ≤ (a1 : Int) := of_decide_eq_true (by first | (with_reducible assumption) | assumption)
                        have q6 : a1 < (a0.size : Int) := of_decide_eq_true (by first | (with_reducible assumption) | assumption)
                        have hx6 := bt_at a0 a1
                        replace p6 := eq_true p6
                        replace q6 := eq_true q6
                        have p12 : 0 ≤ ((ji9) : Int) := of_decide_eq_true (by first | (with_reducible assumption) | assumption)
                        have q12 : (ji9) < (a0.size : Int) := of_decide_eq_true (by first | (with_reducible assumption) | assumption)
                        have hx12 := bt_at a0 (ji9)
                        replace p12 := eq_true p12
                        replace q12 := eq_true q12
                        go_enter Try.func44, Try.ntmps44
                        go_wp2_with (first | ((with_reducible refine gate_callee (f := 43) rfl ?_); refine goesL_ (some 30) rfl rfl Try.func43 (by kernel_rfl) rfl #[.string a0, .int .i64 (wrap64 (a1 + 2))] rfl (by (try simp only [List.map_toArray, List.map_cons, List.map_nil]); first | done | rfl | (simp only [List.length_drop, List.length_take]; rfl)) ?_; (with_reducible refine (sealringref04_four.calls k a0 (wrap64 (a1 + 2)) t222 t223 _ A14.out).mono ?_); rintro e w' ⟨rfl, ⟨nd, rfl⟩⟩; refine ⟨_, rfl, ?_⟩))
                        go_ret2
                        exact ⟨by first | rfl | (simp; done) | (simp only [← hji9] <;> (first | rfl | simp)) | (simp [*]; done), by repeat (first | exact Drawn0.refl _ | apply Drawn0.step)⟩
                  · rw [if_neg c15] at H
                    have c15b0 : (t223 == 0) = false := beq_eq_false_iff_ne.mpr c15
                    have c15b1 : (t223 != 0) = true := bne_iff_ne.mpr c15
                    simp only [Option.some.injEq, Prod.mk.injEq] at H
                    obtain ⟨rfl, rfl⟩ := H
                    have p6 : 0 ≤ (a1 : Int) := of_decide_eq_true (by first | (with_reducible assumption) | assumption)
                    have q6 : a1 < (a0.size : Int) := of_decide_eq_true (by first | (with_reducible assumption) | assumption)
                    have hx6 := bt_at a0 a1
                    replace p6 := eq_true p6
                    replace q6 := eq_true q6
                    have p12 : 0 ≤ ((ji9) : Int) := of_decide_eq_true (by first | (with_reducible assumption) | assumption)
                    have q12 : (ji9) < (a0.size : Int) := of_decide_eq_true (by first | (with_reducible assumption) | assumption)
                    have hx12 := bt_at a0 (ji9)
                    replace p12 := eq_true p12
                    replace q12 := eq_true q12
                    go_enter Try.func44, Try.ntmps44
                    go_wp2_with (first | ((with_reducible refine gate_callee (f := 43) rfl ?_); refine goesL_ (some 30) rfl rfl Try.func43 (by kernel_rfl) rfl #[.string a0, .int .i64 (wrap64 (a1 + 2))] rfl (by (try simp only [List.map_toArray, List.map_cons, List.map_nil]); first | done | rfl | (simp only [List.length_drop, List.length_take]; rfl)) ?_; (with_reducible refine (sealringref04_four.calls k a0 (wrap64 (a1 + 2)) t222 t223 _ A14.out).mono ?_); rintro e w' ⟨rfl, ⟨nd, rfl⟩⟩; refine ⟨_, rfl, ?_⟩))
                    go_ret2
                    exact ⟨by first | rfl | (simp; done) | (simp only [← hji9] <;> (first | rfl | simp)) | (simp [*]; done), by repeat (first | exact Drawn0.refl _ | apply Drawn0.step)⟩
                · rw [if_neg c13] at H
                  have c13b0 : ((bt a0 (ji9)) == 117) = false := beq_eq_false_iff_ne.mpr c13
                  have c13b1 : ((bt a0 (ji9)) != 117) = true := bne_iff_ne.mpr c13
                  simp only [Option.some.injEq, Prod.mk.injEq] at H
                  obtain ⟨rfl, rfl⟩ := H
                  have p6 : 0 ≤ (a1 : Int) := of_decide_eq_true (by first | (with_reducible assumption) | assumption)
                  have q6 : a1 < (a0.size : Int) := of_decide_eq_true (by first | (with_reducible assumption) | assumption)
                  have hx6 := bt_at a0 a1
                  replace p6 := eq_true p6
                  replace q6 := eq_true q6
                  have p12 : 0 ≤ ((ji9) : Int) := of_decide_eq_true (by first | (with_reducible assumption) | assumption)
                  have q12 : (ji9) < (a0.size : Int) := of_decide_eq_true (by first | (with_reducible assumption) | assumption)
                  have hx12 := bt_at a0 (ji9)
                  replace p12 := eq_true p12
                  replace q12 := eq_true q12
                  go_enter Try.func44, Try.ntmps44
                  go_wp2
                  go_ret2
                  exact ⟨by first | rfl | (simp; done) | (simp only [← hji9] <;> (first | rfl | simp)) | (simp [*]; done), by repeat (first | exact Drawn0.refl _ | apply Drawn0.step)⟩
              · rw [if_neg c11] at H
                exact absurd H (by simp)
            · rw [if_neg c10] at H
              exact absurd H (by simp)
        · rw [if_neg c7] at H
          have c7b0 : ((bt a0 a1) == 92) = false := beq_eq_false_iff_ne.mpr c7
          have c7b1 : ((bt a0 a1) != 92) = true := bne_iff_ne.mpr c7
          simp only [Option.some.injEq, Prod.mk.injEq] at H
          obtain ⟨rfl, rfl⟩ := H
          have p6 : 0 ≤ (a1 : Int) := of_decide_eq_true (by first | (with_reducible assumption) | assumption)
          have q6 : a1 < (a0.size : Int) := of_decide_eq_true (by first | (with_reducible assumption) | assumption)
          have hx6 := bt_at a0 a1
          replace p6 := eq_true p6
          replace q6 := eq_true q6
          go_enter Try.func44, Try.ntmps44
          go_wp2
          go_ret2
          exact ⟨by first | rfl | (simp; done) | (simp [*]; done), by repeat (first | exact Drawn0.refl _ | apply Drawn0.step)⟩
      · rw [if_neg c5] at H
        exact absurd H (by simp)
    · rw [if_neg c4] at H
      exact absurd H (by simp)
end Go.Proofs.Ytijfbnkohnlmaaa.X
end
section
namespace Go.Proofs.Ytijfbnkohnlmaaa.X
open Go.RowKit Go.Proofs.YtijfbnkohnlmaaaW.PrintWords Go.Proofs.YtijfbnkohnlmaaaW.PrintLast Go.Proofs.YtijfbnkohnlmaaaW.PrintMore
attribute [local go_sem] max2_int min2_int max_two min_two max_three min_three max_four min_four
set_option linter.unusedVariables false
set_option linter.unusedSimpArgs false
mutual
def sealringref04_escape.l0 : Nat → ByteArray → Int → Int → Int → Option (Int × Int × Int)
  | 0, _, _, _, _ => none
  | k + 1, x0, x1, x7, x8 => if x8 < 128 then ((sealringref04_small.f k x8).bind fun t224 => (if t224 = 0 then (sealringref04_escape.l0 k x0 x1 x7 (wrap64 (x8 + 1))) else ((sealringref04_small.f k x8).bind fun t225 => (if t225 = x7 then (some (x8, 1, 0)) else (sealringref04_escape.l0 k x0 x1 x7 (wrap64 (x8 + 1))))))) else (if x7 = 117 then ((sealringref04_four.f k x0 (wrap64 (x1 + 1))).bind fun bt226 => (if bt226.2 = 0 then (if bt226.1 < 55296 then (sealringref04_escape.j1 k x0 x1 bt226.1 true) else (sealringref04_escape.j1 k x0 x1 bt226.1 (decide (bt226.1 > 57343)))) else (some (0, 0, bt226.2)))) else (some (0, 0, 11)))
def sealringref04_escape.j1 : Nat → ByteArray → Int → Int → Bool → Option (Int × Int × Int)
  | 0, _, _, _, _ => none
  | k + 1, x0, x1, x9, x53 => if x53 = true then (some (x9, 5, 0)) else (if x9 > 56319 then (some (0, 0, 11)) else ((sealringref04_pair.f k x0 (wrap64 (x1 + 5))).bind fun bt228 => (if bt228.2 = 0 then (some (wrap64 ((wrap64 ((wrap64 (65536 + (wrap64 (1024 * (wrap64 (x9 - 55296)))))) + bt228.1)) - 56320), 11, 0)) else (some (0, 0, bt228.2)))))
end
def sealringref04_escape.f (k : Nat) (a0 : ByteArray) (a1 : Int) : Option (Int × Int × Int) := if a1 ≥ (a0.size : Int) then (some (0, 0, 5)) else (if 0 ≤ a1 then (if a1 < (a0.size : Int) then (if (bt a0 a1) = 47 then (some (47, 1, 0)) else (sealringref04_escape.l0 k a0 a1 (bt a0 a1) 0)) else (none)) else (none))
theorem sealringref04_escape.mono_l : ∀ k, (∀ y0 y1 y2 y3, LeO (sealringref04_escape.l0 k y0 y1 y2 y3) (sealringref04_escape.l0 (k + 1) y0 y1 y2 y3)) ∧ (∀ y0 y1 y2 y3, LeO (sealringref04_escape.j1 k y0 y1 y2 y3) (sealringref04_escape.j1 (k + 1) y0 y1 y2 y3))
  | 0 => ⟨fun _ _ _ _ r h => by simp [sealringref04_escape.l0] at h, fun _ _ _ _ r h => by simp [sealringref04_escape.j1] at h⟩
  | k + 1 => by
    obtain ⟨ih0, ih1⟩ := sealringref04_escape.mono_l k
    refine ⟨?_, ?_⟩
    · intro y0 y1 y2 y3
      unfold sealringref04_escape.l0
      repeat' first
      | (with_reducible exact ih0 _ _ _ _)
      | (with_reducible exact ih1 _ _ _ _)
      | (with_reducible exact sealringref04_four.mono _ _ _)
      | (with_reducible exact sealringref04_pair.mono _ _ _)
      | (with_reducible exact sealringref04_small.mono _ _)
      | (with_reducible exact LeO.refl _)
      | (with_reducible exact LeO.none _)
      | (with_reducible refine LeO.ite ?_ ?_)
      | (with_reducible refine LeO.bind ?_ (fun _ => ?_))
      | exact ih0 _ _ _ _
      | exact ih1 _ _ _ _
      | exact sealringref04_four.mono _ _ _
      | exact sealringref04_pair.mono _ _ _
      | exact sealringref04_small.mono _ _
      | exact LeO.none _
      | refine LeO.ite ?_ ?_
      | refine LeO.bind ?_ (fun _ => ?_)
    · intro y0 y1 y2 y3
      unfold sealringref04_escape.j1
      repeat' first
      | (with_reducible exact ih0 _ _ _ _)
      | (with_reducible exact ih1 _ _ _ _)
      | (with_reducible exact sealringref04_four.mono _ _ _)
      | (with_reducible exact sealringref04_pair.mono _ _ _)
      | (with_reducible exact sealringref04_small.mono _ _)
      | (with_reducible exact LeO.refl _)
      | (with_reducible exact LeO.none _)
      | (with_reducible refine LeO.ite ?_ ?_)
      | (with_reducible refine LeO.bind ?_ (fun _ => ?_))
      | exact ih0 _ _ _ _
      | exact ih1 _ _ _ _
      | exact sealringref04_four.mono _ _ _
      | exact sealringref04_pair.mono _ _ _
      | exact sealringref04_small.mono _ _
      | exact LeO.none _
      | refine LeO.ite ?_ ?_
      | refine LeO.bind ?_ (fun _ => ?_)
theorem sealringref04_escape.mono : ∀ a0 a1 k, LeO (sealringref04_escape.f k a0 a1) (sealringref04_escape.f (k + 1) a0 a1) := by
  intro a0 a1 k
  obtain ⟨ih0, ih1⟩ := sealringref04_escape.mono_l k
  unfold sealringref04_escape.f
  repeat' first
      | (with_reducible exact ih0 _ _ _ _)
      | (with_reducible exact ih1 _ _ _ _)
      | (with_reducible exact sealringref04_four.mono _ _ _)
      | (with_reducible exact sealringref04_pair.mono _ _ _)
      | (with_reducible exact sealringref04_small.mono _ _)
      | (with_reducible exact LeO.refl _)
      | (with_reducible exact LeO.none _)
      | (with_reducible refine LeO.ite ?_ ?_)
      | (with_reducible refine LeO.bind ?_ (fun _ => ?_))
      | exact ih0 _ _ _ _
      | exact ih1 _ _ _ _
      | exact sealringref04_four.mono _ _ _
      | exact sealringref04_pair.mono _ _ _
      | exact sealringref04_small.mono _ _
      | exact LeO.none _
      | refine LeO.ite ?_ ?_
      | refine LeO.bind ?_ (fun _ => ?_)
set_option maxHeartbeats 8000000 in
set_option maxRecDepth 100000 in
theorem sealringref04_escape.calls (k : Nat) (a0 : ByteArray) (a1 : Int) (r1 : Int) (r2 : Int) (r3 : Int) (w : World) (h : sealringref04_escape.f k a0 a1 = some (r1, r2, r3)) :
    Calls Try.prog 35 #[.string a0, .int .i64 a1] w fun e w' => e = .returned (.tuple #[.int .i64 r1, .int .i64 r2, .int .i64 r3]) ∧ Drawn0 w w' := by
  have H : (if a1 ≥ (a0.size : Int) then (some (0, 0, 5)) else (if 0 ≤ a1 then (if a1 < (a0.size : Int) then (if (bt a0 a1) = 47 then (some (47, 1, 0)) else (sealringref04_escape.l0 k a0 a1 (bt a0 a1) 0)) else (none)) else (none))) = some (r1, r2, r3) := h
  clear h
  by_cases c3 : a1 ≥ (a0.size : Int)
  · rw [if_pos c3] at H
    have c3b0 : decide ((a0.size : Int) ≤ a1) = true := decide_eq_true c3
    clear c3
    simp only [Option.some.injEq, Prod.mk.injEq] at H
    obtain ⟨rfl, rfl, rfl⟩ := H
    go_enter Try.func35, Try.ntmps35
    go_wp2
    go_ret3
    exact ⟨by first | rfl | (simp; done) | (simp [*]; done), by repeat (first | exact Drawn0.refl _ | apply Drawn0.step)⟩
  · rw [if_neg c3] at H
    have c3b0 : decide ((a0.size : Int) ≤ a1) = false := decide_eq_false c3
    clear c3
    by_cases c4 : 0 ≤ a1
    · rw [if_pos c4] at H
      have c4b0 : decide (0 ≤ a1) = true := decide_eq_true c4
      clear c4
      by_cases c5 : a1 < (a0.size : Int)
      · rw [if_pos c5] at H
        have c5b0 : decide (a1 < (a0.size : Int)) = true := decide_eq_true c5
        clear c5
        by_cases c7 : (bt a0 a1) = 47
        · rw [if_pos c7] at H
          have c7b0 : ((bt a0 a1) == 47) = true := beq_iff_eq.mpr c7
          have c7b1 : ((bt a0 a1) != 47) = false := bne_eq_false_iff_eq.mpr c7
          clear c7
          simp only [Option.some.injEq, Prod.mk.injEq] at H
          obtain ⟨rfl, rfl, rfl⟩ := H
          have p6 : 0 ≤ (a1 : Int) := of_decide_eq_true (by first | (with_reducible assumption) | assumption)
          have q6 : a1 < (a0.size : Int) := of_decide_eq_true (by first | (with_reducible assumption) | assumption)
          have hx6 := bt_at a0 a1
          replace p6 := eq_true p6
          replace q6 := eq_true q6
          go_enter Try.func35, Try.ntmps35
          go_wp2
          go_ret3
          exact ⟨by first | rfl | (simp; done) | (simp [*]; done), by repeat (first | exact Drawn0.refl _ | apply Drawn0.step)⟩
        · rw [if_neg c7] at H
          have c7b0 : ((bt a0 a1) == 47) = false := beq_eq_false_iff_ne.mpr c7
          have c7b1 : ((bt a0 a1) != 47) = true := bne_iff_ne.mpr c7
          have H' := Aside0.mk H
          clear H
          have p6 : 0 ≤ (a1 : Int) := of_decide_eq_true (by first | (with_reducible assumption) | assumption)
          have q6 : a1 < (a0.size : Int) := of_decide_eq_true (by first | (with_reducible assumption) | assumption)
          have hx6 := bt_at a0 a1
          replace p6 := eq_true p6
          replace q6 := eq_true q6
          go_enter Try.func35, Try.ntmps35
          go_wp2
          (try simp only [Go.IntKind.wrap_u8])
          go_loopg [8] k (fun kq v8 w' => ∃ (x8_1 : Int), v8 = .int .i64 x8_1 ∧ Aside0 (sealringref04_escape.l0 kq a0 a1 (bt a0 a1) x8_1 = some (r1, r2, r3)) ∧ Aside0 (kq ≤ k) ∧ Drawn0 w w')
          case atStart => exact ⟨(0), (by first | rfl | (simp; done) | (simp [*]; done) | (simp [wrap64]; done)), (by first | with_reducible exact H' | exact H' | (subst_vars; exact H')), ⟨Nat.le_refl _⟩, by repeat (first | exact Drawn0.refl _ | apply Drawn0.step)⟩
          case round =>
            clear H'
            try clear p2
            try clear c3
            try clear c3b0
            try clear c4
            try clear c4b0
            try clear c5
            try clear c5b0
            try clear p6
            try clear q6
            try clear hx6
            try clear c7
            try clear c7b0
            try clear c7b1
            try clear p6
            try clear q6
            obtain ⟨x8_1, rfl, HA, HK1, ⟨m1, rfl⟩⟩ := hrel
            cases gk with
            | zero => exact absurd HA.out (by simp [sealringref04_escape.l0])
            | succ k1 =>
              have H := HA.out
              clear HA
              simp only [sealringref04_escape.l0] at H
              by_cases c8 : x8_1 < 128
              · rw [if_pos c8] at H
                have c8b0 : decide (x8_1 < 128) = true := decide_eq_true c8
                clear c8
                replace H := Option.bind_eq_some_iff.mp H
                obtain ⟨t224, A90, H⟩ := H
                replace H : (if t224 = 0 then (sealringref04_escape.l0 k1 a0 a1 (bt a0 a1) (wrap64 (x8_1 + 1))) else ((sealringref04_small.f k1 x8_1).bind fun t225 => (if t225 = (bt a0 a1) then (some (x8_1, 1, 0)) else (sealringref04_escape.l0 k1 a0 a1 (bt a0 a1) (wrap64 (x8_1 + 1)))))) = some (r1, r2, r3) := H
                have A9 := Aside0.mk A90
                clear A90
                by_cases c10 : t224 = 0
                · rw [if_pos c10] at H
                  have c10b0 : (t224 == 0) = true := beq_iff_eq.mpr c10
                  have c10b1 : (t224 != 0) = false := bne_eq_false_iff_eq.mpr c10
                  clear c10
                  have H' := Aside0.mk H
                  clear H
                  go_wp2_with (first | ((with_reducible refine gate_callee (f := 42) rfl ?_); refine goesL_ (some 27) rfl rfl Try.func42 (by kernel_rfl) rfl #[.int .i64 x8_1] rfl (by (try simp only [List.map_toArray, List.map_cons, List.map_nil]); first | done | rfl | (simp only [List.length_drop, List.length_take]; rfl)) ?_; (with_reducible refine (sealringref04_small.calls k1 x8_1 t224 _ A9.out).mono ?_); rintro e w' ⟨rfl, ⟨nd, rfl⟩⟩; refine ⟨_, rfl, ?_⟩))
                  go_roundg k1
                  case measure => have := HK1.out; omega
                  case rel => exact ⟨(wrap64 (x8_1 + 1)), (by first | rfl | (simp; done) | (simp [*]; done) | (simp [wrap64]; done)), (by first | with_reducible exact H' | exact H' | (subst_vars; exact H')), ⟨by have := HK1.out; omega⟩, by repeat (first | exact Drawn0.refl _ | apply Drawn0.step)⟩
                · rw [if_neg c10] at H
                  have c10b0 : (t224 == 0) = false := beq_eq_false_iff_ne.mpr c10
                  have c10b1 : (t224 != 0) = true := bne_iff_ne.mpr c10
                  replace H := Option.bind_eq_some_iff.mp H
                  obtain ⟨t225, A110, H⟩ := H
                  replace H : (if t225 = (bt a0 a1) then (some (x8_1, 1, 0)) else (sealringref04_escape.l0 k1 a0 a1 (bt a0 a1) (wrap64 (x8_1 + 1)))) = some (r1, r2, r3) := H
                  have A11 := Aside0.mk A110
                  clear A110
                  have EA11 : t224 = t225 := Option.some.inj (A9.out.symm.trans A11.out)
                  subst EA11
                  by_cases c12 : t224 = (bt a0 a1)
                  · rw [if_pos c12] at H
                    have c12b0 : (t224 == (bt a0 a1)) = true := beq_iff_eq.mpr c12
                    have c12b1 : (t224 != (bt a0 a1)) = false := bne_eq_false_iff_eq.mpr c12
                    clear c12
                    simp only [Option.some.injEq, Prod.mk.injEq] at H
                    obtain ⟨rfl, rfl, rfl⟩ := H
                    go_wp2_with (first | ((with_reducible refine gate_callee (f := 42) rfl ?_); refine goesL_ (some 27) rfl rfl Try.func42 (by kernel_rfl) rfl #[.int .i64 x8_1] rfl (by (try simp only [List.map_toArray, List.map_cons, List.map_nil]); first | done | rfl | (simp only [List.length_drop, List.length_take]; rfl)) ?_; (with_reducible refine (sealringref04_small.calls k1 x8_1 t224 _ A9.out).mono ?_); rintro e w' ⟨rfl, ⟨nd, rfl⟩⟩; refine ⟨_, rfl, ?_⟩) | (go_at_call 42; (with_reducible refine (sealringref04_small.calls k1 x8_1 t224 _ A11.out).mono ?_); rintro e w' ⟨rfl, ⟨nd, rfl⟩⟩))
                    go_ret3
                    exact ⟨by first | rfl | (simp; done) | (simp [*]; done), by repeat (first | exact Drawn0.refl _ | apply Drawn0.step)⟩
                  · rw [if_neg c12] at H
                    have c12b0 : (t224 == (bt a0 a1)) = false := beq_eq_false_iff_ne.mpr c12
                    have c12b1 : (t224 != (bt a0 a1)) = true := bne_iff_ne.mpr c12
                    have H' := Aside0.mk H
                    clear H
                    go_wp2_with (first | ((with_reducible refine gate_callee (f := 42) rfl ?_); refine goesL_ (some 27) rfl rfl Try.func42 (by kernel_rfl) rfl #[.int .i64 x8_1] rfl (by (try simp only [List.map_toArray, List.map_cons, List.map_nil]); first | done | rfl | (simp only [List.length_drop, List.length_take]; rfl)) ?_; (with_reducible refine (sealringref04_small.calls k1 x8_1 t224 _ A9.out).mono ?_); rintro e w' ⟨rfl, ⟨nd, rfl⟩⟩; refine ⟨_, rfl, ?_⟩) | (go_at_call 42; (with_reducible refine (sealringref04_small.calls k1 x8_1 t224 _ A11.out).mono ?_); rintro e w' ⟨rfl, ⟨nd, rfl⟩⟩))
                    go_roundg k1
                    case measure => have := HK1.out; omega
                    case rel => exact ⟨(wrap64 (x8_1 + 1)), (by first | rfl | (simp; done) | (simp [*]; done) | (simp [wrap64]; done)), (by first | with_reducible exact H' | exact H' | (subst_vars; exact H')), ⟨by have := HK1.out; omega⟩, by repeat (first | exact Drawn0.refl _ | apply Drawn0.step)⟩
              · rw [if_neg c8] at H
                have c8b0 : decide (x8_1 < 128) = false := decide_eq_false c8
                clear c8
                by_cases c13 : (bt a0 a1) = 117
                · rw [if_pos c13] at H
                  have c13b0 : ((bt a0 a1) == 117) = true := beq_iff_eq.mpr c13
                  have c13b1 : ((bt a0 a1) != 117) = false := bne_eq_false_iff_eq.mpr c13
                  clear c13
                  replace H := Option.bind_eq_some_iff.mp H
                  obtain ⟨⟨t226, t227⟩, A140, H⟩ := H
                  replace H : (if t227 = 0 then (if t226 < 55296 then (sealringref04_escape.j1 k1 a0 a1 t226 true) else (sealringref04_escape.j1 k1 a0 a1 t226 (decide (t226 > 57343)))) else (some (0, 0, t227))) = some (r1, r2, r3) := H
                  have A14 := Aside0.mk A140
                  clear A140
                  by_cases c15 : t227 = 0
                  · rw [if_pos c15] at H
                    have c15b0 : (t227 == 0) = true := beq_iff_eq.mpr c15
                    have c15b1 : (t227 != 0) = false := bne_eq_false_iff_eq.mpr c15
                    clear c15
                    have HC16 := Aside0.mk H
                    clear H
                    go_upto_region 16 with (first | ((with_reducible refine gate_callee (f := 43) rfl ?_); refine goesL_ (some 42) rfl rfl Try.func43 (by kernel_rfl) rfl #[.string a0, .int .i64 (wrap64 (a1 + 1))] rfl (by (try simp only [List.map_toArray, List.map_cons, List.map_nil]); first | done | rfl | (simp only [List.length_drop, List.length_take]; rfl)) ?_; (with_reducible refine (sealringref04_four.calls k1 a0 (wrap64 (a1 + 1)) t226 t227 _ A14.out).mono ?_); rintro e w' ⟨rfl, ⟨nd, rfl⟩⟩; refine ⟨_, rfl, ?_⟩))
                    (try simp only [Act.put, List.setIfInBounds_toArray, List.set_cons_zero, List.set_cons_succ])
                    go_cut [53] (fun v53 wc => ∃ (kq : Nat) (x53_15 : Bool), v53 = .bool x53_15 ∧ Aside0 (sealringref04_escape.j1 kq a0 a1 t226 x53_15 = some (r1, r2, r3)) ∧ Aside0 (kq ≤ k1) ∧ Drawn0 w wc)
                    case first =>
                      have H := HC16.out
                      clear HC16
                      by_cases c17 : t226 < 55296
                      · rw [if_pos c17] at H
                        have c17b0 : decide (t226 < 55296) = true := decide_eq_true c17
                        clear c17
                        (first | rw [c17b0] | (simp only [i64_w, i32_w]; rw [c17b0]) | skip)
                        have H' := Aside0.mk H
                        clear H
                        go_wp2
                        go_meet
                        case rel => exact ⟨_, (true), (by first | rfl | (simp; done) | (simp [*]; done) | (simp [wrap64]; done)), (by first | with_reducible exact H' | exact H' | (subst_vars; exact H')), ⟨by have := HK1.out; first | omega | exact Nat.le_refl _⟩, by repeat (first | exact Drawn0.refl _ | apply Drawn0.step)⟩
                      · rw [if_neg c17] at H
                        have c17b0 : decide (t226 < 55296) = false := decide_eq_false c17
                        clear c17
                        (first | rw [c17b0] | (simp only [i64_w, i32_w]; rw [c17b0]) | skip)
                        have H' := Aside0.mk H
                        clear H
                        go_wp2
                        go_meet
                        case rel => exact ⟨_, (decide (t226 > 57343)), (by first | rfl | (simp; done) | (simp [*]; done) | (simp [wrap64]; done)), (by first | with_reducible exact H' | exact H' | (subst_vars; exact H')), ⟨by have := HK1.out; first | omega | exact Nat.le_refl _⟩, by repeat (first | exact Drawn0.refl _ | apply Drawn0.step)⟩
                    case rest =>
                      clear HC16
                      try clear c1
                      try clear p2
                      try clear c3
                      try clear c3b0
                      try clear c4
                      try clear c4b0
                      try clear c5
                      try clear c5b0
                      try clear p6
                      try clear q6
                      try clear hx6
                      try clear c7
                      try clear c7b0
                      try clear c7b1
                      try clear c8
                      try clear c8b0
                      try clear c10
                      try clear c10b0
                      try clear c10b1
                      try clear c12
                      try clear c12b0
                      try clear c12b1
                      try clear c13
                      try clear c13b0
                      try clear c13b1
                      try clear c15
                      try clear c15b0
                      try clear c15b1
                      try clear c17
                      try clear c17b0
                      try clear p2
                      try clear p6
                      try clear q6
                      obtain ⟨kq, x53_15, rfl, HA, HJ15, ⟨mc15, rfl⟩⟩ := hcut
                      cases kq with
                      | zero => exact absurd HA.out (by simp [sealringref04_escape.j1])
                      | succ kj15 =>
                        have H := HA.out
                        clear HA
                        simp only [sealringref04_escape.j1] at H
                        by_cases c18 : x53_15 = true
                        · subst c18
                          have H1 : (some (t226, 5, 0)) = some (r1, r2, r3) := by rw [if_pos rfl] at H; exact H
                          clear H
                          have H := H1
                          clear H1
                          simp only [Option.some.injEq, Prod.mk.injEq] at H
                          obtain ⟨rfl, rfl, rfl⟩ := H
                          go_wp2
                          go_ret3
                          exact ⟨by first | rfl | (simp; done) | (simp [*]; done), by repeat (first | exact Drawn0.refl _ | apply Drawn0.step)⟩
                        · replace c18 := Bool.eq_false_iff.mpr c18
                          subst c18
                          have H1 : (if t226 > 56319 then (some (0, 0, 11)) else ((sealringref04_pair.f kj15 a0 (wrap64 (a1 + 5))).bind fun bt228 => (if bt228.2 = 0 then (some (wrap64 ((wrap64 ((wrap64 (65536 + (wrap64 (1024 * (wrap64 (t226 - 55296)))))) + bt228.1)) - 56320), 11, 0)) else (some (0, 0, bt228.2))))) = some (r1, r2, r3) := by rw [if_neg (show ¬ (false = true) by decide)] at H; exact H
                          clear H
                          have H := H1
                          clear H1
                          by_cases c19 : t226 > 56319
                          · rw [if_pos c19] at H
                            have c19b0 : decide (56319 < t226) = true := decide_eq_true c19
                            clear c19
                            simp only [Option.some.injEq, Prod.mk.injEq] at H
                            obtain ⟨rfl, rfl, rfl⟩ := H
                            go_wp2
                            go_ret3
                            exact ⟨by first | rfl | (simp; done) | (simp [*]; done), by repeat (first | exact Drawn0.refl _ | apply Drawn0.step)⟩
                          · rw [if_neg c19] at H
                            have c19b0 : decide (56319 < t226) = false := decide_eq_false c19
                            clear c19
                            replace H := Option.bind_eq_some_iff.mp H
                            obtain ⟨⟨t228, t229⟩, A200, H⟩ := H
                            replace H : (if t229 = 0 then (some (wrap64 ((wrap64 ((wrap64 (65536 + (wrap64 (1024 * (wrap64 (t226 - 55296)))))) + t228)) - 56320), 11, 0)) else (some (0, 0, t229))) = some (r1, r2, r3) := H
                            have A20 := Aside0.mk A200
                            clear A200
                            by_cases c21 : t229 = 0
                            · rw [if_pos c21] at H
                              have c21b0 : (t229 == 0) = true := beq_iff_eq.mpr c21
                              have c21b1 : (t229 != 0) = false := bne_eq_false_iff_eq.mpr c21
                              clear c21
                              simp only [Option.some.injEq, Prod.mk.injEq] at H
                              obtain ⟨rfl, rfl, rfl⟩ := H
                              go_wp2_with (first | ((with_reducible refine gate_callee (f := 44) rfl ?_); refine goesL_ (some 61) rfl rfl Try.func44 (by kernel_rfl) rfl #[.string a0, .int .i64 (wrap64 (a1 + 5))] rfl (by (try simp only [List.map_toArray, List.map_cons, List.map_nil]); first | done | rfl | (simp only [List.length_drop, List.length_take]; rfl)) ?_; (with_reducible refine (sealringref04_pair.calls kj15 a0 (wrap64 (a1 + 5)) t228 t229 _ A20.out).mono ?_); rintro e w' ⟨rfl, ⟨nd, rfl⟩⟩; refine ⟨_, rfl, ?_⟩))
                              go_ret3
                              exact ⟨by first | rfl | (simp; done) | (simp [*]; done), by repeat (first | exact Drawn0.refl _ | apply Drawn0.step)⟩
                            · rw [if_neg c21] at H
                              have c21b0 : (t229 == 0) = false := beq_eq_false_iff_ne.mpr c21
                              have c21b1 : (t229 != 0) = true := bne_iff_ne.mpr c21
                              simp only [Option.some.injEq, Prod.mk.injEq] at H
                              obtain ⟨rfl, rfl, rfl⟩ := H
                              go_wp2_with (first | ((with_reducible refine gate_callee (f := 44) rfl ?_); refine goesL_ (some 61) rfl rfl Try.func44 (by kernel_rfl) rfl #[.string a0, .int .i64 (wrap64 (a1 + 5))] rfl (by (try simp only [List.map_toArray, List.map_cons, List.map_nil]); first | done | rfl | (simp only [List.length_drop, List.length_take]; rfl)) ?_; (with_reducible refine (sealringref04_pair.calls kj15 a0 (wrap64 (a1 + 5)) t228 t229 _ A20.out).mono ?_); rintro e w' ⟨rfl, ⟨nd, rfl⟩⟩; refine ⟨_, rfl, ?_⟩))
                              go_ret3
                              exact ⟨by first | rfl | (simp; done) | (simp [*]; done), by repeat (first | exact Drawn0.refl _ | apply Drawn0.step)⟩
                  · rw [if_neg c15] at H
                    have c15b0 : (t227 == 0) = false := beq_eq_false_iff_ne.mpr c15
                    have c15b1 : (t227 != 0) = true := bne_iff_ne.mpr c15
                    simp only [Option.some.injEq, Prod.mk.injEq] at H
                    obtain ⟨rfl, rfl, rfl⟩ := H
                    go_wp2_with (first | ((with_reducible refine gate_callee (f := 43) rfl ?_); refine goesL_ (some 42) rfl rfl Try.func43 (by kernel_rfl) rfl #[.string a0, .int .i64 (wrap64 (a1 + 1))] rfl (by (try simp only [List.map_toArray, List.map_cons, List.map_nil]); first | done | rfl | (simp only [List.length_drop, List.length_take]; rfl)) ?_; (with_reducible refine (sealringref04_four.calls k1 a0 (wrap64 (a1 + 1)) t226 t227 _ A14.out).mono ?_); rintro e w' ⟨rfl, ⟨nd, rfl⟩⟩; refine ⟨_, rfl, ?_⟩))
                    go_ret3
                    exact ⟨by first | rfl | (simp; done) | (simp [*]; done), by repeat (first | exact Drawn0.refl _ | apply Drawn0.step)⟩
                · rw [if_neg c13] at H
                  have c13b0 : ((bt a0 a1) == 117) = false := beq_eq_false_iff_ne.mpr c13
                  have c13b1 : ((bt a0 a1) != 117) = true := bne_iff_ne.mpr c13
                  simp only [Option.some.injEq, Prod.mk.injEq] at H
                  obtain ⟨rfl, rfl, rfl⟩ := H
                  go_wp2
                  go_ret3
                  exact ⟨by first | rfl | (simp; done) | (simp [*]; done), by repeat (first | exact Drawn0.refl _ | apply Drawn0.step)⟩
      · rw [if_neg c5] at H
        exact absurd H (by simp)
    · rw [if_neg c4] at H
      exact absurd H (by simp)
end Go.Proofs.Ytijfbnkohnlmaaa.X
end
section
namespace Go.Proofs.Ytijfbnkohnlmaaa.X
open Go.RowKit Go.Proofs.YtijfbnkohnlmaaaW.PrintWords Go.Proofs.YtijfbnkohnlmaaaW.PrintLast Go.Proofs.YtijfbnkohnlmaaaW.PrintMore
attribute [local go_sem] max2_int min2_int max_two min_two max_three min_three max_four min_four
set_option linter.unusedVariables false
set_option linter.unusedSimpArgs false
mutual
def sealringref04_Unquote.j0 : Nat → ByteArray → Int → Bool → Option (ByteArray × Int × Int)
  | 0, _, _, _ => none
  | k + 1, x0, x1, x19 => if x19 = true then (some ((⟨#[]⟩ : ByteArray), 0, 1)) else (if x1 = (x0.size : Int) then (some ((⟨#[]⟩ : ByteArray), 0, 5)) else (if 0 ≤ x1 then (if x1 < (x0.size : Int) then (if (bt x0 x1) = 34 then (sealringref04_Unquote.l0 k x0 (⟨#[]⟩ : ByteArray) (wrap64 (x1 + 1))) else (some ((⟨#[]⟩ : ByteArray), 0, 6))) else (none)) else (none)))
def sealringref04_Unquote.l0 : Nat → ByteArray → ByteArray → Int → Option (ByteArray × Int × Int)
  | 0, _, _, _ => none
  | k + 1, x0, x7, x8 => if x8 < (x0.size : Int) then (if 0 ≤ x8 then (sealringref04_Unquote.j2 k x0 x7 x8 ((bt x0 x8) != 34)) else (none)) else (sealringref04_Unquote.j2 k x0 x7 x8 false)
def sealringref04_Unquote.j2 : Nat → ByteArray → ByteArray → Int → Bool → Option (ByteArray × Int × Int)
  | 0, _, _, _, _ => none
  | k + 1, x0, x7, x8, x39 => if x39 = true then (if 0 ≤ x8 then (if x8 < (x0.size : Int) then (if (bt x0 x8) < 32 then (some ((⟨#[]⟩ : ByteArray), 0, 6)) else ((sealringref03_Next.f k x0 x8).bind fun bt230 => (if (bt x0 x8) = 92 then ((sealringref04_escape.f k x0 (wrap64 (x8 + 1))).bind fun bt232 => (sealringref04_Unquote.j3 k x0 x7 x8 bt232.1 (wrap64 (bt232.2.1 + 1)) bt232.2.2)) else (sealringref04_Unquote.j3 k x0 x7 x8 bt230.1 bt230.2 0)))) else (none)) else (none)) else (if x8 ≥ (x0.size : Int) then (some ((⟨#[]⟩ : ByteArray), 0, 5)) else (some (x7, wrap64 (x8 + 1), 0)))
def sealringref04_Unquote.j3 : Nat → ByteArray → ByteArray → Int → Int → Int → Int → Option (ByteArray × Int × Int)
  | 0, _, _, _, _, _, _ => none
  | k + 1, x0, x7, x8, x9, x10, x11 => if x11 = 0 then (if x10 = 0 then (some ((⟨#[]⟩ : ByteArray), 0, 10)) else ((sealringref03_Form.f x9).bind fun t235 => (if x7.size + t235.size ≤ 9223372036854775807 then (sealringref04_Unquote.l0 k x0 (x7 ++ t235) (wrap64 (x8 + x10))) else (none)))) else (some ((⟨#[]⟩ : ByteArray), 0, x11))
end
def sealringref04_Unquote.f (k : Nat) (a0 : ByteArray) (a1 : Int) : Option (ByteArray × Int × Int) := if a1 < 0 then (sealringref04_Unquote.j0 k a0 a1 true) else (sealringref04_Unquote.j0 k a0 a1 (decide (a1 > (a0.size : Int))))
theorem sealringref04_Unquote.mono_l : ∀ k, (∀ y0 y1 y2, LeO (sealringref04_Unquote.j0 k y0 y1 y2) (sealringref04_Unquote.j0 (k + 1) y0 y1 y2)) ∧ (∀ y0 y1 y2, LeO (sealringref04_Unquote.l0 k y0 y1 y2) (sealringref04_Unquote.l0 (k + 1) y0 y1 y2)) ∧ (∀ y0 y1 y2 y3, LeO (sealringref04_Unquote.j2 k y0 y1 y2 y3) (sealringref04_Unquote.j2 (k + 1) y0 y1 y2 y3)) ∧ (∀ y0 y1 y2 y3 y4 y5, LeO (sealringref04_Unquote.j3 k y0 y1 y2 y3 y4 y5) (sealringref04_Unquote.j3 (k + 1) y0 y1 y2 y3 y4 y5))
  | 0 => ⟨fun _ _ _ r h => by simp [sealringref04_Unquote.j0] at h, fun _ _ _ r h => by simp [sealringref04_Unquote.l0] at h, fun _ _ _ _ r h => by simp [sealringref04_Unquote.j2] at h, fun _ _ _ _ _ _ r h => by simp [sealringref04_Unquote.j3] at h⟩
  | k + 1 => by
    obtain ⟨ih0, ih1, ih2, ih3⟩ := sealringref04_Unquote.mono_l k
    refine ⟨?_, ?_, ?_, ?_⟩
    · intro y0 y1 y2
      unfold sealringref04_Unquote.j0
      repeat' first
      | (with_reducible exact ih0 _ _ _)
      | (with_reducible exact ih1 _ _ _)
      | (with_reducible exact ih2 _ _ _ _)
      | (with_reducible exact ih3 _ _ _ _ _ _)
      | (with_reducible exact sealringref03_Next.mono _ _ _)
      | (with_reducible exact sealringref04_escape.mono _ _ _)
      | (with_reducible exact LeO.refl _)
      | (with_reducible exact LeO.none _)
      | (with_reducible refine LeO.ite ?_ ?_)
      | (with_reducible refine LeO.bind ?_ (fun _ => ?_))
      | exact ih0 _ _ _
      | exact ih1 _ _ _
      | exact ih2 _ _ _ _
      | exact ih3 _ _ _ _ _ _
      | exact sealringref03_Next.mono _ _ _
      | exact sealringref04_escape.mono _ _ _
      | exact LeO.none _
      | refine LeO.ite ?_ ?_
      | refine LeO.bind ?_ (fun _ => ?_)
    · intro y0 y1 y2
      unfold sealringref04_Unquote.l0
      repeat' first
      | (with_reducible exact ih0 _ _ _)
      | (with_reducible exact ih1 _ _ _)
      | (with_reducible exact ih2 _ _ _ _)
      | (with_reducible exact ih3 _ _ _ _ _ _)
      | (with_reducible exact sealringref03_Next.mono _ _ _)
      | (with_reducible exact sealringref04_escape.mono _ _ _)
      | (with_reducible exact LeO.refl _)
      | (with_reducible exact LeO.none _)
      | (with_reducible refine LeO.ite ?_ ?_)
      | (with_reducible refine LeO.bind ?_ (fun _ => ?_))
      | exact ih0 _ _ _
      | exact ih1 _ _ _
      | exact ih2 _ _ _ _
      | exact ih3 _ _ _ _ _ _
      | exact sealringref03_Next.mono _ _ _
      | exact sealringref04_escape.mono _ _ _
      | exact LeO.none _
      | refine LeO.ite ?_ ?_
      | refine LeO.bind ?_ (fun _ => ?_)
    · intro y0 y1 y2 y3
      unfold sealringref04_Unquote.j2
      repeat' first
      | (with_reducible exact ih0 _ _ _)
      | (with_reducible exact ih1 _ _ _)
      | (with_reducible exact ih2 _ _ _ _)
      | (with_reducible exact ih3 _ _ _ _ _ _)
      | (with_reducible exact sealringref03_Next.mono _ _ _)
      | (with_reducible exact sealringref04_escape.mono _ _ _)
      | (with_reducible exact LeO.refl _)
      | (with_reducible exact LeO.none _)
      | (with_reducible refine LeO.ite ?_ ?_)
      | (with_reducible refine LeO.bind ?_ (fun _ => ?_))
      | exact ih0 _ _ _
      | exact ih1 _ _ _
      | exact ih2 _ _ _ _
      | exact ih3 _ _ _ _ _ _
      | exact sealringref03_Next.mono _ _ _
      | exact sealringref04_escape.mono _ _ _
      | exact LeO.none _
      | refine LeO.ite ?_ ?_
      | refine LeO.bind ?_ (fun _ => ?_)
    · intro y0 y1 y2 y3 y4 y5
      unfold sealringref04_Unquote.j3
      repeat' first
      | (with_reducible exact ih0 _ _ _)
      | (with_reducible exact ih1 _ _ _)
      | (with_reducible exact ih2 _ _ _ _)
      | (with_reducible exact ih3 _ _ _ _ _ _)
      | (with_reducible exact sealringref03_Next.mono _ _ _)
      | (with_reducible exact sealringref04_escape.mono _ _ _)
      | (with_reducible exact LeO.refl _)
      | (with_reducible exact LeO.none _)
      | (with_reducible refine LeO.ite ?_ ?_)
      | (with_reducible refine LeO.bind ?_ (fun _ => ?_))
      | exact ih0 _ _ _
      | exact ih1 _ _ _
      | exact ih2 _ _ _ _
      | exact ih3 _ _ _ _ _ _
      | exact sealringref03_Next.mono _ _ _
      | exact sealringref04_escape.mono _ _ _
      | exact LeO.none _
      | refine LeO.ite ?_ ?_
      | refine LeO.bind ?_ (fun _ => ?_)
theorem sealringref04_Unquote.mono : ∀ a0 a1 k, LeO (sealringref04_Unquote.f k a0 a1) (sealringref04_Unquote.f (k + 1) a0 a1) := by
  intro a0 a1 k
  obtain ⟨ih0, ih1, ih2, ih3⟩ := sealringref04_Unquote.mono_l k
  unfold sealringref04_Unquote.f
  repeat' first
      | (with_reducible exact ih0 _ _ _)
      | (with_reducible exact ih1 _ _ _)
      | (with_reducible exact ih2 _ _ _ _)
      | (with_reducible exact ih3 _ _ _ _ _ _)
      | (with_reducible exact sealringref03_Next.mono _ _ _)
      | (with_reducible exact sealringref04_escape.mono _ _ _)
      | (with_reducible exact LeO.refl _)
      | (with_reducible exact LeO.none _)
      | (with_reducible refine LeO.ite ?_ ?_)
      | (with_reducible refine LeO.bind ?_ (fun _ => ?_))
      | exact ih0 _ _ _
      | exact ih1 _ _ _
      | exact ih2 _ _ _ _
      | exact ih3 _ _ _ _ _ _
      | exact sealringref03_Next.mono _ _ _
      | exact sealringref04_escape.mono _ _ _
      | exact LeO.none _
      | refine LeO.ite ?_ ?_
      | refine LeO.bind ?_ (fun _ => ?_)
set_option maxHeartbeats 8000000 in
set_option maxRecDepth 100000 in
theorem sealringref04_Unquote.calls (k : Nat) (a0 : ByteArray) (a1 : Int) (r1 : ByteArray) (r2 : Int) (r3 : Int) (w : World) (h : sealringref04_Unquote.f k a0 a1 = some (r1, r2, r3)) :
    Calls Try.prog 23 #[.string a0, .int .i64 a1] w fun e w' => e = .returned (.tuple #[.string r1, .int .i64 r2, .int .i64 r3]) ∧ Below w.heap.size w w' := by
  have HB := Aside0.mk (Below.refl w.heap.size w)
  have H : (if a1 < 0 then (sealringref04_Unquote.j0 k a0 a1 true) else (sealringref04_Unquote.j0 k a0 a1 (decide (a1 > (a0.size : Int))))) = some (r1, r2, r3) := h
  clear h
  have HC3 := Aside0.mk H
  clear H
  go_enter Try.func23, Try.ntmps23
  go_upto_region 1 with (fail)
  go_cut [19] (fun v19 wc => ∃ (kq : Nat) (x19_2 : Bool), v19 = .bool x19_2 ∧ Aside0 (sealringref04_Unquote.j0 kq a0 a1 x19_2 = some (r1, r2, r3)) ∧ Aside0 (kq ≤ k) ∧ Aside0 (Below w.heap.size w wc))
  case first =>
    have H := HC3.out
    clear HC3
    by_cases c4 : a1 < 0
    · rw [if_pos c4] at H
      have c4b0 : decide (a1 < 0) = true := decide_eq_true c4
      clear c4
      (first | rw [c4b0] | (simp only [i64_w, i32_w]; rw [c4b0]) | skip)
      have H' := Aside0.mk H
      clear H
      go_wp2
      go_meet
      case rel => exact ⟨_, (true), (by first | rfl | (simp; done) | (simp [*]; done) | (simp [wrap64]; done)), (by first | with_reducible exact H' | exact H' | (subst_vars; exact H')), ⟨by first | omega | exact Nat.le_refl _⟩, ⟨by repeat (first | (with_reducible first | exact HB.out | apply below_alloc | apply pw_below_drewN | apply below_drew1) | exact HB.out)⟩⟩
    · rw [if_neg c4] at H
      have c4b0 : decide (a1 < 0) = false := decide_eq_false c4
      clear c4
      (first | rw [c4b0] | (simp only [i64_w, i32_w]; rw [c4b0]) | skip)
      have H' := Aside0.mk H
      clear H
      go_wp2
      go_meet
      case rel => exact ⟨_, (decide (a1 > (a0.size : Int))), (by first | rfl | (simp; done) | (simp [*]; done) | (simp [wrap64]; done)), (by first | with_reducible exact H' | exact H' | (subst_vars; exact H')), ⟨by first | omega | exact Nat.le_refl _⟩, ⟨by repeat (first | (with_reducible first | exact HB.out | apply below_alloc | apply pw_below_drewN | apply below_drew1) | exact HB.out)⟩⟩
  case rest =>
    clear HC3
    try clear c2
    try clear p2
    try clear c4
    try clear c4b0
    obtain ⟨kq, x19_2, rfl, HA, HJ2, HB⟩ := hcut
    cases kq with
    | zero => exact absurd HA.out (by simp [sealringref04_Unquote.j0])
    | succ kj2 =>
      have H := HA.out
      clear HA
      simp only [sealringref04_Unquote.j0] at H
      by_cases c5 : x19_2 = true
      · subst c5
        have H1 : (some ((⟨#[]⟩ : ByteArray), 0, 1)) = some (r1, r2, r3) := by rw [if_pos rfl] at H; exact H
        clear H
        have H := H1
        clear H1
        simp only [Option.some.injEq, Prod.mk.injEq] at H
        obtain ⟨rfl, rfl, rfl⟩ := H
        go_wp2
        go_ret3
        exact ⟨by first | rfl | (simp [errW_none, errW_some] <;> rfl) | (simp [*, errW_none, errW_some] <;> rfl), by repeat (first | (with_reducible first | exact HB.out | apply below_alloc | apply pw_below_drewN | apply below_drew1) | exact HB.out)⟩
      · replace c5 := Bool.eq_false_iff.mpr c5
        subst c5
        have H1 : (if a1 = (a0.size : Int) then (some ((⟨#[]⟩ : ByteArray), 0, 5)) else (if 0 ≤ a1 then (if a1 < (a0.size : Int) then (if (bt a0 a1) = 34 then (sealringref04_Unquote.l0 kj2 a0 (⟨#[]⟩ : ByteArray) (wrap64 (a1 + 1))) else (some ((⟨#[]⟩ : ByteArray), 0, 6))) else (none)) else (none))) = some (r1, r2, r3) := by rw [if_neg (show ¬ (false = true) by decide)] at H; exact H
        clear H
        have H := H1
        clear H1
        by_cases c6 : a1 = (a0.size : Int)
        · rw [if_pos c6] at H
          have c6b0 : (a1 == (a0.size : Int)) = true := beq_iff_eq.mpr c6
          have c6b1 : (a1 != (a0.size : Int)) = false := bne_eq_false_iff_eq.mpr c6
          clear c6
          simp only [Option.some.injEq, Prod.mk.injEq] at H
          obtain ⟨rfl, rfl, rfl⟩ := H
          go_wp2
          go_ret3
          exact ⟨by first | rfl | (simp [errW_none, errW_some] <;> rfl) | (simp [*, errW_none, errW_some] <;> rfl), by repeat (first | (with_reducible first | exact HB.out | apply below_alloc | apply pw_below_drewN | apply below_drew1) | exact HB.out)⟩
        · rw [if_neg c6] at H
          have c6b0 : (a1 == (a0.size : Int)) = false := beq_eq_false_iff_ne.mpr c6
          have c6b1 : (a1 != (a0.size : Int)) = true := bne_iff_ne.mpr c6
          by_cases c7 : 0 ≤ a1
          · rw [if_pos c7] at H
            have c7b0 : decide (0 ≤ a1) = true := decide_eq_true c7
            clear c7
            by_cases c8 : a1 < (a0.size : Int)
            · rw [if_pos c8] at H
              have c8b0 : decide (a1 < (a0.size : Int)) = true := decide_eq_true c8
              clear c8
              by_cases c10 : (bt a0 a1) = 34
              · rw [if_pos c10] at H
                have c10b0 : ((bt a0 a1) == 34) = true := beq_iff_eq.mpr c10
                have c10b1 : ((bt a0 a1) != 34) = false := bne_eq_false_iff_eq.mpr c10
                clear c10
                have H' := Aside0.mk H
                clear H
                have p9 : 0 ≤ (a1 : Int) := of_decide_eq_true (by first | (with_reducible assumption) | assumption)
                have q9 : a1 < (a0.size : Int) := of_decide_eq_true (by first | (with_reducible assumption) | assumption)
                have hx9 := bt_at a0 a1
                replace p9 := eq_true p9
                replace q9 := eq_true q9
                go_wp2
                (try simp only [Go.IntKind.wrap_u8])
                go_loopg [7, 8] kj2 (fun kq v7 v8 w' => ∃ (x7_2 : ByteArray) (x8_2 : Int), v7 = .string x7_2 ∧ v8 = .int .i64 x8_2 ∧ Aside0 (sealringref04_Unquote.l0 kq a0 x7_2 x8_2 = some (r1, r2, r3)) ∧ Aside0 (kq ≤ kj2) ∧ Aside0 (Below w.heap.size w w'))
                case atStart => exact ⟨((⟨#[]⟩ : ByteArray)), (wrap64 (a1 + 1)), (by first | rfl | (simp; done) | (simp [*]; done) | (simp [wrap64]; done)), (by first | rfl | (simp; done) | (simp [*]; done) | (simp [wrap64]; done)), (by first | with_reducible exact H' | exact H' | (subst_vars; exact H')), ⟨Nat.le_refl _⟩, ⟨by repeat (first | (with_reducible first | exact HB.out | apply below_alloc | apply pw_below_drewN | apply below_drew1) | exact HB.out)⟩⟩
                case round =>
                  clear H'
                  try clear c1
                  try clear c2
                  try clear p2
                  try clear c4
                  try clear c4b0
                  try clear c5
                  try clear c6
                  try clear c6b0
                  try clear c6b1
                  try clear p6
                  try clear c7
                  try clear c7b0
                  try clear c8
                  try clear c8b0
                  try clear p9
                  try clear q9
                  try clear hx9
                  try clear c10
                  try clear c10b0
                  try clear c10b1
                  try clear p2
                  try clear p9
                  try clear q9
                  obtain ⟨x7_2, x8_2, rfl, rfl, HA, HK2, HB⟩ := hrel
                  cases gk with
                  | zero => exact absurd HA.out (by simp [sealringref04_Unquote.l0])
                  | succ k2 =>
                    have H := HA.out
                    clear HA
                    simp only [sealringref04_Unquote.l0] at H
                    have HC11 := Aside0.mk H
                    clear H
                    go_upto_region 9 with (fail)
                    go_cut [39] (fun v39 wc => ∃ (kq : Nat) (x39_10 : Bool), v39 = .bool x39_10 ∧ Aside0 (sealringref04_Unquote.j2 kq a0 x7_2 x8_2 x39_10 = some (r1, r2, r3)) ∧ Aside0 (kq ≤ k2) ∧ Aside0 (Below w.heap.size w wc))
                    case first =>
                      have H := HC11.out
                      clear HC11
                      by_cases c12 : x8_2 < (a0.size : Int)
                      · rw [if_pos c12] at H
                        have c12b0 : decide (x8_2 < (a0.size : Int)) = true := decide_eq_true c12
                        clear c12
                        (first | rw [c12b0] | (simp only [i64_w, i32_w]; rw [c12b0]) | skip)
                        by_cases c13 : 0 ≤ x8_2
                        · rw [if_pos c13] at H
                          have c13b0 : decide (0 ≤ x8_2) = true := decide_eq_true c13
                          clear c13
                          have H' := Aside0.mk H
                          clear H
                          have p14 : 0 ≤ (x8_2 : Int) := of_decide_eq_true (by first | (with_reducible assumption) | assumption)
                          have q14 : x8_2 < (a0.size : Int) := of_decide_eq_true (by first | (with_reducible assumption) | assumption)
                          have hx14 := bt_at a0 x8_2
                          replace p14 := eq_true p14
                          replace q14 := eq_true q14
                          go_wp2
                          go_meet
                          case rel => exact ⟨_, (((bt a0 x8_2) != 34)), (by first | rfl | (simp; done) | (simp [*]; done) | (simp [wrap64]; done)), (by first | with_reducible exact H' | exact H' | (subst_vars; exact H')), ⟨by have := HJ2.out; have := HK2.out; first | omega | exact Nat.le_refl _⟩, ⟨by repeat (first | (with_reducible first | exact HB.out | apply below_alloc | apply pw_below_drewN | apply below_drew1) | exact HB.out)⟩⟩
                        · rw [if_neg c13] at H
                          exact absurd H (by simp)
                      · rw [if_neg c12] at H
                        have c12b0 : decide (x8_2 < (a0.size : Int)) = false := decide_eq_false c12
                        clear c12
                        (first | rw [c12b0] | (simp only [i64_w, i32_w]; rw [c12b0]) | skip)
                        have H' := Aside0.mk H
                        clear H
                        go_wp2
                        go_meet
                        case rel => exact ⟨_, (false), (by first | rfl | (simp; done) | (simp [*]; done) | (simp [wrap64]; done)), (by first | with_reducible exact H' | exact H' | (subst_vars; exact H')), ⟨by have := HJ2.out; have := HK2.out; first | omega | exact Nat.le_refl _⟩, ⟨by repeat (first | (with_reducible first | exact HB.out | apply below_alloc | apply pw_below_drewN | apply below_drew1) | exact HB.out)⟩⟩
                    case rest =>
                      clear HC11
                      try clear c1
                      try clear p1
                      try clear q1
                      try clear hx1
                      try clear c2
                      try clear p2
                      try clear c4
                      try clear c4b0
                      try clear c5
                      try clear c6
                      try clear c6b0
                      try clear c6b1
                      try clear p6
                      try clear c7
                      try clear c7b0
                      try clear c8
                      try clear c8b0
                      try clear p9
                      try clear q9
                      try clear hx9
                      try clear c10
                      try clear c10b0
                      try clear c10b1
                      try clear c12
                      try clear c12b0
                      try clear c13
                      try clear c13b0
                      try clear p14
                      try clear q14
                      try clear hx14
                      try clear p14
                      try clear p2
                      try clear p6
                      try clear p9
                      try clear q14
                      try clear q9
                      obtain ⟨kq, x39_10, rfl, HA, HJ10, HB⟩ := hcut
                      cases kq with
                      | zero => exact absurd HA.out (by simp [sealringref04_Unquote.j2])
                      | succ kj10 =>
                        have H := HA.out
                        clear HA
                        simp only [sealringref04_Unquote.j2] at H
                        by_cases c15 : x39_10 = true
                        · subst c15
                          have H1 : (if 0 ≤ x8_2 then (if x8_2 < (a0.size : Int) then (if (bt a0 x8_2) < 32 then (some ((⟨#[]⟩ : ByteArray), 0, 6)) else ((sealringref03_Next.f kj10 a0 x8_2).bind fun bt230 => (if (bt a0 x8_2) = 92 then ((sealringref04_escape.f kj10 a0 (wrap64 (x8_2 + 1))).bind fun bt232 => (sealringref04_Unquote.j3 kj10 a0 x7_2 x8_2 bt232.1 (wrap64 (bt232.2.1 + 1)) bt232.2.2)) else (sealringref04_Unquote.j3 kj10 a0 x7_2 x8_2 bt230.1 bt230.2 0)))) else (none)) else (none)) = some (r1, r2, r3) := by rw [if_pos rfl] at H; exact H
                          clear H
                          have H := H1
                          clear H1
                          by_cases c16 : 0 ≤ x8_2
                          · rw [if_pos c16] at H
                            have c16b0 : decide (0 ≤ x8_2) = true := decide_eq_true c16
                            clear c16
                            by_cases c17 : x8_2 < (a0.size : Int)
                            · rw [if_pos c17] at H
                              have c17b0 : decide (x8_2 < (a0.size : Int)) = true := decide_eq_true c17
                              clear c17
                              by_cases c19 : (bt a0 x8_2) < 32
                              · rw [if_pos c19] at H
                                have c19b0 : decide ((bt a0 x8_2) < 32) = true := decide_eq_true c19
                                clear c19
                                simp only [Option.some.injEq, Prod.mk.injEq] at H
                                obtain ⟨rfl, rfl, rfl⟩ := H
                                have p18 : 0 ≤ (x8_2 : Int) := of_decide_eq_true (by first | (with_reducible assumption) | assumption)
                                have q18 : x8_2 < (a0.size : Int) := of_decide_eq_true (by first | (with_reducible assumption) | assumption)
                                have hx18 := bt_at a0 x8_2
                                replace p18 := eq_true p18
                                replace q18 := eq_true q18
                                go_wp2
                                go_ret3
                                exact ⟨by first | rfl | (simp [errW_none, errW_some] <;> rfl) | (simp [*, errW_none, errW_some] <;> rfl), by repeat (first | (with_reducible first | exact HB.out | apply below_alloc | apply pw_below_drewN | apply below_drew1) | exact HB.out)⟩
                              · rw [if_neg c19] at H
                                have c19b0 : decide ((bt a0 x8_2) < 32) = false := decide_eq_false c19
                                clear c19
                                replace H := Option.bind_eq_some_iff.mp H
                                obtain ⟨⟨t230, t231⟩, A200, H⟩ := H
                                replace H : (if (bt a0 x8_2) = 92 then ((sealringref04_escape.f kj10 a0 (wrap64 (x8_2 + 1))).bind fun bt232 => (sealringref04_Unquote.j3 kj10 a0 x7_2 x8_2 bt232.1 (wrap64 (bt232.2.1 + 1)) bt232.2.2)) else (sealringref04_Unquote.j3 kj10 a0 x7_2 x8_2 t230 t231 0)) = some (r1, r2, r3) := H
                                have A20 := Aside0.mk A200
                                clear A200
                                have HC22 := Aside0.mk H
                                clear H
                                have p18 : 0 ≤ (x8_2 : Int) := of_decide_eq_true (by first | (with_reducible assumption) | assumption)
                                have q18 : x8_2 < (a0.size : Int) := of_decide_eq_true (by first | (with_reducible assumption) | assumption)
                                have hx18 := bt_at a0 x8_2
                                replace p18 := eq_true p18
                                replace q18 := eq_true q18
                                go_upto_if 53 with (first | ((with_reducible refine gate_callee (f := 16) rfl ?_); refine goesL_ (some 47) rfl rfl Try.func16 (by kernel_rfl) rfl #[.string a0, .int .i64 x8_2] rfl (by (try simp only [List.map_toArray, List.map_cons, List.map_nil]); first | done | rfl | (simp only [List.length_drop, List.length_take]; rfl)) ?_; (with_reducible refine (sealringref03_Next.calls kj10 a0 x8_2 t230 t231 _ A20.out).mono ?_); rintro e w23 ⟨rfl, hb⟩; refine ⟨_, rfl, ?_⟩; have n0_ := Aside0.mk (below_step (by repeat (first | (with_reducible first | exact HB.out | apply below_alloc | apply pw_below_drewN | apply below_drew1) | exact HB.out)) hb); clear HB; have HB := n0_; clear n0_; (try clear hb); (try clear hb2); (try clear hk); (try clear hi); have p21 : 0 ≤ (x8_2 : Int) := of_decide_eq_true (by first | (with_reducible assumption) | assumption); have q21 : x8_2 < (a0.size : Int) := of_decide_eq_true (by first | (with_reducible assumption) | assumption); have hx21 := bt_at a0 x8_2; replace p21 := eq_true p21; replace q21 := eq_true q21))
                                (try simp only [Act.put, List.setIfInBounds_toArray, List.set_cons_zero, List.set_cons_succ])
                                go_cut [9, 10, 11] (fun v9 v10 v11 wc => ∃ (kq : Nat) (x9_21 : Int) (x10_21 : Int) (x11_21 : Int), v9 = .int .i64 x9_21 ∧ v10 = .int .i64 x10_21 ∧ v11 = .int .i64 x11_21 ∧ Aside0 (sealringref04_Unquote.j3 kq a0 x7_2 x8_2 x9_21 x10_21 x11_21 = some (r1, r2, r3)) ∧ Aside0 (kq ≤ kj10) ∧ Aside0 (Below w.heap.size w wc))
                                case first =>
                                  have H := HC22.out
                                  clear HC22
                                  by_cases c24 : (bt a0 x8_2) = 92
                                  · rw [if_pos c24] at H
                                    have c24b0 : ((bt a0 x8_2) == 92) = true := beq_iff_eq.mpr c24
                                    have c24b1 : ((bt a0 x8_2) != 92) = false := bne_eq_false_iff_eq.mpr c24
                                    clear c24
                                    (first | rw [c24b0] | (simp only [i64_w, i32_w]; rw [c24b0]) | skip)
                                    replace H := Option.bind_eq_some_iff.mp H
                                    obtain ⟨⟨t232, t233, t234⟩, A250, H⟩ := H
                                    replace H : (sealringref04_Unquote.j3 kj10 a0 x7_2 x8_2 t232 (wrap64 (t233 + 1)) t234) = some (r1, r2, r3) := H
                                    have A25 := Aside0.mk A250
                                    clear A250
                                    have H' := Aside0.mk H
                                    clear H
                                    go_wp2_with (first | ((with_reducible refine gate_callee (f := 35) rfl ?_); refine goesL_ (some 58) rfl rfl Try.func35 (by kernel_rfl) rfl #[.string a0, .int .i64 (wrap64 (x8_2 + 1))] rfl (by (try simp only [List.map_toArray, List.map_cons, List.map_nil]); first | done | rfl | (simp only [List.length_drop, List.length_take]; rfl)) ?_; (with_reducible refine (sealringref04_escape.calls kj10 a0 (wrap64 (x8_2 + 1)) t232 t233 t234 _ A25.out).mono ?_); rintro e w' ⟨rfl, ⟨nd, rfl⟩⟩; refine ⟨_, rfl, ?_⟩))
                                    go_meet
                                    case rel => exact ⟨_, (t232), (wrap64 (t233 + 1)), (t234), (by first | rfl | (simp; done) | (simp [*]; done) | (simp [wrap64]; done)), (by first | rfl | (simp; done) | (simp [*]; done) | (simp [wrap64]; done)), (by first | rfl | (simp; done) | (simp [*]; done) | (simp [wrap64]; done)), (by first | with_reducible exact H' | exact H' | (subst_vars; exact H')), ⟨by have := HJ2.out; have := HK2.out; have := HJ10.out; first | omega | exact Nat.le_refl _⟩, ⟨by repeat (first | (with_reducible first | exact HB.out | apply below_alloc | apply pw_below_drewN | apply below_drew1) | exact HB.out)⟩⟩
                                  · rw [if_neg c24] at H
                                    have c24b0 : ((bt a0 x8_2) == 92) = false := beq_eq_false_iff_ne.mpr c24
                                    have c24b1 : ((bt a0 x8_2) != 92) = true := bne_iff_ne.mpr c24
                                    (first | rw [c24b0] | (simp only [i64_w, i32_w]; rw [c24b0]) | skip)
                                    have H' := Aside0.mk H
                                    clear H
                                    go_wp2
                                    go_meet
                                    case rel => exact ⟨_, (t230), (t231), (0), (by first | rfl | (simp; done) | (simp [*]; done) | (simp [wrap64]; done)), (by first | rfl | (simp; done) | (simp [*]; done) | (simp [wrap64]; done)), (by first | rfl | (simp; done) | (simp [*]; done) | (simp [wrap64]; done)), (by first | with_reducible exact H' | exact H' | (subst_vars; exact H')), ⟨by have := HJ2.out; have := HK2.out; have := HJ10.out; first | omega | exact Nat.le_refl _⟩, ⟨by repeat (first | (with_reducible first | exact HB.out | apply below_alloc | apply pw_below_drewN | apply below_drew1) | exact HB.out)⟩⟩
                                case rest =>
                                  clear HC22
                                  try clear c1
                                  try clear p1
                                  try clear q1
                                  try clear hx1
                                  try clear c2
                                  try clear p2
                                  try clear q2
                                  try clear hx2
                                  try clear c3
                                  try clear c4
                                  try clear c4b0
                                  try clear c5
                                  try clear c6
                                  try clear c6b0
                                  try clear c6b1
                                  try clear p6
                                  try clear c7
                                  try clear c7b0
                                  try clear c8
                                  try clear c8b0
                                  try clear p9
                                  try clear q9
                                  try clear hx9
                                  try clear c10
                                  try clear c10b0
                                  try clear c10b1
                                  try clear c12
                                  try clear c12b0
                                  try clear c13
                                  try clear c13b0
                                  try clear p14
                                  try clear q14
                                  try clear hx14
                                  try clear c15
                                  try clear c16
                                  try clear c16b0
                                  try clear c17
                                  try clear c17b0
                                  try clear p18
                                  try clear q18
                                  try clear hx18
                                  try clear c19
                                  try clear c19b0
                                  try clear p21
                                  try clear q21
                                  try clear hx21
                                  try clear c23
                                  try clear c24
                                  try clear c24b0
                                  try clear c24b1
                                  try clear p1
                                  try clear p14
                                  try clear p18
                                  try clear p2
                                  try clear p21
                                  try clear p6
                                  try clear p9
                                  try clear q1
                                  try clear q14
                                  try clear q18
                                  try clear q21
                                  try clear q9
                                  obtain ⟨kq, x9_21, x10_21, x11_21, rfl, rfl, rfl, HA, HJ21, HB⟩ := hcut
                                  cases kq with
                                  | zero => exact absurd HA.out (by simp [sealringref04_Unquote.j3])
                                  | succ kj21 =>
                                    have H := HA.out
                                    clear HA
                                    simp only [sealringref04_Unquote.j3] at H
                                    by_cases c26 : x11_21 = 0
                                    · rw [if_pos c26] at H
                                      have c26b0 : (x11_21 == 0) = true := beq_iff_eq.mpr c26
                                      have c26b1 : (x11_21 != 0) = false := bne_eq_false_iff_eq.mpr c26
                                      clear c26
                                      by_cases c27 : x10_21 = 0
                                      · rw [if_pos c27] at H
                                        have c27b0 : (x10_21 == 0) = true := beq_iff_eq.mpr c27
                                        have c27b1 : (x10_21 != 0) = false := bne_eq_false_iff_eq.mpr c27
                                        clear c27
                                        simp only [Option.some.injEq, Prod.mk.injEq] at H
                                        obtain ⟨rfl, rfl, rfl⟩ := H
                                        go_wp2
                                        go_ret3
                                        exact ⟨by first | rfl | (simp [errW_none, errW_some] <;> rfl) | (simp [*, errW_none, errW_some] <;> rfl), by repeat (first | (with_reducible first | exact HB.out | apply below_alloc | apply pw_below_drewN | apply below_drew1) | exact HB.out)⟩
                                      · rw [if_neg c27] at H
                                        have c27b0 : (x10_21 == 0) = false := beq_eq_false_iff_ne.mpr c27
                                        have c27b1 : (x10_21 != 0) = true := bne_iff_ne.mpr c27
                                        replace H := Option.bind_eq_some_iff.mp H
                                        obtain ⟨t235, A280, H⟩ := H
                                        replace H : (if x7_2.size + t235.size ≤ 9223372036854775807 then (sealringref04_Unquote.l0 kj21 a0 (x7_2 ++ t235) (wrap64 (x8_2 + x10_21))) else (none)) = some (r1, r2, r3) := H
                                        have A28 := Aside0.mk A280
                                        clear A280
                                        by_cases c29 : x7_2.size + t235.size ≤ 9223372036854775807
                                        · rw [if_pos c29] at H
                                          have c29b0 := eq_true c29
                                          have c29b1 : decide (x7_2.size + t235.size ≤ 9223372036854775807) = true := decide_eq_true c29
                                          try have c29b2 : (9223372036854775807 < x7_2.size + t235.size) = False := eq_false (Nat.not_lt.2 c29)
                                          have H' := Aside0.mk H
                                          clear H
                                          go_wp2_with (first | ((with_reducible refine gate_callee (f := 12) rfl ?_); refine goesL_ (some 71) rfl rfl Try.func12 (by kernel_rfl) rfl #[.int .i64 x9_21] rfl (by (try simp only [List.map_toArray, List.map_cons, List.map_nil]); first | done | rfl | (simp only [List.length_drop, List.length_take]; rfl)) ?_; (with_reducible refine (sealringref03_Form.calls x9_21 t235 _ A28.out).mono ?_); rintro e w30 ⟨rfl, hb⟩; refine ⟨_, rfl, ?_⟩; have n0_ := Aside0.mk (below_step (by repeat (first | (with_reducible first | exact HB.out | apply below_alloc | apply pw_below_drewN | apply below_drew1) | exact HB.out)) hb); clear HB; have HB := n0_; clear n0_; (try clear hb); (try clear hb2); (try clear hk); (try clear hi)))
                                          go_roundg kj21
                                          case measure => have := HJ2.out; have := HK2.out; have := HJ10.out; have := HJ21.out; omega
                                          case rel => exact ⟨(x7_2 ++ t235), (wrap64 (x8_2 + x10_21)), (by first | rfl | (simp; done) | (simp [*]; done) | (simp [wrap64]; done)), (by first | rfl | (simp; done) | (simp [*]; done) | (simp [wrap64]; done)), (by first | with_reducible exact H' | exact H' | (subst_vars; exact H')), ⟨by have := HJ2.out; have := HK2.out; have := HJ10.out; have := HJ21.out; omega⟩, ⟨by repeat (first | (with_reducible first | exact HB.out | apply below_alloc | apply pw_below_drewN | apply below_drew1) | exact HB.out)⟩⟩
                                        · rw [if_neg c29] at H
                                          exact absurd H (by simp)
                                    · rw [if_neg c26] at H
                                      have c26b0 : (x11_21 == 0) = false := beq_eq_false_iff_ne.mpr c26
                                      have c26b1 : (x11_21 != 0) = true := bne_iff_ne.mpr c26
                                      simp only [Option.some.injEq, Prod.mk.injEq] at H
                                      obtain ⟨rfl, rfl, rfl⟩ := H
                                      go_wp2
                                      go_ret3
                                      exact ⟨by first | rfl | (simp [errW_none, errW_some] <;> rfl) | (simp [*, errW_none, errW_some] <;> rfl), by repeat (first | (with_reducible first | exact HB.out | apply below_alloc | apply pw_below_drewN | apply below_drew1) | exact HB.out)⟩
                            · rw [if_neg c17] at H
                              exact absurd H (by simp)
                          · rw [if_neg c16] at H
                            exact absurd H (by simp)
                        · replace c15 := Bool.eq_false_iff.mpr c15
                          subst c15
                          have H1 : (if x8_2 ≥ (a0.size : Int) then (some ((⟨#[]⟩ : ByteArray), 0, 5)) else (some (x7_2, wrap64 (x8_2 + 1), 0))) = some (r1, r2, r3) := by rw [if_neg (show ¬ (false = true) by decide)] at H; exact H
                          clear H
                          have H := H1
                          clear H1
                          by_cases c31 : x8_2 ≥ (a0.size : Int)
                          · rw [if_pos c31] at H
                            have c31b0 : decide ((a0.size : Int) ≤ x8_2) = true := decide_eq_true c31
                            clear c31
                            simp only [Option.some.injEq, Prod.mk.injEq] at H
                            obtain ⟨rfl, rfl, rfl⟩ := H
                            go_wp2
                            go_ret3
                            exact ⟨by first | rfl | (simp [errW_none, errW_some] <;> rfl) | (simp [*, errW_none, errW_some] <;> rfl), by repeat (first | (with_reducible first | exact HB.out | apply below_alloc | apply pw_below_drewN | apply below_drew1) | exact HB.out)⟩
                          · rw [if_neg c31] at H
                            have c31b0 : decide ((a0.size : Int) ≤ x8_2) = false := decide_eq_false c31
                            clear c31
                            simp only [Option.some.injEq, Prod.mk.injEq] at H
                            obtain ⟨rfl, rfl, rfl⟩ := H
                            go_wp2
                            go_ret3
                            exact ⟨by first | rfl | (simp [errW_none, errW_some] <;> rfl) | (simp [*, errW_none, errW_some] <;> rfl), by repeat (first | (with_reducible first | exact HB.out | apply below_alloc | apply pw_below_drewN | apply below_drew1) | exact HB.out)⟩
              · rw [if_neg c10] at H
                have c10b0 : ((bt a0 a1) == 34) = false := beq_eq_false_iff_ne.mpr c10
                have c10b1 : ((bt a0 a1) != 34) = true := bne_iff_ne.mpr c10
                simp only [Option.some.injEq, Prod.mk.injEq] at H
                obtain ⟨rfl, rfl, rfl⟩ := H
                have p9 : 0 ≤ (a1 : Int) := of_decide_eq_true (by first | (with_reducible assumption) | assumption)
                have q9 : a1 < (a0.size : Int) := of_decide_eq_true (by first | (with_reducible assumption) | assumption)
                have hx9 := bt_at a0 a1
                replace p9 := eq_true p9
                replace q9 := eq_true q9
                go_wp2
                go_ret3
                exact ⟨by first | rfl | (simp [errW_none, errW_some] <;> rfl) | (simp [*, errW_none, errW_some] <;> rfl), by repeat (first | (with_reducible first | exact HB.out | apply below_alloc | apply pw_below_drewN | apply below_drew1) | exact HB.out)⟩
            · rw [if_neg c8] at H
              exact absurd H (by simp)
          · rw [if_neg c7] at H
            exact absurd H (by simp)
end Go.Proofs.Ytijfbnkohnlmaaa.X
end
section
namespace Go.Proofs.Ytijfbnkohnlmaaa.X
open Go.RowKit Go.Proofs.YtijfbnkohnlmaaaW.PrintWords Go.Proofs.YtijfbnkohnlmaaaW.PrintLast Go.Proofs.YtijfbnkohnlmaaaW.PrintMore
set_option linter.unusedVariables false
set_option linter.unusedSimpArgs false
def smallP (n : Int) : Int := if n = 34 ∨ n = 92 then n else if n = 8 then 98 else if n = 9 then 116 else if n = 10 then 110 else if n = 12 then 102 else if n = 13 then 114 else 0
theorem four_err {t : ByteArray} : ∀ (k : Nat) (n a : Int) {e : Int}, fourP t k n a = .error e → e = 11 ∨ e = 5
  | 0, _, _, _, h => by cases h
  | k + 1, n, a, e, h => by
    simp only [fourP] at h
    split at h
    · split at h
      · cases h; exact .inl rfl
      · exact four_err k _ _ h
    · cases h; exact .inr rfl
section
variable (t : ByteArray)
def pairM (t : ByteArray) (a : Int) : Except Int (Int × Int) :=
  if a < (t.size : Int) then (if bt t a = 92 then (if a + 1 < (t.size : Int) then (if bt t (a + 1) = 117 then (match fourP t 4 0 (a + 2) with | .error e => .error e | .ok (m, b) => if m < 56320 then .error 11 else if m > 57343 then .error 11 else .ok (m, b)) else .error 11) else .error 5) else .error 11) else .error 5
theorem pairP_M (n a : Int) : pairP t n a = match pairM t a with | .error e => .error e | .ok (m, b) => .ok (65536 + (n - 55296) * 1024 + (m - 56320), b) := by
  unfold pairP pairM mustP
  by_cases c1 : a < (t.size : Int)
  · rw [if_pos c1, if_pos c1]
    by_cases c2 : bt t a = 92
    · rw [if_pos c2, if_pos c2]
      simp only
      by_cases c3 : a + 1 < (t.size : Int)
      · rw [if_pos c3, if_pos c3]
        by_cases c4 : bt t (a + 1) = 117
        · rw [if_pos c4, if_pos c4]
          simp only
          rw [show a + 1 + 1 = a + 2 by omega]
          cases fourP t 4 0 (a + 2) with
          | error e => rfl
          | ok x =>
            obtain ⟨m, b⟩ := x
            simp only
            by_cases d1 : m < 56320
            · rw [if_pos d1, if_pos d1]
            · rw [if_neg d1, if_neg d1]
              by_cases d2 : m > 57343
              · rw [if_pos d2, if_pos d2]
              · rw [if_neg d2, if_neg d2]
        · rw [if_neg c4, if_neg c4]
      · rw [if_neg c3, if_neg c3]
    · rw [if_neg c2, if_neg c2]
  · rw [if_neg c1, if_neg c1]
theorem pairM_err {a e : Int} (h : pairM t a = .error e) : e = 11 ∨ e = 5 := by
  unfold pairM at h
  repeat' split at h
  all_goals first | (cases h; done) | (cases h; omega) | skip
  all_goals (rename_i hf; cases h; exact four_err 4 _ _ hf)
theorem pairM_place {a m b : Int} (h : pairM t a = .ok (m, b)) (ha : 0 ≤ a) : b = a + 6 ∧ 56320 ≤ m ∧ m ≤ 57343 := by
  unfold pairM at h
  by_cases c1 : a < (t.size : Int)
  · rw [if_pos c1] at h
    by_cases c2 : bt t a = 92
    · rw [if_pos c2] at h
      by_cases c3 : a + 1 < (t.size : Int)
      · rw [if_pos c3] at h
        by_cases c4 : bt t (a + 1) = 117
        · rw [if_pos c4] at h
          cases hf : fourP t 4 0 (a + 2) with
          | error e => rw [hf] at h; cases h
          | ok x =>
            obtain ⟨m', b'⟩ := x
            rw [hf] at h
            simp only at h
            by_cases d1 : m' < 56320
            · rw [if_pos d1] at h; cases h
            · rw [if_neg d1] at h
              by_cases d2 : m' > 57343
              · rw [if_pos d2] at h; cases h
              · rw [if_neg d2] at h
                simp only [Except.ok.injEq, Prod.mk.injEq] at h
                obtain ⟨rfl, rfl⟩ := h
                by_cases c5 : a + 2 ≤ (t.size : Int)
                · have := (four_place 4 0 (a + 2) (by omega) c5 hf).2.2.1; omega
                · simp only [fourP] at hf
                  rw [if_neg (by omega)] at hf
                  cases hf
        · rw [if_neg c4] at h; cases h
      · rw [if_neg c3] at h; cases h
    · rw [if_neg c2] at h; cases h
  · rw [if_neg c1] at h; cases h
theorem small_range (c v : Int) (h : shortP c = some v) (h47 : c ≠ 47) : 0 ≤ v ∧ v < 128 ∧ smallP v = c ∧ c ≠ 0 := by
  unfold shortP at h
  repeat' split at h
  all_goals first | (cases h; omega) | (cases h; subst_vars; refine ⟨by omega, by omega, by decide, by omega⟩) | cases h
end
end Go.Proofs.Ytijfbnkohnlmaaa.X
end
section
namespace Go.Proofs.Ytijfbnkohnlmaaa.X
open Go.RowKit Go.Proofs.YtijfbnkohnlmaaaW.PrintWords Go.Proofs.YtijfbnkohnlmaaaW.PrintLast Go.Proofs.YtijfbnkohnlmaaaW.PrintMore
set_option linter.unusedVariables false
set_option linter.unusedSimpArgs false
theorem pairP_err {t : ByteArray} {n a e : Int} (h : pairP t n a = .error e) : e = 11 ∨ e = 5 := by
  rw [pairP_M] at h
  cases hm : pairM t a with
  | error e' => rw [hm] at h; cases h; exact pairM_err t hm
  | ok x => obtain ⟨m, b⟩ := x; rw [hm] at h; cases h
theorem escP_err {t : ByteArray} {a e : Int} (h : escP t a = .error e) : e = 11 ∨ e = 5 := by
  unfold escP at h
  split at h
  · split at h
    · cases h
    · split at h
      · split at h
        · rename_i hf; cases h; exact four_err 4 _ _ hf
        · split at h
          · cases h
          · split at h
            · cases h
            · split at h
              · cases h; exact .inl rfl
              · exact pairP_err h
      · cases h; exact .inl rfl
  · cases h; exact .inr rfl
theorem lives04 : Ev (fun k => sealringlaw04_lives.f k) true := Ev.of sealringlaw04_lives.mono (k := 60) (by kernel_rfl)
end Go.Proofs.Ytijfbnkohnlmaaa.X
end
section
namespace Go.Proofs.Ytijfbnkohnlmaaa.X
open Go.RowKit Go.Proofs.YtijfbnkohnlmaaaW.PrintWords Go.Proofs.YtijfbnkohnlmaaaW.PrintLast Go.Proofs.YtijfbnkohnlmaaaW.PrintMore
attribute [local go_sem] max2_int min2_int max_two min_two max_three min_three max_four min_four
set_option linter.unusedVariables false
set_option linter.unusedSimpArgs false
def sealringref01_digit.f (a0 : Int) : Option (Int) := if a0 < 10 then (some ((48 + a0) % 256)) else (some ((((97 + a0) % 256) - 10) % 256))
set_option maxHeartbeats 8000000 in
set_option maxRecDepth 100000 in
theorem sealringref01_digit.calls (a0 : Int) (r : Int) (w : World) (h : sealringref01_digit.f a0 = some r) :
    Calls Try.prog 51 #[.int .u8 a0] w fun e w' => e = .returned (.int .u8 r) ∧ Drawn0 w w' := by
  have H : (if a0 < 10 then (some ((48 + a0) % 256)) else (some ((((97 + a0) % 256) - 10) % 256))) = some r := h
  clear h
  by_cases c2 : a0 < 10
  · rw [if_pos c2] at H
    have c2b0 : decide (a0 < 10) = true := decide_eq_true c2
    clear c2
    obtain rfl := Option.some.inj H
    go_enter Try.func51, Try.ntmps51
    go_wp2
    go_ret
    exact ⟨by first | rfl | (simp; done) | (simp [*]; done), by repeat (first | exact Drawn0.refl _ | apply Drawn0.step)⟩
  · rw [if_neg c2] at H
    have c2b0 : decide (a0 < 10) = false := decide_eq_false c2
    clear c2
    obtain rfl := Option.some.inj H
    go_enter Try.func51, Try.ntmps51
    go_wp2
    go_ret
    exact ⟨by first | rfl | (simp; done) | (simp [*]; done), by repeat (first | exact Drawn0.refl _ | apply Drawn0.step)⟩
end Go.Proofs.Ytijfbnkohnlmaaa.X
end
section
namespace Go.Proofs.Ytijfbnkohnlmaaa.X
open Go.RowKit Go.Proofs.YtijfbnkohnlmaaaW.PrintWords Go.Proofs.YtijfbnkohnlmaaaW.PrintLast Go.Proofs.YtijfbnkohnlmaaaW.PrintMore
attribute [local go_sem] max2_int min2_int max_two min_two max_three min_three max_four min_four
set_option linter.unusedVariables false
set_option linter.unusedSimpArgs false
def sealringref01_Hex.l0 : Nat → ByteArray → List Int → Int → Option (ByteArray)
  | 0, _, _, _ => none
  | k + 1, x0, x3, x4 => if x4 < (x0.size : Int) then (if 0 ≤ x4 then ((sealringref01_digit.f ((Int.tdiv (bt x0 x4) 16) % 256)).bind fun t257 => ((sealringref01_digit.f (Int.tmod (bt x0 x4) 16)).bind fun t258 => ((some (([t257, t258] : List Int) : List Int)).bind fun y259 => (if x3.length + y259.length < 140737488355328 then (sealringref01_Hex.l0 k x0 (x3 ++ y259) (wrap64 (x4 + 1))) else (none))))) else (none)) else (some (strOfNums x3))
def sealringref01_Hex.f (k : Nat) (a0 : ByteArray) : Option (ByteArray) := sealringref01_Hex.l0 k a0 ([] : List Int) 0
theorem sealringref01_Hex.mono_l : ∀ k, (∀ y0 y1 y2, LeO (sealringref01_Hex.l0 k y0 y1 y2) (sealringref01_Hex.l0 (k + 1) y0 y1 y2))
  | 0 => fun _ _ _ r h => by simp [sealringref01_Hex.l0] at h
  | k + 1 => by
    have ih0 := sealringref01_Hex.mono_l k
    · intro y0 y1 y2
      unfold sealringref01_Hex.l0
      repeat' first
      | (with_reducible exact ih0 _ _ _)
      | (with_reducible exact LeO.refl _)
      | (with_reducible exact LeO.none _)
      | (with_reducible refine LeO.ite ?_ ?_)
      | (with_reducible refine LeO.bind ?_ (fun _ => ?_))
      | exact ih0 _ _ _
      | exact LeO.none _
      | refine LeO.ite ?_ ?_
      | refine LeO.bind ?_ (fun _ => ?_)
theorem sealringref01_Hex.mono : ∀ a0 k, LeO (sealringref01_Hex.f k a0) (sealringref01_Hex.f (k + 1) a0) := by
  intro a0 k
  have ih0 := sealringref01_Hex.mono_l k
  unfold sealringref01_Hex.f
  repeat' first
      | (with_reducible exact ih0 _ _ _)
      | (with_reducible exact LeO.refl _)
      | (with_reducible exact LeO.none _)
      | (with_reducible refine LeO.ite ?_ ?_)
      | (with_reducible refine LeO.bind ?_ (fun _ => ?_))
      | exact ih0 _ _ _
      | exact LeO.none _
      | refine LeO.ite ?_ ?_
      | refine LeO.bind ?_ (fun _ => ?_)
def sealringref01_Hex.T5 : Bool × List (List Nat × List Nat) := (true, [([], []), ([], []), ([], []), ([1, 2], [1, 2]), ([3], [3]), ([4], [4]), ([], []), ([], []), ([6, 7], [6, 7]), ([8], [8]), ([9, 5], [9]), ([5, 10], [5, 10]), ([0, 11, 10], [0, 11]), ([12, 12, 0, 1, 2, 3, 4, 5, 6, 7, 8, 9, 10, 11, 12], [0, 12])])
def sealringref01_Hex.B5 : List Nat := [0, 0, 0, 6, 14, 30, 0, 0, 192, 448, 1022, 2046, 4095, 8191]
theorem sealringref01_Hex.tab5 : rtab .any (opsOf Try.f45 5) = sealringref01_Hex.T5 := by kernel_rfl
theorem sealringref01_Hex.bits5 : waitsOk sealringref01_Hex.T5.2 sealringref01_Hex.B5 = true := by kernel_rfl
set_option maxHeartbeats 8000000 in
set_option maxRecDepth 100000 in
theorem sealringref01_Hex.calls (k : Nat) (a0 : ByteArray) (r : ByteArray) (w : World) (h : sealringref01_Hex.f k a0 = some r) :
    Calls Try.prog 45 #[.string a0] w fun e w' => e = .returned (.string r) ∧ Below w.heap.size w w' := by
  have HB := Aside0.mk (Below.refl w.heap.size w)
  have H : (sealringref01_Hex.l0 k a0 ([] : List Int) 0) = some r := h
  clear h
  have H' := Aside0.mk H
  clear H
  go_enter Try.func45, Try.ntmps45
  go_wp2
  go_loopg [3, 4] k (fun kq v3 v4 w' => ∃ (x3_1 : List Int) (x4_1 : Int), v4 = .int .i64 x4_1 ∧ Aside0 (sealringref01_Hex.l0 kq a0 x3_1 x4_1 = some r) ∧ Aside0 (kq ≤ k) ∧ Aside0 (Kd.R (Kd.int .u8) 5 w' w.heap.size (fun _ => True) v3 x3_1) ∧ Aside0 (Below w.heap.size w w'))
  case atStart => exact ⟨(([] : List Int)), (0), (by first | rfl | (simp; done) | (simp [*]; done) | (simp [wrap64]; done)), (by first | with_reducible exact H' | exact H' | (subst_vars; exact H')), ⟨Nat.le_refl _⟩, ⟨by first | exact Kd.R_nil _ _ _ _ _ | exact Kd.N_nil _ _ _ _ _ | exact Kd.V_nil _ _ _ _ _ | exact Kd.Q_nil _ _ _ _ _ | exact Kd.S_nil _ _ _ _ _⟩, ⟨by repeat (first | (with_reducible first | exact HB.out | apply below_alloc | apply pw_below_drewN | apply below_drew1) | exact HB.out)⟩⟩
  case round =>
    clear H'
    obtain ⟨x3_1, x4_1, rfl, HA, HK1, HO_3, HB⟩ := hrel
    cases gk with
    | zero => exact absurd HA.out (by simp [sealringref01_Hex.l0])
    | succ k1 =>
      have H := HA.out
      clear HA
      simp only [sealringref01_Hex.l0] at H
      by_cases c2 : x4_1 < (a0.size : Int)
      · rw [if_pos c2] at H
        have c2b0 : decide (x4_1 < (a0.size : Int)) = true := decide_eq_true c2
        clear c2
        by_cases c3 : 0 ≤ x4_1
        · rw [if_pos c3] at H
          have c3b0 : decide (0 ≤ x4_1) = true := decide_eq_true c3
          clear c3
          replace H := Option.bind_eq_some_iff.mp H
          obtain ⟨t257, A50, H⟩ := H
          replace H : ((sealringref01_digit.f (Int.tmod (bt a0 x4_1) 16)).bind fun t258 => ((some (([t257, t258] : List Int) : List Int)).bind fun y259 => (if x3_1.length + y259.length < 140737488355328 then (sealringref01_Hex.l0 k1 a0 (x3_1 ++ y259) (wrap64 (x4_1 + 1))) else (none)))) = some r := H
          have A5 := Aside0.mk A50
          clear A50
          replace H := Option.bind_eq_some_iff.mp H
          obtain ⟨t258, A70, H⟩ := H
          replace H : ((some (([t257, t258] : List Int) : List Int)).bind fun y259 => (if x3_1.length + y259.length < 140737488355328 then (sealringref01_Hex.l0 k1 a0 (x3_1 ++ y259) (wrap64 (x4_1 + 1))) else (none))) = some r := H
          have A7 := Aside0.mk A70
          clear A70
          obtain ⟨y259, hy259⟩ : ∃ y_ : List Int, y_ = (([t257, t258] : List Int)) := ⟨_, rfl⟩
          replace H : (if x3_1.length + y259.length < 140737488355328 then (sealringref01_Hex.l0 k1 a0 (x3_1 ++ y259) (wrap64 (x4_1 + 1))) else (none)) = some r := by first | (rw [hy259]; with_reducible exact H) | (have H2_ := (Option.bind_some _ _).symm.trans H; rw [hy259]; with_reducible exact H2_) | (have H2_ := (Option.bind_some _ _).symm.trans H; with_reducible exact H2_) | with_reducible exact H | (rw [hy259]; exact H) | exact H
          have Ny259 := Aside0.mk hy259
          clear hy259
          by_cases c8 : x3_1.length + y259.length < 140737488355328
          · rw [if_pos c8] at H
            have LMc8 := Aside0.mk c8
            clear c8
            obtain ⟨y262, hy262⟩ : ∃ y_ : List Int, y_ = (x3_1 ++ y259) := ⟨_, rfl⟩
            replace H : (sealringref01_Hex.l0 k1 a0 y262 (wrap64 (x4_1 + 1))) = some r := by first | (rw [hy262]; with_reducible exact H) | (have H2_ := (Option.bind_some _ _).symm.trans H; rw [hy262]; with_reducible exact H2_) | (have H2_ := (Option.bind_some _ _).symm.trans H; with_reducible exact H2_) | with_reducible exact H | (rw [hy262]; exact H) | exact H
            have Ny262 := Aside0.mk hy262
            clear hy262
            have H' := Aside0.mk H
            clear H
            try go_wp2
            have n0_ := Aside0.mk (Kd.R_drew HO_3.out)
            have n1_ := Aside0.mk (below_drew1 HB.out)
            clear HO_3
            clear HB
            have HO_3 := n0_
            have HB := n1_
            clear n0_ n1_
            have p4 : 0 ≤ (x4_1 : Int) := of_decide_eq_true (by first | (with_reducible assumption) | assumption)
            have q4 : x4_1 < (a0.size : Int) := of_decide_eq_true (by first | (with_reducible assumption) | assumption)
            have hx4 := bt_at a0 x4_1
            replace p4 := eq_true p4
            replace q4 := eq_true q4
            have p6 : 0 ≤ (x4_1 : Int) := of_decide_eq_true (by first | (with_reducible assumption) | assumption)
            have q6 : x4_1 < (a0.size : Int) := of_decide_eq_true (by first | (with_reducible assumption) | assumption)
            have hx6 := bt_at a0 x4_1
            replace p6 := eq_true p6
            replace q6 := eq_true q6
            refine start_ (n := 14) (S := fun w' => True) (ds := []) #[false, false, false, false, false, false, false, false, false, false, false, false, false, false] (by kernel_rfl) rfl rfl trivial (fun hHeld => ?_); refine with_tabW sealringref01_Hex.tab5 sealringref01_Hex.bits5 (fun HT_ HW_ => ?_)
            generalize wr.drew = w9 at HO_3 HB hHeld ⊢
            refine pure_ (i := 0) (N := some 11) (v := ?_) (a' := ?_) #[true, false, false, false, false, false, false, false, false, false, false, false, false, false] rfl rfl (any_of HT_.out (by kernel_rfl)) (fun _ _ _ h => h) (Or.inl ⟨by rfl, ?_⟩) ?_ ?_
            rotate_left
            · intro w'
              go_simp
              with_reducible rfl
            rotate_left
            · simp only [Act.put, List.setIfInBounds_toArray, List.set_cons_zero, List.set_cons_succ, i64_w, i32_w]
              rfl
            refine pure_ (i := 1) (N := some 12) (v := ?_) (a' := ?_) #[true, true, false, false, false, false, false, false, false, false, false, false, false, false] rfl rfl (any_of HT_.out (by kernel_rfl)) (fun _ _ _ h => h) (Or.inl ⟨by rfl, ?_⟩) ?_ ?_
            rotate_left
            · intro w'
              go_simp
              with_reducible rfl
            rotate_left
            · simp only [Act.put, List.setIfInBounds_toArray, List.set_cons_zero, List.set_cons_succ, i64_w, i32_w]
              rfl
            refine pure_ (i := 2) (N := some 13) (v := ?_) (a' := ?_) #[true, true, true, false, false, false, false, false, false, false, false, false, false, false] rfl rfl (any_of HT_.out (by kernel_rfl)) (fun _ _ _ h => h) (Or.inl ⟨by rfl, ?_⟩) ?_ ?_
            rotate_left
            · intro w'
              go_simp
              with_reducible rfl
            rotate_left
            · simp only [Act.put, List.setIfInBounds_toArray, List.set_cons_zero, List.set_cons_succ, i64_w, i32_w]
              rfl
            refine pure_ (i := 6) (N := some 17) (v := ?_) (a' := ?_) #[true, true, true, false, false, false, true, false, false, false, false, false, false, false] rfl rfl (any_of HT_.out (by kernel_rfl)) (fun _ _ _ h => h) (Or.inl ⟨by rfl, ?_⟩) ?_ ?_
            rotate_left
            · intro w'
              go_simp
              with_reducible rfl
            rotate_left
            · simp only [Act.put, List.setIfInBounds_toArray, List.set_cons_zero, List.set_cons_succ, i64_w, i32_w]
              rfl
            refine pure_ (i := 7) (N := some 18) (v := ?_) (a' := ?_) #[true, true, true, false, false, false, true, true, false, false, false, false, false, false] rfl rfl (any_of HT_.out (by kernel_rfl)) (fun _ _ _ h => h) (Or.inl ⟨by rfl, ?_⟩) ?_ ?_
            rotate_left
            · intro w'
              go_simp
              with_reducible rfl
            rotate_left
            · simp only [Act.put, List.setIfInBounds_toArray, List.set_cons_zero, List.set_cons_succ, i64_w, i32_w]
              rfl
            refine take_ (i := 3) (N := some 14) (v := ?_) (a' := ?_) #[true, true, true, true, false, false, true, true, false, false, false, false, false, false] rfl rfl (take_ofW HT_.out HW_.out (by kernel_rfl)) (fun _ _ _ h => h) (Or.inl ⟨by rfl, ?_⟩) hHeld ?_ ?_
            rotate_left
            · intro w' _
              go_simp
              with_reducible rfl
            rotate_left
            · simp only [Act.put, List.setIfInBounds_toArray, List.set_cons_zero, List.set_cons_succ, i64_w, i32_w]
              rfl
            refine pure_ (i := 4) (N := some 15) (v := ?_) (a' := ?_) #[true, true, true, true, true, false, true, true, false, false, false, false, false, false] rfl rfl (any_of HT_.out (by kernel_rfl)) (fun _ _ _ h => h) (Or.inl ⟨by rfl, ?_⟩) ?_ ?_
            rotate_left
            · intro w'
              go_simp
              with_reducible rfl
            rotate_left
            · simp only [Act.put, List.setIfInBounds_toArray, List.set_cons_zero, List.set_cons_succ, i64_w, i32_w]
              rfl
            refine take_ (i := 8) (N := some 19) (v := ?_) (a' := ?_) #[true, true, true, true, true, false, true, true, true, false, false, false, false, false] rfl rfl (take_ofW HT_.out HW_.out (by kernel_rfl)) (fun _ _ _ h => h) (Or.inl ⟨by rfl, ?_⟩) hHeld ?_ ?_
            rotate_left
            · intro w' _
              go_simp
              with_reducible rfl
            rotate_left
            · simp only [Act.put, List.setIfInBounds_toArray, List.set_cons_zero, List.set_cons_succ, i64_w, i32_w]
              rfl
            refine pure_ (i := 9) (N := some 20) (v := ?_) (a' := ?_) #[true, true, true, true, true, false, true, true, true, true, false, false, false, false] rfl rfl (any_of HT_.out (by kernel_rfl)) (fun _ _ _ h => h) (Or.inl ⟨by rfl, ?_⟩) ?_ ?_
            rotate_left
            · intro w'
              go_simp
              with_reducible rfl
            rotate_left
            · simp only [Act.put, List.setIfInBounds_toArray, List.set_cons_zero, List.set_cons_succ, i64_w, i32_w]
              rfl
            refine one_ (i := 5) (N := some 16) #[true, true, true, true, true, true, true, true, true, true, false, false, false, false] rfl rfl (one_of HT_.out (by kernel_rfl)) (by decide) (fun K hK => ?_)
            refine goes_ Try.func51 (by kernel_rfl) rfl #[.int .u8 ((Int.tdiv (bt a0 x4_1) 16) % 256)] (by rfl) rfl rfl (by (try simp only [List.map_toArray, List.map_cons, List.map_nil]); first | done | rfl | (simp only [List.length_drop, List.length_take]; rfl)) ?_
            with_reducible refine (sealringref01_digit.calls ((Int.tdiv (bt a0 x4_1) 16) % 256) t257 _ A5.out).mono ?_
            rintro e w' ⟨rfl, ⟨nd, rfl⟩⟩
            refine ⟨_, rfl, ?_⟩
            refine hK.out _ _ trivial (fun hHeld => ?_)
            clear hK K
            refine norm_ (a' := ?_) ?_ ?_
            rotate_left
            · show Act.put _ (some 16) _ = _
              simp only [Act.put, List.setIfInBounds_toArray, List.set_cons_zero, List.set_cons_succ, i64_w, i32_w]
              rfl
            refine one_ (i := 10) (N := some 21) #[true, true, true, true, true, true, true, true, true, true, true, false, false, false] rfl rfl (one_of HT_.out (by kernel_rfl)) (by decide) (fun K hK => ?_)
            refine goes_ Try.func51 (by kernel_rfl) rfl #[.int .u8 (Int.tmod (bt a0 x4_1) 16)] (by rfl) rfl rfl (by (try simp only [List.map_toArray, List.map_cons, List.map_nil]); first | done | rfl | (simp only [List.length_drop, List.length_take]; rfl)) ?_
            with_reducible refine (sealringref01_digit.calls (Int.tmod (bt a0 x4_1) 16) t258 _ A7.out).mono ?_
            rintro e w' ⟨rfl, ⟨nd, rfl⟩⟩
            refine ⟨_, rfl, ?_⟩
            refine hK.out _ _ trivial (fun hHeld => ?_)
            clear hK K
            refine norm_ (a' := ?_) ?_ ?_
            rotate_left
            · show Act.put _ (some 21) _ = _
              simp only [Act.put, List.setIfInBounds_toArray, List.set_cons_zero, List.set_cons_succ, i64_w, i32_w]
              rfl
            refine one_ (i := 11) (N := some 22) #[true, true, true, true, true, true, true, true, true, true, true, true, false, false] rfl rfl (one_of HT_.out (by kernel_rfl)) (by decide) (fun K hK => ?_)
            refine Kd.R_lit_step (Kd.int .u8) _ 5 ?hg (N := 22) ?hd (xs := ([t257, t258] : List Int)) (inner := [.int .u8 t257, .int .u8 t258]) (ok := fun _ => True) (okp := fun _ => True) ?hr ?hp (fun _ hk => hk) trivial (Below.refl _ _) (Nat.le_refl _) (by simp) ?_; (case hd => rfl); (case hg => rfl); (case hr => first | (go_simp; done) | (go_simp; rfl)); (case hp => exact (Reps.one (show Kd.M (Kd.int .u8) _ _ _ t257 [.int .u8 t257] from rfl) (Reps.one (show Kd.M (Kd.int .u8) _ _ _ t258 [.int .u8 t258] from rfl) (Reps.none _ _))))
            intro v260 w10 ho11 hb hg_ hnew_
            clear hg_ hnew_
            (first | rw [← Ny259.out] at ho11 | (simp only [Int.reduceToNat] at ho11; rw [← Ny259.out] at ho11))
            have n0_ := Aside0.mk (Kd.R_elder' (by (with_reducible repeat (first | apply Kd.R_alloc | apply Kd.R_drewN | apply Kd.R_drew)); exact HO_3.out) (Kd.R_base ho11) hb)
            have n1_ := Aside0.mk (Kd.R_lower (Kd.R_new' ho11 (Kd.R_lt (by (with_reducible repeat (first | apply Kd.R_alloc | apply Kd.R_drewN | apply Kd.R_drew)); exact HO_3.out))) (below_size (by repeat (first | (with_reducible first | exact HB.out | apply below_alloc | apply pw_below_drewN | apply below_drew1) | exact HB.out))))
            have n2_ := Aside0.mk (below_step (by repeat (first | (with_reducible first | exact HB.out | apply below_alloc | apply pw_below_drewN | apply below_drew1) | exact HB.out)) hb)
            clear HO_3
            clear HB
            have HO_3 := n0_
            have HO261 := n1_
            have HB := n2_
            clear n0_ n1_ n2_
            clear hb ho11
            obtain ⟨Ao13, co13, eo13⟩ := Kd.R_slice HO261.out
            (first | subst eo13 | (injection eo13 with f1_ f2_ f3_; have f4_ := f1_.symm; have f5_ := f3_.symm; clear f1_ f2_ f3_; subst f4_; subst f5_))
            refine hK.out _ _ trivial (fun hHeld => ?_)
            clear hK K
            refine norm_ (a' := ?_) ?_ ?_
            rotate_left
            · show Act.put _ (some 22) _ = _
              simp only [Act.put, List.setIfInBounds_toArray, List.set_cons_zero, List.set_cons_succ, i64_w, i32_w]
              rfl
            refine one_ (i := 12) (N := some 23) #[true, true, true, true, true, true, true, true, true, true, true, true, true, false] rfl rfl (one_of HT_.out (by kernel_rfl)) (by decide) (fun K hK => ?_)
            refine Kd.R_append_rows_step (Kd.int .u8) (w0 := w) w.heap.size (by rfl) (.tmp 11) (.tmp 22) 54 5 (.int .u8 0) 1 rfl Try.underlying54 info5 rfl (by decide) (by omega) u3 x3_1 y259 _ _ _ (fun k_ => some k_ ≠ (.slice Ao13 y259.length co13 : Value).ownBlock) (fun _ => False) rfl rfl ?aO ?aR (fun _ _ h => h) (fun _ h => h.elim) ?aF ?aB ?aS ?aL ?_
            (case aR => repeat (first | exact (Kd.R_reads' HO261.out).2.2 | (with_reducible refine Kd.C_alloc ?_ _) | (with_reducible refine Kd.C_drewN ?_ _) | (with_reducible refine Kd.C_drew ?_)))
            (case aB => exact (by repeat (first | (with_reducible first | exact HB.out | apply below_alloc | apply pw_below_drewN | apply below_drew1) | exact HB.out)))
            (case aF => exact (fun k_ hk => Kd.fresh' (Kd.R_lt (by (with_reducible repeat (first | apply Kd.R_alloc | apply Kd.R_drewN | apply Kd.R_drew)); exact HO261.out)) k_ hk))
            (case aO => exact (by (with_reducible repeat (first | apply Kd.R_alloc | apply Kd.R_drewN | apply Kd.R_drew)); exact Kd.R_mono HO_3.out (fun _ hk => hk.2)))
            (case aS => exact (below_size (by repeat (first | (with_reducible first | exact HB.out | apply below_alloc | apply pw_below_drewN | apply below_drew1) | exact HB.out))))
            (case aL => have := LMc8.out; omega)
            intro v263 w12 ho hb hg hat
            rw [← Ny262.out] at ho
            have n0_ := Aside0.mk (Kd.R_after (ok := (fun _ => True)) (by (with_reducible repeat (first | apply Kd.R_alloc | apply Kd.R_drewN | apply Kd.R_drew)); exact HO261.out) hg hat)
            have n1_ := Aside0.mk (hb)
            have n2_ := Aside0.mk (ho)
            clear HO261
            clear HB
            clear HO_3
            have HO261 := n0_
            have HB := n1_
            have HO264 := n2_
            clear n0_ n1_ n2_
            clear ho hb hg hat
            refine hK.out _ _ trivial (fun hHeld => ?_)
            clear hK K
            refine norm_ (a' := ?_) ?_ ?_
            rotate_left
            · show Act.put _ (some 23) _ = _
              simp only [Act.put, List.setIfInBounds_toArray, List.set_cons_zero, List.set_cons_succ, i64_w, i32_w]
              rfl
            refine pure_ (i := 13) (N := some 3) (v := ?_) (a' := ?_) #[true, true, true, true, true, true, true, true, true, true, true, true, true, true] rfl rfl (any_of HT_.out (by kernel_rfl)) (fun _ _ _ h => h) (Or.inl ⟨by rfl, ?_⟩) ?_ ?_
            rotate_left
            · intro w'
              go_simp
              with_reducible rfl
            rotate_left
            · simp only [Act.put, List.setIfInBounds_toArray, List.set_cons_zero, List.set_cons_succ, i64_w, i32_w]
              rfl
            refine done_ (done_of HT_.out (by kernel_rfl)) ?_
            try go_wp2
            go_roundg k1
            case measure => have := HK1.out; omega
            case rel => exact ⟨(y262), (wrap64 (x4_1 + 1)), (by first | rfl | (simp; done) | (simp [*]; done) | (simp [wrap64]; done)), (by first | with_reducible exact H' | exact H' | (subst_vars; exact H')), ⟨by have := HK1.out; omega⟩, ⟨by (with_reducible repeat (first | apply Kd.R_alloc | apply Kd.R_drewN | apply Kd.R_drew)); exact Kd.R_mono HO264.out (fun _ hk => trivial)⟩, ⟨by repeat (first | (with_reducible first | exact HB.out | apply below_alloc | apply pw_below_drewN | apply below_drew1) | exact HB.out)⟩⟩
          · rw [if_neg c8] at H
            exact absurd H (by simp)
        · rw [if_neg c3] at H
          exact absurd H (by simp)
      · rw [if_neg c2] at H
        have c2b0 : decide (x4_1 < (a0.size : Int)) = false := decide_eq_false c2
        clear c2
        obtain rfl := Option.some.inj H
        have hcv14 := own_string (P := Try.prog) Try.underlying54 Try.underlying5 Try.underlying9 (Kd.own_of_R HO_3.out)
        go_wp2
        go_ret
        exact ⟨by first | rfl | (simp [errW_none, errW_some] <;> rfl) | (simp [*, errW_none, errW_some] <;> rfl), by repeat (first | (with_reducible first | exact HB.out | apply below_alloc | apply pw_below_drewN | apply below_drew1) | exact HB.out)⟩
end Go.Proofs.Ytijfbnkohnlmaaa.X
end
