import Derived.Test.YtijfbnkohnlmaaaSUtfAll
import Derived.Test.YtijfbnkohnlmaaaX2
namespace Go.Proofs.Ytijfbnkohnlmaaa.X
open Go.RowKit Go.Proofs.YtijfbnkohnlmaaaW.PrintWords Go.Proofs.YtijfbnkohnlmaaaW.PrintLast Go.Proofs.YtijfbnkohnlmaaaW.PrintMore
set_option linter.unusedVariables false
set_option linter.unusedSimpArgs false
theorem or192 : ∀ b : Fin 32, Go.bits .or .u8 192 (b.val : Int) = 192 + (b.val : Int) := by decide +kernel
theorem or224 : ∀ b : Fin 16, Go.bits .or .u8 224 (b.val : Int) = 224 + (b.val : Int) := by decide +kernel
theorem or240 : ∀ b : Fin 8, Go.bits .or .u8 240 (b.val : Int) = 240 + (b.val : Int) := by decide +kernel
theorem or192' {x : Int} (h0 : 0 ≤ x) (h1 : x < 32) : Go.bits .or .u8 192 x = 192 + x := by
  have := or192 ⟨x.toNat, by omega⟩
  simp only at this
  rwa [show ((x.toNat : Nat) : Int) = x by omega] at this
theorem or224' {x : Int} (h0 : 0 ≤ x) (h1 : x < 16) : Go.bits .or .u8 224 x = 224 + x := by
  have := or224 ⟨x.toNat, by omega⟩
  simp only at this
  rwa [show ((x.toNat : Nat) : Int) = x by omega] at this
theorem or240' {x : Int} (h0 : 0 ≤ x) (h1 : x < 8) : Go.bits .or .u8 240 x = 240 + x := by
  have := or240 ⟨x.toNat, by omega⟩
  simp only at this
  rwa [show ((x.toNat : Nat) : Int) = x by omega] at this
theorem shr0 (v : Int) : shr .i32 v 0 = v := by unfold shr; simp
theorem shr6 (v : Int) : shr .i32 v 6 = v / 64 := by unfold shr; simp [IntKind.bits]
theorem shr12 (v : Int) : shr .i32 v 12 = v / 4096 := by unfold shr; simp [IntKind.bits]
theorem shr18 (v : Int) : shr .i32 v 18 = v / 262144 := by unfold shr; simp [IntKind.bits]
theorem isv_sz (v : Int) : (isv v = true → 1 ≤ utf_sz v) ∧ (isv v = false → utf_sz v = 0) := by
  unfold isv utf_sz
  constructor
  · intro h
    have h := of_decide_eq_true h
    rw [if_neg (by omega)]
    repeat' split
    all_goals omega
  · intro h
    have h := of_decide_eq_false h
    rw [if_pos (by omega)]
section
variable (l : List Int) (n : Int)
theorem put_tail0 {x4 : List Int} {v i r1 : Int} {r : ByteArray × Int} (h : Ev (fun k => utf_Put.l0 k x4 l n (wrap64 (i + 1)) 0 0 192 224 240) r) : Ev (fun k => utf_Put.l1 k x4 v (-1) l n i 0 0 192 224 240) r := by
  refine Ev.step (fun k => ?_) h
  rw [utf_Put.l1, if_neg (by omega)]
theorem put_tail1 {x4 : List Int} {v i : Int} {r : ByteArray × Int} (hx : x4.length < 140737488355328) (h : Ev (fun k => utf_Put.l0 k (x4 ++ [128 + v % 64]) l n (wrap64 (i + 1)) 0 0 192 224 240) r) : Ev (fun k => utf_Put.l1 k x4 v 0 l n i 0 0 192 224 240) r := by
  refine Ev.step (fun k => ?_) (put_tail0 l n (v := v) (r1 := 0) h)
  rw [utf_Put.l1, if_pos (by omega), show wrap64 (6 * (0 : Int)) = 0 from w64 (by omega) (by omega), if_pos (by omega), if_pos hx, shr0, show wrap64 ((0 : Int) - 1) = -1 from w64 (by omega) (by omega)]
theorem put_tail2 {x4 : List Int} {v i : Int} {r : ByteArray × Int} (hx : x4.length + 1 < 140737488355328) (h : Ev (fun k => utf_Put.l0 k (x4 ++ [128 + v / 64 % 64, 128 + v % 64]) l n (wrap64 (i + 1)) 0 0 192 224 240) r) : Ev (fun k => utf_Put.l1 k x4 v 1 l n i 0 0 192 224 240) r := by
  refine Ev.step (fun k => ?_) (put_tail1 l n (x4 := x4 ++ [128 + v / 64 % 64]) (v := v) (by simp; omega) (by simpa [List.append_assoc] using h))
  rw [utf_Put.l1, if_pos (by omega), show wrap64 (6 * (1 : Int)) = 6 from w64 (by omega) (by omega), if_pos (by omega), if_pos (by omega), shr6, show wrap64 ((1 : Int) - 1) = 0 from w64 (by omega) (by omega)]
theorem put_tail3 {x4 : List Int} {v i : Int} {r : ByteArray × Int} (hx : x4.length + 2 < 140737488355328) (h : Ev (fun k => utf_Put.l0 k (x4 ++ [128 + v / 4096 % 64, 128 + v / 64 % 64, 128 + v % 64]) l n (wrap64 (i + 1)) 0 0 192 224 240) r) : Ev (fun k => utf_Put.l1 k x4 v 2 l n i 0 0 192 224 240) r := by
  refine Ev.step (fun k => ?_) (put_tail2 l n (x4 := x4 ++ [128 + v / 4096 % 64]) (v := v) (by simp; omega) (by simpa [List.append_assoc] using h))
  rw [utf_Put.l1, if_pos (by omega), show wrap64 (6 * (2 : Int)) = 12 from w64 (by omega) (by omega), if_pos (by omega), if_pos (by omega), shr12, show wrap64 ((2 : Int) - 1) = 1 from w64 (by omega) (by omega)]
end
/-- The forms of code points, one behind the other. -/
def putL (l : List Int) : List Int := l.flatMap formL
theorem putL_cons (v : Int) (l : List Int) : putL (v :: l) = formL v ++ putL l := rfl
theorem formL_le (v : Int) : 1 ≤ (formL v).length ∧ (formL v).length ≤ 4 := by
  unfold formL
  repeat' split
  all_goals simp
theorem putL_len : ∀ l : List Int, (putL l).length ≤ 4 * l.length
  | [] => by simp [putL]
  | v :: l => by
    have := formL_le v
    have := putL_len l
    rw [putL_cons, List.length_append, List.length_cons]
    omega
theorem Put_go (l : List Int) (hl : l.length * 4 ≤ 140737488351232) : ∀ (r : List Int) (x4 : List Int) (i : Nat), l.drop i = r → i + r.length = l.length → x4.length ≤ 4 * i →
    Ev (fun k => utf_Put.l0 k x4 l (l.length : Int) (i : Int) 0 0 192 224 240) (if r.all isv = true then (strOfNums (x4 ++ putL r), 0) else (⟨#[]⟩, 2)) := by
  intro r
  induction r with
  | nil =>
    intro x4 i hd hi hx
    simp only [List.length_nil, Nat.add_zero] at hi
    refine Ev.step (f := fun _ => some (strOfNums x4, 0)) (fun k => ?_) ?_
    · rw [utf_Put.l0, if_neg (by omega)]
    · simpa [putL] using Ev.now (strOfNums x4, (0 : Int))
  | cons v r ih =>
    intro x4 i hd hi hx
    simp only [List.length_cons] at hi
    have hrd : rd l (i : Int) = v := by
      have h2 := List.drop_eq_getElem_cons (show i < l.length by omega)
      rw [hd] at h2
      obtain ⟨e1, e2⟩ := List.cons.inj h2
      unfold rd
      rw [show ((i : Int)).toNat = i from rfl, List.getD_eq_getElem?_getD, List.getElem?_eq_getElem (by omega)]
      exact e1.symm
    have hdr : l.drop (i + 1) = r := by
      have h2 := List.drop_eq_getElem_cons (show i < l.length by omega)
      rw [hd] at h2
      exact (List.cons.inj h2).2.symm
    have hs : Ev (fun k => utf_size.f k v) (utf_sz v) := Ev.step (f := fun _ => some (utf_sz v)) (fun k => utf_size_f k v) (Ev.now _)
    have ih1 : ∀ y : List Int, y.length ≤ x4.length + 4 → Ev (fun k => utf_Put.l0 k y l (l.length : Int) (wrap64 ((i : Int) + 1)) 0 0 192 224 240) (if r.all isv = true then (strOfNums (y ++ putL r), 0) else (⟨#[]⟩, 2)) := fun y hy => by
      rw [w64s i (by omega)]
      exact ih y (i + 1) hdr (by omega) (by omega)
    have b0 : (i : Int) < (l.length : Int) := by omega
    have b1 : 0 ≤ (i : Int) := by omega
    refine Ev.step (f := fun k => (utf_size.f k v).bind fun t103 => (if t103 = 0 then (some ((⟨#[]⟩ : ByteArray), 2)) else (if t103 = 1 then (if x4.length < 140737488355328 then (utf_Put.l0 k (x4 ++ [v % 256]) l (l.length : Int) (wrap64 ((i : Int) + 1)) 0 0 192 224 240) else (none)) else (if t103 = 2 then (if 0 ≤ (wrap64 (6 * (wrap64 (t103 - 1)))) then (if x4.length < 140737488355328 then (utf_Put.l1 k (x4 ++ [Go.bits .or .u8 192 ((shr .i32 v (wrap64 (6 * (wrap64 (t103 - 1))))) % 256)]) v (wrap64 (t103 - 2)) l (l.length : Int) (i : Int) 0 0 192 224 240) else (none)) else (none)) else (if t103 = 3 then (if 0 ≤ (wrap64 (6 * (wrap64 (t103 - 1)))) then (if x4.length < 140737488355328 then (utf_Put.l1 k (x4 ++ [Go.bits .or .u8 224 ((shr .i32 v (wrap64 (6 * (wrap64 (t103 - 1))))) % 256)]) v (wrap64 (t103 - 2)) l (l.length : Int) (i : Int) 0 0 192 224 240) else (none)) else (none)) else (if t103 = 4 then (if 0 ≤ (wrap64 (6 * (wrap64 (t103 - 1)))) then (if x4.length < 140737488355328 then (utf_Put.l1 k (x4 ++ [Go.bits .or .u8 240 ((shr .i32 v (wrap64 (6 * (wrap64 (t103 - 1))))) % 256)]) v (wrap64 (t103 - 2)) l (l.length : Int) (i : Int) 0 0 192 224 240) else (none)) else (none)) else (none))))))) (fun k => ?_) ?_
    · rw [utf_Put.l0, if_pos b0, if_pos b1, if_pos b0, hrd]
    · refine Ev.bind hs ?_
      cases hv : isv v with
      | false =>
        have h0 := (isv_sz v).2 hv
        refine evPos h0 ?_
        simpa [hv] using Ev.now ((⟨#[]⟩ : ByteArray), (2 : Int))
      | true =>
        have h1 := (isv_sz v).1 hv
        have hr := isv_iff.1 hv
        refine evNeg (by omega) ?_
        have hall : (v :: r).all isv = r.all isv := by simp [hv]
        rw [hall, putL_cons]
        by_cases c1 : v < 128
        · have hz : utf_sz v = 1 := utf_sz_of.1 ⟨hr.1, c1⟩
          refine evPos hz (evPos (by omega) ?_)
          have := ih1 (x4 ++ [v]) (by simp)
          rw [show v % 256 = v by omega]
          simpa [formL, c1, List.append_assoc] using this
        · by_cases c2 : v < 2048
          · have hz : utf_sz v = 2 := utf_sz_of.2 ⟨by omega, c2⟩
            refine evNeg (by omega) (evPos hz ?_)
            rw [hz, show wrap64 (6 * wrap64 ((2 : Int) - 1)) = 6 by decide +kernel, show wrap64 ((2 : Int) - 2) = 0 by decide +kernel, shr6, show v / 64 % 256 = v / 64 by omega, or192' (by omega) (by omega)]
            refine evPos (by omega) (evPos (by omega) (put_tail1 l _ (by simp; omega) ?_))
            have := ih1 (x4 ++ [192 + v / 64, 128 + v % 64]) (by simp)
            simpa [formL, c1, c2, List.append_assoc] using this
          · by_cases c3 : v < 65536
            · have hz : utf_sz v = 3 := by unfold utf_sz; rw [if_neg (by omega), if_neg c1, if_neg c2, if_pos c3]
              refine evNeg (by omega) (evNeg (by omega) (evPos hz ?_))
              rw [hz, show wrap64 (6 * wrap64 ((3 : Int) - 1)) = 12 by decide +kernel, show wrap64 ((3 : Int) - 2) = 1 by decide +kernel, shr12, show v / 4096 % 256 = v / 4096 by omega, or224' (by omega) (by omega)]
              refine evPos (by omega) (evPos (by omega) (put_tail2 l _ (by simp; omega) ?_))
              have := ih1 (x4 ++ [224 + v / 4096, 128 + v / 64 % 64, 128 + v % 64]) (by simp)
              simpa [formL, c1, c2, c3, List.append_assoc] using this
            · have hz : utf_sz v = 4 := by unfold utf_sz; rw [if_neg (by omega), if_neg c1, if_neg c2, if_neg c3]
              refine evNeg (by omega) (evNeg (by omega) (evNeg (by omega) (evPos hz ?_)))
              rw [hz, show wrap64 (6 * wrap64 ((4 : Int) - 1)) = 18 by decide +kernel, show wrap64 ((4 : Int) - 2) = 2 by decide +kernel, shr18, show v / 262144 % 256 = v / 262144 by omega, or240' (by omega) (by omega)]
              refine evPos (by omega) (evPos (by omega) (put_tail3 l _ (by simp; omega) ?_))
              have := ih1 (x4 ++ [240 + v / 262144, 128 + v / 4096 % 64, 128 + v / 64 % 64, 128 + v % 64]) (by simp)
              simpa [formL, c1, c2, c3, List.append_assoc] using this
theorem Put_ev (l : List Int) (hl : l.length * 4 ≤ 140737488351232) : Ev (fun k => utf_Put.f k l) (if l.all isv = true then (strOfNums (putL l), 0) else (⟨#[]⟩, 2)) := by
  unfold utf_Put.f
  exact Put_go l hl l [] 0 rfl (by simp) (by simp)
/-! ### What was put is read -/
theorem putL_u8 : ∀ l : List Int, l.all isv = true → ∀ x ∈ putL l, isU8 x
  | [], _, x, h => by simp [putL] at h
  | v :: l, hl, x, h => by
    simp only [List.all_cons, Bool.and_eq_true] at hl
    rw [putL_cons, List.mem_append] at h
    rcases h with h | h
    · obtain ⟨i, hi, rfl⟩ := List.getElem_of_mem h
      have := isv_iff.1 hl.1
      exact formL_u8 v this.1 (by omega) i hi
    · exact putL_u8 l hl.2 x h
theorem dec_put {s : ByteArray} {a : Nat} {v : Int} (hv : isv v = true) (hs : a + (formL v).length ≤ s.size) (hb : ∀ i (h : i < (formL v).length), bt s ((a + i : Nat) : Int) = (formL v)[i]) : dec s a = some (v, (formL v).length) := by
  have hr := isv_iff.1 hv
  unfold dec
  by_cases c1 : v < 128
  · have e : formL v = [v] := by unfold formL; rw [if_pos c1]
    rw [e] at hs hb ⊢
    have h0 := hb 0 (by simp)
    simp at h0 hs
    rw [if_neg (by omega), h0, if_pos c1]
    rfl
  · by_cases c2 : v < 2048
    · have e : formL v = [192 + v / 64, 128 + v % 64] := by unfold formL; rw [if_neg c1, if_pos c2]
      rw [e] at hs hb ⊢
      have h0 := hb 0 (by simp)
      have h1 := hb 1 (by simp)
      simp only [List.getElem_cons_zero, List.getElem_cons_succ, Nat.add_zero] at h0 h1
      simp at hs
      rw [if_neg (by omega), h0, h1, if_neg (by omega), if_pos (by omega), if_pos ⟨hs, vC_iff.2 (by omega)⟩]
      simp
      omega
    · by_cases c3 : v < 65536
      · have e : formL v = [224 + v / 4096, 128 + v / 64 % 64, 128 + v % 64] := by unfold formL; rw [if_neg c1, if_neg c2, if_pos c3]
        rw [e] at hs hb ⊢
        have h0 := hb 0 (by simp)
        have h1 := hb 1 (by simp)
        have h2 := hb 2 (by simp)
        simp only [List.getElem_cons_zero, List.getElem_cons_succ, Nat.add_zero] at h0 h1 h2
        simp at hs
        have hval : ((224 + v / 4096) % 16 * 64 + (128 + v / 64 % 64) % 64) * 64 + (128 + v % 64) % 64 = v := by omega
        rw [if_neg (by omega), h0, h1, h2, if_neg (by omega), if_neg (by omega), if_pos (by omega), hval, if_pos ⟨hs, vC_iff.2 (by omega), vC_iff.2 (by omega), by unfold utf_sz; rw [if_neg (by omega), if_neg c1, if_neg c2, if_pos c3]⟩]
        rfl
      · have e : formL v = [240 + v / 262144, 128 + v / 4096 % 64, 128 + v / 64 % 64, 128 + v % 64] := by unfold formL; rw [if_neg c1, if_neg c2, if_neg c3]
        rw [e] at hs hb ⊢
        have h0 := hb 0 (by simp)
        have h1 := hb 1 (by simp)
        have h2 := hb 2 (by simp)
        have h3 := hb 3 (by simp)
        simp only [List.getElem_cons_zero, List.getElem_cons_succ, Nat.add_zero] at h0 h1 h2 h3
        simp at hs
        have hval : (((240 + v / 262144) % 8 * 64 + (128 + v / 4096 % 64) % 64) * 64 + (128 + v / 64 % 64) % 64) * 64 + (128 + v % 64) % 64 = v := by omega
        rw [if_neg (by omega), h0, h1, h2, h3, if_neg (by omega), if_neg (by omega), if_neg (by omega), if_pos (by omega), hval, if_pos ⟨hs, vC_iff.2 (by omega), vC_iff.2 (by omega), vC_iff.2 (by omega), by unfold utf_sz; rw [if_neg (by omega), if_neg c1, if_neg c2, if_neg c3]⟩]
        rfl
theorem decs_put (f : Nat) : ∀ (l pre : List Int), l.all isv = true → (∀ x ∈ pre, isU8 x) → (putL l).length < f →
    (decs (strOfNums (pre ++ putL l)) f pre.length).1.map (·.2) = l ∧ (decs (strOfNums (pre ++ putL l)) f pre.length).2 = (pre ++ putL l).length := by
  induction f with
  | zero => intro l pre _ _ h; omega
  | succ f ih =>
    intro l pre hl hp hf
    cases l with
    | nil =>
      have : dec (strOfNums (pre ++ putL [])) pre.length = none := by
        unfold dec
        rw [if_pos (by rw [son_size]; simp [putL])]
      simp only [decs, this]
      simp [putL]
    | cons v l =>
      have hall := hl
      simp only [List.all_cons, Bool.and_eq_true] at hl
      have hu : ∀ x ∈ pre ++ putL (v :: l), isU8 x := fun x hx => by
        rcases List.mem_append.1 hx with h | h
        · exact hp x h
        · exact putL_u8 _ hall x h
      have hd : dec (strOfNums (pre ++ putL (v :: l))) pre.length = some (v, (formL v).length) := by
        refine dec_put hl.1 ?_ ?_
        · rw [son_size, putL_cons]
          simp
        · intro i hi
          have hlt : pre.length + i < (pre ++ putL (v :: l)).length := by rw [putL_cons]; simp; omega
          rw [son_bt _ _ hlt (hu _ (List.getElem_mem _))]
          simp only [putL_cons]
          rw [List.getElem_append_right (by omega)]
          rw [List.getElem_append_left (by omega)]
          simp
      have h2 := ih l (pre ++ formL v) hl.2 (fun x hx => by
        rcases List.mem_append.1 hx with h | h
        · exact hp x h
        · exact hu x (by rw [putL_cons]; simp [h])) (by
          have := formL_le v
          rw [putL_cons, List.length_append] at hf
          omega)
      rw [List.length_append, List.append_assoc, ← putL_cons] at h2
      simp only [decs, hd, List.map_cons, h2.1, h2.2]
      exact ⟨trivial, trivial⟩
end Go.Proofs.Ytijfbnkohnlmaaa.X
