import Derived.Test.YtjdgjifacdnkgaaC06A4
import Derived.Laws.Strings
import Derived.Test.YtjdgjifacdnkgaaRows
import Derived.WalkKit
import Derived.ProofKit
import Derived.OpenShut
import Derived.ShutString
import Derived.ChangeOld
import Derived.Below
import Derived.SizedLaws
section
namespace Go.Proofs.Ytjdgjifacdnkgaa.X
open Go.RowKit Go.Proofs.YtjdgjifacdnkgaaW.PrintWords Go.Proofs.YtjdgjifacdnkgaaW.PrintLast
set_option linter.unusedVariables false
set_option linter.unusedSimpArgs false
theorem toList_d (s : ByteArray) : s.toList = s.data.toList := Go.ByteArray.toList_eq s
theorem blanks_go (t : ByteArray) (ht : t.size ≤ 35184372080000) : ∀ (n : Nat) (a : Int), 0 ≤ a → (t.size : Int) - a < n → a ≤ (t.size : Int) → Ev (fun k => sealringref06_blanks.l0 k t a) (skipP t n a)
  | 0, a, h0, h1, h2 => by omega
  | n + 1, a, h0, h1, h2 => by
    refine Ev.step (fun k => rfl) ?_
    unfold skipP
    by_cases c1 : a < (t.size : Int)
    · rw [if_pos c1]
      refine evPos c1 (evPos h0 ?_)
      have hw : wrap64 (a + 1) = a + 1 := w64 (by omega) (by omega)
      rw [hw]
      have ih := blanks_go t ht n (a + 1) (by omega) (by omega) (by omega)
      unfold blankI
      by_cases e1 : bt t a = 9
      · rw [if_pos (by simp [e1])]; exact evPos e1 ih
      · refine evNeg e1 ?_
        by_cases e2 : bt t a = 10
        · rw [if_pos (by simp [e2])]; exact evPos e2 ih
        · refine evNeg e2 ?_
          by_cases e3 : bt t a = 13
          · rw [if_pos (by simp [e3])]; exact evPos e3 ih
          · refine evNeg e3 ?_
            by_cases e4 : bt t a = 32
            · rw [if_pos (by simp [e4])]; exact evPos e4 ih
            · refine evNeg e4 ?_
              rw [if_neg (by simp [e1, e2, e3, e4])]
              exact Ev.now _
    · rw [if_neg c1]
      exact evNeg c1 (Ev.now _)
def wordB (t : ByteArray) (a : Int) (w : ByteArray) : Bool := decide ((w.size : Int) ≤ (t.size : Int) - a) && ((t.extract a.toNat (a.toNat + w.size)).data.toList == w.data.toList)
theorem word_f {t : ByteArray} (ht : t.size ≤ 35184372080000) {a : Int} (h0 : 0 ≤ a) (ha : a ≤ (t.size : Int)) {w : ByteArray} (hw : w.size ≤ 10) : sealringref06_word.f t a w = some (wordB t a w) := by
  unfold sealringref06_word.f wordB
  have e1 : wrap64 ((t.size : Int) - a) = (t.size : Int) - a := w64 (by omega) (by omega)
  have e2 : wrap64 (a + (w.size : Int)) = a + (w.size : Int) := w64 (by omega) (by omega)
  rw [e1, e2]
  by_cases c : (w.size : Int) ≤ (t.size : Int) - a
  · rw [if_pos c, if_pos h0, if_pos (by omega), if_pos (by omega), toList_d, toList_d, decide_eq_true c, Bool.true_and, show (a + (w.size : Int)).toNat = a.toNat + w.size by omega]
  · rw [if_neg (by omega), decide_eq_false c, Bool.false_and]
theorem word1 {t : ByteArray} {a : Int} (h0 : 0 ≤ a) (ha : a < (t.size : Int)) (c : UInt8) : wordB t a ⟨#[c]⟩ = decide (bt t a = (c.toNat : Int)) := by
  obtain ⟨i, rfl⟩ : ∃ i : Nat, a = (i : Int) := ⟨a.toNat, by omega⟩
  have hi : i < t.size := by omega
  unfold wordB
  rw [decide_eq_true (show ((⟨#[c]⟩ : ByteArray).size : Int) ≤ (t.size : Int) - i by show ((1 : Nat) : Int) ≤ _; omega), Bool.true_and, bt_nat t i hi]
  rw [show (⟨#[c]⟩ : ByteArray).size = 1 from rfl, show ((i : Int)).toNat = i from rfl]
  have e : (t.extract i (i + 1)).data.toList = [t[i]] := by
    rw [ByteArray.data_extract, Array.toList_extract, List.extract_eq_take_drop, show i + 1 - i = 1 by omega]
    have hl : i < t.data.toList.length := by rw [Array.length_toList]; exact hi
    rw [List.drop_eq_getElem_cons hl]
    rfl
  rw [e]
  rw [Bool.eq_iff_iff]
  simp only [beq_iff_eq, decide_eq_true_eq, List.cons.injEq, and_true]
  constructor
  · intro h; rw [h]
  · intro h; exact UInt8.toNat_inj.1 (by omega)
theorem wordN {t : ByteArray} {a : Int} (h0 : 0 ≤ a) (ha : a ≤ (t.size : Int)) (w : ByteArray) : wordB t a w = preP t a w := by
  obtain ⟨i, rfl⟩ : ∃ i : Nat, a = (i : Int) := ⟨a.toNat, by omega⟩
  have hi : i ≤ t.size := by omega
  unfold wordB preP Lib.hasPrefix
  rw [show ((i : Int)).toNat = i from rfl]
  have e : ∀ n, (t.extract i n).data.toList = (t.data.toList.drop i).take (n - i) := fun n => by
    rw [ByteArray.data_extract, Array.toList_extract, List.extract_eq_take_drop]
  rw [e, e, show i + w.size - i = w.size by omega]
  have hl : (t.data.toList.drop i).length = t.size - i := by rw [List.length_drop, Array.length_toList]; rfl
  rw [List.take_of_length_le (i := t.size - i) (by omega)]
  have hw : w.data.toList.length = w.size := by rw [Array.length_toList]; rfl
  rw [Bool.eq_iff_iff]
  simp only [Bool.and_eq_true, decide_eq_true_eq, beq_iff_eq, List.isPrefixOf_iff_prefix]
  constructor
  · rintro ⟨h1, h2⟩
    rw [← h2]; exact List.take_prefix _ _
  · intro h
    have h3 := h.length_le
    refine ⟨by omega, ?_⟩
    rw [← hw]
    exact (List.prefix_iff_eq_take.1 h).symm
theorem word4 {t : ByteArray} {a : Int} (h0 : 0 ≤ a) (ha : a < (t.size : Int)) {w : ByteArray} {c : UInt8} {l : List UInt8} (hw : w.data.toList = c :: l) (h : wordB t a w = true) : bt t a = (c.toNat : Int) := by
  rw [wordN h0 (by omega)] at h
  obtain ⟨i, rfl⟩ : ∃ i : Nat, a = (i : Int) := ⟨a.toNat, by omega⟩
  have hi : i < t.size := by omega
  unfold preP Lib.hasPrefix at h
  rw [hw, show ((i : Int)).toNat = i from rfl, ByteArray.data_extract, Array.toList_extract, List.extract_eq_take_drop, List.isPrefixOf_iff_prefix] at h
  have hl : i < t.data.toList.length := by rw [Array.length_toList]; exact hi
  rw [List.drop_eq_getElem_cons hl] at h
  obtain ⟨r, hr⟩ := h
  obtain ⟨m, hm⟩ : ∃ m, t.size - i = m + 1 := ⟨t.size - i - 1, by omega⟩
  rw [hm, List.take_succ_cons, List.cons_append] at hr
  simp only [List.cons.injEq] at hr
  rw [bt_nat t i hi, hr.1]
  rfl
abbrev words9 : List ByteArray := [⟨#[123]⟩, ⟨#[125]⟩, ⟨#[91]⟩, ⟨#[93]⟩, ⟨#[44]⟩, ⟨#[58]⟩, ⟨#[116, 114, 117, 101]⟩, ⟨#[102, 97, 108, 115, 101]⟩, ⟨#[110, 117, 108, 108]⟩]
theorem words_step {t : ByteArray} (ht : t.size ≤ 35184372080000) {a : Int} (h0 : 0 ≤ a) (ha : a < (t.size : Int)) (i : Nat) (hi : i < 9) {r : Int × Int × Int × Int × ByteArray × Int}
    (h1 : wordB t a (rdOf ByteArray.empty words9 (i : Int)) = true → ((i : Int) + 1, a, a + ((rdOf ByteArray.empty words9 (i : Int)).size : Int), 0, (⟨#[]⟩ : ByteArray), 0) = r)
    (h2 : wordB t a (rdOf ByteArray.empty words9 (i : Int)) = false → Ev (fun k => sealringref06_Next.l0 k t a words9 ((i + 1 : Nat) : Int)) r) :
    Ev (fun k => sealringref06_Next.l0 k t a words9 (i : Int)) r := by
  refine Ev.step (fun k => by rw [sealringref06_Next.l0]) ?_
  have hw : (rdOf ByteArray.empty words9 (i : Int)).size ≤ 10 := by
    have : i = 0 ∨ i = 1 ∨ i = 2 ∨ i = 3 ∨ i = 4 ∨ i = 5 ∨ i = 6 ∨ i = 7 ∨ i = 8 := by omega
    rcases this with rfl | rfl | rfl | rfl | rfl | rfl | rfl | rfl | rfl <;> decide
  refine evPos (by show (i : Int) < ((9 : Nat) : Int); omega) (evPos (by omega) ?_)
  rw [word_f ht h0 (by omega) hw]
  refine Ev.bind (Ev.now _) ?_
  rw [w64s i (by omega), w64 (x := a + _) (by omega) (by omega)]
  cases hb : wordB t a (rdOf ByteArray.empty words9 (i : Int)) with
  | true => refine evPos rfl ?_; rw [← h1 hb]; exact Ev.now _
  | false => exact evNeg (by simp) (h2 hb)
theorem rLexNext_ev (t : ByteArray) (ht : t.size ≤ 35184372080000) (a : Int) : Ev (fun k => sealringref06_Next.f k t a) (nextP t a) := by
  unfold sealringref06_Next.f nextP
  by_cases c1 : a < 0
  · rw [if_pos c1]
    exact evPos c1 (Ev.step (f := fun _ => some (failP 0 1)) (fun k => by rw [sealringref06_Next.j0, if_pos rfl]; rfl) (Ev.now _))
  rw [if_neg c1]
  refine evNeg c1 (Ev.step (fun k => by rw [sealringref06_Next.j0]) ?_)
  by_cases c2 : a > (t.size : Int)
  · rw [if_pos c2]
    exact evPos (by simpa using c2) (Ev.now _)
  rw [if_neg c2]
  refine evNeg (by simpa using c2) (Ev.bind (f := fun k x => if x = (t.size : Int) then some (12, x, x, 0, (⟨#[]⟩ : ByteArray), 0) else sealringref06_Next.l0 k t x words9 0) (blanks_go t ht (t.size + 1) a (by omega) (by omega) (by omega)) ?_)
  have hr := skip_range t (t.size + 1) a (by omega)
  generalize skipP t (t.size + 1) a = b at hr
  have h0 : 0 ≤ b := by omega
  unfold tokP
  by_cases c3 : b = (t.size : Int)
  · rw [if_pos c3]
    exact evPos c3 (Ev.now _)
  rw [if_neg c3]
  refine evNeg c3 ?_
  have hb : b < (t.size : Int) := by omega
  have sign : ∀ (i : Nat) (c : UInt8) (hi : i < 9) (hw : rdOf ByteArray.empty words9 (i : Int) = ⟨#[c]⟩) (r), (bt t b = (c.toNat : Int) → ((i : Int) + 1, b, b + 1, 0, (⟨#[]⟩ : ByteArray), 0) = r) → (bt t b ≠ (c.toNat : Int) → Ev (fun k => sealringref06_Next.l0 k t b words9 ((i + 1 : Nat) : Int)) r) → Ev (fun k => sealringref06_Next.l0 k t b words9 (i : Int)) r := by
    intro i c hi hw r g1 g2
    refine words_step ht h0 hb i hi (fun h => ?_) (fun h => ?_)
    · rw [hw, word1 h0 hb] at h
      rw [hw]
      exact g1 (of_decide_eq_true h)
    · rw [hw, word1 h0 hb] at h
      exact g2 (of_decide_eq_false h)
  have nm : ∀ (i : Nat) (hi : i < 9) (w : ByteArray) (hw : rdOf ByteArray.empty words9 (i : Int) = w) (r), (preP t b w = true → ((i : Int) + 1, b, b + (w.size : Int), 0, (⟨#[]⟩ : ByteArray), 0) = r) → (preP t b w = false → Ev (fun k => sealringref06_Next.l0 k t b words9 ((i + 1 : Nat) : Int)) r) → Ev (fun k => sealringref06_Next.l0 k t b words9 (i : Int)) r := by
    intro i hi w hw r g1 g2
    refine words_step ht h0 hb i hi (fun h => ?_) (fun h => ?_)
    · rw [hw, wordN h0 (by omega)] at h
      rw [hw]
      exact g1 h
    · rw [hw, wordN h0 (by omega)] at h
      exact g2 h
  have tail : ∀ r, (if bt t b = 34 then (match unqP t b with | (s, e, x) => if x = 0 then (10, b, e, 0, s, 0) else failP b x) else if bt t b = 45 ∨ (48 ≤ bt t b ∧ bt t b ≤ 57) then (match numScan t b with | (n, e, x) => if x = 0 then (11, b, e, n, (⟨#[]⟩ : ByteArray), 0) else failP b x) else failP b 6) = r →
      Ev (fun k => sealringref06_Next.l0 k t b words9 ((9 : Nat) : Int)) r := by
    intro r hr
    subst hr
    refine Ev.step (fun k => by rw [sealringref06_Next.l0]) (evNeg (by show ¬ ((9 : Nat) : Int) < ((9 : Nat) : Int); omega) (evPos h0 (evPos hb ?_)))
    by_cases d1 : bt t b = 34
    · rw [if_pos d1]
      refine evPos d1 (Ev.bind (f := fun _ (z : ByteArray × Int × Int) => if z.2.2 = 0 then some (10, b, z.2.1, 0, z.1, 0) else some (0, b, 0, 0, (⟨#[]⟩ : ByteArray), z.2.2)) (rUnquote_ev t ht b) ?_)
      generalize unqP t b = z
      obtain ⟨s, e, x⟩ := z
      by_cases d2 : x = 0
      · subst d2
        exact evPos rfl (Ev.now _)
      · simp only [if_neg d2]
        exact Ev.now _
    rw [if_neg d1]
    refine evNeg d1 ?_
    have num : ∀ (yes : Bool), (yes = true ↔ (bt t b = 45 ∨ (48 ≤ bt t b ∧ bt t b ≤ 57))) → Ev (fun k => sealringref06_Next.j2 k t b yes) (if bt t b = 45 ∨ (48 ≤ bt t b ∧ bt t b ≤ 57) then (match numScan t b with | (n, e, x) => if x = 0 then (11, b, e, n, (⟨#[]⟩ : ByteArray), 0) else failP b x) else failP b 6) := by
      intro yes hy
      refine Ev.step (fun k => by rw [sealringref06_Next.j2]) ?_
      by_cases d3 : bt t b = 45 ∨ (48 ≤ bt t b ∧ bt t b ≤ 57)
      · rw [if_pos d3]
        refine evPos (hy.2 d3) (Ev.bind (f := fun _ (z : Int × Int × Int) => if z.2.2 = 0 then some (11, b, z.2.1, z.1, (⟨#[]⟩ : ByteArray), 0) else some (0, b, 0, 0, (⟨#[]⟩ : ByteArray), z.2.2)) (refScan_ev t (by omega) b) ?_)
        generalize numScan t b = z
        obtain ⟨n, e, x⟩ := z
        by_cases d2 : x = 0
        · subst d2
          exact evPos rfl (Ev.now _)
        · simp only [if_neg d2]
          exact Ev.now _
      · rw [if_neg d3]
        exact evNeg (fun h => d3 (hy.1 h)) (Ev.now _)
    by_cases d4 : bt t b = 45
    · exact evPos d4 (num true (by simp [d4]))
    refine evNeg d4 ?_
    by_cases d5 : bt t b ≥ 48
    · exact evPos d5 (num _ (by simp [d4]; omega))
    · exact evNeg d5 (num false (by simp [d4]; omega))
  have s0 := bt_range t b
  refine sign 0 123 (by omega) rfl _ (fun h => ?_) (fun n10 => ?_)
  · simp [signP, show bt t b = 123 from h]
  have n1 : ¬ bt t b = 123 := n10
  refine sign 1 125 (by omega) rfl _ (fun h => ?_) (fun n20 => ?_)
  · simp [signP, show bt t b = 125 from h]
  have n2 : ¬ bt t b = 125 := n20
  refine sign 2 91 (by omega) rfl _ (fun h => ?_) (fun n30 => ?_)
  · simp [signP, show bt t b = 91 from h]
  have n3 : ¬ bt t b = 91 := n30
  refine sign 3 93 (by omega) rfl _ (fun h => ?_) (fun n40 => ?_)
  · simp [signP, show bt t b = 93 from h]
  have n4 : ¬ bt t b = 93 := n40
  refine sign 4 44 (by omega) rfl _ (fun h => ?_) (fun n50 => ?_)
  · simp [signP, show bt t b = 44 from h]
  have n5 : ¬ bt t b = 44 := n50
  refine sign 5 58 (by omega) rfl _ (fun h => ?_) (fun n60 => ?_)
  · simp [signP, show bt t b = 58 from h]
  have n6 : ¬ bt t b = 58 := n60
  have hsg : signP (bt t b) = none := by
    unfold signP
    rw [if_neg n1, if_neg n2, if_neg n3, if_neg n4, if_neg n5, if_neg n6]
  rw [hsg]
  simp only
  have pw : ∀ {w : ByteArray} {c : UInt8} {l : List UInt8}, w.data.toList = c :: l → preP t b w = true → bt t b = (c.toNat : Int) := fun hw h => word4 h0 hb hw (by rw [wordN h0 (by omega)]; exact h)
  refine nm 6 (by omega) ⟨#[116, 114, 117, 101]⟩ rfl _ (fun h => ?_) (fun m1 => ?_)
  · have e : bt t b = 116 := pw (c := 116) (l := [114, 117, 101]) rfl h
    simp only [nameP, if_pos e]
    rw [if_pos (show preP t b (nameS 7) = true from h)]
    rfl
  refine nm 7 (by omega) ⟨#[102, 97, 108, 115, 101]⟩ rfl _ (fun h => ?_) (fun m2 => ?_)
  · have e : bt t b = 102 := pw (c := 102) (l := [97, 108, 115, 101]) rfl h
    simp only [nameP, if_neg (show ¬ bt t b = 116 by omega), if_pos e]
    rw [if_pos (show preP t b (nameS 8) = true from h)]
    rfl
  refine nm 8 (by omega) ⟨#[110, 117, 108, 108]⟩ rfl _ (fun h => ?_) (fun m3 => ?_)
  · have e : bt t b = 110 := pw (c := 110) (l := [117, 108, 108]) rfl h
    simp only [nameP, if_neg (show ¬ bt t b = 116 by omega), if_neg (show ¬ bt t b = 102 by omega), if_pos e]
    rw [if_pos (show preP t b (nameS 9) = true from h)]
    rfl
  refine tail _ ?_
  unfold nameP
  by_cases e1 : bt t b = 116
  · rw [if_pos e1, if_neg (by omega), if_neg (by omega)]
    simp only
    rw [if_neg (by rw [show preP t b (nameS 7) = false from m1]; simp)]
  rw [if_neg e1]
  by_cases e2 : bt t b = 102
  · rw [if_pos e2, if_neg (by omega), if_neg (by omega)]
    simp only
    rw [if_neg (by rw [show preP t b (nameS 8) = false from m2]; simp)]
  rw [if_neg e2]
  by_cases e3 : bt t b = 110
  · rw [if_pos e3, if_neg (by omega), if_neg (by omega)]
    simp only
    rw [if_neg (by rw [show preP t b (nameS 9) = false from m3]; simp)]
  rw [if_neg e3]
end Go.Proofs.Ytjdgjifacdnkgaa.X
end
section
namespace Go.Proofs.Ytjdgjifacdnkgaa.Pure
open Go.RowKit Go.Proofs.Ytjdgjifacdnkgaa.X Go.Proofs.YtjdgjifacdnkgaaW.PrintWords Go.Proofs.YtjdgjifacdnkgaaW.PrintLast
set_option linter.unusedVariables false
set_option linter.unusedSimpArgs false
theorem lives06_f : sealringlaw06_lives.f = some true := by kernel_rfl
theorem lives06 : Ev (fun _ => sealringlaw06_lives.f) true := by rw [lives06_f]; exact Ev.now _
theorem LexNext : sealringlaw06_LexNext.Pure := by
  intro a0 a1 h1 h2
  refine Ev.rounds ?_
  unfold sealringlaw06_LexNext.f
  by_cases hc : (a0.size : Int) > 300
  · exact evPos hc (Ev.bind lives06 (Ev.now _))
  · refine evNeg hc ?_
    rw [next_f (by omega)]
    refine Ev.bind (Ev.now _) (Ev.bind (rLexNext_ev a0 (by omega) a1) ?_)
    exact evPos (by simp) (evPos rfl (Ev.bind lives06 (Ev.now _)))
end Go.Proofs.Ytjdgjifacdnkgaa.Pure
end
section
-- printed by wip/tools/printx.py over the translation; Lean checks it
namespace Go.Proofs.Ytjdgjifacdnkgaa.lexNext
open Go.ChangeShapes Go.WideShapes Go.ChangeAt Go.RowKit
open Go.ChangeMaps (open_string shut_string)
set_option linter.unusedVariables false
theorem own : ownKnob Try.prog.godebug = none := by kernel_rfl
set_option maxRecDepth 100000 in
theorem lifted (os : Os) (started : os.Started) (H : Type) (enc : TypeId × Value → H) :
    ReturnsInHanded {} Try.checked os 3 .any (Rows.lexNextSpec.pre6 enc Try.prog Try.f3 Rows.lexNextRow.domain false) (Rows.lexNextSpec.post enc Try.prog Try.f3 false true false false) := by
  refine returnsInHanded_of_change_sized (C := Try.checked) own started (by kernel_rfl) Try.func3
    (ChangeSpec.witness6 (enc := enc) (C := Try.checked) false ⟨#[], #[.string ByteArray.empty, .int .i64 0], []⟩ 8 (by kernel_rfl) (by kernel_rfl) (by kernel_rfl) (by kernel_rfl)) ?_
  intro W base args ds gs before hval0 hW hcnd hsz0 _
  have hsz : (DataW.weightsEach Try.prog (Try.f3.params.toList ++ Rows.lexNextSpec.plain.varTypes Try.prog) (ds ++ gs)).all (· ≤ reachBytes) = true := hsz0
  have hval : ∀ (j : Nat) t v, Try.f3.params[j]? = some t → args[j]? = some v → Value.okWide Try.prog W .any base t v := hval0
  have hW' := hW
  obtain ⟨p, q, hA0, hV, rfl, hfz, hnd⟩ := hW
  have hA : DataW.TrodAll enc Try.prog W 0 (fun _ => true) true Try.f3.params.toList args.toList ds p := hA0
  rw [Try.params3] at hA hval hsz
  obtain ⟨v0, vs0, d0, ds0, p0, q0, hargs, rfl, rfl, h0, r0⟩ := trodAll_cons hA
  obtain ⟨v1, vs1, d1, ds1, p1, q1, rfl, rfl, rfl, h1, r1⟩ := trodAll_cons r0
  obtain ⟨rfl, rfl, rfl⟩ := trodAll_nil r1
  obtain rfl : args = #[v0, v1] := by cases args; simp_all
  obtain ⟨rfl, rfl⟩ := trodVars_none hV
  obtain ⟨a0, rfl, rfl, rfl, y0⟩ := open_string Try.underlying9 (hval 0 9 v0 rfl rfl) h0
  have w0 : a0.size ≤ 140737488351232 := by
    have z := sized_string hsz (j := 0) (t := 9) rfl rfl
    rw [Array.length_toList] at z
    exact z
  obtain ⟨a1, rfl, rfl, rfl, w1⟩ := open_int Try.underlying3 (hval 1 3 v1 rfl rfl) h1
  clear hA0 hval0 hsz0 hsz
  refine (X.sealringlaw06_LexNext.walk Pure.LexNext a0 a1 W w0 w1).mono fun e W' ⟨he, bel⟩ => ?_
  subst he
  exact ⟨_, rfl, _, _, _, [], _, [], hW', trodAll_mk1 (shut_bool Try.underlying4 _), (trodAll_cons_mk (shut_string Try.underlying9 y0) (trodAll_cons_mk (shut_int Try.underlying3 w1) trodAll_mk0)), rfl, bel.frame _, fun h => by cases h⟩
theorem over : Rows.lexNextRow.holds Try.pinned (OpenSpec.ofChange Rows.lexNextSpec) :=
  OpenClaim.holds_of_wide 3 Try.f3 rfl rfl rfl rfl rfl rfl rfl ⟨rfl, rfl, rfl, rfl, rfl⟩ rfl rfl rfl rfl rfl (by kernel_rfl) Try.func3 (by kernel_rfl)
    (of_decide_eq_true (by kernel_rfl)) (by unfold Func.isWrapper; first | (rw [if_pos (by decide +kernel)]; kernel_rfl) | (rw [if_neg (by decide +kernel)]; exact ⟨rfl, rfl⟩))
    (fun os started H enc _ => lifted os started H enc)
theorem proved : Rows.LexNextSaid := over
#print axioms proved
end Go.Proofs.Ytjdgjifacdnkgaa.lexNext
namespace Go.Proofs.Ytjdgjifacdnkgaa
/-- The row, under a short name, for the claim. -/
theorem lexNext_holds : Rows.LexNextSaid := lexNext.proved
end Go.Proofs.Ytjdgjifacdnkgaa
end
