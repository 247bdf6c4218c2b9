import Derived.Test.YtinenogcokjpjaaDoorSNumDec
import Derived.Test.YtinenogcokjpjaaDoorX1
import Derived.Test.YtinenogcokjpjaaDoorX2
namespace Go.Proofs.YtinenogcokjpjaaDoor.X
open Go.RowKit Go.Proofs.YtinenogcokjpjaaDoorW.PrintWords Go.Proofs.YtinenogcokjpjaaDoorW.PrintLast Go.Proofs.YtinenogcokjpjaaDoorW.PrintMore
set_option linter.unusedVariables false
set_option linter.unusedSimpArgs false
/-! ### The document's digits -/
def strL (l : List UInt8) : ByteArray := ⟨l.toArray⟩
theorem amount_ev : ∀ u : Nat, u < 18446744073709551616 → Ev (fun k => sealringref05_amount.f k (u : Int)) (strL (Lib.decDigits u)) := by
  intro u
  induction u using Nat.strongRecOn with
  | _ u ih =>
    intro hu
    have hm : Int.tmod (u : Int) 10 = ((u % 10 : Nat) : Int) := by rw [Int.tmod_eq_emod_of_nonneg (by omega)]; omega
    have hd : Int.tdiv (u : Int) 10 = ((u / 10 : Nat) : Int) := by rw [Int.tdiv_eq_ediv_of_nonneg (by omega)]; omega
    have hw : IntKind.u64.wrap (((u / 10 : Nat)) : Int) = ((u / 10 : Nat) : Int) := by rw [IntKind.wrap_u64]; omega
    have hw2 : (IntKind.u64.wrap (48 + ((u % 10 : Nat) : Int))) % 256 = 48 + ((u % 10 : Nat) : Int) := by rw [IntKind.wrap_u64]; omega
    have hone : strOfNums [48 + ((u % 10 : Nat) : Int)] = strL [UInt8.ofNat (48 + u % 10)] := by
      unfold strOfNums strL
      simp only [List.map_cons, List.map_nil]
      rw [show (48 + ((u % 10 : Nat) : Int)).toNat = 48 + u % 10 by omega]
    by_cases c : u < 10
    · refine Ev.step (f := fun _ => some (strL (Lib.decDigits u))) (fun k => ?_) (Ev.now _)
      rw [sealringref05_amount.f, hm, hw2]
      simp only [Option.bind_some]
      rw [hone, if_pos (by omega), Lib.decDigits, dif_pos c, show u % 10 = u by omega]
    · have h := ih (u / 10) (by omega) (by omega)
      refine Ev.step (f := fun k => (sealringref05_amount.f k ((u / 10 : Nat) : Int)).bind fun t123 => (if t123.size + (strL [UInt8.ofNat (48 + u % 10)]).size ≤ 9223372036854775807 then (some (t123 ++ (strL [UInt8.ofNat (48 + u % 10)]))) else (none))) (fun k => ?_) ?_
      · rw [sealringref05_amount.f, hm, hw2, hd, hw]
        simp only [Option.bind_some]
        rw [hone, if_neg (by omega)]
      · refine Ev.bind h ?_
        have hl : (strL (Lib.decDigits (u / 10))).size ≤ 30 := by
          show (List.toArray _).size ≤ 30
          simp only [List.size_toArray]
          rw [Lib.decDigits_length]
          have := nDigits_le (u / 10) 20 (by omega) (by omega)
          omega
        refine evPos (by have : (strL [UInt8.ofNat (48 + u % 10)]).size = 1 := rfl; omega) ?_
        have e : strL (Lib.decDigits (u / 10)) ++ strL [UInt8.ofNat (48 + u % 10)] = strL (Lib.decDigits u) := by
          rw [Lib.decDigits.eq_def u, dif_neg c]
          apply ByteArray.ext
          simp [strL, ByteArray.data_append]
        rw [e]
        exact Ev.now _
theorem rShow_ev (n : Int) (h0 : -9223372036854775808 ≤ n) (h1 : n ≤ 9223372036854775807) : Ev (fun k => sealringref05_Show.f k n) (showB n) := by
  unfold sealringref05_Show.f showB Lib.itoa
  by_cases c : n < 0
  · rw [if_pos c]
    refine evPos c ?_
    have e : IntKind.u64.wrap ((IntKind.u64.wrap (wrap64 (-(wrap64 (n + 1))))) + 1) = ((n.natAbs : Nat) : Int) := by
      rw [w64 (x := n + 1) (by omega) (by omega), w64 (x := -(n + 1)) (by omega) (by omega), IntKind.wrap_u64, IntKind.wrap_u64]
      omega
    rw [e]
    refine Ev.bind (amount_ev n.natAbs (by omega)) ?_
    have hl : (strL (Lib.decDigits n.natAbs)).size ≤ 30 := by
      show (List.toArray _).size ≤ 30
      simp only [List.size_toArray]
      rw [Lib.decDigits_length]
      have := nDigits_le n.natAbs 20 (by omega) (by omega)
      omega
    refine evPos (by omega) ?_
    have e2 : (⟨#[45]⟩ : ByteArray) ++ strL (Lib.decDigits n.natAbs) = ⟨(45 :: Lib.decDigits n.natAbs).toArray⟩ := by
      apply ByteArray.ext
      simp [strL, ByteArray.data_append]
    rw [e2]
    exact Ev.now _
  · rw [if_neg c]
    refine evNeg c ?_
    have e : IntKind.u64.wrap n = ((n.toNat : Nat) : Int) := by rw [IntKind.wrap_u64]; omega
    rw [e]
    exact Ev.bind (amount_ev n.toNat (by omega)) (Ev.now _)
theorem num_Show_f {n : Int} (h0 : -9223372036854775808 ≤ n) (h1 : n ≤ 9223372036854775807) : num_Show.f n = some (showB n) := by unfold num_Show.f; rw [if_pos ⟨h0, h1⟩]
theorem t_cut {t : ByteArray} {e : Int} {s : ByteArray} (h : s.data.toList = (t.extract 0 e.toNat).data.toList) : s = t.extract 0 e.toNat := by
  apply ByteArray.ext
  exact Array.toList_inj.1 h
end Go.Proofs.YtinenogcokjpjaaDoor.X
