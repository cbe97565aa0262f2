/-
  TableApart: the walk.
-/
import Derived.Test.YtjnapcfclejknaaGreatDoorTabPure
import Derived.Test.YtjnapcfclejknaaGreatDoorTabSames
namespace Go.Proofs.YtjnapcfclejknaaGreatDoor
open Go.RowKit

theorem build_badA {l : List Cel} {seq : Nat} (h : (buildT l seq).2 ≠ 0) : (buildT l seq).1 = ⟨#[]⟩ := by
  unfold buildT at h ⊢
  split
  · rfl
  · split
    · rfl
    · split
      · rfl
      · split
        · rfl
        · rename_i h1 h2 h3 h4
          rw [if_neg h1, if_neg h2, if_neg h3, if_neg h4] at h
          exact absurd rfl h
theorem toList_ne {a b : ByteArray} (h : a ≠ b) : (a.toList == b.toList) = false := by
  rw [beq_eq_false_iff_ne]
  exact fun e => h (toList_inj e)
/-- Build, of any cells: a good file, or none -/
theorem tbuild_two (w : World) (a : Option Addr) (len cap : Nat) (l : List Cel) (seq : Nat) (hl : CelsAt w a len l) (hlc : len ≤ cap) (h60 : len ≤ 60) (hq : seq < 18446744073709551616) (hm : MaxAt w) (ht : TabAt w) :
    (GoodT l ∧ Calls Tryz.prog 7 #[.slice a len cap, .int .u64 seq] w fun e w' => e = .returned (.tuple #[.string (fileB l seq), .int .i64 0]) ∧ Fp [] w w') ∨
    ∃ be : Nat, ((be : Int) != 0) = true ∧ ((be : Int) == 0) = false ∧ Calls Tryz.prog 7 #[.slice a len cap, .int .u64 seq] w fun e w' => e = .returned (.tuple #[.string ⟨#[]⟩, .int .i64 be]) ∧ Fp [] w w' := by
  by_cases hg : (buildT l seq).2 = 0
  · exact Or.inl ⟨good_build hg, tbuild_good w a len cap hl hlc (good_build hg) hq hm ht⟩
  · have h := tbuild_any w a len cap l seq hl hlc (by omega) hq hm ht
    rw [build_badA hg] at h
    exact Or.inr ⟨_, by rw [bne_iff_ne]; omega, by rw [beq_eq_false_iff_ne]; omega, h⟩

end Go.Proofs.YtjnapcfclejknaaGreatDoor
