/-
  ParseLines: its walk.
-/
import Derived.Test.YtfhjdfimkeogaaaDoorParLinesPure
import Derived.Test.YtfhjdfimkeogaaaDoorParWide
import Derived.Test.YtfhjdfimkeogaaaDoorSame
import Derived.Test.YtfhjdfimkeogaaaDoorStrs
namespace Go.Proofs.YtfhjdfimkeogaaaDoor
open Go.RowKit Go.Lib

/-- what holds at the head of the loop over lines -/
structure LinesRel (W wr : World) (l : List ByteArray) (k : Nat) (s : ByteArray) (va : Value) (acc : List Cel) (bad : Nat) : Prop where
  fp : Fp [] W wr
  le : k ≤ l.length
  str : s = joinB (l.take k)
  plain : ∀ t ∈ l.take k, plainLine t
  own : OwnC wr W.heap.size va acc
  ok : ∀ c ∈ acc, CelOK c
  few : acc.length ≤ k
  badle : bad ≤ k
  go : linesGo 0 [] 0 l = linesGo k acc bad (l.drop k)
def LinesRels (W : World) (l : List ByteArray) (g : Nat) (vs va vb vi : Value) (wr : World) : Prop :=
  ∃ k s acc bad, LinesRel W wr l k s va acc bad ∧ g + k = l.length ∧ vs = .string s ∧ vb = .int .i64 (bad : Nat) ∧ vi = .int .i64 (k : Nat)

set_option maxRecDepth 100000 in
set_option maxHeartbeats 8000000 in
theorem lines_walk (W : World) (a : Option Addr) (len cap : Nat) (l : List ByteArray) (hl : StrsAt W a len l) (hlen : len ≤ maxLen) (hp : ParAt W) :
    Calls Tryd.prog 3 #[.slice a len cap] W fun e w' => e = .returned (.bool true) ∧ Fp [] W w' := by
  unfold maxLen at hlen
  have HL := Lib.hid hl
  have hll := hl.len
  have HP := Lib.hid hp
  have HSH := Lib.hid shown_any
  have HCELLS := Lib.hid cells_any
  clear hl hp
  by_cases h20 : len ≤ 20
  · have hl20 : l.length ≤ 20 := by omega
    have HLL := Lib.hid hll
    clear hll
    go_enter Tryd.func3, Tryd.ntmps3
    go_wp2_with (fail)
    (with_reducible refine (HSH.out _ HP.out).mono ?_)
    rintro e w1 ⟨rfl, hf1⟩
    have HF1 := Lib.hid hf1
    clear hf1
    go_wp2_with (fail)
    go_loopg [3, 4, 5, 6] l.length (fun g vs va vb vi wr => LinesRels W l g vs va vb vi wr)
    case atStart =>
      refine ⟨0, ⟨#[]⟩, [], 0, ⟨?_, Nat.zero_le _, rfl, by simp, ?_, by simp, Nat.le_refl _, Nat.le_refl _, rfl⟩, by simp, rfl, rfl, rfl⟩
      · first | exact HF1.out | exact HF1.out.alloc' _
      · exact OwnC.made w1 _ HF1.out.size
    case round =>
      obtain ⟨k, s, acc, bad, HR0, hg, rfl, rfl, rfl⟩ := hrel
      have HR := Lib.hid HR0
      clear HR0
      by_cases hk : k < l.length
      · obtain ⟨t, ht⟩ : ∃ t, l[k] = t := ⟨_, rfl⟩
        have HD : Hid (l.drop k = t :: l.drop (k + 1)) := by unfold Hid; rw [← ht]; exact List.drop_eq_getElem_cons hk
        have HTK : Hid (l.take (k + 1) = l.take k ++ [t]) := by unfold Hid; rw [← ht]; exact List.take_succ_eq_append_getElem hk
        obtain ⟨b, o, rfl, HC⟩ : ∃ b o, a = some ⟨b, o, none⟩ ∧ Hid (∀ w2, Fp [] W w2 → w2.cell? ⟨b, o + k, none⟩ = some (.string t)) := by
          rcases HL.out.cells with h | ⟨b, o, h1, h3⟩
          · rw [h] at hk; exact absurd hk (Nat.not_lt_zero _)
          · exact ⟨b, o, h1, fun w2 hf => by rw [← ht, hf.cell (World.block_lt_of_cell? _ _ (h3 k hk)) List.not_mem_nil]; exact h3 k hk⟩
        have q := HC.out wr HR.out.fp
        have hkn : (k : Int) < (len : Int) := by have := HLL.out; omega
        clear ht
        have hss : s.size ≤ 3020 := by
          have h1 := joinB_size _ HR.out.plain
          rw [← HR.out.str, List.length_take] at h1
          omega
        by_cases h150 : t.size > 150
        · go_wp2_with (fail)
          (with_reducible refine (HSH.out _ (HP.out.fp HR.out.fp)).mono ?_)
          rintro e w2 ⟨rfl, hf2⟩
          have HF2 := Lib.hid (HR.out.fp.trans hf2 (by simp))
          clear hf2
          go_wp2_with (fail)
          go_ret
          exact ⟨rfl, HF2.out⟩
        · go_wp2_with (fail)
          go_loopg [7] t.size (fun g vj wq => ∃ m : Nat, g + m = t.size ∧ vj = .int .i64 m ∧ Fp [] wr wq ∧ ∀ j (hj : j < t.size), j < m → t[j] ≠ 10)
          case atStart => exact ⟨0, by simp, rfl, Fp.refl _ _, by intro j _ h; omega⟩
          case round =>
            obtain ⟨m, hgm, rfl, hfm, hnl⟩ := hrel
            have HFM := Lib.hid hfm
            have HFW := Lib.hid (HR.out.fp.trans hfm (by simp))
            have HNL := Lib.hid hnl
            clear hfm hnl
            have q' := HC.out _ HFW.out
            by_cases hm : m < t.size
            · obtain ⟨y, hy⟩ : ∃ y, ((t[m].toNat : Int) == 10) = y := ⟨_, rfl⟩
              cases y
              · have HNL2 : Hid (∀ j (hj : j < t.size), j < m + 1 → t[j] ≠ 10) := fun j hj hjm => by
                  by_cases e : j = m
                  · subst e
                    intro e2
                    rw [e2] at hy
                    exact absurd hy (by decide)
                  · exact HNL.out j hj (by omega)
                go_wp2_with (fail)
                go_roundg (gk - 1)
                case measure => omega
                case rel => exact ⟨m + 1, by omega, by simp, HFM.out, HNL2.out⟩
              · go_wp2_with (fail)
                go_ret
                exact ⟨rfl, HFW.out⟩
            · have HPL : Hid (plainLine t) := ⟨by omega, fun x hx => by
                obtain ⟨j, hj, rfl⟩ := List.getElem_of_mem hx
                have hj2 : j < t.size := by rw [size_eq]; exact hj
                have := HNL.out j hj2 (by omega)
                have e := get_data hj2
                rw [List.getElem?_eq_getElem hj] at e
                rw [Option.some.inj e]
                exact this⟩
              have HOW := Lib.hid (HR.out.own.fp HFM.out (by simp))
              have hstep := lines_step k acc bad t (l.drop (k + 1))
              have her := oneP_er t
              have hok := oneP_ok (t := t) (by omega)
              have HCA : Hid (∀ w, ParAt w → Calls Tryd.prog 9 #[.string t] w fun e w' => CellsOut w w' e (oneP t) ∧ Fp [] w w') := by
                intro w hp
                have := HCELLS.out t w (by omega) hp
                rw [cellsP_one t HPL.out] at this
                exact this
              obtain ⟨⟨cs, n, er⟩, ho⟩ : ∃ r, oneP t = r := ⟨_, rfl⟩
              rw [ho] at hstep her hok HCA
              have HSTEP := Lib.hid hstep
              have HOK := Lib.hid hok
              obtain ⟨her, hcl⟩ := her
              simp only at her hcl
              have HCL := Lib.hid hcl
              clear hstep hok ho hcl hgm
              go_wp2_with (fail)
              (with_reducible refine (HCA.out _ (HP.out.fp HFW.out)).mono ?_)
              rintro e w2 ⟨⟨v, rfl, hov⟩, hf2⟩
              have HF2 := Lib.hid (HFW.out.trans hf2 (by simp))
              have HO2 := Lib.hid (HOW.out.fp hf2 (by simp))
              obtain ⟨a2, cap2, rfl, hcap, hcs⟩ := hov.at2 HOK.out
              have HCAP := Lib.hid hcap
              have HCS := Lib.hid hcs
              clear hf2 hov hcap hcs
              have q2 := HC.out _ HF2.out
              rcases her with rfl | rfl
              · go_wp2_with (at_builtin; (refine wpList_append_cels rfl _ _ rfl W.heap.size _ acc rfl HO2.out _ _ _ cs rfl HCS.out HCAP.out (by have := HCL.out; have := HR.out.few; omega) HF2.out.size ?_); intro v3 w3 ho3 hb3; have HF3 := Lib.hid (HF2.out.belowTrans hb3); have HO3 := Lib.hid ho3; have q3 := HC.out _ HF3.out; clear ho3 hb3)
                go_roundg (l.length - (k + 1))
                case measure => omega
                case rel => exact ⟨k + 1, _, acc ++ cs, bad, ⟨HF3.out, by omega, by rw [HTK.out, joinB_snoc, ← HR.out.str], by rw [HTK.out]; intro x hx; rcases List.mem_append.1 hx with hx | hx; exact HR.out.plain x hx; (obtain rfl : x = t := by simpa using hx); exact HPL.out, HO3.out, fun x hx => by rcases List.mem_append.1 hx with hx | hx; exact HR.out.ok x hx; exact HOK.out x hx, by have := HCL.out; have := HR.out.few; rw [List.length_append]; omega, by have := HR.out.badle; omega, by rw [HR.out.go, HD.out]; exact HSTEP.out.trans (by rw [if_pos trivial])⟩, by omega, rfl, by first | rfl | simp, by first | rfl | simp⟩
              · by_cases hb0 : bad = 0
                · go_wp2_with (at_builtin; (refine wpList_append_cels rfl _ _ rfl W.heap.size _ acc rfl HO2.out _ _ _ cs rfl HCS.out HCAP.out (by have := HCL.out; have := HR.out.few; omega) HF2.out.size ?_); intro v3 w3 ho3 hb3; have HF3 := Lib.hid (HF2.out.belowTrans hb3); have HO3 := Lib.hid ho3; have q3 := HC.out _ HF3.out; clear ho3 hb3)
                  go_roundg (l.length - (k + 1))
                  case measure => omega
                  case rel => exact ⟨k + 1, _, acc ++ cs, k + 1, ⟨HF3.out, by omega, by rw [HTK.out, joinB_snoc, ← HR.out.str], by rw [HTK.out]; intro x hx; rcases List.mem_append.1 hx with hx | hx; exact HR.out.plain x hx; (obtain rfl : x = t := by simpa using hx); exact HPL.out, HO3.out, fun x hx => by rcases List.mem_append.1 hx with hx | hx; exact HR.out.ok x hx; exact HOK.out x hx, by have := HCL.out; have := HR.out.few; rw [List.length_append]; omega, by have := HR.out.badle; omega, by rw [HR.out.go, HD.out]; exact HSTEP.out.trans (by rw [if_neg (by decide), if_pos hb0])⟩, by omega, rfl, by first | rfl | simp, by first | rfl | simp⟩
                · go_wp2_with (at_builtin; (refine wpList_append_cels rfl _ _ rfl W.heap.size _ acc rfl HO2.out _ _ _ cs rfl HCS.out HCAP.out (by have := HCL.out; have := HR.out.few; omega) HF2.out.size ?_); intro v3 w3 ho3 hb3; have HF3 := Lib.hid (HF2.out.belowTrans hb3); have HO3 := Lib.hid ho3; have q3 := HC.out _ HF3.out; clear ho3 hb3)
                  go_roundg (l.length - (k + 1))
                  case measure => omega
                  case rel => exact ⟨k + 1, _, acc ++ cs, bad, ⟨HF3.out, by omega, by rw [HTK.out, joinB_snoc, ← HR.out.str], by rw [HTK.out]; intro x hx; rcases List.mem_append.1 hx with hx | hx; exact HR.out.plain x hx; (obtain rfl : x = t := by simpa using hx); exact HPL.out, HO3.out, fun x hx => by rcases List.mem_append.1 hx with hx | hx; exact HR.out.ok x hx; exact HOK.out x hx, by have := HCL.out; have := HR.out.few; rw [List.length_append]; omega, by have := HR.out.badle; omega, by rw [HR.out.go, HD.out]; exact HSTEP.out.trans (by rw [if_neg (by decide), if_neg hb0])⟩, by omega, rfl, by first | rfl | simp, by first | rfl | simp⟩
      · have hkn : ¬ (k : Int) < (len : Int) := by have := HLL.out; omega
        obtain rfl : k = l.length := by have := HR.out.le; omega
        have hss : s.size ≤ 3020 := by
          have h1 := joinB_size _ HR.out.plain
          rw [← HR.out.str, List.length_take] at h1
          omega
        have hgo := HR.out.go
        have hst := HR.out.str
        have hpl := HR.out.plain
        rw [List.drop_length] at hgo
        rw [List.take_length] at hst hpl
        have hcp : cellsP s = if bad = 0 then (acc, 0, 0) else ([], bad, 70) := by
          rw [hst, cellsP_join l hpl hl20, hgo]; rfl
        have hbl := HR.out.badle
        have HCA := Lib.hid (fun w hp => HCELLS.out s w (by omega) hp)
        rw [hcp] at HCA
        clear hcp hst hpl hgo
        by_cases hb0 : bad = 0
        · rw [if_pos hb0] at HCA
          go_wp2_with (fail)
          (with_reducible refine (HCA.out _ (HP.out.fp HR.out.fp)).mono ?_)
          rintro e w2 ⟨⟨v, rfl, hov⟩, hf2⟩
          have HF2 := Lib.hid (HR.out.fp.trans hf2 (by simp))
          have HO2 := Lib.hid (HR.out.own.fp hf2 (by simp))
          obtain ⟨a1, cap1, e1, _, hcs1⟩ := HO2.out.at2 HR.out.ok
          obtain ⟨a2, cap2, rfl, _, hcs2⟩ := hov.at2 HR.out.ok
          have HSAME := Lib.hid (same_any w2 a2 a1 acc.length cap2 acc.length cap1 acc hcs2 hcs1 (by have := HR.out.few; omega))
          rw [← e1] at HSAME
          clear hf2 hov hcs1 hcs2 e1
          go_wp2_with (fail)
          (with_reducible refine HSAME.out.mono ?_)
          rintro e w3 ⟨rfl, hf3⟩
          have HF3 := Lib.hid (HF2.out.trans hf3 (by simp))
          clear hf3
          go_wp2_with (fail)
          go_ret
          exact ⟨rfl, HF3.out⟩
        · rw [if_neg hb0] at HCA
          go_wp2_with (fail)
          (with_reducible refine (HCA.out _ (HP.out.fp HR.out.fp)).mono ?_)
          rintro e w2 ⟨⟨v, rfl, hov⟩, hf2⟩
          have HF2 := Lib.hid (HR.out.fp.trans hf2 (by simp))
          obtain ⟨a2, cap2, rfl⟩ := hov.none
          clear hf2 hov
          go_wp2_with (fail)
          go_ret
          exact ⟨by simp, HF2.out⟩
  · go_enter Tryd.func3, Tryd.ntmps3
    go_wp2_with (fail)
    (with_reducible refine (HSH.out _ HP.out).mono ?_)
    rintro e w1 ⟨rfl, hf1⟩
    have HF1 := Lib.hid hf1
    clear hf1
    go_wp2_with (fail)
    go_ret
    exact ⟨rfl, HF1.out⟩
end Go.Proofs.YtfhjdfimkeogaaaDoor
