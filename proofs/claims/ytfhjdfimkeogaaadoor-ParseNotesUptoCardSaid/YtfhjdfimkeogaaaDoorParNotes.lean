/-
  ParseNotes: lines that say nothing count nothing.
-/
import Derived.Test.YtfhjdfimkeogaaaDoorParNotesP
import Derived.Test.YtfhjdfimkeogaaaDoorParPrints
import Derived.Test.YtfhjdfimkeogaaaDoorBulk
namespace Go.Proofs.YtfhjdfimkeogaaaDoor
open Go.RowKit Go.Lib

theorem u8_get {w : World} {a : Option Addr} {len k : Nat} {N : List Nat} (h : U8At w a len N) (hk : k < N.length) : ∃ b1 o1, a = some ⟨b1, o1, none⟩ ∧ ∀ w2, Fp [] w w2 → w2.cell? ⟨b1, o1 + k, none⟩ = some (.int .u8 (N[k] : Nat)) := by
  rcases h.cells with h0 | ⟨b1, o1, h1, h2, h3⟩
  · subst h0; exact absurd hk (Nat.not_lt_zero _)
  · exact ⟨b1, o1, h1, fun w2 hf => (hf.cell (p := ⟨b1, o1 + k, none⟩) h2 List.not_mem_nil).trans (h3 k hk)⟩
def noteB : ByteArray := ⟨#[35, 32, 97, 32, 110, 111, 116, 101]⟩
theorem note_skip : skipB noteB = true := by kernel_rfl
theorem cel_one {w : World} {b o : Nat} {c : Cel} (h : CelCells w b o c) (hb : b < w.heap.size) (hok : CelOK c) : CelsAt w (some ⟨b, o, none⟩) 1 [c] :=
  ⟨rfl, Or.inr ⟨b, o, rfl, hb, fun i hi => by
    obtain rfl : i = 0 := by simpa using hi
    simpa using h⟩, by simpa using hok⟩

set_option maxRecDepth 100000 in
set_option maxHeartbeats 16000000 in
theorem notes_walk (W : World) (a : Option Addr) (len cap : Nat) (l : List Cel) (a1 : Option Addr) (len1 cap1 : Nat) (N : List Nat) (wrong : Bool) (hl : CelsAt W a len l) (hlen : len ≤ maxLen) (hcap : len ≤ cap) (hb : ∀ c ∈ l, c.row.size + c.col.size + c.val.size ≤ 10000000) (hN : U8At W a1 len1 N) (hlen1 : len1 ≤ maxLen) (hp : ParAt W) (hpw : PowAt W) :
    Calls Tryd.prog 7 #[.slice a len cap, .slice a1 len1 cap1, .bool wrong] W fun e w' => e = .returned (.bool true) ∧ Fp [] W w' := by
  have HP := Lib.hid hp
  have HPW := Lib.hid hpw
  have HL := Lib.hid hl
  have HNN := Lib.hid hN
  have HBD := Lib.hid hb
  have HLEN := Lib.hid hl.len
  have HLEN1 := Lib.hid hN.len
  have HCAP := Lib.hid hcap
  have HSH := Lib.hid shown_any
  have hlen2 : (len : Int) ≤ 9223372036854775807 := by unfold maxLen at hlen; omega
  have hlen3 : (len1 : Int) ≤ 9223372036854775807 := by unfold maxLen at hlen1; omega
  have hcapI : (len : Int) ≤ (cap : Int) := by omega
  clear hp hpw hl hlen hN hlen1 hb
  by_cases h10 : len > 10
  · have h10' : (len : Int) > 10 := by omega
    go_enter Tryd.func7, Tryd.ntmps7
    go_wp2_with (fail)
    (with_reducible refine (HSH.out _ HP.out).mono ?_)
    rintro e w1 ⟨rfl, hf⟩
    have HF := Lib.hid hf
    clear hf
    go_wp2_with (fail)
    go_ret
    exact ⟨rfl, HF.out⟩
  have h10' : ¬ (len : Int) > 10 := by omega
  by_cases h20 : len1 > 20
  · have h20' : (len1 : Int) > 20 := by omega
    go_enter Tryd.func7, Tryd.ntmps7
    go_wp2_with (fail)
    (with_reducible refine (HSH.out _ HP.out).mono ?_)
    rintro e w1 ⟨rfl, hf⟩
    have HF := Lib.hid hf
    clear hf
    go_wp2_with (fail)
    go_ret
    exact ⟨rfl, HF.out⟩
  have h20' : ¬ (len1 : Int) > 20 := by omega
  go_enter Tryd.func7, Tryd.ntmps7
  go_wp2_with (fail)
  (with_reducible refine (HSH.out _ HP.out).mono ?_)
  rintro e w1 ⟨rfl, hf⟩
  have HF1 := Lib.hid hf
  clear hf
  go_wp2_with (fail)
  go_loopg [7, 8, 9, 10, 11] len (fun g vs vl vk va vi wr => ∃ (i k nn : Nat) (s : ByteArray) (L : List ByteArray) (acc : List Cel), g + i = len ∧ vi = .int .i64 i ∧ vs = .string s ∧ vl = .int .i64 L.length ∧ vk = .int .i64 k ∧ Fp [] W wr ∧ OwnC wr W.heap.size va acc ∧ (∀ c ∈ acc, CelOK c) ∧ NRel s L acc ∧ s.size ≤ i * 210 + nn * 10 ∧ L.length ≤ i + nn ∧ nn ≤ k ∧ nn ≤ 20 ∧ k ≤ 20 + i)
  case atStart => exact ⟨0, 0, 0, ⟨#[]⟩, [], [], by simp, rfl, rfl, rfl, rfl, HF1.out.alloc' _, (OwnC.made w1 _ HF1.out.size), by simp, NRel.nil, by decide, by decide, by decide, by decide, by decide⟩
  case round =>
    obtain ⟨i, k, nn, s, L, acc, hg, rfl, rfl, rfl, rfl, hf, ho, hao, hr, hsz, hL, hnk, hn20, hk20⟩ := hrel
    have HF := Lib.hid hf
    have HO := Lib.hid ho
    have HR := Lib.hid hr
    have HAO := Lib.hid hao
    clear hf ho hr hao
    by_cases hi : i < len
    · have hil : i < l.length := by rw [← HLEN.out]; exact hi
      obtain ⟨b1, o1, rfl, hb1, hcells⟩ := cels_get HL.out hil
      obtain ⟨c, hc⟩ : ∃ c, l[i] = c := ⟨_, rfl⟩
      have hcm : c ∈ l := by rw [← hc]; exact List.getElem_mem hil
      have hbd := HBD.out c hcm
      have HOK := Lib.hid (HL.out.ok c hcm)
      rw [hc] at hcells
      have HCE := Lib.hid hcells
      have hb1r : b1 < wr.heap.size := by have := HF.out.size; omega
      have HPR := Lib.hid (fun w cap hl hp hpw => print_any w (some ⟨b1, o1 + i * 6, none⟩) 1 cap [c] hl (by simpa using hbd) (by decide) hp hpw)
      clear hcells hc hcm
      have z1 : (i : Int) ≤ (i : Int) + 1 := by omega
      have z2 : (i : Int) + 1 ≤ (cap : Int) := by omega
      rcases print_one c with ⟨hok, hpr⟩ | ⟨hok, hpr⟩
      · have HT : Hid (textOf c ++ ⟨#[10]⟩ = textOf c ++ ⟨#[10]⟩) := rfl
        have HCELL := Lib.hid (fun (s : ByteArray) L acc (h : NRel s L acc) => h.cell c hok)
        rw [hpr] at HPR
        obtain ⟨t, ht⟩ : ∃ t, textOf c ++ ⟨#[10]⟩ = t := ⟨_, rfl⟩
        rw [ht] at HPR HCELL
        clear hpr hok ht HT
        go_wp2_with (fail)
        (with_reducible refine (HPR.out _ _ (cel_one (HCE.out wr HF.out) hb1r HOK.out) (HP.out.fp HF.out) (HPW.out.fp HF.out)).mono ?_)
        rintro e w2 ⟨rfl, hf⟩
        have HF2 := Lib.hid (HF.out.trans hf (by simp))
        have HO2 := Lib.hid (HO.out.fp hf (by simp))
        clear hf z1 z2 HPR
        rw [show ((0 : Nat) : Int) = 0 from rfl]
        by_cases h200 : t.size > 200
        · have h200' : (t.size : Int) > 200 := by omega
          go_wp2_with (fail)
          go_roundg (gk - 1)
          case measure => omega
          case rel => exact ⟨i + 1, k, nn, s, L, acc, by omega, by simp, rfl, rfl, rfl, HF2.out, HO2.out, HAO.out, HR.out, by omega, by omega, hnk, hn20, by omega⟩
        have h200' : ¬ (t.size : Int) > 200 := by omega
        have HN1 : Hid (∀ s L acc, NRel s L acc → NRel (s ++ ⟨#[10]⟩) (L ++ [⟨#[]⟩]) acc) := fun s L acc h => h.note ⟨#[]⟩ (by simp) rfl
        have HN2 : Hid (∀ s L acc, NRel s L acc → NRel (s ++ ⟨#[35, 32, 97, 32, 110, 111, 116, 101, 10]⟩) (L ++ [noteB]) acc) := fun s L acc h => h.note noteB (by decide) note_skip
        go_wp2_with (fail)
        go_loopg [7, 8, 9] (len1 - k) (fun g vs vl vk wr => ∃ (k nn : Nat) (s : ByteArray) (L : List ByteArray), g = len1 - k ∧ vs = .string s ∧ vl = .int .i64 L.length ∧ vk = .int .i64 k ∧ Fp [] W wr ∧ OwnC wr W.heap.size u10 acc ∧ NRel s L acc ∧ s.size ≤ i * 210 + nn * 10 ∧ L.length ≤ i + nn ∧ nn ≤ k ∧ nn ≤ 20 ∧ k ≤ 20 + i)
        case atStart => exact ⟨k, nn, s, L, rfl, rfl, rfl, rfl, HF2.out, HO2.out, HR.out, hsz, hL, hnk, hn20, hk20⟩
        case round =>
          clear hsz hL hnk hn20 hk20 HR HF2 HO2 HO
          obtain ⟨k, nn, s, L, hg2, rfl, rfl, rfl, hf, ho, hr, hsz, hL, hnk, hn20, hk20⟩ := hrel
          have HF4 := Lib.hid hf
          have HO4 := Lib.hid ho
          have HR4 := Lib.hid hr
          clear hf ho hr
          by_cases hk : k < len1
          · have hkN : k < N.length := by rw [← HLEN1.out]; exact hk
            obtain ⟨b2, o2, rfl, hu8⟩ := u8_get HNN.out hkN
            obtain ⟨n, hn⟩ : ∃ n, N[k] = n := ⟨_, rfl⟩
            have hn256 := HNN.out.small n (by rw [← hn]; exact List.getElem_mem hkN)
            rw [hn] at hu8
            have u0 := hu8 wr HF4.out
            have u1 : ∀ X, (wr.alloc X).cell? ⟨b2, o2 + k, none⟩ = some (.int .u8 (n : Nat)) := fun X => hu8 _ (HF4.out.alloc' X)
            clear hn hu8
            rcases (by omega : n % 3 = 0 ∨ n % 3 = 1 ∨ n % 3 = 2) with h3 | h3 | h3
            · have e3 : (n : Int) % 3 = 0 := by omega
              clear u1
              obtain ⟨q0, q1, q2, q3, q4, q5⟩ := HCE.out wr HF4.out
              go_wp2_with (at_builtin; (refine wpList_append_cels rfl _ _ rfl W.heap.size _ acc rfl (HO4.out.fp (Fp.alloc _ _) (by simp)) _ _ _ [c] rfl (CelIn.one (heap_alloc_at (by simp) _) HOK.out) (fun h => by cases h) (by have := HR4.out.few; simp; omega) (by have := HF4.out.size; simp; omega) ?_); intro v5 w5 ho5 hb5)
              go_roundg (len - (i + 1))
              case measure => omega
              case rel =>
                refine ⟨i + 1, k + 1, nn, s ++ t, L ++ [textOf c], acc ++ [c], by omega, by simp, rfl, by simp, by simp, (HF4.out.alloc' _).belowTrans hb5, ho5, ?_, HCELL.out s L acc HR4.out, by rw [ByteArray.size_append]; omega, by rw [List.length_append]; show L.length + 1 ≤ _; omega, by omega, hn20, by omega⟩
                intro x hx
                rcases List.mem_append.1 hx with hx | hx
                · exact HAO.out x hx
                · rw [List.mem_singleton.1 hx]; exact HOK.out
            · have e3 : (n : Int) % 3 = 1 := by omega
              go_wp2_with (fail)
              go_roundg (len1 - (k + 1))
              case measure => omega
              case rel => exact ⟨k + 1, nn + 1, _, L ++ [⟨#[]⟩], by omega, rfl, by simp, by simp, HF4.out.alloc' _, HO4.out.fp (Fp.alloc _ _) (by simp), HN1.out s L acc HR4.out, by rw [ByteArray.size_append]; show s.size + 1 ≤ _; omega, by rw [List.length_append]; show L.length + 1 ≤ _; omega, by omega, by omega, by omega⟩
            · have e3 : (n : Int) % 3 = 2 := by omega
              go_wp2_with (fail)
              go_roundg (len1 - (k + 1))
              case measure => omega
              case rel => exact ⟨k + 1, nn + 1, _, L ++ [noteB], by omega, rfl, by simp, by simp, HF4.out.alloc' _, HO4.out.fp (Fp.alloc _ _) (by simp), HN2.out s L acc HR4.out, by rw [ByteArray.size_append]; show s.size + 9 ≤ _; omega, by rw [List.length_append]; show L.length + 1 ≤ _; omega, by omega, by omega, by omega⟩
          · have hkn : ¬ (k : Int) < (len1 : Int) := by omega
            obtain ⟨q0, q1, q2, q3, q4, q5⟩ := HCE.out wr HF4.out
            go_wp2_with (at_builtin; (refine wpList_append_cels rfl _ _ rfl W.heap.size _ acc rfl (HO4.out.fp (Fp.alloc _ _) (by simp)) _ _ _ [c] rfl (CelIn.one (heap_alloc_at (by simp) _) HOK.out) (fun h => by cases h) (by have := HR4.out.few; simp; omega) (by have := HF4.out.size; simp; omega) ?_); intro v5 w5 ho5 hb5)
            go_roundg (len - (i + 1))
            case measure => omega
            case rel =>
              refine ⟨i + 1, k + 1, nn, s ++ t, L ++ [textOf c], acc ++ [c], by omega, by simp, rfl, by simp, by simp, (HF4.out.alloc' _).belowTrans hb5, ho5, ?_, HCELL.out s L acc HR4.out, by rw [ByteArray.size_append]; omega, by rw [List.length_append]; show L.length + 1 ≤ _; omega, by omega, hn20, by omega⟩
              intro x hx
              rcases List.mem_append.1 hx with hx | hx
              · exact HAO.out x hx
              · rw [List.mem_singleton.1 hx]; exact HOK.out
      · rw [hpr] at HPR
        clear hpr hok
        go_wp2_with (fail)
        (with_reducible refine (HPR.out _ _ (cel_one (HCE.out wr HF.out) hb1r HOK.out) (HP.out.fp HF.out) (HPW.out.fp HF.out)).mono ?_)
        rintro e w2 ⟨rfl, hf⟩
        have HF2 := Lib.hid (HF.out.trans hf (by simp))
        have HO2 := Lib.hid (HO.out.fp hf (by simp))
        clear hf z1 z2 HPR
        rw [show ((1 : Nat) : Int) = 1 from rfl]
        go_wp2_with (fail)
        go_roundg (gk - 1)
        case measure => omega
        case rel => exact ⟨i + 1, k, nn, s, L, acc, by omega, by simp, rfl, rfl, rfl, HF2.out, HO2.out, HAO.out, HR.out, by omega, by omega, hnk, hn20, by omega⟩
    · have hin : ¬ (i : Int) < (len : Int) := by omega
      have hilen : i = len := by omega
      cases wrong
      · have HCP := Lib.hid (HR.out.good (by omega))
        have HCA := Lib.hid (fun w hp => cells_any s w (by omega) hp)
        rw [HCP.out] at HCA
        go_wp2_with (fail)
        (with_reducible refine (HCA.out _ (HP.out.fp HF.out)).mono ?_)
        rintro e w2 ⟨⟨v, rfl, ho⟩, hf⟩
        have HF2 := Lib.hid (HF.out.trans hf (by simp))
        obtain ⟨a4, c4, rfl, hc4⟩ := ho.at HAO.out
        obtain ⟨a5, c5, rfl, hc5⟩ := (HO.out.fp hf (by simp)).at HAO.out
        have hfew := HR.out.few
        have HS := Lib.hid (same_any w2 a4 a5 acc.length c4 acc.length c5 acc hc4 hc5 (by omega))
        clear hf ho hc4 hc5
        rw [show ((0 : Nat) : Int) = 0 from rfl]
        go_wp2_with (fail)
        (with_reducible refine HS.out.mono ?_)
        rintro e w3 ⟨rfl, hf⟩
        have HF3 := Lib.hid (HF2.out.trans hf (by simp))
        clear hf
        go_wp2_with (fail)
        go_ret
        exact ⟨rfl, HF3.out⟩
      · have HCP := Lib.hid (HR.out.bad (by omega))
        have hz5 : (⟨#[119, 114, 111, 110, 103]⟩ : ByteArray).size = 5 := rfl
        obtain ⟨s2, hs2⟩ : ∃ s2, s ++ ⟨#[119, 114, 111, 110, 103]⟩ = s2 := ⟨_, rfl⟩
        have hs2z : s2.size ≤ 5000 := by rw [← hs2, ByteArray.size_append, hz5]; omega
        have HCP2 : Hid (cellsP s2 = ([], L.length + 1, 70)) := by unfold Hid; rw [← hs2]; exact HCP.out
        have HCA := Lib.hid (fun w hp => cells_any s2 w (by omega) hp)
        rw [HCP2.out] at HCA
        go_wp2_with (fail)
        (with_reducible refine (HCA.out _ (HP.out.fp HF.out)).mono ?_)
        rintro e w2 ⟨⟨v, rfl, ho⟩, hf⟩
        have HF2 := Lib.hid (HF.out.trans hf (by simp))
        obtain ⟨a4, c4, rfl⟩ := ho.none
        clear hf ho
        have hL2 : ((L.length + 1 : Nat) : Int) = (L.length : Int) + 1 := by omega
        go_wp2_with (fail)
        go_ret
        exact ⟨rfl, HF2.out⟩
end Go.Proofs.YtfhjdfimkeogaaaDoor
