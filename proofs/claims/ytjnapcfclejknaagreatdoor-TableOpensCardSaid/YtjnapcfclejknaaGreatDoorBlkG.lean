/-
  The reference's Parse. The plain law of Parse: what was built is read as it was; both parsers agree.
-/
import Derived.Test.YtjnapcfclejknaaGreatDoorBlkF
import Derived.Test.YtjnapcfclejknaaGreatDoorBlkD
namespace Go.Proofs.YtjnapcfclejknaaGreatDoor
section
open Go.RowKit

def stepR3 (key rest : ByteArray) : Option (ByteArray × Cel × ByteArray) :=
  if (fkP key).2 ≠ 0 ∨ rest.size < 2 + (atB rest 1).toNat then none
  else some (key, ⟨(fkP key).1.row, (fkP key).1.col, (fkP key).1.ts, (fkP key).1.seq, atB rest 0 == 1, rest.extract 2 (2 + (atB rest 1).toNat)⟩, rest.extract (2 + (atB rest 1).toNat) rest.size)
def stepR2 (key rest : ByteArray) (n m : Nat) : Option (ByteArray × Cel × ByteArray) :=
  if key.size < n ∨ rest.size < 4 + m + 2 then none else stepR3 (key.extract 0 n ++ rest.extract 4 (4 + m)) (rest.extract (4 + m) rest.size)
def stepR (key rest : ByteArray) : Option (ByteArray × Cel × ByteArray) :=
  if rest.size < 4 then none else stepR2 key rest ((atB rest 0).toNat + 256 * (atB rest 1).toNat) ((atB rest 2).toNat + 256 * (atB rest 3).toNat)
def readR : Nat → ByteArray → ByteArray → Option (List Cel)
  | 0, _, _ => some []
  | k + 1, key, rest => match stepR key rest with
    | none => none
    | some (key', c, rest') => (readR k key' rest').map (c :: ·)
def readS (s : ByteArray) : Option (List Cel) := if s.size = 0 then none else readR (atB s 0).toNat ByteArray.empty (s.extract 1 s.size)
def parseR (s : ByteArray) : Option (List Cel) := match readS s with
  | none => none
  | some l => if (buildP l).2 = 0 ∧ (buildP l).1 = s then some l else none
def codeR (s : ByteArray) : Int := match parseR s with
  | some _ => 0
  | none => 50
theorem parseR_none {s : ByteArray} (h : readS s = none) : parseR s = none := by unfold parseR; rw [h]
theorem parseR_some {s : ByteArray} {l : List Cel} (h : readS s = some l) (h1 : (buildP l).2 = 0) (h2 : (buildP l).1 = s) : parseR s = some l := by
  unfold parseR; rw [h]; exact if_pos ⟨h1, h2⟩
theorem parseR_bad {s : ByteArray} {l : List Cel} (h : readS s = some l) (h1 : ¬ ((buildP l).2 = 0 ∧ (buildP l).1 = s)) : parseR s = none := by
  unfold parseR; rw [h]; exact if_neg h1
theorem codeR_none {s : ByteArray} (h : parseR s = none) : codeR s = 50 := by unfold codeR; rw [h]
theorem codeR_some {s : ByteArray} {l : List Cel} (h : parseR s = some l) : codeR s = 0 := by unfold codeR; rw [h]
theorem readR_none {k N : Nat} {key rest : ByteArray} (hk : k < N) (h : stepR key rest = none) : readR (N - k) key rest = none := by
  obtain ⟨j, hj⟩ : ∃ j, N - k = j + 1 := ⟨N - k - 1, by omega⟩
  rw [hj]
  unfold readR
  rw [h]
theorem readR_some {k N : Nat} {key rest key' rest' : ByteArray} {c : Cel} (hk : k < N) (h : stepR key rest = some (key', c, rest')) : readR (N - k) key rest = (readR (N - (k + 1)) key' rest').map (c :: ·) := by
  obtain ⟨j, hj⟩ : ∃ j, N - k = j + 1 := ⟨N - k - 1, by omega⟩
  rw [hj, show N - (k + 1) = j by omega]
  conv => lhs; unfold readR
  rw [h]
theorem one_int (y : UInt8) : ((y.toNat : Int) == 1) = (y == 1) := by
  by_cases e : y = 1
  · subst e; rfl
  · have h2 : y.toNat ≠ 1 := fun h => e (UInt8.toNat_inj.1 h)
    have h3 : ¬ (y.toNat : Int) = 1 := by omega
    rw [beq_eq_false_iff_ne.2 e, beq_eq_false_iff_ne.2 h3]

set_option maxRecDepth 100000 in
set_option maxHeartbeats 8000000 in
theorem rparse_any (w : World) (s : ByteArray) (hs : s.size ≤ 100000) :
    Calls Tryz.prog 50 #[.string s] w fun e w' => ∃ v, e = .returned (.tuple #[v, .int .i64 (codeR s)]) ∧ OwnC w' w.heap.size v ((parseR s).getD []) ∧ Fp [] w w' := by
  by_cases h0 : s.size = 0
  · have hp : parseR s = none := parseR_none (by unfold readS; rw [if_pos h0])
    have z : (s.size : Int) = 0 := by omega
    rw [codeR_none hp, hp]
    clear hp h0
    go_enter Tryz.func50, Tryz.ntmps50
    go_wp2_with (fail)
    refine bodyPost_ret (v := .tuple #[.slice none 0 0, .int .i64 50]) (by simp [results, Tryz.results50, go_sem, *]) rfl ⟨_, rfl, OwnC.nil _ _, Fp.refl _ _⟩
  · have z : ((s.size : Int) == 0) = false := by rw [beq_eq_false_iff_ne]; omega
    have z1 : (1 : Int) ≤ (s.size : Int) := by omega
    have hat := at_any (s := s) (k := 0) (by omega)
    have hrs : readS s = readR (atB s 0).toNat ByteArray.empty (s.extract 1 s.size) := by unfold readS; rw [if_neg h0]
    have hN8 := (atB s 0).toNat_lt
    obtain ⟨yN, hyN⟩ : ∃ y, atB s 0 = y := ⟨_, rfl⟩
    rw [hyN] at hat hrs hN8
    have HRS := Lib.hid hrs
    have hsub : (s.extract 1 s.size).size ≤ s.size := by simp only [ByteArray.size_extract]; omega
    clear hyN h0 hrs
    go_enter Tryz.func50, Tryz.ntmps50
    go_wp2_with (fail)
    go_loopg [4, 5, 6, 7] yN.toNat (fun g vo vk vr vi wr => ∃ (k : Nat) (key rest : ByteArray) (acc : List Cel), g + k = yN.toNat ∧ vi = .int .i64 k ∧ vk = .string key ∧ vr = .string rest ∧ OwnC wr w.heap.size vo acc ∧ (∀ c ∈ acc, CelOK c) ∧ acc.length = k ∧
      key.size + rest.size ≤ s.size ∧ Fp [] w wr ∧ readR yN.toNat ByteArray.empty (s.extract 1 s.size) = (readR (yN.toNat - k) key rest).map (acc ++ ·))
    case atStart => exact ⟨0, ByteArray.empty, s.extract 1 s.size, [], by omega, rfl, rfl, rfl, OwnC.made w _ (Nat.le_refl _), by simp, rfl, by have : ByteArray.empty.size = 0 := rfl; omega, Fp.alloc _ _, by simp⟩
    case round =>
      obtain ⟨k, key, rest, acc, hg, rfl, rfl, rfl, ho, hok, hal, hsz, hf, heq⟩ := hrel
      have HO := Lib.hid ho
      have HOK := Lib.hid hok
      have HF := Lib.hid hf
      have HEQ := Lib.hid heq
      have HAL := Lib.hid hal
      have hal2 : acc.length ≤ 255 := by omega
      clear ho hok hf heq hal
      by_cases hk : k < yN.toNat
      · have zk : (k : Int) < (yN.toNat : Int) := by omega
        by_cases h4 : rest.size < 4
        · have z4 : (rest.size : Int) < 4 := by omega
          have hst : stepR key rest = none := by unfold stepR; rw [if_pos h4]
          have hp := parseR_none (s := s) (by rw [HRS.out, HEQ.out, readR_none hk hst]; rfl)
          have HP := Lib.hid hp
          clear hst hp
          go_wp2_with (fail)
          rw [codeR_none HP.out, HP.out]
          refine bodyPost_ret (v := .tuple #[.slice none 0 0, .int .i64 50]) (by simp [results, Tryz.results50, go_sem, *]) rfl ⟨_, rfl, OwnC.nil _ _, HF.out⟩
        · have z4 : ¬ (rest.size : Int) < 4 := by omega
          have i0 : (0 : Int) < (rest.size : Int) := by omega
          have i1 : (1 : Int) < (rest.size : Int) := by omega
          have i2 : (2 : Int) < (rest.size : Int) := by omega
          have i3 : (3 : Int) < (rest.size : Int) := by omega
          have a0 := at_any (s := rest) (k := 0) (by omega)
          have a1 := at_any (s := rest) (k := 1) (by omega)
          have a2 := at_any (s := rest) (k := 2) (by omega)
          have a3 := at_any (s := rest) (k := 3) (by omega)
          have b0 := (atB rest 0).toNat_lt
          have b1 := (atB rest 1).toNat_lt
          have b2 := (atB rest 2).toNat_lt
          have b3 := (atB rest 3).toNat_lt
          have hst : stepR key rest = stepR2 key rest ((atB rest 0).toNat + 256 * (atB rest 1).toNat) ((atB rest 2).toNat + 256 * (atB rest 3).toNat) := by unfold stepR; rw [if_neg h4]
          obtain ⟨y0, hy0⟩ : ∃ y, atB rest 0 = y := ⟨_, rfl⟩
          obtain ⟨y1, hy1⟩ : ∃ y, atB rest 1 = y := ⟨_, rfl⟩
          obtain ⟨y2, hy2⟩ : ∃ y, atB rest 2 = y := ⟨_, rfl⟩
          obtain ⟨y3, hy3⟩ : ∃ y, atB rest 3 = y := ⟨_, rfl⟩
          rw [hy0] at a0 b0 hst
          rw [hy1] at a1 b1 hst
          rw [hy2] at a2 b2 hst
          rw [hy3] at a3 b3 hst
          obtain ⟨n, hn⟩ : ∃ n, y0.toNat + 256 * y1.toNat = n := ⟨_, rfl⟩
          obtain ⟨m, hm⟩ : ∃ m, y2.toNat + 256 * y3.toNat = m := ⟨_, rfl⟩
          rw [hn, hm] at hst
          have en : (y0.toNat : Int) + 256 * (y1.toNat : Int) = (n : Int) := by omega
          have em : (y2.toNat : Int) + 256 * (y3.toNat : Int) = (m : Int) := by omega
          have hnl : n ≤ 65535 := by omega
          have hml : m ≤ 65535 := by omega
          have HST := Lib.hid hst
          clear hst hy0 hy1 hy2 hy3 hn hm
          go_wp2_with (fail)
          go_region
          go_wp2_with (fail)
          go_region
          have HF2 := Lib.hid (HF.out.drew'.drew')
          have HO2 := Lib.hid ((HO.out.fp (Fp.drew _) (by simp)).fp (Fp.drew _) (by simp))
          obtain ⟨w2, hw2⟩ : ∃ w2, wr.drew.drew = w2 := ⟨_, rfl⟩
          rw [hw2] at HF2 HO2 ⊢
          clear hw2
          by_cases hn1 : key.size < n
          · have zn : (key.size : Int) < (n : Int) := by omega
            have hst : stepR key rest = none := by rw [HST.out]; unfold stepR2; rw [if_pos (Or.inl hn1)]
            have HP := Lib.hid (parseR_none (s := s) (by rw [HRS.out, HEQ.out, readR_none hk hst]; rfl))
            clear hst
            go_wp2_with (fail)
            rw [codeR_none HP.out, HP.out]
            refine bodyPost_ret (v := .tuple #[.slice none 0 0, .int .i64 50]) (by simp [results, Tryz.results50, go_sem, *]) rfl ⟨_, rfl, OwnC.nil _ _, HF2.out⟩
          · have zn : ¬ (key.size : Int) < (n : Int) := by omega
            have zn2 : (n : Int) ≤ (key.size : Int) := by omega
            by_cases hm1 : rest.size < 4 + m + 2
            · have zm : (rest.size : Int) < 4 + (m : Int) + 2 := by omega
              have hst : stepR key rest = none := by rw [HST.out]; unfold stepR2; rw [if_pos (Or.inr hm1)]
              have HP := Lib.hid (parseR_none (s := s) (by rw [HRS.out, HEQ.out, readR_none hk hst]; rfl))
              clear hst
              go_wp2_with (fail)
              rw [codeR_none HP.out, HP.out]
              refine bodyPost_ret (v := .tuple #[.slice none 0 0, .int .i64 50]) (by simp [results, Tryz.results50, go_sem, *]) rfl ⟨_, rfl, OwnC.nil _ _, HF2.out⟩
            · have zm : ¬ (rest.size : Int) < 4 + (m : Int) + 2 := by omega
              have hst : stepR key rest = stepR3 (key.extract 0 n ++ rest.extract 4 (4 + m)) (rest.extract (4 + m) rest.size) := by rw [HST.out]; unfold stepR2; rw [if_neg (by omega)]
              have e4 : (4 + (m : Int)).toNat = 4 + m := by omega
              have z5 : (0 : Int) ≤ 4 + (m : Int) := by omega
              have z6 : (4 : Int) ≤ 4 + (m : Int) := by omega
              have z7 : 4 + (m : Int) ≤ (rest.size : Int) := by omega
              obtain ⟨pf, hpf⟩ : ∃ pf, key.extract 0 n = pf := ⟨_, rfl⟩
              obtain ⟨t, ht⟩ : ∃ t, rest.extract 4 (4 + m) = t := ⟨_, rfl⟩
              obtain ⟨r2, hr2⟩ : ∃ t, rest.extract (4 + m) rest.size = t := ⟨_, rfl⟩
              have hpfs : pf.size = n := by rw [← hpf]; simp only [ByteArray.size_extract]; omega
              have hts : t.size = m := by rw [← ht]; simp only [ByteArray.size_extract]; omega
              have hr2s : r2.size + 4 + m = rest.size := by rw [← hr2]; simp only [ByteArray.size_extract]; omega
              have zc : ¬ pf.size + t.size > 9223372036854775807 := by omega
              obtain ⟨ky, hky⟩ : ∃ ky, pf ++ t = ky := ⟨_, rfl⟩
              have hkys : ky.size = n + m := by rw [← hky, ByteArray.size_append, hpfs, hts]
              rw [hpf, ht, hr2, hky] at hst
              have HST3 := Lib.hid hst
              have HPS := Lib.hid hpfs
              have HTS := Lib.hid hts
              clear hst hpfs hts
              go_wp2_with (fail)
              go_region
              have HF3 := Lib.hid HF2.out.drew'
              have HO3 := Lib.hid (HO2.out.fp (Fp.drew _) (by simp))
              obtain ⟨w3, hw3⟩ : ∃ w3, w2.drew = w3 := ⟨_, rfl⟩
              rw [hw3] at HF3 HO3 ⊢
              clear hw3
              have a5 := at_any (s := r2) (k := 0) (by omega)
              have a6 := at_any (s := r2) (k := 1) (by omega)
              have j0 : (0 : Int) < (r2.size : Int) := by omega
              have j1 : (1 : Int) < (r2.size : Int) := by omega
              have c6 := (atB r2 1).toNat_lt
              have c5 := (atB r2 0).toNat_lt
              have hst : stepR3 ky r2 = if (fkP ky).2 ≠ 0 ∨ r2.size < 2 + (atB r2 1).toNat then none
                else some (ky, ⟨(fkP ky).1.row, (fkP ky).1.col, (fkP ky).1.ts, (fkP ky).1.seq, atB r2 0 == 1, r2.extract 2 (2 + (atB r2 1).toNat)⟩, r2.extract (2 + (atB r2 1).toNat) r2.size) := rfl
              obtain ⟨y5, hy5⟩ : ∃ y, atB r2 0 = y := ⟨_, rfl⟩
              obtain ⟨y6, hy6⟩ : ∃ y, atB r2 1 = y := ⟨_, rfl⟩
              rw [hy5] at a5 c5 hst
              rw [hy6] at a6 c6 hst
              clear hy5 hy6
              have hfk := rfromkey_any ky w3 (by omega)
              rw [← fk_same] at hfk
              have hkok : (fkP ky).2 = 0 → ∀ val : ByteArray, val.size ≤ 1000000 → CelOK ⟨(fkP ky).1.row, (fkP ky).1.col, (fkP ky).1.ts, (fkP ky).1.seq, y5 == 1, val⟩ := fun hz val hv => by
                have h1 := celE_ok (x := ⟨ky, 0, val⟩) hz hv
                exact ⟨h1.ts, h1.seq, h1.row, h1.col, h1.val⟩
              by_cases hz : (fkP ky).2 = 0
              · obtain ⟨row, col, ts, seq, _, _, he, _, _⟩ := fkP_ok hz
                have hkok2 := hkok hz
                rw [he] at hfk hkok2 hst
                rw [show cellV (coordC row col ts seq, (0 : Int)).1 = .agg #[.string row, .string col, .int .u64 ts, .int .u64 seq, .bool false, .string ⟨#[]⟩] from rfl] at hfk
                have HFK := Lib.hid hfk
                have HOKC := Lib.hid hkok2
                clear hfk hkok hkok2 he hz
                by_cases hv : r2.size < 2 + y6.toNat
                · have zv : (r2.size : Int) < 2 + (y6.toNat : Int) := by omega
                  have hst2 : stepR key rest = none := by rw [HST3.out, hst]; exact if_pos (Or.inr hv)
                  have HP := Lib.hid (parseR_none (s := s) (by rw [HRS.out, HEQ.out, readR_none hk hst2]; rfl))
                  clear hst hst2
                  go_wp2_with (fail)
                  (with_reducible refine HFK.out.mono ?_)
                  rintro e w4 ⟨rfl, hf4⟩
                  have HF4 := Lib.hid (HF3.out.trans hf4 (by simp))
                  clear hf4 HFK
                  go_wp2_with (fail)
                  rw [codeR_none HP.out, HP.out]
                  refine bodyPost_ret (v := .tuple #[.slice none 0 0, .int .i64 50]) (by simp [results, Tryz.results50, go_sem, *]) rfl ⟨_, rfl, OwnC.nil _ _, HF4.out.alloc' _⟩
                · have zv : ¬ (r2.size : Int) < 2 + (y6.toNat : Int) := by omega
                  have hst2 : stepR key rest = some (ky, ⟨row, col, ts, seq, y5 == 1, r2.extract 2 (2 + y6.toNat)⟩, r2.extract (2 + y6.toNat) r2.size) := by rw [HST3.out, hst]; exact if_neg (by rintro (h | h); exact h rfl; exact hv h)
                  have hone := one_int y5
                  obtain ⟨dl, hdl⟩ : ∃ dl, (y5 == 1) = dl := ⟨_, rfl⟩
                  obtain ⟨val, hval⟩ : ∃ val, r2.extract 2 (2 + y6.toNat) = val := ⟨_, rfl⟩
                  obtain ⟨r3, hr3⟩ : ∃ val, r2.extract (2 + y6.toNat) r2.size = val := ⟨_, rfl⟩
                  have hvs : val.size ≤ 1000000 := by rw [← hval]; simp only [ByteArray.size_extract]; omega
                  have hr3s : r3.size ≤ r2.size := by rw [← hr3]; simp only [ByteArray.size_extract]; omega
                  rw [hdl, hval, hr3] at hst2
                  rw [hdl] at hone
                  have hco := HOKC.out val hvs
                  rw [hdl] at hco
                  have HCO : Hid (CelOK ⟨row, col, ts, seq, dl, val⟩) := Lib.hid hco
                  have HST4 := Lib.hid hst2
                  have k4 : (2 + (y6.toNat : Int)).toNat = 2 + y6.toNat := by omega
                  have k5 : (0 : Int) ≤ 2 + (y6.toNat : Int) := by omega
                  have k6 : (2 : Int) ≤ 2 + (y6.toNat : Int) := by omega
                  have k7 : 2 + (y6.toNat : Int) ≤ (r2.size : Int) := by omega
                  clear hdl hco hst hst2 HOKC
                  go_wp2_with (fail)
                  (with_reducible refine HFK.out.mono ?_)
                  rintro e w4 ⟨rfl, hf4⟩
                  have HF4 := Lib.hid (HF3.out.trans hf4 (by simp))
                  have HO4 := Lib.hid (HO3.out.fp hf4 (by simp))
                  clear hf4 HFK
                  go_wp2_with (at_builtin; (refine wpList_append_cels rfl _ _ rfl w.heap.size _ acc rfl ((HO4.out.fp (Fp.alloc _ _) (by simp)).fp (Fp.alloc _ _) (by simp)) _ _ _ [⟨row, col, ts, seq, dl, val⟩] rfl (CelIn.one (heap_alloc_at (by simp) _) HCO.out) (fun h => by cases h) (by simp; omega) (by have := HF4.out.size; simp; omega) ?_); intro v5 w5 ho5 hb5)
                  go_roundg (gk - 1)
                  case measure => omega
                  case rel =>
                    refine ⟨k + 1, ky, r3, acc ++ [⟨row, col, ts, seq, dl, val⟩], by omega, by simp, rfl, rfl, ho5, ?_, ?_, by omega, ?_, ?_⟩
                    · intro c hc
                      rcases List.mem_append.1 hc with h | h
                      · exact HOK.out c h
                      · obtain rfl : c = _ := by simpa using h
                        exact HCO.out
                    · rw [List.length_append, HAL.out]; rfl
                    · exact ((HF4.out.alloc' _).alloc' _).belowTrans hb5
                    · rw [HEQ.out, readR_some hk HST4.out, Option.map_map]
                      congr 1
                      funext x
                      simp
              · have he : fkP ky = (zeroC, 1) := by
                  rcases fkP_told ky with e | ⟨row, col, ts, seq, _, _, e, _⟩
                  · exact e
                  · rw [e] at hz; exact absurd rfl hz
                have hst2 : stepR key rest = none := by rw [HST3.out, hst]; exact if_pos (Or.inl hz)
                have HP := Lib.hid (parseR_none (s := s) (by rw [HRS.out, HEQ.out, readR_none hk hst2]; rfl))
                rw [he] at hfk
                rw [show cellV (zeroC, (1 : Int)).1 = .agg #[.string ⟨#[]⟩, .string ⟨#[]⟩, .int .u64 0, .int .u64 0, .bool false, .string ⟨#[]⟩] from rfl] at hfk
                have HFK := Lib.hid hfk
                clear hst hst2 hfk hkok he hz
                go_wp2_with (fail)
                (with_reducible refine HFK.out.mono ?_)
                rintro e w4 ⟨rfl, hf4⟩
                have HF4 := Lib.hid (HF3.out.trans hf4 (by simp))
                clear hf4 HFK
                go_wp2_with (fail)
                rw [codeR_none HP.out, HP.out]
                refine bodyPost_ret (v := .tuple #[.slice none 0 0, .int .i64 50]) (by simp [results, Tryz.results50, go_sem, *]) rfl ⟨_, rfl, OwnC.nil _ _, HF4.out.alloc' _⟩
      · obtain rfl : k = yN.toNat := by omega
        have zk : ¬ (yN.toNat : Int) < (yN.toNat : Int) := by omega
        have hrd : readS s = some acc := by rw [HRS.out, HEQ.out, Nat.sub_self]; show (Option.map _ (some [])) = _; simp
        have HRP := Lib.hid hrd
        obtain ⟨a, cap, rfl, hcs⟩ := HO.out.at HOK.out
        have HBU := Lib.hid (rbuild_any wr a acc.length cap acc hcs (by omega))
        obtain ⟨⟨bs, be⟩, hb⟩ : ∃ t, buildP acc = t := ⟨_, rfl⟩
        rw [hb] at HBU
        have HB := Lib.hid hb
        clear hcs hrd hb
        go_wp2_with (fail)
        (with_reducible refine HBU.out.mono ?_)
        rintro e w2 ⟨rfl, hf2⟩
        have HF2 := Lib.hid (HF.out.trans hf2 (by simp))
        have HO2 := Lib.hid (HO.out.fp hf2 (by simp))
        clear hf2 HBU
        by_cases hbe : be = 0
        · subst hbe
          by_cases hbs : bs = s
          · subst hbs
            have hp : parseR bs = some acc := parseR_some HRP.out (by rw [HB.out]) (by rw [HB.out])
            have HP := Lib.hid hp
            clear hp
            go_wp2_with (fail)
            rw [codeR_some HP.out, HP.out]
            refine bodyPost_ret (v := .tuple #[.slice a acc.length cap, .int .i64 0]) (by simp [results, Tryz.results50, go_sem, *]) rfl ⟨_, rfl, HO2.out, HF2.out⟩
          · have hbb : (bs.toList == s.toList) = false := by rw [beq_eq_false_iff_ne]; exact fun e => hbs (toList_inj' e)
            have hp : parseR s = none := parseR_bad HRP.out (fun h => hbs (by have := h.2; rw [HB.out] at this; exact this))
            have HP := Lib.hid hp
            clear hp
            go_wp2_with (fail)
            rw [codeR_none HP.out, HP.out]
            refine bodyPost_ret (v := .tuple #[.slice none 0 0, .int .i64 50]) (by simp [results, Tryz.results50, go_sem, *]) rfl ⟨_, rfl, OwnC.nil _ _, HF2.out⟩
        · have hbz : ¬ (be : Int) = 0 := by omega
          have hp : parseR s = none := parseR_bad HRP.out (fun h => hbe (by have := h.1; rw [HB.out] at this; exact this))
          have HP := Lib.hid hp
          clear hp
          go_wp2_with (fail)
          rw [codeR_none HP.out, HP.out]
          refine bodyPost_ret (v := .tuple #[.slice none 0 0, .int .i64 50]) (by simp [results, Tryz.results50, go_sem, *]) rfl ⟨_, rfl, OwnC.nil _ _, HF2.out⟩
end

section
open Go.RowKit Go.Lib

theorem bl_pre (x y : List UInt8) (n : Nat) (h : n = x.length) : (bl (x ++ y)).extract 0 n = bl x := by
  rw [bl_extract, List.drop_zero, Nat.sub_zero, h, List.take_left]
theorem bl_post (x y : List UInt8) (n : Nat) (h : n = x.length) : (bl (x ++ y)).extract n (bl (x ++ y)).size = bl y := by
  rw [bl_drop, h, List.drop_left]
theorem bl_mid (x y z : List UInt8) (n m : Nat) (h : n = x.length) (h2 : m = x.length + y.length) : (bl (x ++ (y ++ z))).extract n m = bl y := by
  rw [bl_extract, h, List.drop_left, h2, Nat.add_sub_cancel_left, List.take_left]
theorem take_bl (x y : List UInt8) (n : Nat) (h : n = x.length) (ok : Bool) : (⟨bl (x ++ y), ok⟩ : Rb).take n = (bl x, ⟨bl y, ok⟩) := by
  unfold Rb.take
  rw [if_pos (by rw [bl_size, List.length_append]; omega)]
  rw [bl_pre x y n h, bl_post x y n h]
theorem two_val (n : Nat) (h : n < 65536) : (UInt8.ofNat n).toNat + (UInt8.ofNat (n / 256)).toNat * 256 = n := by
  rw [UInt8.toNat_ofNat', UInt8.toNat_ofNat']
  omega
theorem num_two (n : Nat) (y : List UInt8) (h : n < 65536) (ok : Bool) : (⟨bl (two n ++ y), ok⟩ : Rb).num 2 = (n, ⟨bl y, ok⟩) := by
  unfold Rb.num
  rw [take_bl (two n) y 2 rfl ok]
  have e : leN (bl (two n)) (bl (two n)).size = n := by
    rw [bl_size]
    show leN (bl (two n)) 2 = n
    unfold leN leN leN
    rw [bl_at, bl_at]
    show 0 + (UInt8.ofNat n).toNat * 256 ^ 0 + (UInt8.ofNat (n / 256)).toNat * 256 ^ 1 = n
    have := two_val n h
    omega
  rw [e]
theorem num_one (b : UInt8) (y : List UInt8) (ok : Bool) : (⟨bl (b :: y), ok⟩ : Rb).num 1 = (b.toNat, ⟨bl y, ok⟩) := by
  unfold Rb.num
  rw [show b :: y = [b] ++ y from rfl, take_bl [b] y 1 rfl ok]
  have e : leN (bl [b]) (bl [b]).size = b.toNat := by
    rw [bl_size]
    show leN (bl [b]) 1 = _
    unfold leN leN
    rw [bl_at]
    show 0 + b.toNat * 256 ^ 0 = _
    omega
  rw [e]
theorem share_take : ∀ (a b : List UInt8), a.take (shareL a b) = b.take (shareL a b)
  | [], b => by cases b <;> rfl
  | _ :: _, [] => rfl
  | x :: a, y :: b => by
    unfold shareL
    split
    · rename_i h
      rw [List.take_succ_cons, List.take_succ_cons, h, share_take a b]
    · rfl
theorem share_last (i : Nat) (last key : List UInt8) : shareL (lastAt i last) key ≤ last.length ∧ shareL (lastAt i last) key ≤ key.length ∧ last.take (shareL (lastAt i last) key) = key.take (shareL (lastAt i last) key) := by
  unfold lastAt
  split
  · have : shareL [] key = 0 := by cases key <;> rfl
    rw [this]
    exact ⟨Nat.zero_le _, Nat.zero_le _, rfl⟩
  · exact ⟨(share_le last key).1, (share_le last key).2, share_take last key⟩

def entOf (c : Cel) : Ent := ⟨bl (keyL c), (delN c.del).toNat, c.val⟩
theorem ofNat_small {n : Nat} (h : n < 256) : (UInt8.ofNat n).toNat = n := by rw [UInt8.toNat_ofNat']; omega
theorem entL_eq (i : Nat) (last : List UInt8) (c : Cel) (y : List UInt8) : entL (lastAt i last) c ++ y =
    two (shareL (lastAt i last) (keyL c)) ++ (two ((keyL c).length - shareL (lastAt i last) (keyL c)) ++ ((keyL c).drop (shareL (lastAt i last) (keyL c)) ++ (delN c.del :: (UInt8.ofNat c.val.size :: (c.val.data.toList ++ y))))) := by
  unfold entL
  simp only [List.append_assoc, List.cons_append, List.nil_append]
theorem key_join (i : Nat) (last key : List UInt8) : (bl last).extract 0 (shareL (lastAt i last) key) ++ bl (key.drop (shareL (lastAt i last) key)) = bl key := by
  have h := (share_last i last key).2.2
  rw [bl_extract, List.drop_zero, Nat.sub_zero, h, bl_append, List.take_append_drop]

theorem step_built (i : Nat) (last : List UInt8) (c : Cel) (y : List UInt8) (hm : mayB c = true) : stepE (bl last) ⟨bl (entL (lastAt i last) c ++ y), true⟩ = (some (entOf c), ⟨bl y, true⟩) := by
  have hs := share_last i last (keyL c)
  have hk := key_short hm
  have hv := (may_sizes hm).2.2
  have hj := key_join i last (keyL c)
  rw [entL_eq]
  have hn : shareL (lastAt i last) (keyL c) ≤ (bl last).size := by rw [bl_size]; exact hs.1
  have st := step_near (last := bl last) (num_two _ (two ((keyL c).length - shareL (lastAt i last) (keyL c)) ++ ((keyL c).drop (shareL (lastAt i last) (keyL c)) ++ (delN c.del :: (UInt8.ofNat c.val.size :: (c.val.data.toList ++ y))))) (by omega) true)
    (num_two _ ((keyL c).drop (shareL (lastAt i last) (keyL c)) ++ (delN c.del :: (UInt8.ofNat c.val.size :: (c.val.data.toList ++ y)))) (by omega) true) hn
    (take_bl ((keyL c).drop (shareL (lastAt i last) (keyL c))) (delN c.del :: (UInt8.ofNat c.val.size :: (c.val.data.toList ++ y))) _ (by rw [List.length_drop]) true)
    (num_one _ _ true) (num_one _ _ true) (take_bl c.val.data.toList y _ (by rw [ofNat_small (by omega)]; rfl) true)
  rw [st, hj]
  show (some _, _) = _
  unfold entOf
  rw [bl_data]
theorem ents_built : ∀ (l : List Cel) (i : Nat) (last : List UInt8), l.all mayB = true → entsE l.length (bl last) ⟨bl (bodyL i last l), true⟩ = (l.map entOf, ⟨bl [], true⟩)
  | [], i, last, _ => rfl
  | c :: r, i, last, h => by
    rw [List.all_cons, Bool.and_eq_true] at h
    rw [List.length_cons]
    unfold entsE bodyL
    rw [step_built i last c _ h.1]
    show (entOf c :: _, _) = _
    have := ents_built r (i + 1) (keyL c) h.2
    show (entOf c :: (entsE r.length (bl (keyL c)) ⟨bl (bodyL (i + 1) (keyL c) r), true⟩).1, (entsE r.length (bl (keyL c)) ⟨bl (bodyL (i + 1) (keyL c) r), true⟩).2) = _
    rw [this]
    rfl
theorem fk_built {c : Cel} (hc : CelOK c) (hm : mayB c = true) : fkP (bl (keyL c)) = (coordC c.row c.col c.ts c.seq, 0) := by
  have hM : M64 = 18446744073709551615 := rfl
  exact fkP_key c.row c.col c.ts c.seq (by have := hc.ts; omega) (by have := hc.seq; omega) (may_coord hm)
theorem celE_built {c : Cel} (hc : CelOK c) (hm : mayB c = true) : celE (entOf c) = c := by
  unfold celE entOf
  simp only
  rw [fk_built hc hm]
  obtain ⟨row, col, ts, seq, del, val⟩ := c
  cases del <;> rfl
theorem cels_built : ∀ (l : List Cel), (∀ c ∈ l, CelOK c) → l.all mayB = true → celsE (l.map entOf) = some l
  | [], _, _ => rfl
  | c :: r, hok, h => by
    rw [List.all_cons, Bool.and_eq_true] at h
    have hc := hok c (by simp)
    rw [List.map_cons]
    unfold celsE
    have e : (fkP (entOf c).key).2 = 0 := by unfold entOf; simp only; rw [fk_built hc h.1]
    rw [if_pos e, cels_built r (fun c hc => hok c (List.mem_cons_of_mem _ hc)) h.2, celE_built hc h.1]
    rfl
theorem build_ok {l : List Cel} (h : (buildP l).2 = 0) : l.length ≤ 255 ∧ l.all mayB = true ∧ risC l = true ∧ (buildP l).1 = bl (UInt8.ofNat l.length :: bodyL 0 [] l) := by
  unfold buildP at h ⊢
  split at h
  · cases h
  · split at h
    · cases h
    · split at h
      · cases h
      · rename_i h1 h2 h3
        rw [if_neg h1, if_neg h2, if_neg h3]
        exact ⟨by omega, by simpa using h2, by simpa using h3, rfl⟩
theorem read_built {l : List Cel} (hok : ∀ c ∈ l, CelOK c) (h : (buildP l).2 = 0) : readP (buildP l).1 = some l := by
  obtain ⟨h1, h2, h3, h4⟩ := build_ok h
  rw [h4]
  have hne : (!(bl (UInt8.ofNat l.length :: bodyL 0 [] l)).toList.isEmpty) = true := by
    have : (bl (UInt8.ofNat l.length :: bodyL 0 [] l)).toList = UInt8.ofNat l.length :: bodyL 0 [] l := by
      rw [ByteArray.toList_eq, bl_toList]
    rw [this]; rfl
  rw [read_eq (many := l.length) (r1 := ⟨bl (bodyL 0 [] l), true⟩) (by rw [hne, num_one, ofNat_small (by omega)])]
  have := ents_built l 0 [] h2
  rw [show ByteArray.empty = bl [] from rfl, this]
  exact cels_built l hok h2

/-! ### the reference -/
theorem stepR_built (i : Nat) (last : List UInt8) (c : Cel) (y : List UInt8) (hc : CelOK c) (hm : mayB c = true) : stepR (bl last) (bl (entL (lastAt i last) c ++ y)) = some (bl (keyL c), c, bl y) := by
  have hs := share_last i last (keyL c)
  have hk := key_short hm
  have hv := (may_sizes hm).2.2
  have hj := key_join i last (keyL c)
  rw [entL_eq]
  obtain ⟨n, hn⟩ : ∃ n, shareL (lastAt i last) (keyL c) = n := ⟨_, rfl⟩
  rw [hn] at hs hj ⊢
  obtain ⟨m, hmm⟩ : ∃ m, (keyL c).length - n = m := ⟨_, rfl⟩
  rw [hmm]
  obtain ⟨dk, hdk⟩ : ∃ dk, (keyL c).drop n = dk := ⟨_, rfl⟩
  have hdl : dk.length = m := by rw [← hdk, List.length_drop]; exact hmm
  rw [hdk] at hj ⊢
  obtain ⟨tl, htl⟩ : ∃ tl, delN c.del :: (UInt8.ofNat c.val.size :: (c.val.data.toList ++ y)) = tl := ⟨_, rfl⟩
  have htl2 : tl.length = 2 + c.val.size + y.length := by
    rw [← htl]
    simp only [List.length_cons, List.length_append]
    have : c.val.data.toList.length = c.val.size := rfl
    omega
  rw [htl]
  unfold stepR
  have hsz : (bl (two n ++ (two m ++ (dk ++ tl)))).size = 4 + m + tl.length := by
    rw [bl_size]
    simp only [List.length_append, hdl]
    show 2 + (2 + _) = _
    omega
  rw [if_neg (by rw [hsz]; omega)]
  have e0 : (atB (bl (two n ++ (two m ++ (dk ++ tl)))) 0).toNat + 256 * (atB (bl (two n ++ (two m ++ (dk ++ tl)))) 1).toNat = n := by
    rw [bl_at, bl_at]
    show (UInt8.ofNat n).toNat + 256 * (UInt8.ofNat (n / 256)).toNat = n
    have := two_val n (by omega)
    omega
  have e1 : (atB (bl (two n ++ (two m ++ (dk ++ tl)))) 2).toNat + 256 * (atB (bl (two n ++ (two m ++ (dk ++ tl)))) 3).toNat = m := by
    rw [bl_at, bl_at]
    show (UInt8.ofNat m).toNat + 256 * (UInt8.ofNat (m / 256)).toNat = m
    have := two_val m (by omega)
    omega
  rw [e0, e1]
  unfold stepR2
  rw [if_neg (by rw [hsz, bl_size]; omega)]
  have f1 : (bl (two n ++ (two m ++ (dk ++ tl)))).extract 4 (4 + m) = bl dk := by
    rw [← List.append_assoc]
    exact bl_mid (two n ++ two m) dk tl 4 (4 + m) rfl (by rw [hdl]; rfl)
  have f2 : (bl (two n ++ (two m ++ (dk ++ tl)))).extract (4 + m) (bl (two n ++ (two m ++ (dk ++ tl)))).size = bl tl := by
    have : two n ++ (two m ++ (dk ++ tl)) = (two n ++ two m ++ dk) ++ tl := by simp only [List.append_assoc]
    rw [this]
    exact bl_post (two n ++ two m ++ dk) tl (4 + m) (by simp only [List.length_append, hdl]; rfl)
  rw [f1, f2, hj]
  unfold stepR3
  have g1 : atB (bl tl) 1 = UInt8.ofNat c.val.size := by rw [bl_at, ← htl]; rfl
  have g0 : atB (bl tl) 0 = delN c.del := by rw [bl_at, ← htl]; rfl
  rw [g1, g0, ofNat_small (by omega), fk_built hc hm]
  rw [if_neg (by rw [bl_size]; rintro (h | h); exact h rfl; omega)]
  have h1 : (bl tl).extract 2 (2 + c.val.size) = c.val := by
    rw [← htl]
    have := bl_mid [delN c.del, UInt8.ofNat c.val.size] c.val.data.toList y 2 (2 + c.val.size) rfl rfl
    rw [bl_data] at this
    exact this
  have h2 : (bl tl).extract (2 + c.val.size) (bl tl).size = bl y := by
    rw [← htl]
    exact bl_post (delN c.del :: UInt8.ofNat c.val.size :: c.val.data.toList) y (2 + c.val.size) (by show _ = c.val.size + 1 + 1; omega)
  rw [h1, h2]
  obtain ⟨row, col, ts, seq, del, val⟩ := c
  cases del <;> rfl
theorem readR_built : ∀ (l : List Cel) (i : Nat) (last : List UInt8), (∀ c ∈ l, CelOK c) → l.all mayB = true → readR l.length (bl last) (bl (bodyL i last l)) = some l
  | [], i, last, _, _ => rfl
  | c :: r, i, last, hok, h => by
    rw [List.all_cons, Bool.and_eq_true] at h
    rw [List.length_cons]
    unfold readR bodyL
    rw [stepR_built i last c _ (hok c (by simp)) h.1]
    show Option.map (c :: ·) (readR r.length (bl (keyL c)) (bl (bodyL (i + 1) (keyL c) r))) = _
    rw [readR_built r (i + 1) (keyL c) (fun c hc => hok c (List.mem_cons_of_mem _ hc)) h.2]
    rfl
theorem readS_built {l : List Cel} (hok : ∀ c ∈ l, CelOK c) (h : (buildP l).2 = 0) : readS (buildP l).1 = some l := by
  obtain ⟨h1, h2, h3, h4⟩ := build_ok h
  rw [h4]
  unfold readS
  rw [if_neg (by rw [bl_size]; simp), bl_at]
  show readR (UInt8.ofNat l.length).toNat _ _ = _
  rw [ofNat_small (by omega)]
  have : (bl (UInt8.ofNat l.length :: bodyL 0 [] l)).extract 1 (bl (UInt8.ofNat l.length :: bodyL 0 [] l)).size = bl (bodyL 0 [] l) := bl_post [UInt8.ofNat l.length] (bodyL 0 [] l) 1 rfl
  rw [this]
  exact readR_built l 0 [] hok h2
theorem stepR_ok {key rest key' rest' : ByteArray} {c : Cel} (h : stepR key rest = some (key', c, rest')) (hs : rest.size ≤ 1000000) : CelOK c ∧ rest'.size ≤ rest.size := by
  unfold stepR at h
  split at h
  · cases h
  · unfold stepR2 at h
    split at h
    · cases h
    · unfold stepR3 at h
      split at h
      · cases h
      · rename_i hz
        simp only [Option.some.injEq, Prod.mk.injEq] at h
        obtain ⟨ky, hky⟩ : ∃ ky, key.extract 0 ((atB rest 0).toNat + 256 * (atB rest 1).toNat) ++ rest.extract 4 (4 + ((atB rest 2).toNat + 256 * (atB rest 3).toNat)) = ky := ⟨_, rfl⟩
        obtain ⟨r2, hr2⟩ : ∃ r2, rest.extract (4 + ((atB rest 2).toNat + 256 * (atB rest 3).toNat)) rest.size = r2 := ⟨_, rfl⟩
        have hr2s : r2.size ≤ rest.size := by rw [← hr2]; simp only [ByteArray.size_extract]; omega
        rw [hky, hr2] at h hz
        clear hky hr2
        obtain ⟨_, rfl, rfl⟩ := h
        have hz2 : (fkP ky).2 = 0 := Decidable.byContradiction fun e => hz (Or.inl e)
        have h1 := celE_ok (x := ⟨ky, 0, ByteArray.empty⟩) hz2 (Nat.zero_le _)
        refine ⟨⟨h1.ts, h1.seq, h1.row, h1.col, ?_⟩, ?_⟩
        · simp only [ByteArray.size_extract]; omega
        · simp only [ByteArray.size_extract]; omega
theorem readR_ok : ∀ (k : Nat) (key rest : ByteArray) (l : List Cel), rest.size ≤ 1000000 → readR k key rest = some l → ∀ c ∈ l, CelOK c
  | 0, _, _, l, _, h => by cases h; simp
  | k + 1, key, rest, l, hs, h => by
    unfold readR at h
    split at h
    · cases h
    · rename_i key' c rest' hst
      obtain ⟨l', hl', rfl⟩ := Option.map_eq_some_iff.1 h
      have h1 := stepR_ok hst hs
      intro x hx
      rcases List.mem_cons.1 hx with rfl | hx
      · exact h1.1
      · exact readR_ok k key' rest' l' (by omega) hl' x hx

/-! ### both parsers -/
theorem parse_is {s : ByteArray} {l : List Cel} (h : parseP s = some l) : readP s = some l ∧ (buildP l).2 = 0 ∧ (buildP l).1 = s := by
  unfold parseP at h
  split at h
  · cases h
  · rename_i l' hl
    split at h
    · rename_i hb
      cases h
      exact ⟨hl, hb⟩
    · cases h
theorem parseR_is {s : ByteArray} {l : List Cel} (h : parseR s = some l) : readS s = some l ∧ (buildP l).2 = 0 ∧ (buildP l).1 = s := by
  unfold parseR at h
  split at h
  · cases h
  · rename_i l' hl
    split at h
    · rename_i hb
      cases h
      exact ⟨hl, hb⟩
    · cases h
theorem parse_built {l : List Cel} (hok : ∀ c ∈ l, CelOK c) (h : (buildP l).2 = 0) : parseP (buildP l).1 = some l := parse_some (read_built hok h) h rfl
theorem parseR_built {l : List Cel} (hok : ∀ c ∈ l, CelOK c) (h : (buildP l).2 = 0) : parseR (buildP l).1 = some l := parseR_some (readS_built hok h) h rfl
theorem readP_ok {s : ByteArray} {l : List Cel} (hs : s.size ≤ 100000) (h : readP s = some l) : ∀ c ∈ l, CelOK c := by
  unfold readP at h
  split at h
  · refine cels_ok (fun x hx => ?_) h
    have h1 := (ents_sizes _ _ _ x hx).2
    obtain ⟨⟨n, r1⟩, e⟩ : ∃ t, (⟨s, !s.toList.isEmpty⟩ : Rb).num 1 = t := ⟨_, rfl⟩
    rw [e] at h1
    have h2 := (num_facts e).2
    have : ByteArray.empty.size = 0 := rfl
    simp only at h1 h2
    omega
  · cases h
theorem parse_ok {s : ByteArray} {l : List Cel} (hs : s.size ≤ 100000) (h : parseP s = some l) : ∀ c ∈ l, CelOK c := readP_ok hs (parse_is h).1
theorem parseR_ok {s : ByteArray} {l : List Cel} (hs : s.size ≤ 100000) (h : parseR s = some l) : ∀ c ∈ l, CelOK c := by
  have h1 := (parseR_is h).1
  unfold readS at h1
  split at h1
  · cases h1
  · exact readR_ok _ _ _ _ (by simp only [ByteArray.size_extract]; omega) h1
theorem parse_same {s : ByteArray} (hs : s.size ≤ 100000) : parseR s = parseP s := by
  cases hp : parseP s with
  | some l =>
    obtain ⟨_, h2, h3⟩ := parse_is hp
    have := parseR_built (parse_ok hs hp) h2
    rw [h3] at this
    exact this
  | none =>
    cases hr : parseR s with
    | none => rfl
    | some l =>
      obtain ⟨_, h2, h3⟩ := parseR_is hr
      have := parse_built (parseR_ok hs hr) h2
      rw [h3, hp] at this
      cases this
theorem code_same {s : ByteArray} (hs : s.size ≤ 100000) : codeR s = codeP s := by
  unfold codeR codeP
  rw [parse_same hs]
  cases parseP s <;> rfl
end
end Go.Proofs.YtjnapcfclejknaaGreatDoor
