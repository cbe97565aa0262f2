/-
  The reference of layer 4: two, Build.
-/
import Derived.Test.YtjnapcfclejknaaGreatDoorBlkC
import Derived.Test.YtjnapcfclejknaaGreatDoorRefH
import Derived.Test.YtjnapcfclejknaaGreatDoorRegionN
namespace Go.Proofs.YtjnapcfclejknaaGreatDoor
open Go.RowKit Go.Lib

theorem ofNat_mod (n : Nat) : UInt8.ofNat (n % 256) = UInt8.ofNat n := by
  apply UInt8.toNat_inj.1
  rw [UInt8.toNat_ofNat', UInt8.toNat_ofNat']
  omega
set_option maxRecDepth 100000 in
theorem rtwo_any (n : Nat) (w : World) (hn : n ≤ 65535) : Calls Tryz.prog 72 #[.int .i64 n] w fun e w' => e = .returned (.string (bl (two n))) ∧ Fp [] w w' := by
  have HT : Hid (two n = [UInt8.ofNat (n % 256), UInt8.ofNat (n / 256)]) := by unfold Hid two; rw [ofNat_mod]
  obtain ⟨p, hp⟩ : ∃ p, n % 256 = p := ⟨_, rfl⟩
  obtain ⟨q, hq⟩ : ∃ q, n / 256 = q := ⟨_, rfl⟩
  have e1 : (n : Int) % 256 = (p : Int) := by omega
  have e2 : (n : Int) / 256 = (q : Int) := by omega
  have h1 : p < 256 := by omega
  have h2 : q < 256 := by omega
  have w1 : IntKind.u8.wrap (p : Int) = (p : Int) := by rw [IntKind.wrap_u8]; omega
  have w2 : IntKind.u8.wrap (q : Int) = (q : Int) := by rw [IntKind.wrap_u8]; omega
  have cv := conv2 (w := w.alloc (.cells #[.int .u8 p, .int .u8 q] 5)) (g := w.heap.size) (n := p) (m := q) (heap_alloc_at rfl _) h1 h2
  rw [hp, hq] at HT
  obtain ⟨r, hr⟩ : ∃ r, bl [UInt8.ofNat p, UInt8.ofNat q] = r := ⟨_, rfl⟩
  rw [hr] at cv
  have HR := Lib.hid hr
  clear hp hq hr
  go_enter Tryz.func72, Tryz.ntmps72
  go_wp2_with (fail)
  go_ret
  exact ⟨by rw [HT.out, HR.out]; rfl, Fp.alloc _ _⟩

theorem append_data' (a b : ByteArray) : (a ++ b).data.toList = a.data.toList ++ b.data.toList := by simp
theorem dat_inj {a b : ByteArray} (h : a.data.toList = b.data.toList) : a = b := by
  obtain ⟨⟨a⟩⟩ := a
  obtain ⟨⟨b⟩⟩ := b
  simpa using h
def prevK (l : List Cel) (k : Nat) : List UInt8 := keyL (l.getD (k - 1) zeroC)
theorem body_prev (l : List Cel) (x : List UInt8) : bodyL 0 x l = bodyL 0 [] l := by
  cases l with
  | nil => rfl
  | cons c r => rfl

set_option maxRecDepth 100000 in
set_option maxHeartbeats 16000000 in
theorem rbuild_any (w : World) (a : Option Addr) (len cap : Nat) (l : List Cel) (hl : CelsAt w a len l) (hn : len ≤ 9223372036854775807) :
    Calls Tryz.prog 31 #[.slice a len cap] w fun e w' => e = .returned (.tuple #[.string (buildP l).1, .int .i64 ((buildP l).2 : Nat)]) ∧ Fp [] w w' := by
  have HL := Lib.hid hl
  have HLEN := Lib.hid hl.len
  have HRI := Lib.hid (fun w hl => rrising_any w a len cap l hl hn)
  clear hl
  by_cases h255 : len > 255
  · have z : (len : Int) > 255 := by omega
    have HR := Lib.hid (build_wide (l := l) (by rw [← HLEN.out]; exact h255))
    go_enter Tryz.func31, Tryz.ntmps31
    go_wp2_with (fail)
    go_ret2
    rw [HR.out]
    exact ⟨rfl, Fp.refl _ _⟩
  have z : ¬ (len : Int) > 255 := by omega
  have hl255 : ¬ l.length > 255 := by rw [← HLEN.out]; exact h255
  go_enter Tryz.func31, Tryz.ntmps31
  go_wp2_with (fail)
  go_loopg [4] len (fun g vi wr => ∃ k : Nat, g + k = len ∧ vi = .int .i64 k ∧ Fp [] w wr ∧ ∀ i (hi : i < l.length), i < k → mayB l[i] = true)
  case atStart => exact ⟨0, rfl, rfl, Fp.refl _ _, by intro i _ h; omega⟩
  case round =>
    obtain ⟨k, hg, rfl, hf, hall⟩ := hrel
    have HF := Lib.hid hf
    have HALL := Lib.hid hall
    clear hf hall
    by_cases hk : k < len
    · have hkl : k < l.length := by rw [← HLEN.out]; exact hk
      obtain ⟨b1, o1, rfl, hb1, hcells⟩ := cels_get HL.out hkl
      obtain ⟨c, hc⟩ : ∃ c, l[k] = c := ⟨_, rfl⟩
      have hcm : c ∈ l := by rw [← hc]; exact List.getElem_mem hkl
      have HOK := Lib.hid (HL.out.ok c hcm)
      have HMA := Lib.hid (fun w => rmay_any c w HOK.out)
      have HNO : Hid (mayB c = false → buildP l = (⟨#[]⟩, 1)) := fun h => build_may hl255 (by
        rw [List.all_eq_false]
        exact ⟨c, hcm, by simp [h]⟩)
      have HYES : Hid (mayB c = true → ∀ i (hi : i < l.length), i < k + 1 → mayB l[i] = true) := fun h i hi hik => by
        by_cases e : i = k
        · subst e; rw [hc]; exact h
        · exact HALL.out i hi (by omega)
      rw [hc] at hcells
      obtain ⟨q0, q1, q2, q3, q4, q5⟩ := hcells wr HF.out
      clear hcells hc hcm
      obtain ⟨m, hm⟩ : ∃ m, mayB c = m := ⟨_, rfl⟩
      rw [hm] at HNO HYES HMA
      clear hm
      obtain ⟨row, col, ts, seq, del, val⟩ := c
      rw [show cellV (⟨row, col, ts, seq, del, val⟩ : Cel) = .agg #[.string row, .string col, .int .u64 ts, .int .u64 seq, .bool del, .string val] from rfl] at HMA
      go_wp2_with (fail)
      (with_reducible refine (HMA.out _).mono ?_)
      rintro e w2 ⟨rfl, hf⟩
      have HF2 := Lib.hid (HF.out.trans hf (by simp))
      clear hf
      cases m
      · have HA := Lib.hid (HNO.out rfl)
        go_wp2_with (fail)
        go_ret2
        rw [HA.out]
        exact ⟨rfl, HF2.out⟩
      · have HA := Lib.hid (HYES.out rfl)
        go_wp2_with (fail)
        go_roundg (gk - 1)
        case measure => omega
        case rel => exact ⟨k + 1, by omega, by simp, HF2.out, HA.out⟩
    · have hkn : ¬ (k : Int) < (len : Int) := by omega
      have HMA : Hid (l.all mayB = true) := by
        unfold Hid
        rw [List.all_eq_true]
        intro x hx
        obtain ⟨i, hi, rfl⟩ := List.getElem_of_mem hx
        exact HALL.out i hi (by have := HLEN.out; omega)
      clear HALL
      go_wp2_with (fail)
      (with_reducible refine (HRI.out _ (HL.out.fp HF.out)).mono ?_)
      rintro e w2 ⟨rfl, hf⟩
      have HF2 := Lib.hid (HF.out.trans hf (by simp))
      clear hf HF
      cases hri : risC l
      · have HR := Lib.hid (build_ris hl255 HMA.out hri)
        go_wp2_with (fail)
        go_ret2
        rw [HR.out]
        exact ⟨rfl, HF2.out⟩
      have HR := Lib.hid (build_yes hl255 HMA.out hri)
      clear hri
      have z8 : IntKind.u8.wrap (len : Int) = (len : Int) := by rw [IntKind.wrap_u8]; omega
      have cv := conv1 (w := w2.alloc (.cells #[.int .u8 len] 5)) (g := w2.heap.size) (n := len) (heap_alloc_at rfl _) (by omega)
      obtain ⟨s0, hs0⟩ : ∃ s0, bl [UInt8.ofNat len] = s0 := ⟨_, rfl⟩
      rw [hs0] at cv
      have HS0 := Lib.hid hs0
      have hs0z : s0.size = 1 := by rw [← hs0]; rfl
      clear hs0
      have HF3 := Lib.hid (HF2.out.alloc' (.cells #[.int .u8 len] 5))
      go_wp2_with (fail)
      go_loopg [5, 6] len (fun g vs vi wr => ∃ (k : Nat) (acc : ByteArray), g + k = len ∧ vi = .int .i64 k ∧ vs = .string acc ∧ Fp [] w wr ∧ bl (UInt8.ofNat l.length :: bodyL 0 [] l) = acc ++ bl (bodyL k (prevK l k) (l.drop k)) ∧ acc.size ≤ 1 + k * 400)
      case atStart => exact ⟨0, s0, rfl, rfl, rfl, HF3.out, by rw [← HS0.out, HLEN.out, bl_append]; show bl (_ :: bodyL 0 [] l) = bl (_ :: bodyL 0 (prevK l 0) l); rw [body_prev l (prevK l 0)], by omega⟩
      case round =>
        clear hk hkn hg
        obtain ⟨k, acc, hg, rfl, rfl, hf, hgo, hacc⟩ := hrel
        have HF := Lib.hid hf
        have HGO := Lib.hid hgo
        clear hf hgo
        by_cases hk : k < len
        · have hkl : k < l.length := by rw [← HLEN.out]; exact hk
          obtain ⟨b1, o1, rfl, hb1, hcells⟩ := cels_get HL.out hkl
          obtain ⟨c, hc⟩ : ∃ c, l[k] = c := ⟨_, rfl⟩
          have HD : Hid (l.drop k = c :: l.drop (k + 1)) := by unfold Hid; rw [← hc]; exact List.drop_eq_getElem_cons hkl
          have hcm : c ∈ l := by rw [← hc]; exact List.getElem_mem hkl
          have HOK := Lib.hid (HL.out.ok c hcm)
          have hmay : mayB c = true := List.all_eq_true.1 HMA.out c hcm
          have hks := key_short hmay
          have hvs := (may_sizes hmay).2.2
          have HPK : Hid (prevK l (k + 1) = keyL c) := by unfold Hid prevK; rw [Nat.add_sub_cancel, List.getD_eq_getElem?_getD, List.getElem?_eq_getElem hkl, hc]; rfl
          rw [hc] at hcells
          have HCE := Lib.hid hcells
          obtain ⟨q0, q1, q2, q3, q4, q5⟩ := hcells wr HF.out
          have hkb : keyB c = bl (keyL c) := by unfold keyB; rw [if_pos hmay]; rfl
          have HKE := Lib.hid (fun w => rkey_any c w HOK.out)
          rw [hkb] at HKE
          obtain ⟨ky, hky⟩ : ∃ ky : ByteArray, bl (keyL c) = ky := ⟨_, rfl⟩
          have HKY : Hid (ky.data.toList = keyL c) := by unfold Hid; rw [← hky, bl_toList]
          have hkz : ky.size ≤ 180 := by rw [← hky, bl_size]; exact hks
          rw [hky] at HKE
          have HSH := Lib.hid (fun (x : ByteArray) w h1 => rshared_any x ky w h1 (by omega))
          clear hcells hc hcm hks hky hmay hkb
          obtain ⟨row, col, ts, seq, del, val⟩ := c
          have hvz : val.size ≤ 100 := hvs
          rw [show cellV (⟨row, col, ts, seq, del, val⟩ : Cel) = .agg #[.string row, .string col, .int .u64 ts, .int .u64 seq, .bool del, .string val] from rfl] at HKE
          have hwr3 : IntKind.u8.wrap (val.size : Int) = (val.size : Int) := by rw [IntKind.wrap_u8]; omega
          clear hvs
          cases del
          · by_cases h4 : k % 4 = 0
            · have e4 : (k : Int) % 4 = 0 := by omega
              have HLA : Hid (lastAt k (prevK l k) = []) := by unfold Hid lastAt; rw [if_pos h4]
              go_wp2_with (fail)
              (with_reducible refine (HKE.out _).mono ?_)
              rintro e w4 ⟨rfl, hf⟩
              have HF4 := Lib.hid (HF.out.trans hf (by simp))
              clear hf
              have HE0 : Hid (entL (lastAt k (prevK l k)) ⟨row, col, ts, seq, false, val⟩ = two 0 ++ two ky.size ++ ky.data.toList ++ [delN false, UInt8.ofNat val.size] ++ val.data.toList) := by
                unfold Hid entL
                rw [HLA.out, show keyL ⟨row, col, ts, seq, false, val⟩ = ky.data.toList from HKY.out.symm]
                rfl
              have hex : ky.extract 0 ky.size = ky := ByteArray.extract_zero_size
              have hx0 : IntKind.i64.wrap (ky.size : Int) = (ky.size : Int) := by rw [IntKind.wrap_i64]; omega
              have M1 : Hid (∀ w, Calls Tryz.prog 72 #[.int .i64 0] w fun e w' => e = .returned (.string (bl (two 0))) ∧ Fp [] w w') := fun w => rtwo_any 0 w (by decide)
              have M2 := Lib.hid (fun w => rtwo_any ky.size w (by omega))
              have b1z : (bl (two 0)).size = 2 := rfl
              have b2z : (bl (two ky.size)).size = 2 := rfl
              obtain ⟨b1, hb1⟩ : ∃ b, bl (two 0) = b := ⟨_, rfl⟩
              obtain ⟨b2, hb2⟩ : ∃ b, bl (two ky.size) = b := ⟨_, rfl⟩
              rw [hb1] at M1 b1z
              rw [hb2] at M2 b2z
              have HB12 : Hid (b1 ++ b2 = bl (two 0 ++ two ky.size)) := by unfold Hid; rw [← hb1, ← hb2, bl_append]
              have HTL : Hid (ky.data.toList = ky.data.toList) := rfl
              clear hb1 hb2
              have cv := fun (w : World) (g : Nat) hg => conv2 (w := w) (g := g) (n := 0) (m := val.size) hg (by decide) (by omega)
              obtain ⟨b3, hb3⟩ : ∃ b, bl [UInt8.ofNat 0, UInt8.ofNat val.size] = b := ⟨_, rfl⟩
              have b3z : b3.size = 2 := by rw [← hb3]; rfl
              rw [hb3] at cv
              have CV := Lib.hid cv
              have HB3 := Lib.hid hb3
              clear cv hb3 q0 q1 q2 q3 q4 q5
              obtain ⟨q0, q1, q2, q3, q4, q5⟩ := HCE.out _ HF4.out
              go_wp2_with (fail)
              refine wp_region_n (fun _ w' => Fp [] w4 w') (Fp []) (by kernel_rfl) (by kernel_rfl) (Fp.drew _) ?_
              -- 0
              apply nx_plain (fun _ _ h => h) rfl rfl rfl
              · intro b a w hC hA K hK
                have h5 := hA.free 5 _ (by kernel_rfl) rfl
                simp only [Oper.wp, execOp]; go_simp
                exact hK _ hC (Fp.refl _ _)
              -- 1
              apply nx_plain (fun _ _ h => h) rfl rfl rfl
              · intro b a w hC hA K hK
                have h8 := hA.free 8 _ (by kernel_rfl) rfl
                simp only [Oper.wp, execOp]; go_simp
                exact hK _ hC (Fp.refl _ _)
              -- 2
              apply nx_plain (fun _ _ h => h) rfl rfl rfl
              · intro b a w hC hA K hK
                have h61 : a.tmps[61]?.getD undef = _ := hA.dep 1 61 _ (by kernel_rfl) rfl
                simp only [Oper.wp, execOp]; go_simp
                first
                  | ((with_reducible refine (M1.out _).mono ?_); rintro e w2 ⟨rfl, hf⟩; exact hK _ (hC.trans hf (by simp)) hf)
                  | ((with_reducible refine (M2.out _).mono ?_); rintro e w2 ⟨rfl, hf⟩; exact hK _ (hC.trans hf (by simp)) hf)
              -- 3
              apply nx_plain (fun _ _ h => h) rfl rfl rfl
              · intro b a w hC hA K hK
                have h60 : a.tmps[60]?.getD undef = _ := hA.dep 0 60 _ (by kernel_rfl) rfl
                have h62 : a.tmps[62]?.getD undef = _ := hA.dep 2 62 _ (by kernel_rfl) rfl
                simp only [Oper.wp, execOp]; go_simp
                rw [if_neg (by first | omega | (simp only [ByteArray.size_append]; omega))]
                exact hK _ hC (Fp.refl _ _)
              -- 4
              apply nx_plain (fun _ _ h => h) rfl rfl rfl
              · intro b a w hC hA K hK
                have h7 := hA.free 7 _ (by kernel_rfl) rfl
                simp only [Oper.wp, execOp]; go_simp
                exact hK _ hC (Fp.refl _ _)
              -- 5
              apply nx_plain (fun _ _ h => h) rfl rfl rfl
              · intro b a w hC hA K hK
                have h64 : a.tmps[64]?.getD undef = _ := hA.dep 4 64 _ (by kernel_rfl) rfl
                simp only [Oper.wp, execOp]; go_simp
                exact hK _ hC (Fp.refl _ _)
              -- 6
              apply nx_plain (fun _ _ h => h) rfl rfl rfl
              · intro b a w hC hA K hK
                have h8 := hA.free 8 _ (by kernel_rfl) rfl
                simp only [Oper.wp, execOp]; go_simp
                exact hK _ hC (Fp.refl _ _)
              -- 7
              apply nx_plain (fun _ _ h => h) rfl rfl rfl
              · intro b a w hC hA K hK
                have h65 : a.tmps[65]?.getD undef = _ := hA.dep 5 65 _ (by kernel_rfl) rfl
                have h66 : a.tmps[66]?.getD undef = _ := hA.dep 6 66 _ (by kernel_rfl) rfl
                simp only [Oper.wp, execOp]; go_simp
                exact hK _ hC (Fp.refl _ _)
              -- 8
              apply nx_plain (fun _ _ h => h) rfl rfl rfl
              · intro b a w hC hA K hK
                have h67 : a.tmps[67]?.getD undef = _ := hA.dep 7 67 _ (by kernel_rfl) rfl
                simp only [Oper.wp, execOp]; go_simp
                first
                  | ((with_reducible refine (M1.out _).mono ?_); rintro e w2 ⟨rfl, hf⟩; exact hK _ (hC.trans hf (by simp)) hf)
                  | ((with_reducible refine (M2.out _).mono ?_); rintro e w2 ⟨rfl, hf⟩; exact hK _ (hC.trans hf (by simp)) hf)
              -- 9
              apply nx_plain (fun _ _ h => h) rfl rfl rfl
              · intro b a w hC hA K hK
                have h63 : a.tmps[63]?.getD undef = _ := hA.dep 3 63 _ (by kernel_rfl) rfl
                have h68 : a.tmps[68]?.getD undef = _ := hA.dep 8 68 _ (by kernel_rfl) rfl
                simp only [Oper.wp, execOp]; go_simp
                rw [if_neg (by first | omega | (simp only [ByteArray.size_append]; omega))]
                exact hK _ hC (Fp.refl _ _)
              -- 10
              apply nx_plain (fun _ _ h => h) rfl rfl rfl
              · intro b a w hC hA K hK
                have h7 := hA.free 7 _ (by kernel_rfl) rfl
                simp only [Oper.wp, execOp]; go_simp
                exact hK _ hC (Fp.refl _ _)
              -- 11
              apply nx_plain (fun _ _ h => h) rfl rfl rfl
              · intro b a w hC hA K hK
                have h8 := hA.free 8 _ (by kernel_rfl) rfl
                simp only [Oper.wp, execOp]; go_simp
                exact hK _ hC (Fp.refl _ _)
              -- 12
              apply nx_plain (fun _ _ h => h) rfl rfl rfl
              · intro b a w hC hA K hK
                have h70 : a.tmps[70]?.getD undef = _ := hA.dep 10 70 _ (by kernel_rfl) rfl
                have h71 : a.tmps[71]?.getD undef = _ := hA.dep 11 71 _ (by kernel_rfl) rfl
                simp only [Oper.wp, execOp]; go_simp
                exact hK _ hC (Fp.refl _ _)
              -- 13
              apply nx_plain (fun _ _ h => h) rfl rfl rfl
              · intro b a w hC hA K hK
                have h69 : a.tmps[69]?.getD undef = _ := hA.dep 9 69 _ (by kernel_rfl) rfl
                have h72 : a.tmps[72]?.getD undef = _ := hA.dep 12 72 _ (by kernel_rfl) rfl
                simp only [Oper.wp, execOp]; go_simp
                rw [if_neg (by first | omega | (simp only [ByteArray.size_append]; omega))]
                exact hK _ hC (Fp.refl _ _)
              -- 14
              apply nx_plain (fun _ _ h => h) rfl rfl rfl
              · intro b a w hC hA K hK
                have h9 := hA.free 9 _ (by kernel_rfl) rfl
                simp only [Oper.wp, execOp]; go_simp
                exact hK _ hC (Fp.refl _ _)
              -- 15
              apply nx_plain (fun _ _ h => h) rfl rfl rfl
              · intro b a w hC hA K hK
                have h0 := hA.free 0 _ (by kernel_rfl) rfl
                simp only [Oper.wp, execOp]; go_simp
                exact hK _ hC (Fp.refl _ _)
              -- 16
              apply nx_plain (fun _ _ h => h) rfl rfl rfl
              · intro b a w hC hA K hK
                have h6 := hA.free 6 _ (by kernel_rfl) rfl
                simp only [Oper.wp, execOp]; go_simp
                exact hK _ hC (Fp.refl _ _)
              -- 17
              apply nx_plain (fun _ _ h => h) rfl rfl rfl
              · intro b a w hC hA K hK
                have h75 : a.tmps[75]?.getD undef = _ := hA.dep 15 75 _ (by kernel_rfl) rfl
                have h76 : a.tmps[76]?.getD undef = _ := hA.dep 16 76 _ (by kernel_rfl) rfl
                obtain ⟨k0, k1, k2, k3, k4, k5⟩ := HCE.out _ (HF4.out.trans hC (by simp))
                simp only [Oper.wp, execOp]; go_simp
                exact hK _ hC (Fp.refl _ _)
              -- 18
              apply nx_plain (fun _ _ h => h) rfl rfl rfl
              · intro b a w hC hA K hK
                have h77 : a.tmps[77]?.getD undef = _ := hA.dep 17 77 _ (by kernel_rfl) rfl
                simp only [Oper.wp, execOp]; go_simp
                exact hK _ hC (Fp.refl _ _)
              -- 19
              apply nx_plain (fun _ _ h => h) rfl rfl rfl
              · intro b a w hC hA K hK
                have h78 : a.tmps[78]?.getD undef = _ := hA.dep 18 78 _ (by kernel_rfl) rfl
                obtain ⟨k0, k1, k2, k3, k4, k5⟩ := HCE.out _ (HF4.out.trans hC (by simp))
                simp only [Oper.wp, execOp]; go_simp
                exact hK _ hC (Fp.refl _ _)
              -- 20
              apply nx_plain (fun _ _ h => h) rfl rfl rfl
              · intro b a w hC hA K hK
                have h79 : a.tmps[79]?.getD undef = _ := hA.dep 19 79 _ (by kernel_rfl) rfl
                simp only [Oper.wp, execOp]; go_simp
                exact hK _ hC (Fp.refl _ _)
              -- 21
              apply nx_plain (fun _ _ h => h) rfl rfl rfl
              · intro b a w hC hA K hK
                have h80 : a.tmps[80]?.getD undef = _ := hA.dep 20 80 _ (by kernel_rfl) rfl
                simp only [Oper.wp, execOp]; go_simp
                exact hK _ hC (Fp.refl _ _)
              -- 22
              apply nx_turn (fun w' v => ∃ g, v = .slice (some ⟨g, 0, none⟩) 2 2 ∧ w'.heap[g]? = some (.cells #[.int .u8 0, .int .u8 val.size] 5 (0, 0))) rfl rfl rfl
              · intro b a w hC hA K hK
                have h74 : a.tmps[74]?.getD undef = _ := hA.dep 14 74 _ (by kernel_rfl) rfl
                have h81 : a.tmps[81]?.getD undef = _ := hA.dep 21 81 _ (by kernel_rfl) rfl
                simp only [Oper.wp, execOp]; go_simp
                exact hK _ _ (hC.alloc' _) (Fp.alloc _ _) ⟨_, rfl, heap_alloc_at rfl _⟩
              -- 23
              apply nx_plain (fun _ _ h => h) rfl rfl rfl
              · intro b a w hC hA K hK
                have h82 := hA.dep 22 82 _ (by kernel_rfl) rfl
                obtain ⟨g, h82, hg⟩ := h82
                have hcv := CV.out _ _ hg
                simp only [Oper.wp, execOp]; go_simp
                exact hK _ hC (Fp.refl _ _)
              -- 24
              apply nx_plain (fun _ _ h => h) rfl rfl rfl
              · intro b a w hC hA K hK
                have h73 : a.tmps[73]?.getD undef = _ := hA.dep 13 73 _ (by kernel_rfl) rfl
                have h83 : a.tmps[83]?.getD undef = _ := hA.dep 23 83 _ (by kernel_rfl) rfl
                simp only [Oper.wp, execOp]; go_simp
                rw [if_neg (by first | omega | (simp only [ByteArray.size_append]; omega))]
                exact hK _ hC (Fp.refl _ _)
              -- 25
              apply nx_plain (fun _ _ h => h) rfl rfl rfl
              · intro b a w hC hA K hK
                have h0 := hA.free 0 _ (by kernel_rfl) rfl
                simp only [Oper.wp, execOp]; go_simp
                exact hK _ hC (Fp.refl _ _)
              -- 26
              apply nx_plain (fun _ _ h => h) rfl rfl rfl
              · intro b a w hC hA K hK
                have h6 := hA.free 6 _ (by kernel_rfl) rfl
                simp only [Oper.wp, execOp]; go_simp
                exact hK _ hC (Fp.refl _ _)
              -- 27
              apply nx_plain (fun _ _ h => h) rfl rfl rfl
              · intro b a w hC hA K hK
                have h85 : a.tmps[85]?.getD undef = _ := hA.dep 25 85 _ (by kernel_rfl) rfl
                have h86 : a.tmps[86]?.getD undef = _ := hA.dep 26 86 _ (by kernel_rfl) rfl
                obtain ⟨k0, k1, k2, k3, k4, k5⟩ := HCE.out _ (HF4.out.trans hC (by simp))
                simp only [Oper.wp, execOp]; go_simp
                exact hK _ hC (Fp.refl _ _)
              -- 28
              apply nx_plain (fun _ _ h => h) rfl rfl rfl
              · intro b a w hC hA K hK
                have h87 : a.tmps[87]?.getD undef = _ := hA.dep 27 87 _ (by kernel_rfl) rfl
                simp only [Oper.wp, execOp]; go_simp
                exact hK _ hC (Fp.refl _ _)
              -- 29
              apply nx_plain (fun _ _ h => h) rfl rfl rfl
              · intro b a w hC hA K hK
                have h88 : a.tmps[88]?.getD undef = _ := hA.dep 28 88 _ (by kernel_rfl) rfl
                obtain ⟨k0, k1, k2, k3, k4, k5⟩ := HCE.out _ (HF4.out.trans hC (by simp))
                simp only [Oper.wp, execOp]; go_simp
                exact hK _ hC (Fp.refl _ _)
              -- 30
              apply nx_plain (fun _ _ h => h) rfl rfl rfl
              · intro b a w hC hA K hK
                have h84 : a.tmps[84]?.getD undef = _ := hA.dep 24 84 _ (by kernel_rfl) rfl
                have h89 : a.tmps[89]?.getD undef = _ := hA.dep 29 89 _ (by kernel_rfl) rfl
                simp only [Oper.wp, execOp]; go_simp
                rw [if_neg (by first | omega | (simp only [ByteArray.size_append]; omega))]
                exact hK _ hC (Fp.refl _ _)
              -- 31
              apply nx_plain (fun _ _ h => h) rfl rfl rfl
              · intro b a w hC hA K hK
                have h90 : a.tmps[90]?.getD undef = _ := hA.dep 30 90 _ (by kernel_rfl) rfl
                simp only [Oper.wp, execOp]; go_simp
                exact hK _ hC (Fp.refl _ _)
              refine ⟨?_, ?_⟩
              · repeat (first | exact trivial | refine stabN_val _ ?_ | refine ⟨fun w1 w2 v hf ⟨g, h1, h2⟩ => ⟨g, h1, (hf.block g (heap_lt h2) (by simp)).trans h2⟩, ?_⟩)
              · intro w' bb hC hbb
                simp only [List.reverse_cons, List.reverse_nil, List.nil_append, List.cons_append]
                iterate 22 (refine all_val ?_)
                refine all_some ?_
                intro v22 u22
                iterate 9 (refine all_val ?_)
                refine all_nil ?_
                simp only [putAll, Act.put, List.setIfInBounds_toArray, List.set_cons_succ, List.set_cons_zero]
                have HF5 := Lib.hid (HF4.out.trans hC (by simp))
                clear hC
                go_wp2_with (fail)
                go_roundg (len - (k + 1))
                case measure => omega
                case rel =>
                  refine ⟨k + 1, _, by omega, by simp, rfl, HF5.out, ?_, ?_⟩
                  · rw [HGO.out, HD.out, show bodyL k (prevK l k) (⟨row, col, ts, seq, false, val⟩ :: l.drop (k + 1)) = entL (lastAt k (prevK l k)) ⟨row, col, ts, seq, false, val⟩ ++ bodyL (k + 1) (keyL ⟨row, col, ts, seq, false, val⟩) (l.drop (k + 1)) from rfl, HE0.out, HPK.out]
                    have h12 := congrArg (fun x => x.data.toList) HB12.out
                    simp only [bl_toList] at h12
                    rw [append_data'] at h12
                    have h3 := congrArg (fun x => x.data.toList) HB3.out
                    simp only [bl_toList] at h3
                    apply dat_inj
                    simp only [append_data', bl_toList, List.append_assoc]
                    rw [← h3, ← List.append_assoc b1.data.toList, h12]
                    simp only [List.append_assoc, List.cons_append, List.nil_append]
                    rfl
                  · simp only [ByteArray.size_append]
                    omega
            · have e4 : ¬ (k : Int) % 4 = 0 := by omega
              have HLA : Hid (lastAt k (prevK l k) = prevK l k) := by unfold Hid lastAt; rw [if_neg h4]
              obtain ⟨j, hj⟩ : ∃ j, k = j + 1 := ⟨k - 1, by omega⟩
              have hjl : j < l.length := by omega
              have hji : (k : Int) - 1 = (j : Int) := by omega
              have hjb : (j : Int) < (len : Int) := by omega
              obtain ⟨p, hpc⟩ : ∃ p, l[j] = p := ⟨_, rfl⟩
              have hpm : p ∈ l := by rw [← hpc]; exact List.getElem_mem hjl
              have HPK2 : Hid (prevK l k = keyL p) := by unfold Hid prevK; rw [hj, Nat.add_sub_cancel, List.getD_eq_getElem?_getD, List.getElem?_eq_getElem hjl, hpc]; rfl
              have HOK2 := Lib.hid (HL.out.ok p hpm)
              have hmay2 : mayB p = true := List.all_eq_true.1 HMA.out p hpm
              have hks2 := key_short hmay2
              have hkb2 : keyB p = bl (keyL p) := by unfold keyB; rw [if_pos hmay2]; rfl
              have HKE2 := Lib.hid (fun w => rkey_any p w HOK2.out)
              rw [hkb2] at HKE2
              obtain ⟨kp, hkp⟩ : ∃ kp : ByteArray, bl (keyL p) = kp := ⟨_, rfl⟩
              have HKP : Hid (kp.data.toList = keyL p) := by unfold Hid; rw [← hkp, bl_toList]
              have hkpz : kp.size ≤ 180 := by rw [← hkp, bl_size]; exact hks2
              rw [hkp] at HKE2
              obtain ⟨b3, o3, hbb, hb3, hpcells⟩ := cels_get HL.out hjl
              obtain ⟨rfl, rfl⟩ : b3 = b1 ∧ o3 = o1 := by simpa [eq_comm] using hbb
              rw [hpc] at hpcells
              have HCP := Lib.hid hpcells
              clear hpcells hpc hpm hks2 hkp hmay2 hkb2 hbb hj
              obtain ⟨prow, pcol, pts, pseq, pdel, pval⟩ := p
              rw [show cellV (⟨prow, pcol, pts, pseq, pdel, pval⟩ : Cel) = .agg #[.string prow, .string pcol, .int .u64 pts, .int .u64 pseq, .bool pdel, .string pval] from rfl] at HKE2
              go_wp2_with (fail)
              (with_reducible refine (HKE.out _).mono ?_)
              rintro e w41 ⟨rfl, hf⟩
              have HF41 := Lib.hid (HF.out.trans hf (by simp))
              clear hf
              obtain ⟨p0, p1, p2, p3, p4, p5⟩ := HCP.out _ HF41.out
              go_wp2_with (fail)
              (with_reducible refine (HKE2.out _).mono ?_)
              rintro e w42 ⟨rfl, hf⟩
              have HF42 := Lib.hid (HF41.out.trans hf (by simp))
              clear hf p0 p1 p2 p3 p4 p5
              go_wp2_with (fail)
              (with_reducible refine (HSH.out kp _ (by omega)).mono ?_)
              rintro e w4 ⟨rfl, hf⟩
              have HF4 := Lib.hid (HF42.out.trans hf (by simp))
              clear hf
              have hsl := share_le kp.data.toList ky.data.toList
              have HE0 : Hid (entL (lastAt k (prevK l k)) ⟨row, col, ts, seq, false, val⟩ = two (shareB kp ky) ++ two (ky.size - shareB kp ky) ++ (ky.extract (shareB kp ky) ky.size).data.toList ++ [delN false, UInt8.ofNat val.size] ++ val.data.toList) := by
                unfold Hid entL
                rw [HLA.out, HPK2.out, ← HKP.out, show keyL ⟨row, col, ts, seq, false, val⟩ = ky.data.toList from HKY.out.symm, extract_to_end]
                rfl
              have hkd : ky.data.toList.length = ky.size := rfl
              have hsle : shareB kp ky ≤ ky.size := by unfold shareB; omega
              obtain ⟨n, hn⟩ : ∃ n, shareB kp ky = n := ⟨_, rfl⟩
              rw [hn] at hsle HE0
              rw [hn]
              obtain ⟨m, hm⟩ : ∃ m, ky.size - n = m := ⟨_, rfl⟩
              have em : (ky.size : Int) - (n : Int) = (m : Int) := by omega
              obtain ⟨tl, htl⟩ : ∃ tl, ky.extract n ky.size = tl := ⟨_, rfl⟩
              have htz : tl.size ≤ 180 := by rw [← htl, ByteArray.size_extract]; omega
              rw [hm, htl] at HE0
              have hnky : (n : Int) ≤ (ky.size : Int) := by omega
              have hx0 : IntKind.i64.wrap (m : Int) = (m : Int) := by rw [IntKind.wrap_i64]; omega
              have M1 := Lib.hid (fun w => rtwo_any n w (by omega))
              have M2 := Lib.hid (fun w => rtwo_any m w (by omega))
              have b1z : (bl (two n)).size = 2 := rfl
              have b2z : (bl (two m)).size = 2 := rfl
              obtain ⟨b1, hb1⟩ : ∃ b, bl (two n) = b := ⟨_, rfl⟩
              obtain ⟨b2, hb2⟩ : ∃ b, bl (two m) = b := ⟨_, rfl⟩
              rw [hb1] at M1 b1z
              rw [hb2] at M2 b2z
              have HB12 : Hid (b1 ++ b2 = bl (two n ++ two m)) := by unfold Hid; rw [← hb1, ← hb2, bl_append]
              have hex := htl
              clear hn hsl hkd hm htl hb1 hb2
              have cv := fun (w : World) (g : Nat) hg => conv2 (w := w) (g := g) (n := 0) (m := val.size) hg (by decide) (by omega)
              obtain ⟨b3, hb3⟩ : ∃ b, bl [UInt8.ofNat 0, UInt8.ofNat val.size] = b := ⟨_, rfl⟩
              have b3z : b3.size = 2 := by rw [← hb3]; rfl
              rw [hb3] at cv
              have CV := Lib.hid cv
              have HB3 := Lib.hid hb3
              clear cv hb3 q0 q1 q2 q3 q4 q5
              obtain ⟨q0, q1, q2, q3, q4, q5⟩ := HCE.out _ HF4.out
              go_wp2_with (fail)
              refine wp_region_n (fun _ w' => Fp [] w4 w') (Fp []) (by kernel_rfl) (by kernel_rfl) (Fp.drew _) ?_
              -- 0
              apply nx_plain (fun _ _ h => h) rfl rfl rfl
              · intro b a w hC hA K hK
                have h5 := hA.free 5 _ (by kernel_rfl) rfl
                simp only [Oper.wp, execOp]; go_simp
                exact hK _ hC (Fp.refl _ _)
              -- 1
              apply nx_plain (fun _ _ h => h) rfl rfl rfl
              · intro b a w hC hA K hK
                have h8 := hA.free 8 _ (by kernel_rfl) rfl
                simp only [Oper.wp, execOp]; go_simp
                exact hK _ hC (Fp.refl _ _)
              -- 2
              apply nx_plain (fun _ _ h => h) rfl rfl rfl
              · intro b a w hC hA K hK
                have h61 : a.tmps[61]?.getD undef = _ := hA.dep 1 61 _ (by kernel_rfl) rfl
                simp only [Oper.wp, execOp]; go_simp
                first
                  | ((with_reducible refine (M1.out _).mono ?_); rintro e w2 ⟨rfl, hf⟩; exact hK _ (hC.trans hf (by simp)) hf)
                  | ((with_reducible refine (M2.out _).mono ?_); rintro e w2 ⟨rfl, hf⟩; exact hK _ (hC.trans hf (by simp)) hf)
              -- 3
              apply nx_plain (fun _ _ h => h) rfl rfl rfl
              · intro b a w hC hA K hK
                have h60 : a.tmps[60]?.getD undef = _ := hA.dep 0 60 _ (by kernel_rfl) rfl
                have h62 : a.tmps[62]?.getD undef = _ := hA.dep 2 62 _ (by kernel_rfl) rfl
                simp only [Oper.wp, execOp]; go_simp
                rw [if_neg (by first | omega | (simp only [ByteArray.size_append]; omega))]
                exact hK _ hC (Fp.refl _ _)
              -- 4
              apply nx_plain (fun _ _ h => h) rfl rfl rfl
              · intro b a w hC hA K hK
                have h7 := hA.free 7 _ (by kernel_rfl) rfl
                simp only [Oper.wp, execOp]; go_simp
                exact hK _ hC (Fp.refl _ _)
              -- 5
              apply nx_plain (fun _ _ h => h) rfl rfl rfl
              · intro b a w hC hA K hK
                have h64 : a.tmps[64]?.getD undef = _ := hA.dep 4 64 _ (by kernel_rfl) rfl
                simp only [Oper.wp, execOp]; go_simp
                exact hK _ hC (Fp.refl _ _)
              -- 6
              apply nx_plain (fun _ _ h => h) rfl rfl rfl
              · intro b a w hC hA K hK
                have h8 := hA.free 8 _ (by kernel_rfl) rfl
                simp only [Oper.wp, execOp]; go_simp
                exact hK _ hC (Fp.refl _ _)
              -- 7
              apply nx_plain (fun _ _ h => h) rfl rfl rfl
              · intro b a w hC hA K hK
                have h65 : a.tmps[65]?.getD undef = _ := hA.dep 5 65 _ (by kernel_rfl) rfl
                have h66 : a.tmps[66]?.getD undef = _ := hA.dep 6 66 _ (by kernel_rfl) rfl
                simp only [Oper.wp, execOp]; go_simp
                exact hK _ hC (Fp.refl _ _)
              -- 8
              apply nx_plain (fun _ _ h => h) rfl rfl rfl
              · intro b a w hC hA K hK
                have h67 : a.tmps[67]?.getD undef = _ := hA.dep 7 67 _ (by kernel_rfl) rfl
                simp only [Oper.wp, execOp]; go_simp
                first
                  | ((with_reducible refine (M1.out _).mono ?_); rintro e w2 ⟨rfl, hf⟩; exact hK _ (hC.trans hf (by simp)) hf)
                  | ((with_reducible refine (M2.out _).mono ?_); rintro e w2 ⟨rfl, hf⟩; exact hK _ (hC.trans hf (by simp)) hf)
              -- 9
              apply nx_plain (fun _ _ h => h) rfl rfl rfl
              · intro b a w hC hA K hK
                have h63 : a.tmps[63]?.getD undef = _ := hA.dep 3 63 _ (by kernel_rfl) rfl
                have h68 : a.tmps[68]?.getD undef = _ := hA.dep 8 68 _ (by kernel_rfl) rfl
                simp only [Oper.wp, execOp]; go_simp
                rw [if_neg (by first | omega | (simp only [ByteArray.size_append]; omega))]
                exact hK _ hC (Fp.refl _ _)
              -- 10
              apply nx_plain (fun _ _ h => h) rfl rfl rfl
              · intro b a w hC hA K hK
                have h7 := hA.free 7 _ (by kernel_rfl) rfl
                simp only [Oper.wp, execOp]; go_simp
                exact hK _ hC (Fp.refl _ _)
              -- 11
              apply nx_plain (fun _ _ h => h) rfl rfl rfl
              · intro b a w hC hA K hK
                have h8 := hA.free 8 _ (by kernel_rfl) rfl
                simp only [Oper.wp, execOp]; go_simp
                exact hK _ hC (Fp.refl _ _)
              -- 12
              apply nx_plain (fun _ _ h => h) rfl rfl rfl
              · intro b a w hC hA K hK
                have h70 : a.tmps[70]?.getD undef = _ := hA.dep 10 70 _ (by kernel_rfl) rfl
                have h71 : a.tmps[71]?.getD undef = _ := hA.dep 11 71 _ (by kernel_rfl) rfl
                simp only [Oper.wp, execOp]; go_simp
                exact hK _ hC (Fp.refl _ _)
              -- 13
              apply nx_plain (fun _ _ h => h) rfl rfl rfl
              · intro b a w hC hA K hK
                have h69 : a.tmps[69]?.getD undef = _ := hA.dep 9 69 _ (by kernel_rfl) rfl
                have h72 : a.tmps[72]?.getD undef = _ := hA.dep 12 72 _ (by kernel_rfl) rfl
                simp only [Oper.wp, execOp]; go_simp
                rw [if_neg (by first | omega | (simp only [ByteArray.size_append]; omega))]
                exact hK _ hC (Fp.refl _ _)
              -- 14
              apply nx_plain (fun _ _ h => h) rfl rfl rfl
              · intro b a w hC hA K hK
                have h9 := hA.free 9 _ (by kernel_rfl) rfl
                simp only [Oper.wp, execOp]; go_simp
                exact hK _ hC (Fp.refl _ _)
              -- 15
              apply nx_plain (fun _ _ h => h) rfl rfl rfl
              · intro b a w hC hA K hK
                have h0 := hA.free 0 _ (by kernel_rfl) rfl
                simp only [Oper.wp, execOp]; go_simp
                exact hK _ hC (Fp.refl _ _)
              -- 16
              apply nx_plain (fun _ _ h => h) rfl rfl rfl
              · intro b a w hC hA K hK
                have h6 := hA.free 6 _ (by kernel_rfl) rfl
                simp only [Oper.wp, execOp]; go_simp
                exact hK _ hC (Fp.refl _ _)
              -- 17
              apply nx_plain (fun _ _ h => h) rfl rfl rfl
              · intro b a w hC hA K hK
                have h75 : a.tmps[75]?.getD undef = _ := hA.dep 15 75 _ (by kernel_rfl) rfl
                have h76 : a.tmps[76]?.getD undef = _ := hA.dep 16 76 _ (by kernel_rfl) rfl
                obtain ⟨k0, k1, k2, k3, k4, k5⟩ := HCE.out _ (HF4.out.trans hC (by simp))
                simp only [Oper.wp, execOp]; go_simp
                exact hK _ hC (Fp.refl _ _)
              -- 18
              apply nx_plain (fun _ _ h => h) rfl rfl rfl
              · intro b a w hC hA K hK
                have h77 : a.tmps[77]?.getD undef = _ := hA.dep 17 77 _ (by kernel_rfl) rfl
                simp only [Oper.wp, execOp]; go_simp
                exact hK _ hC (Fp.refl _ _)
              -- 19
              apply nx_plain (fun _ _ h => h) rfl rfl rfl
              · intro b a w hC hA K hK
                have h78 : a.tmps[78]?.getD undef = _ := hA.dep 18 78 _ (by kernel_rfl) rfl
                obtain ⟨k0, k1, k2, k3, k4, k5⟩ := HCE.out _ (HF4.out.trans hC (by simp))
                simp only [Oper.wp, execOp]; go_simp
                exact hK _ hC (Fp.refl _ _)
              -- 20
              apply nx_plain (fun _ _ h => h) rfl rfl rfl
              · intro b a w hC hA K hK
                have h79 : a.tmps[79]?.getD undef = _ := hA.dep 19 79 _ (by kernel_rfl) rfl
                simp only [Oper.wp, execOp]; go_simp
                exact hK _ hC (Fp.refl _ _)
              -- 21
              apply nx_plain (fun _ _ h => h) rfl rfl rfl
              · intro b a w hC hA K hK
                have h80 : a.tmps[80]?.getD undef = _ := hA.dep 20 80 _ (by kernel_rfl) rfl
                simp only [Oper.wp, execOp]; go_simp
                exact hK _ hC (Fp.refl _ _)
              -- 22
              apply nx_turn (fun w' v => ∃ g, v = .slice (some ⟨g, 0, none⟩) 2 2 ∧ w'.heap[g]? = some (.cells #[.int .u8 0, .int .u8 val.size] 5 (0, 0))) rfl rfl rfl
              · intro b a w hC hA K hK
                have h74 : a.tmps[74]?.getD undef = _ := hA.dep 14 74 _ (by kernel_rfl) rfl
                have h81 : a.tmps[81]?.getD undef = _ := hA.dep 21 81 _ (by kernel_rfl) rfl
                simp only [Oper.wp, execOp]; go_simp
                exact hK _ _ (hC.alloc' _) (Fp.alloc _ _) ⟨_, rfl, heap_alloc_at rfl _⟩
              -- 23
              apply nx_plain (fun _ _ h => h) rfl rfl rfl
              · intro b a w hC hA K hK
                have h82 := hA.dep 22 82 _ (by kernel_rfl) rfl
                obtain ⟨g, h82, hg⟩ := h82
                have hcv := CV.out _ _ hg
                simp only [Oper.wp, execOp]; go_simp
                exact hK _ hC (Fp.refl _ _)
              -- 24
              apply nx_plain (fun _ _ h => h) rfl rfl rfl
              · intro b a w hC hA K hK
                have h73 : a.tmps[73]?.getD undef = _ := hA.dep 13 73 _ (by kernel_rfl) rfl
                have h83 : a.tmps[83]?.getD undef = _ := hA.dep 23 83 _ (by kernel_rfl) rfl
                simp only [Oper.wp, execOp]; go_simp
                rw [if_neg (by first | omega | (simp only [ByteArray.size_append]; omega))]
                exact hK _ hC (Fp.refl _ _)
              -- 25
              apply nx_plain (fun _ _ h => h) rfl rfl rfl
              · intro b a w hC hA K hK
                have h0 := hA.free 0 _ (by kernel_rfl) rfl
                simp only [Oper.wp, execOp]; go_simp
                exact hK _ hC (Fp.refl _ _)
              -- 26
              apply nx_plain (fun _ _ h => h) rfl rfl rfl
              · intro b a w hC hA K hK
                have h6 := hA.free 6 _ (by kernel_rfl) rfl
                simp only [Oper.wp, execOp]; go_simp
                exact hK _ hC (Fp.refl _ _)
              -- 27
              apply nx_plain (fun _ _ h => h) rfl rfl rfl
              · intro b a w hC hA K hK
                have h85 : a.tmps[85]?.getD undef = _ := hA.dep 25 85 _ (by kernel_rfl) rfl
                have h86 : a.tmps[86]?.getD undef = _ := hA.dep 26 86 _ (by kernel_rfl) rfl
                obtain ⟨k0, k1, k2, k3, k4, k5⟩ := HCE.out _ (HF4.out.trans hC (by simp))
                simp only [Oper.wp, execOp]; go_simp
                exact hK _ hC (Fp.refl _ _)
              -- 28
              apply nx_plain (fun _ _ h => h) rfl rfl rfl
              · intro b a w hC hA K hK
                have h87 : a.tmps[87]?.getD undef = _ := hA.dep 27 87 _ (by kernel_rfl) rfl
                simp only [Oper.wp, execOp]; go_simp
                exact hK _ hC (Fp.refl _ _)
              -- 29
              apply nx_plain (fun _ _ h => h) rfl rfl rfl
              · intro b a w hC hA K hK
                have h88 : a.tmps[88]?.getD undef = _ := hA.dep 28 88 _ (by kernel_rfl) rfl
                obtain ⟨k0, k1, k2, k3, k4, k5⟩ := HCE.out _ (HF4.out.trans hC (by simp))
                simp only [Oper.wp, execOp]; go_simp
                exact hK _ hC (Fp.refl _ _)
              -- 30
              apply nx_plain (fun _ _ h => h) rfl rfl rfl
              · intro b a w hC hA K hK
                have h84 : a.tmps[84]?.getD undef = _ := hA.dep 24 84 _ (by kernel_rfl) rfl
                have h89 : a.tmps[89]?.getD undef = _ := hA.dep 29 89 _ (by kernel_rfl) rfl
                simp only [Oper.wp, execOp]; go_simp
                rw [if_neg (by first | omega | (simp only [ByteArray.size_append]; omega))]
                exact hK _ hC (Fp.refl _ _)
              -- 31
              apply nx_plain (fun _ _ h => h) rfl rfl rfl
              · intro b a w hC hA K hK
                have h90 : a.tmps[90]?.getD undef = _ := hA.dep 30 90 _ (by kernel_rfl) rfl
                simp only [Oper.wp, execOp]; go_simp
                exact hK _ hC (Fp.refl _ _)
              refine ⟨?_, ?_⟩
              · repeat (first | exact trivial | refine stabN_val _ ?_ | refine ⟨fun w1 w2 v hf ⟨g, h1, h2⟩ => ⟨g, h1, (hf.block g (heap_lt h2) (by simp)).trans h2⟩, ?_⟩)
              · intro w' bb hC hbb
                simp only [List.reverse_cons, List.reverse_nil, List.nil_append, List.cons_append]
                iterate 22 (refine all_val ?_)
                refine all_some ?_
                intro v22 u22
                iterate 9 (refine all_val ?_)
                refine all_nil ?_
                simp only [putAll, Act.put, List.setIfInBounds_toArray, List.set_cons_succ, List.set_cons_zero]
                have HF5 := Lib.hid (HF4.out.trans hC (by simp))
                clear hC
                go_wp2_with (fail)
                go_roundg (len - (k + 1))
                case measure => omega
                case rel =>
                  refine ⟨k + 1, _, by omega, by simp, rfl, HF5.out, ?_, ?_⟩
                  · rw [HGO.out, HD.out, show bodyL k (prevK l k) (⟨row, col, ts, seq, false, val⟩ :: l.drop (k + 1)) = entL (lastAt k (prevK l k)) ⟨row, col, ts, seq, false, val⟩ ++ bodyL (k + 1) (keyL ⟨row, col, ts, seq, false, val⟩) (l.drop (k + 1)) from rfl, HE0.out, HPK.out]
                    have h12 := congrArg (fun x => x.data.toList) HB12.out
                    simp only [bl_toList] at h12
                    rw [append_data'] at h12
                    have h3 := congrArg (fun x => x.data.toList) HB3.out
                    simp only [bl_toList] at h3
                    apply dat_inj
                    simp only [append_data', bl_toList, List.append_assoc]
                    rw [← h3, ← List.append_assoc b1.data.toList, h12]
                    simp only [List.append_assoc, List.cons_append, List.nil_append]
                    rfl
                  · simp only [ByteArray.size_append]
                    omega
          · by_cases h4 : k % 4 = 0
            · have e4 : (k : Int) % 4 = 0 := by omega
              have HLA : Hid (lastAt k (prevK l k) = []) := by unfold Hid lastAt; rw [if_pos h4]
              go_wp2_with (fail)
              (with_reducible refine (HKE.out _).mono ?_)
              rintro e w4 ⟨rfl, hf⟩
              have HF4 := Lib.hid (HF.out.trans hf (by simp))
              clear hf
              have HE0 : Hid (entL (lastAt k (prevK l k)) ⟨row, col, ts, seq, true, val⟩ = two 0 ++ two ky.size ++ ky.data.toList ++ [delN true, UInt8.ofNat val.size] ++ val.data.toList) := by
                unfold Hid entL
                rw [HLA.out, show keyL ⟨row, col, ts, seq, true, val⟩ = ky.data.toList from HKY.out.symm]
                rfl
              have hex : ky.extract 0 ky.size = ky := ByteArray.extract_zero_size
              have hx0 : IntKind.i64.wrap (ky.size : Int) = (ky.size : Int) := by rw [IntKind.wrap_i64]; omega
              have M1 : Hid (∀ w, Calls Tryz.prog 72 #[.int .i64 0] w fun e w' => e = .returned (.string (bl (two 0))) ∧ Fp [] w w') := fun w => rtwo_any 0 w (by decide)
              have M2 := Lib.hid (fun w => rtwo_any ky.size w (by omega))
              have b1z : (bl (two 0)).size = 2 := rfl
              have b2z : (bl (two ky.size)).size = 2 := rfl
              obtain ⟨b1, hb1⟩ : ∃ b, bl (two 0) = b := ⟨_, rfl⟩
              obtain ⟨b2, hb2⟩ : ∃ b, bl (two ky.size) = b := ⟨_, rfl⟩
              rw [hb1] at M1 b1z
              rw [hb2] at M2 b2z
              have HB12 : Hid (b1 ++ b2 = bl (two 0 ++ two ky.size)) := by unfold Hid; rw [← hb1, ← hb2, bl_append]
              have HTL : Hid (ky.data.toList = ky.data.toList) := rfl
              clear hb1 hb2
              have cv := fun (w : World) (g : Nat) hg => conv2 (w := w) (g := g) (n := 1) (m := val.size) hg (by decide) (by omega)
              obtain ⟨b3, hb3⟩ : ∃ b, bl [UInt8.ofNat 1, UInt8.ofNat val.size] = b := ⟨_, rfl⟩
              have b3z : b3.size = 2 := by rw [← hb3]; rfl
              rw [hb3] at cv
              have CV := Lib.hid cv
              have HB3 := Lib.hid hb3
              clear cv hb3 q0 q1 q2 q3 q4 q5
              obtain ⟨q0, q1, q2, q3, q4, q5⟩ := HCE.out _ HF4.out
              go_wp2_with (fail)
              refine wp_region_n (fun _ w' => Fp [] w4 w') (Fp []) (by kernel_rfl) (by kernel_rfl) (Fp.drew _) ?_
              -- 0
              apply nx_plain (fun _ _ h => h) rfl rfl rfl
              · intro b a w hC hA K hK
                have h5 := hA.free 5 _ (by kernel_rfl) rfl
                simp only [Oper.wp, execOp]; go_simp
                exact hK _ hC (Fp.refl _ _)
              -- 1
              apply nx_plain (fun _ _ h => h) rfl rfl rfl
              · intro b a w hC hA K hK
                have h8 := hA.free 8 _ (by kernel_rfl) rfl
                simp only [Oper.wp, execOp]; go_simp
                exact hK _ hC (Fp.refl _ _)
              -- 2
              apply nx_plain (fun _ _ h => h) rfl rfl rfl
              · intro b a w hC hA K hK
                have h61 : a.tmps[61]?.getD undef = _ := hA.dep 1 61 _ (by kernel_rfl) rfl
                simp only [Oper.wp, execOp]; go_simp
                first
                  | ((with_reducible refine (M1.out _).mono ?_); rintro e w2 ⟨rfl, hf⟩; exact hK _ (hC.trans hf (by simp)) hf)
                  | ((with_reducible refine (M2.out _).mono ?_); rintro e w2 ⟨rfl, hf⟩; exact hK _ (hC.trans hf (by simp)) hf)
              -- 3
              apply nx_plain (fun _ _ h => h) rfl rfl rfl
              · intro b a w hC hA K hK
                have h60 : a.tmps[60]?.getD undef = _ := hA.dep 0 60 _ (by kernel_rfl) rfl
                have h62 : a.tmps[62]?.getD undef = _ := hA.dep 2 62 _ (by kernel_rfl) rfl
                simp only [Oper.wp, execOp]; go_simp
                rw [if_neg (by first | omega | (simp only [ByteArray.size_append]; omega))]
                exact hK _ hC (Fp.refl _ _)
              -- 4
              apply nx_plain (fun _ _ h => h) rfl rfl rfl
              · intro b a w hC hA K hK
                have h7 := hA.free 7 _ (by kernel_rfl) rfl
                simp only [Oper.wp, execOp]; go_simp
                exact hK _ hC (Fp.refl _ _)
              -- 5
              apply nx_plain (fun _ _ h => h) rfl rfl rfl
              · intro b a w hC hA K hK
                have h64 : a.tmps[64]?.getD undef = _ := hA.dep 4 64 _ (by kernel_rfl) rfl
                simp only [Oper.wp, execOp]; go_simp
                exact hK _ hC (Fp.refl _ _)
              -- 6
              apply nx_plain (fun _ _ h => h) rfl rfl rfl
              · intro b a w hC hA K hK
                have h8 := hA.free 8 _ (by kernel_rfl) rfl
                simp only [Oper.wp, execOp]; go_simp
                exact hK _ hC (Fp.refl _ _)
              -- 7
              apply nx_plain (fun _ _ h => h) rfl rfl rfl
              · intro b a w hC hA K hK
                have h65 : a.tmps[65]?.getD undef = _ := hA.dep 5 65 _ (by kernel_rfl) rfl
                have h66 : a.tmps[66]?.getD undef = _ := hA.dep 6 66 _ (by kernel_rfl) rfl
                simp only [Oper.wp, execOp]; go_simp
                exact hK _ hC (Fp.refl _ _)
              -- 8
              apply nx_plain (fun _ _ h => h) rfl rfl rfl
              · intro b a w hC hA K hK
                have h67 : a.tmps[67]?.getD undef = _ := hA.dep 7 67 _ (by kernel_rfl) rfl
                simp only [Oper.wp, execOp]; go_simp
                first
                  | ((with_reducible refine (M1.out _).mono ?_); rintro e w2 ⟨rfl, hf⟩; exact hK _ (hC.trans hf (by simp)) hf)
                  | ((with_reducible refine (M2.out _).mono ?_); rintro e w2 ⟨rfl, hf⟩; exact hK _ (hC.trans hf (by simp)) hf)
              -- 9
              apply nx_plain (fun _ _ h => h) rfl rfl rfl
              · intro b a w hC hA K hK
                have h63 : a.tmps[63]?.getD undef = _ := hA.dep 3 63 _ (by kernel_rfl) rfl
                have h68 : a.tmps[68]?.getD undef = _ := hA.dep 8 68 _ (by kernel_rfl) rfl
                simp only [Oper.wp, execOp]; go_simp
                rw [if_neg (by first | omega | (simp only [ByteArray.size_append]; omega))]
                exact hK _ hC (Fp.refl _ _)
              -- 10
              apply nx_plain (fun _ _ h => h) rfl rfl rfl
              · intro b a w hC hA K hK
                have h7 := hA.free 7 _ (by kernel_rfl) rfl
                simp only [Oper.wp, execOp]; go_simp
                exact hK _ hC (Fp.refl _ _)
              -- 11
              apply nx_plain (fun _ _ h => h) rfl rfl rfl
              · intro b a w hC hA K hK
                have h8 := hA.free 8 _ (by kernel_rfl) rfl
                simp only [Oper.wp, execOp]; go_simp
                exact hK _ hC (Fp.refl _ _)
              -- 12
              apply nx_plain (fun _ _ h => h) rfl rfl rfl
              · intro b a w hC hA K hK
                have h70 : a.tmps[70]?.getD undef = _ := hA.dep 10 70 _ (by kernel_rfl) rfl
                have h71 : a.tmps[71]?.getD undef = _ := hA.dep 11 71 _ (by kernel_rfl) rfl
                simp only [Oper.wp, execOp]; go_simp
                exact hK _ hC (Fp.refl _ _)
              -- 13
              apply nx_plain (fun _ _ h => h) rfl rfl rfl
              · intro b a w hC hA K hK
                have h69 : a.tmps[69]?.getD undef = _ := hA.dep 9 69 _ (by kernel_rfl) rfl
                have h72 : a.tmps[72]?.getD undef = _ := hA.dep 12 72 _ (by kernel_rfl) rfl
                simp only [Oper.wp, execOp]; go_simp
                rw [if_neg (by first | omega | (simp only [ByteArray.size_append]; omega))]
                exact hK _ hC (Fp.refl _ _)
              -- 14
              apply nx_plain (fun _ _ h => h) rfl rfl rfl
              · intro b a w hC hA K hK
                have h9 := hA.free 9 _ (by kernel_rfl) rfl
                simp only [Oper.wp, execOp]; go_simp
                exact hK _ hC (Fp.refl _ _)
              -- 15
              apply nx_plain (fun _ _ h => h) rfl rfl rfl
              · intro b a w hC hA K hK
                have h0 := hA.free 0 _ (by kernel_rfl) rfl
                simp only [Oper.wp, execOp]; go_simp
                exact hK _ hC (Fp.refl _ _)
              -- 16
              apply nx_plain (fun _ _ h => h) rfl rfl rfl
              · intro b a w hC hA K hK
                have h6 := hA.free 6 _ (by kernel_rfl) rfl
                simp only [Oper.wp, execOp]; go_simp
                exact hK _ hC (Fp.refl _ _)
              -- 17
              apply nx_plain (fun _ _ h => h) rfl rfl rfl
              · intro b a w hC hA K hK
                have h75 : a.tmps[75]?.getD undef = _ := hA.dep 15 75 _ (by kernel_rfl) rfl
                have h76 : a.tmps[76]?.getD undef = _ := hA.dep 16 76 _ (by kernel_rfl) rfl
                obtain ⟨k0, k1, k2, k3, k4, k5⟩ := HCE.out _ (HF4.out.trans hC (by simp))
                simp only [Oper.wp, execOp]; go_simp
                exact hK _ hC (Fp.refl _ _)
              -- 18
              apply nx_plain (fun _ _ h => h) rfl rfl rfl
              · intro b a w hC hA K hK
                have h77 : a.tmps[77]?.getD undef = _ := hA.dep 17 77 _ (by kernel_rfl) rfl
                simp only [Oper.wp, execOp]; go_simp
                exact hK _ hC (Fp.refl _ _)
              -- 19
              apply nx_plain (fun _ _ h => h) rfl rfl rfl
              · intro b a w hC hA K hK
                have h78 : a.tmps[78]?.getD undef = _ := hA.dep 18 78 _ (by kernel_rfl) rfl
                obtain ⟨k0, k1, k2, k3, k4, k5⟩ := HCE.out _ (HF4.out.trans hC (by simp))
                simp only [Oper.wp, execOp]; go_simp
                exact hK _ hC (Fp.refl _ _)
              -- 20
              apply nx_plain (fun _ _ h => h) rfl rfl rfl
              · intro b a w hC hA K hK
                have h79 : a.tmps[79]?.getD undef = _ := hA.dep 19 79 _ (by kernel_rfl) rfl
                simp only [Oper.wp, execOp]; go_simp
                exact hK _ hC (Fp.refl _ _)
              -- 21
              apply nx_plain (fun _ _ h => h) rfl rfl rfl
              · intro b a w hC hA K hK
                have h80 : a.tmps[80]?.getD undef = _ := hA.dep 20 80 _ (by kernel_rfl) rfl
                simp only [Oper.wp, execOp]; go_simp
                exact hK _ hC (Fp.refl _ _)
              -- 22
              apply nx_turn (fun w' v => ∃ g, v = .slice (some ⟨g, 0, none⟩) 2 2 ∧ w'.heap[g]? = some (.cells #[.int .u8 1, .int .u8 val.size] 5 (0, 0))) rfl rfl rfl
              · intro b a w hC hA K hK
                have h74 : a.tmps[74]?.getD undef = _ := hA.dep 14 74 _ (by kernel_rfl) rfl
                have h81 : a.tmps[81]?.getD undef = _ := hA.dep 21 81 _ (by kernel_rfl) rfl
                simp only [Oper.wp, execOp]; go_simp
                exact hK _ _ (hC.alloc' _) (Fp.alloc _ _) ⟨_, rfl, heap_alloc_at rfl _⟩
              -- 23
              apply nx_plain (fun _ _ h => h) rfl rfl rfl
              · intro b a w hC hA K hK
                have h82 := hA.dep 22 82 _ (by kernel_rfl) rfl
                obtain ⟨g, h82, hg⟩ := h82
                have hcv := CV.out _ _ hg
                simp only [Oper.wp, execOp]; go_simp
                exact hK _ hC (Fp.refl _ _)
              -- 24
              apply nx_plain (fun _ _ h => h) rfl rfl rfl
              · intro b a w hC hA K hK
                have h73 : a.tmps[73]?.getD undef = _ := hA.dep 13 73 _ (by kernel_rfl) rfl
                have h83 : a.tmps[83]?.getD undef = _ := hA.dep 23 83 _ (by kernel_rfl) rfl
                simp only [Oper.wp, execOp]; go_simp
                rw [if_neg (by first | omega | (simp only [ByteArray.size_append]; omega))]
                exact hK _ hC (Fp.refl _ _)
              -- 25
              apply nx_plain (fun _ _ h => h) rfl rfl rfl
              · intro b a w hC hA K hK
                have h0 := hA.free 0 _ (by kernel_rfl) rfl
                simp only [Oper.wp, execOp]; go_simp
                exact hK _ hC (Fp.refl _ _)
              -- 26
              apply nx_plain (fun _ _ h => h) rfl rfl rfl
              · intro b a w hC hA K hK
                have h6 := hA.free 6 _ (by kernel_rfl) rfl
                simp only [Oper.wp, execOp]; go_simp
                exact hK _ hC (Fp.refl _ _)
              -- 27
              apply nx_plain (fun _ _ h => h) rfl rfl rfl
              · intro b a w hC hA K hK
                have h85 : a.tmps[85]?.getD undef = _ := hA.dep 25 85 _ (by kernel_rfl) rfl
                have h86 : a.tmps[86]?.getD undef = _ := hA.dep 26 86 _ (by kernel_rfl) rfl
                obtain ⟨k0, k1, k2, k3, k4, k5⟩ := HCE.out _ (HF4.out.trans hC (by simp))
                simp only [Oper.wp, execOp]; go_simp
                exact hK _ hC (Fp.refl _ _)
              -- 28
              apply nx_plain (fun _ _ h => h) rfl rfl rfl
              · intro b a w hC hA K hK
                have h87 : a.tmps[87]?.getD undef = _ := hA.dep 27 87 _ (by kernel_rfl) rfl
                simp only [Oper.wp, execOp]; go_simp
                exact hK _ hC (Fp.refl _ _)
              -- 29
              apply nx_plain (fun _ _ h => h) rfl rfl rfl
              · intro b a w hC hA K hK
                have h88 : a.tmps[88]?.getD undef = _ := hA.dep 28 88 _ (by kernel_rfl) rfl
                obtain ⟨k0, k1, k2, k3, k4, k5⟩ := HCE.out _ (HF4.out.trans hC (by simp))
                simp only [Oper.wp, execOp]; go_simp
                exact hK _ hC (Fp.refl _ _)
              -- 30
              apply nx_plain (fun _ _ h => h) rfl rfl rfl
              · intro b a w hC hA K hK
                have h84 : a.tmps[84]?.getD undef = _ := hA.dep 24 84 _ (by kernel_rfl) rfl
                have h89 : a.tmps[89]?.getD undef = _ := hA.dep 29 89 _ (by kernel_rfl) rfl
                simp only [Oper.wp, execOp]; go_simp
                rw [if_neg (by first | omega | (simp only [ByteArray.size_append]; omega))]
                exact hK _ hC (Fp.refl _ _)
              -- 31
              apply nx_plain (fun _ _ h => h) rfl rfl rfl
              · intro b a w hC hA K hK
                have h90 : a.tmps[90]?.getD undef = _ := hA.dep 30 90 _ (by kernel_rfl) rfl
                simp only [Oper.wp, execOp]; go_simp
                exact hK _ hC (Fp.refl _ _)
              refine ⟨?_, ?_⟩
              · repeat (first | exact trivial | refine stabN_val _ ?_ | refine ⟨fun w1 w2 v hf ⟨g, h1, h2⟩ => ⟨g, h1, (hf.block g (heap_lt h2) (by simp)).trans h2⟩, ?_⟩)
              · intro w' bb hC hbb
                simp only [List.reverse_cons, List.reverse_nil, List.nil_append, List.cons_append]
                iterate 22 (refine all_val ?_)
                refine all_some ?_
                intro v22 u22
                iterate 9 (refine all_val ?_)
                refine all_nil ?_
                simp only [putAll, Act.put, List.setIfInBounds_toArray, List.set_cons_succ, List.set_cons_zero]
                have HF5 := Lib.hid (HF4.out.trans hC (by simp))
                clear hC
                go_wp2_with (fail)
                go_roundg (len - (k + 1))
                case measure => omega
                case rel =>
                  refine ⟨k + 1, _, by omega, by simp, rfl, HF5.out, ?_, ?_⟩
                  · rw [HGO.out, HD.out, show bodyL k (prevK l k) (⟨row, col, ts, seq, true, val⟩ :: l.drop (k + 1)) = entL (lastAt k (prevK l k)) ⟨row, col, ts, seq, true, val⟩ ++ bodyL (k + 1) (keyL ⟨row, col, ts, seq, true, val⟩) (l.drop (k + 1)) from rfl, HE0.out, HPK.out]
                    have h12 := congrArg (fun x => x.data.toList) HB12.out
                    simp only [bl_toList] at h12
                    rw [append_data'] at h12
                    have h3 := congrArg (fun x => x.data.toList) HB3.out
                    simp only [bl_toList] at h3
                    apply dat_inj
                    simp only [append_data', bl_toList, List.append_assoc]
                    rw [← h3, ← List.append_assoc b1.data.toList, h12]
                    simp only [List.append_assoc, List.cons_append, List.nil_append]
                    rfl
                  · simp only [ByteArray.size_append]
                    omega
            · have e4 : ¬ (k : Int) % 4 = 0 := by omega
              have HLA : Hid (lastAt k (prevK l k) = prevK l k) := by unfold Hid lastAt; rw [if_neg h4]
              obtain ⟨j, hj⟩ : ∃ j, k = j + 1 := ⟨k - 1, by omega⟩
              have hjl : j < l.length := by omega
              have hji : (k : Int) - 1 = (j : Int) := by omega
              have hjb : (j : Int) < (len : Int) := by omega
              obtain ⟨p, hpc⟩ : ∃ p, l[j] = p := ⟨_, rfl⟩
              have hpm : p ∈ l := by rw [← hpc]; exact List.getElem_mem hjl
              have HPK2 : Hid (prevK l k = keyL p) := by unfold Hid prevK; rw [hj, Nat.add_sub_cancel, List.getD_eq_getElem?_getD, List.getElem?_eq_getElem hjl, hpc]; rfl
              have HOK2 := Lib.hid (HL.out.ok p hpm)
              have hmay2 : mayB p = true := List.all_eq_true.1 HMA.out p hpm
              have hks2 := key_short hmay2
              have hkb2 : keyB p = bl (keyL p) := by unfold keyB; rw [if_pos hmay2]; rfl
              have HKE2 := Lib.hid (fun w => rkey_any p w HOK2.out)
              rw [hkb2] at HKE2
              obtain ⟨kp, hkp⟩ : ∃ kp : ByteArray, bl (keyL p) = kp := ⟨_, rfl⟩
              have HKP : Hid (kp.data.toList = keyL p) := by unfold Hid; rw [← hkp, bl_toList]
              have hkpz : kp.size ≤ 180 := by rw [← hkp, bl_size]; exact hks2
              rw [hkp] at HKE2
              obtain ⟨b3, o3, hbb, hb3, hpcells⟩ := cels_get HL.out hjl
              obtain ⟨rfl, rfl⟩ : b3 = b1 ∧ o3 = o1 := by simpa [eq_comm] using hbb
              rw [hpc] at hpcells
              have HCP := Lib.hid hpcells
              clear hpcells hpc hpm hks2 hkp hmay2 hkb2 hbb hj
              obtain ⟨prow, pcol, pts, pseq, pdel, pval⟩ := p
              rw [show cellV (⟨prow, pcol, pts, pseq, pdel, pval⟩ : Cel) = .agg #[.string prow, .string pcol, .int .u64 pts, .int .u64 pseq, .bool pdel, .string pval] from rfl] at HKE2
              go_wp2_with (fail)
              (with_reducible refine (HKE.out _).mono ?_)
              rintro e w41 ⟨rfl, hf⟩
              have HF41 := Lib.hid (HF.out.trans hf (by simp))
              clear hf
              obtain ⟨p0, p1, p2, p3, p4, p5⟩ := HCP.out _ HF41.out
              go_wp2_with (fail)
              (with_reducible refine (HKE2.out _).mono ?_)
              rintro e w42 ⟨rfl, hf⟩
              have HF42 := Lib.hid (HF41.out.trans hf (by simp))
              clear hf p0 p1 p2 p3 p4 p5
              go_wp2_with (fail)
              (with_reducible refine (HSH.out kp _ (by omega)).mono ?_)
              rintro e w4 ⟨rfl, hf⟩
              have HF4 := Lib.hid (HF42.out.trans hf (by simp))
              clear hf
              have hsl := share_le kp.data.toList ky.data.toList
              have HE0 : Hid (entL (lastAt k (prevK l k)) ⟨row, col, ts, seq, true, val⟩ = two (shareB kp ky) ++ two (ky.size - shareB kp ky) ++ (ky.extract (shareB kp ky) ky.size).data.toList ++ [delN true, UInt8.ofNat val.size] ++ val.data.toList) := by
                unfold Hid entL
                rw [HLA.out, HPK2.out, ← HKP.out, show keyL ⟨row, col, ts, seq, true, val⟩ = ky.data.toList from HKY.out.symm, extract_to_end]
                rfl
              have hkd : ky.data.toList.length = ky.size := rfl
              have hsle : shareB kp ky ≤ ky.size := by unfold shareB; omega
              obtain ⟨n, hn⟩ : ∃ n, shareB kp ky = n := ⟨_, rfl⟩
              rw [hn] at hsle HE0
              rw [hn]
              obtain ⟨m, hm⟩ : ∃ m, ky.size - n = m := ⟨_, rfl⟩
              have em : (ky.size : Int) - (n : Int) = (m : Int) := by omega
              obtain ⟨tl, htl⟩ : ∃ tl, ky.extract n ky.size = tl := ⟨_, rfl⟩
              have htz : tl.size ≤ 180 := by rw [← htl, ByteArray.size_extract]; omega
              rw [hm, htl] at HE0
              have hnky : (n : Int) ≤ (ky.size : Int) := by omega
              have hx0 : IntKind.i64.wrap (m : Int) = (m : Int) := by rw [IntKind.wrap_i64]; omega
              have M1 := Lib.hid (fun w => rtwo_any n w (by omega))
              have M2 := Lib.hid (fun w => rtwo_any m w (by omega))
              have b1z : (bl (two n)).size = 2 := rfl
              have b2z : (bl (two m)).size = 2 := rfl
              obtain ⟨b1, hb1⟩ : ∃ b, bl (two n) = b := ⟨_, rfl⟩
              obtain ⟨b2, hb2⟩ : ∃ b, bl (two m) = b := ⟨_, rfl⟩
              rw [hb1] at M1 b1z
              rw [hb2] at M2 b2z
              have HB12 : Hid (b1 ++ b2 = bl (two n ++ two m)) := by unfold Hid; rw [← hb1, ← hb2, bl_append]
              have hex := htl
              clear hn hsl hkd hm htl hb1 hb2
              have cv := fun (w : World) (g : Nat) hg => conv2 (w := w) (g := g) (n := 1) (m := val.size) hg (by decide) (by omega)
              obtain ⟨b3, hb3⟩ : ∃ b, bl [UInt8.ofNat 1, UInt8.ofNat val.size] = b := ⟨_, rfl⟩
              have b3z : b3.size = 2 := by rw [← hb3]; rfl
              rw [hb3] at cv
              have CV := Lib.hid cv
              have HB3 := Lib.hid hb3
              clear cv hb3 q0 q1 q2 q3 q4 q5
              obtain ⟨q0, q1, q2, q3, q4, q5⟩ := HCE.out _ HF4.out
              go_wp2_with (fail)
              refine wp_region_n (fun _ w' => Fp [] w4 w') (Fp []) (by kernel_rfl) (by kernel_rfl) (Fp.drew _) ?_
              -- 0
              apply nx_plain (fun _ _ h => h) rfl rfl rfl
              · intro b a w hC hA K hK
                have h5 := hA.free 5 _ (by kernel_rfl) rfl
                simp only [Oper.wp, execOp]; go_simp
                exact hK _ hC (Fp.refl _ _)
              -- 1
              apply nx_plain (fun _ _ h => h) rfl rfl rfl
              · intro b a w hC hA K hK
                have h8 := hA.free 8 _ (by kernel_rfl) rfl
                simp only [Oper.wp, execOp]; go_simp
                exact hK _ hC (Fp.refl _ _)
              -- 2
              apply nx_plain (fun _ _ h => h) rfl rfl rfl
              · intro b a w hC hA K hK
                have h61 : a.tmps[61]?.getD undef = _ := hA.dep 1 61 _ (by kernel_rfl) rfl
                simp only [Oper.wp, execOp]; go_simp
                first
                  | ((with_reducible refine (M1.out _).mono ?_); rintro e w2 ⟨rfl, hf⟩; exact hK _ (hC.trans hf (by simp)) hf)
                  | ((with_reducible refine (M2.out _).mono ?_); rintro e w2 ⟨rfl, hf⟩; exact hK _ (hC.trans hf (by simp)) hf)
              -- 3
              apply nx_plain (fun _ _ h => h) rfl rfl rfl
              · intro b a w hC hA K hK
                have h60 : a.tmps[60]?.getD undef = _ := hA.dep 0 60 _ (by kernel_rfl) rfl
                have h62 : a.tmps[62]?.getD undef = _ := hA.dep 2 62 _ (by kernel_rfl) rfl
                simp only [Oper.wp, execOp]; go_simp
                rw [if_neg (by first | omega | (simp only [ByteArray.size_append]; omega))]
                exact hK _ hC (Fp.refl _ _)
              -- 4
              apply nx_plain (fun _ _ h => h) rfl rfl rfl
              · intro b a w hC hA K hK
                have h7 := hA.free 7 _ (by kernel_rfl) rfl
                simp only [Oper.wp, execOp]; go_simp
                exact hK _ hC (Fp.refl _ _)
              -- 5
              apply nx_plain (fun _ _ h => h) rfl rfl rfl
              · intro b a w hC hA K hK
                have h64 : a.tmps[64]?.getD undef = _ := hA.dep 4 64 _ (by kernel_rfl) rfl
                simp only [Oper.wp, execOp]; go_simp
                exact hK _ hC (Fp.refl _ _)
              -- 6
              apply nx_plain (fun _ _ h => h) rfl rfl rfl
              · intro b a w hC hA K hK
                have h8 := hA.free 8 _ (by kernel_rfl) rfl
                simp only [Oper.wp, execOp]; go_simp
                exact hK _ hC (Fp.refl _ _)
              -- 7
              apply nx_plain (fun _ _ h => h) rfl rfl rfl
              · intro b a w hC hA K hK
                have h65 : a.tmps[65]?.getD undef = _ := hA.dep 5 65 _ (by kernel_rfl) rfl
                have h66 : a.tmps[66]?.getD undef = _ := hA.dep 6 66 _ (by kernel_rfl) rfl
                simp only [Oper.wp, execOp]; go_simp
                exact hK _ hC (Fp.refl _ _)
              -- 8
              apply nx_plain (fun _ _ h => h) rfl rfl rfl
              · intro b a w hC hA K hK
                have h67 : a.tmps[67]?.getD undef = _ := hA.dep 7 67 _ (by kernel_rfl) rfl
                simp only [Oper.wp, execOp]; go_simp
                first
                  | ((with_reducible refine (M1.out _).mono ?_); rintro e w2 ⟨rfl, hf⟩; exact hK _ (hC.trans hf (by simp)) hf)
                  | ((with_reducible refine (M2.out _).mono ?_); rintro e w2 ⟨rfl, hf⟩; exact hK _ (hC.trans hf (by simp)) hf)
              -- 9
              apply nx_plain (fun _ _ h => h) rfl rfl rfl
              · intro b a w hC hA K hK
                have h63 : a.tmps[63]?.getD undef = _ := hA.dep 3 63 _ (by kernel_rfl) rfl
                have h68 : a.tmps[68]?.getD undef = _ := hA.dep 8 68 _ (by kernel_rfl) rfl
                simp only [Oper.wp, execOp]; go_simp
                rw [if_neg (by first | omega | (simp only [ByteArray.size_append]; omega))]
                exact hK _ hC (Fp.refl _ _)
              -- 10
              apply nx_plain (fun _ _ h => h) rfl rfl rfl
              · intro b a w hC hA K hK
                have h7 := hA.free 7 _ (by kernel_rfl) rfl
                simp only [Oper.wp, execOp]; go_simp
                exact hK _ hC (Fp.refl _ _)
              -- 11
              apply nx_plain (fun _ _ h => h) rfl rfl rfl
              · intro b a w hC hA K hK
                have h8 := hA.free 8 _ (by kernel_rfl) rfl
                simp only [Oper.wp, execOp]; go_simp
                exact hK _ hC (Fp.refl _ _)
              -- 12
              apply nx_plain (fun _ _ h => h) rfl rfl rfl
              · intro b a w hC hA K hK
                have h70 : a.tmps[70]?.getD undef = _ := hA.dep 10 70 _ (by kernel_rfl) rfl
                have h71 : a.tmps[71]?.getD undef = _ := hA.dep 11 71 _ (by kernel_rfl) rfl
                simp only [Oper.wp, execOp]; go_simp
                exact hK _ hC (Fp.refl _ _)
              -- 13
              apply nx_plain (fun _ _ h => h) rfl rfl rfl
              · intro b a w hC hA K hK
                have h69 : a.tmps[69]?.getD undef = _ := hA.dep 9 69 _ (by kernel_rfl) rfl
                have h72 : a.tmps[72]?.getD undef = _ := hA.dep 12 72 _ (by kernel_rfl) rfl
                simp only [Oper.wp, execOp]; go_simp
                rw [if_neg (by first | omega | (simp only [ByteArray.size_append]; omega))]
                exact hK _ hC (Fp.refl _ _)
              -- 14
              apply nx_plain (fun _ _ h => h) rfl rfl rfl
              · intro b a w hC hA K hK
                have h9 := hA.free 9 _ (by kernel_rfl) rfl
                simp only [Oper.wp, execOp]; go_simp
                exact hK _ hC (Fp.refl _ _)
              -- 15
              apply nx_plain (fun _ _ h => h) rfl rfl rfl
              · intro b a w hC hA K hK
                have h0 := hA.free 0 _ (by kernel_rfl) rfl
                simp only [Oper.wp, execOp]; go_simp
                exact hK _ hC (Fp.refl _ _)
              -- 16
              apply nx_plain (fun _ _ h => h) rfl rfl rfl
              · intro b a w hC hA K hK
                have h6 := hA.free 6 _ (by kernel_rfl) rfl
                simp only [Oper.wp, execOp]; go_simp
                exact hK _ hC (Fp.refl _ _)
              -- 17
              apply nx_plain (fun _ _ h => h) rfl rfl rfl
              · intro b a w hC hA K hK
                have h75 : a.tmps[75]?.getD undef = _ := hA.dep 15 75 _ (by kernel_rfl) rfl
                have h76 : a.tmps[76]?.getD undef = _ := hA.dep 16 76 _ (by kernel_rfl) rfl
                obtain ⟨k0, k1, k2, k3, k4, k5⟩ := HCE.out _ (HF4.out.trans hC (by simp))
                simp only [Oper.wp, execOp]; go_simp
                exact hK _ hC (Fp.refl _ _)
              -- 18
              apply nx_plain (fun _ _ h => h) rfl rfl rfl
              · intro b a w hC hA K hK
                have h77 : a.tmps[77]?.getD undef = _ := hA.dep 17 77 _ (by kernel_rfl) rfl
                simp only [Oper.wp, execOp]; go_simp
                exact hK _ hC (Fp.refl _ _)
              -- 19
              apply nx_plain (fun _ _ h => h) rfl rfl rfl
              · intro b a w hC hA K hK
                have h78 : a.tmps[78]?.getD undef = _ := hA.dep 18 78 _ (by kernel_rfl) rfl
                obtain ⟨k0, k1, k2, k3, k4, k5⟩ := HCE.out _ (HF4.out.trans hC (by simp))
                simp only [Oper.wp, execOp]; go_simp
                exact hK _ hC (Fp.refl _ _)
              -- 20
              apply nx_plain (fun _ _ h => h) rfl rfl rfl
              · intro b a w hC hA K hK
                have h79 : a.tmps[79]?.getD undef = _ := hA.dep 19 79 _ (by kernel_rfl) rfl
                simp only [Oper.wp, execOp]; go_simp
                exact hK _ hC (Fp.refl _ _)
              -- 21
              apply nx_plain (fun _ _ h => h) rfl rfl rfl
              · intro b a w hC hA K hK
                have h80 : a.tmps[80]?.getD undef = _ := hA.dep 20 80 _ (by kernel_rfl) rfl
                simp only [Oper.wp, execOp]; go_simp
                exact hK _ hC (Fp.refl _ _)
              -- 22
              apply nx_turn (fun w' v => ∃ g, v = .slice (some ⟨g, 0, none⟩) 2 2 ∧ w'.heap[g]? = some (.cells #[.int .u8 1, .int .u8 val.size] 5 (0, 0))) rfl rfl rfl
              · intro b a w hC hA K hK
                have h74 : a.tmps[74]?.getD undef = _ := hA.dep 14 74 _ (by kernel_rfl) rfl
                have h81 : a.tmps[81]?.getD undef = _ := hA.dep 21 81 _ (by kernel_rfl) rfl
                simp only [Oper.wp, execOp]; go_simp
                exact hK _ _ (hC.alloc' _) (Fp.alloc _ _) ⟨_, rfl, heap_alloc_at rfl _⟩
              -- 23
              apply nx_plain (fun _ _ h => h) rfl rfl rfl
              · intro b a w hC hA K hK
                have h82 := hA.dep 22 82 _ (by kernel_rfl) rfl
                obtain ⟨g, h82, hg⟩ := h82
                have hcv := CV.out _ _ hg
                simp only [Oper.wp, execOp]; go_simp
                exact hK _ hC (Fp.refl _ _)
              -- 24
              apply nx_plain (fun _ _ h => h) rfl rfl rfl
              · intro b a w hC hA K hK
                have h73 : a.tmps[73]?.getD undef = _ := hA.dep 13 73 _ (by kernel_rfl) rfl
                have h83 : a.tmps[83]?.getD undef = _ := hA.dep 23 83 _ (by kernel_rfl) rfl
                simp only [Oper.wp, execOp]; go_simp
                rw [if_neg (by first | omega | (simp only [ByteArray.size_append]; omega))]
                exact hK _ hC (Fp.refl _ _)
              -- 25
              apply nx_plain (fun _ _ h => h) rfl rfl rfl
              · intro b a w hC hA K hK
                have h0 := hA.free 0 _ (by kernel_rfl) rfl
                simp only [Oper.wp, execOp]; go_simp
                exact hK _ hC (Fp.refl _ _)
              -- 26
              apply nx_plain (fun _ _ h => h) rfl rfl rfl
              · intro b a w hC hA K hK
                have h6 := hA.free 6 _ (by kernel_rfl) rfl
                simp only [Oper.wp, execOp]; go_simp
                exact hK _ hC (Fp.refl _ _)
              -- 27
              apply nx_plain (fun _ _ h => h) rfl rfl rfl
              · intro b a w hC hA K hK
                have h85 : a.tmps[85]?.getD undef = _ := hA.dep 25 85 _ (by kernel_rfl) rfl
                have h86 : a.tmps[86]?.getD undef = _ := hA.dep 26 86 _ (by kernel_rfl) rfl
                obtain ⟨k0, k1, k2, k3, k4, k5⟩ := HCE.out _ (HF4.out.trans hC (by simp))
                simp only [Oper.wp, execOp]; go_simp
                exact hK _ hC (Fp.refl _ _)
              -- 28
              apply nx_plain (fun _ _ h => h) rfl rfl rfl
              · intro b a w hC hA K hK
                have h87 : a.tmps[87]?.getD undef = _ := hA.dep 27 87 _ (by kernel_rfl) rfl
                simp only [Oper.wp, execOp]; go_simp
                exact hK _ hC (Fp.refl _ _)
              -- 29
              apply nx_plain (fun _ _ h => h) rfl rfl rfl
              · intro b a w hC hA K hK
                have h88 : a.tmps[88]?.getD undef = _ := hA.dep 28 88 _ (by kernel_rfl) rfl
                obtain ⟨k0, k1, k2, k3, k4, k5⟩ := HCE.out _ (HF4.out.trans hC (by simp))
                simp only [Oper.wp, execOp]; go_simp
                exact hK _ hC (Fp.refl _ _)
              -- 30
              apply nx_plain (fun _ _ h => h) rfl rfl rfl
              · intro b a w hC hA K hK
                have h84 : a.tmps[84]?.getD undef = _ := hA.dep 24 84 _ (by kernel_rfl) rfl
                have h89 : a.tmps[89]?.getD undef = _ := hA.dep 29 89 _ (by kernel_rfl) rfl
                simp only [Oper.wp, execOp]; go_simp
                rw [if_neg (by first | omega | (simp only [ByteArray.size_append]; omega))]
                exact hK _ hC (Fp.refl _ _)
              -- 31
              apply nx_plain (fun _ _ h => h) rfl rfl rfl
              · intro b a w hC hA K hK
                have h90 : a.tmps[90]?.getD undef = _ := hA.dep 30 90 _ (by kernel_rfl) rfl
                simp only [Oper.wp, execOp]; go_simp
                exact hK _ hC (Fp.refl _ _)
              refine ⟨?_, ?_⟩
              · repeat (first | exact trivial | refine stabN_val _ ?_ | refine ⟨fun w1 w2 v hf ⟨g, h1, h2⟩ => ⟨g, h1, (hf.block g (heap_lt h2) (by simp)).trans h2⟩, ?_⟩)
              · intro w' bb hC hbb
                simp only [List.reverse_cons, List.reverse_nil, List.nil_append, List.cons_append]
                iterate 22 (refine all_val ?_)
                refine all_some ?_
                intro v22 u22
                iterate 9 (refine all_val ?_)
                refine all_nil ?_
                simp only [putAll, Act.put, List.setIfInBounds_toArray, List.set_cons_succ, List.set_cons_zero]
                have HF5 := Lib.hid (HF4.out.trans hC (by simp))
                clear hC
                go_wp2_with (fail)
                go_roundg (len - (k + 1))
                case measure => omega
                case rel =>
                  refine ⟨k + 1, _, by omega, by simp, rfl, HF5.out, ?_, ?_⟩
                  · rw [HGO.out, HD.out, show bodyL k (prevK l k) (⟨row, col, ts, seq, true, val⟩ :: l.drop (k + 1)) = entL (lastAt k (prevK l k)) ⟨row, col, ts, seq, true, val⟩ ++ bodyL (k + 1) (keyL ⟨row, col, ts, seq, true, val⟩) (l.drop (k + 1)) from rfl, HE0.out, HPK.out]
                    have h12 := congrArg (fun x => x.data.toList) HB12.out
                    simp only [bl_toList] at h12
                    rw [append_data'] at h12
                    have h3 := congrArg (fun x => x.data.toList) HB3.out
                    simp only [bl_toList] at h3
                    apply dat_inj
                    simp only [append_data', bl_toList, List.append_assoc]
                    rw [← h3, ← List.append_assoc b1.data.toList, h12]
                    simp only [List.append_assoc, List.cons_append, List.nil_append]
                    rfl
                  · simp only [ByteArray.size_append]
                    omega
        · have hkl : ¬ (k : Int) < (len : Int) := by omega
          have HD : Hid (l.drop k = []) := List.drop_eq_nil_of_le (by rw [← HLEN.out]; omega)
          go_wp2_with (fail)
          go_ret2
          rw [HR.out, HGO.out, HD.out]
          refine ⟨?_, HF.out⟩
          have e : acc ++ bl (bodyL k (prevK l k) []) = acc := by
            apply dat_inj
            rw [append_data']
            show acc.data.toList ++ [] = _
            rw [List.append_nil]
          rw [e]; rfl
end Go.Proofs.YtjnapcfclejknaaGreatDoor
