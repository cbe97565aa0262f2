/-
 Build.
-/
import Derived.Test.YtkjmgbifoaoefaaGreatDoorQBlkB
import Derived.Test.YtkjmgbifoaoefaaGreatDoorQTabA
import Derived.StillTailTactics
set_option maxRecDepth 100000
set_option maxHeartbeats 8000000
namespace Go.Proofs.YtkjmgbifoaoefaaGreatDoor
open Go.RowKit Go.Lib
structure BSt (w0 : World) (B CB : Nat) (c : Cel) (acc : List UInt8) (W : World) : Prop where
 fp : Fp [] w0 W
 bat : BAt 226 B B acc W
 cel : CelIn W CB c
theorem BSt.on {w0 W W' : World} {B CB : Nat} {c : Cel} {acc : List UInt8} (h : BSt w0 B CB c acc W) (hf : Fp [] W W') : BSt w0 B CB c acc W' :=
 ⟨h.fp.trans hf (by simp), h.bat.fp hf (by simp), h.cel.fp hf (by simp)⟩
theorem BSt.write {w0 W W' : World} {B CB : Nat} {c : Cel} {acc acc' : List UInt8} (h : BSt w0 B CB c acc W) (hb : BAt 226 B B acc' W') (hf : BFp B B W W') (hB : w0.heap.size ≤ B) (hn : CB ≠ B) : BSt w0 B CB c acc' W' :=
 ⟨h.fp.bfp hf hB, hb, hf.others CB _ h.cel (fun e => hn (Option.some.inj e)) (fun cs fz e => by cases e)⟩
theorem build_wide {l : List Cel} (h : l.length > 255) : buildP l = (⟨#[]⟩, 71) := if_pos h
theorem build_may {l : List Cel} (h : ¬ l.length > 255) (h2 : l.all mayB = false) : buildP l = (⟨#[]⟩, 1) := by unfold buildP; rw [if_neg h, if_pos h2]
theorem build_ris {l : List Cel} (h : ¬ l.length > 255) (h2 : l.all mayB = true) (h3 : risC l = false) : buildP l = (⟨#[]⟩, 40) := by unfold buildP; rw [if_neg h, if_neg (by simp [h2]), if_pos h3]
theorem build_yes {l : List Cel} (h : ¬ l.length > 255) (h2 : l.all mayB = true) (h3 : risC l = true) : buildP l = (bl (UInt8.ofNat l.length :: bodyL 0 [] l), 0) := by unfold buildP; rw [if_neg h, if_neg (by simp [h2]), if_neg (by simp [h3])]
theorem build_any (w : World) (a : Option Addr) (len cap : Nat) (l : List Cel) (hl : CelsAt w a len l) (hn : len ≤ 9223372036854775807) (hm : MaxAt w) :
  Calls Tryz.prog 87 #[.slice a len cap] w fun e w' => e = .returned (.tuple #[.string (buildP l).1, .int .i64 ((buildP l).2 : Nat)]) ∧ Fp [] w w' := by
 have HL := Lib.hid hl
 have HM := Lib.hid hm
 have HLEN := Lib.hid hl.len
 have HCO := Lib.hid (fun w hl => contains_any w a len cap l hl hn)
 have HRI := Lib.hid (fun w hl => rising_any w a len cap l hl hn)
 clear hl hm
 by_cases h255 : len > 255
 ·have z : (len : Int) > 255 := by omega
  have HR := Lib.hid (build_wide (l := l) (by rw [← HLEN.out]; exact h255))
  go_enter Tryz.func87, Tryz.ntmps87
  go_wp2_with (fail)
  go_ret2
  rw [HR.out]
  exact ⟨rfl, Fp.refl _ _⟩
 have z : ¬ (len : Int) > 255 := by omega
 have hl255 : ¬ l.length > 255 := by rw [← HLEN.out]; exact h255
 cases hma : l.all mayB
 ·have HR := Lib.hid (build_may hl255 hma)
  rw [hma] at HCO
  clear hma
  go_enter Tryz.func87, Tryz.ntmps87
  go_wp2_with (fail)
  (with_reducible refine (HCO.out _ HL.out).mono ?_)
  rintro e w1 ⟨rfl, hf⟩
  have HF := Lib.hid hf
  clear hf
  go_wp2_with (fail)
  go_ret2
  rw [HR.out]
  exact ⟨rfl, HF.out⟩
 rw [hma] at HCO
 cases hri : risC l
 ·have HR := Lib.hid (build_ris hl255 hma hri)
  rw [hri] at HRI
  clear hma hri
  go_enter Tryz.func87, Tryz.ntmps87
  go_wp2_with (fail)
  (with_reducible refine (HCO.out _ HL.out).mono ?_)
  rintro e w1 ⟨rfl, hf⟩
  have HF := Lib.hid hf
  clear hf
  go_wp2_with (fail)
  (with_reducible refine (HRI.out _ (HL.out.fp HF.out)).mono ?_)
  rintro e w2 ⟨rfl, hf⟩
  have HF2 := Lib.hid (HF.out.trans hf (by simp))
  clear hf
  go_wp2_with (fail)
  go_ret2
  rw [HR.out]
  exact ⟨rfl, HF2.out⟩
 have HR := Lib.hid (build_yes hl255 hma hri)
 have HALL := Lib.hid hma
 rw [hri] at HRI
 clear hma hri
 go_enter Tryz.func87, Tryz.ntmps87
 go_wp2_with (fail)
 (with_reducible refine (HCO.out _ HL.out).mono ?_)
 rintro e w1 ⟨rfl, hf⟩
 have HF := Lib.hid hf
 clear hf
 go_wp2_with (fail)
 (with_reducible refine (HRI.out _ (HL.out.fp HF.out)).mono ?_)
 rintro e w2 ⟨rfl, hf⟩
 have HF2 := Lib.hid (HF.out.trans hf (by simp))
 clear hf
 have HB0 : Hid (w.heap.size ≤ w2.heap.size) := HF2.out.size
 obtain ⟨B, hB⟩ : ∃ B, w2.heap.size = B := ⟨_, rfl⟩
 have HI : Hid (BAt 226 B B [] (w2.alloc (.cells #[.pointer none, .slice none 0 0] 226))) := by unfold Hid; rw [← hB]; exact BAt.fresh _ w2
 have HWB := Lib.hid (fun l c w h1 h2 => writeByte_any liesW (show 226 ≠ 5 by decide) B B l c w h1 h2)
 have HWS := Lib.hid (fun l s w h1 h2 => writeString_any liesW (show 226 ≠ 5 by decide) B B l s w h1 h2)
 have HTW := Lib.hid (fun l n w h1 h2 h3 => two_any B B l n w h1 h2 h3)
 have HST := Lib.hid (fun l w h => string_any (T := 226) B B l w h)
 have z8 := ofNat_u8 len
 obtain ⟨c0, hc0⟩ : ∃ c, UInt8.ofNat len = c := ⟨_, rfl⟩
 have HC0 := Lib.hid hc0
 rw [hc0] at z8
 clear hc0
 go_wp2_with (fail)
 (with_reducible refine (HWB.out [] c0 _ HI.out (by decide)).mono ?_)
 rintro e w3 ⟨rfl, hb3, hf3⟩
 have HF3 : Hid (Fp [] w w3) := (HF2.out.alloc' _).bfp hf3 (by rw [← hB]; exact HB0.out)
 have HB3 := Lib.hid hb3
 have HB0 : Hid (w.heap.size ≤ B) := by unfold Hid; rw [← hB]; exact HB0.out
 clear hb3 hf3 hB
 have HWZ0 : Hid (∀ l w, BAt 226 B B l w → l.length + 1 ≤ 1000000000 → Calls Tryz.prog 158 #[.pointer (some ⟨B, 0, none⟩), .int .u8 0] w fun e w' => e = .returned .nilIface ∧ BAt 226 B B (l ++ [0]) w' ∧ BFp B B w w') := fun l w h1 h2 => HWB.out l 0 w h1 h2
 have HWZ1 : Hid (∀ l w, BAt 226 B B l w → l.length + 1 ≤ 1000000000 → Calls Tryz.prog 158 #[.pointer (some ⟨B, 0, none⟩), .int .u8 1] w fun e w' => e = .returned .nilIface ∧ BAt 226 B B (l ++ [1]) w' ∧ BFp B B w w') := fun l w h1 h2 => HWB.out l 1 w h1 h2
 go_wp2_with (fail)
 go_loopg [6, 35] len (fun g vl vi wr => ∃ (k : Nat) (last : ByteArray) (acc : List UInt8), g + k = len ∧ vi = .int .i64 k ∧ vl = .string last ∧ Fp [] w wr ∧ BAt 226 B B acc wr ∧ c0 :: bodyL 0 [] l = acc ++ bodyL k last.data.toList (l.drop k) ∧ acc.length ≤ 1 + k * 400 ∧ last.size ≤ 180)
 case atStart => exact ⟨0, ⟨#[]⟩, [] ++ [c0], rfl, rfl, rfl, HF3.out, HB3.out, rfl, Nat.le_refl _, by decide⟩
 case round =>
  obtain ⟨k, last, acc, hg, rfl, rfl, hf, hba, hgo, hacc, hls⟩ := hrel
  have HF := Lib.hid hf
  have HBA := Lib.hid hba
  have HGO := Lib.hid hgo
  clear hf hba hgo
  by_cases hk : k < len
  ·have hkl : k < l.length := by rw [← HLEN.out]; exact hk
   obtain ⟨b1, o1, rfl, hb1, hcells⟩ := cels_get HL.out hkl
   obtain ⟨c, hc⟩ : ∃ c, l[k] = c := ⟨_, rfl⟩
   have HD : Hid (l.drop k = c :: l.drop (k + 1)) := by unfold Hid; rw [← hc]; exact List.drop_eq_getElem_cons hkl
   have hcm : c ∈ l := by rw [← hc]; exact List.getElem_mem hkl
   have HOK := Lib.hid (HL.out.ok c hcm)
   have hmay : mayB c = true := List.all_eq_true.1 HALL.out c hcm
   have hks := key_short hmay
   have hvs := (may_sizes hmay).2.2
   rw [hc] at hcells
   obtain ⟨q0, q1, q2, q3, q4, q5⟩ := hcells wr HF.out
   have HKE := Lib.hid (fun w hm => key_yes c w HOK.out hmay hm)
   obtain ⟨ky, hky⟩ : ∃ ky : ByteArray, ⟨(keyL c).toArray⟩ = ky := ⟨_, rfl⟩
   have HKY : Hid (ky.data.toList = keyL c) := by unfold Hid; rw [← hky]
   have hkz : ky.size ≤ 180 := by rw [← hky]; show (keyL c).toArray.size ≤ 180; rw [List.size_toArray]; exact hks
   rw [hky] at HKE
   have HSH := Lib.hid (fun (x : ByteArray) w h1 => shared_any x ky w h1 (by omega))
   clear hcells hc hcm hks hky hmay
   obtain ⟨row, col, ts, seq, del, val⟩ := c
   have hvz : val.size ≤ 100 := hvs
   rw [show cellV (⟨row, col, ts, seq, del, val⟩ : Cel) = .agg #[.string row, .string col, .int .u64 ts, .int .u64 seq, .bool del, .string val] from rfl] at HKE
   have z9 := ofNat_u8 val.size
   obtain ⟨c1, hc1⟩ : ∃ c, UInt8.ofNat val.size = c := ⟨_, rfl⟩
   have HC1 := Lib.hid hc1
   rw [hc1] at z9
   clear hc1 hvs
   cases del
   ·by_cases h4 : k % 4 = 0
    ·have e4 : (k : Int) % 4 = 0 := by omega
     have HLA : Hid (lastAt k last.data.toList = (⟨#[]⟩ : ByteArray).data.toList) := by unfold Hid lastAt; rw [if_pos h4]
     have HSZ : Hid ((⟨#[]⟩ : ByteArray).size ≤ 180) := by unfold Hid; decide
     go_wp2_with (fail)
     obtain ⟨w8, hw8⟩ : ∃ w8, wr.alloc (.cells #[.string row, .string col, .int .u64 ts, .int .u64 seq, .bool false, .string val] 24) = w8 := ⟨_, rfl⟩
     rw [hw8]
     have HCW : Hid (CelIn w8 wr.heap.size ⟨row, col, ts, seq, false, val⟩) := by rw [← hw8]; exact heap_alloc_at rfl _
     have hf8 : Fp [] wr w8 := by rw [← hw8]; exact Fp.alloc _ _
     have HS8 : Hid (BSt w B wr.heap.size ⟨row, col, ts, seq, false, val⟩ acc w8) := ⟨HF.out.trans hf8 (by simp), HBA.out.fp hf8 (by simp), HCW.out⟩
     have hcbn : wr.heap.size ≠ B := by have := heap_lt (HBA.out.at.choose_spec.2.choose_spec.1); omega
     obtain ⟨CB, hCB⟩ : ∃ CB, wr.heap.size = CB := ⟨_, rfl⟩
     rw [hCB] at HS8 hcbn
     rw [hCB]
     clear hf8 hw8 hCB q0 q1 q2 q3 q4 q5 HCW
     obtain ⟨y0, y1, y2, y3, y4, y5, _⟩ := HS8.out.cel.facts0
     (with_reducible refine (HKE.out _ (HM.out.fp HS8.out.fp List.not_mem_nil)).mono ?_)
     rintro e w9 ⟨rfl, hf⟩
     have HS9 := Lib.hid (HS8.out.on hf)
     clear hf
     go_wp2_with (fail)
     (with_reducible refine (HSH.out ⟨#[]⟩ _ (by have := HSZ.out; omega)).mono ?_)
     rintro e w10 ⟨rfl, hf⟩
     have HS10 := Lib.hid (HS9.out.on hf)
     clear hf
     have hsl := share_le (⟨#[]⟩ : ByteArray).data.toList ky.data.toList
     have HE0 : Hid (entL (lastAt k last.data.toList) ⟨row, col, ts, seq, false, val⟩ = two (shareB ⟨#[]⟩ ky) ++ two (ky.size - shareB ⟨#[]⟩ ky) ++ (ky.extract (shareB ⟨#[]⟩ ky) ky.size).data.toList ++ [delN false, UInt8.ofNat val.size] ++ val.data.toList) := by
      unfold Hid entL
      rw [HLA.out, show keyL ⟨row, col, ts, seq, false, val⟩ = ky.data.toList from HKY.out.symm, extract_to_end]
      rfl
     have hkd : ky.data.toList.length = ky.size := rfl
     have hsle : shareB ⟨#[]⟩ ky ≤ ky.size := by unfold shareB; omega
     obtain ⟨n, hn⟩ : ∃ n, shareB ⟨#[]⟩ ky = n := ⟨_, rfl⟩
     rw [hn] at hsle HE0
     rw [hn]
     obtain ⟨m, hm⟩ : ∃ m, ky.size - n = m := ⟨_, rfl⟩
     have em : (ky.size : Int) - (n : Int) = (m : Int) := by omega
     obtain ⟨tl, htl⟩ : ∃ tl, ky.extract n ky.size = tl := ⟨_, rfl⟩
     have htz : tl.size ≤ 180 := by rw [← htl, ByteArray.size_extract]; omega
     rw [hm, htl] at HE0
     have HTL := Lib.hid htl
     clear hn hsl hkd hm htl
     have hn180 : n ≤ 180 := by omega
     have hm180 : m ≤ 180 := by omega
     go_wp2_with (fail)
     (with_reducible refine (HTW.out acc n _ HS10.out.bat (by omega) (by omega)).mono ?_)
     rintro e w11 ⟨rfl, hb, hf⟩
     have HS11 := Lib.hid (HS10.out.write hb hf HB0.out hcbn)
     clear hb hf
     go_wp2_with (fail)
     (with_reducible refine (HTW.out (acc ++ two n) m _ HS11.out.bat (by rw [List.length_append]; have : (two n).length = 2 := rfl; omega) (by omega)).mono ?_)
     rintro e w12 ⟨rfl, hb, hf⟩
     have HS12 := Lib.hid (HS11.out.write hb hf HB0.out hcbn)
     clear hb hf
     have hex : ky.extract n ky.size = tl := HTL.out
     have hnky : (n : Int) ≤ (ky.size : Int) := by omega
     go_wp2_with (fail)
     go_still_tail 6, (by kernel_rfl)
     have HS13 := Lib.hid (HS12.out.on (Fp.drew w12))
     go_wp2_with (fail)
     (with_reducible refine (HWS.out (acc ++ two n ++ two m) tl _ HS13.out.bat (by rw [List.length_append, List.length_append]; have : (two n).length = 2 := rfl; have : (two m).length = 2 := rfl; omega)).mono ?_)
     rintro e w14 ⟨rfl, hb, hf⟩
     have HS14 := Lib.hid (HS13.out.write hb hf HB0.out hcbn)
     clear hb hf hex
     have y4 : w14.cell? ⟨CB, 4, none⟩ = some (.bool false) := HS14.out.cel.cell 4
     go_wp2_with (fail)
     (with_reducible refine (HWZ0.out (acc ++ two n ++ two m ++ tl.data.toList) _ HS14.out.bat (by rw [List.length_append, List.length_append, List.length_append]; have : (two n).length = 2 := rfl; have : (two m).length = 2 := rfl; have : tl.data.toList.length = tl.size := rfl; omega)).mono ?_)
     rintro e w15 ⟨rfl, hb, hf⟩
     have HS15 := Lib.hid (HS14.out.write hb hf HB0.out hcbn)
     clear hb hf y4
     have y5 : w15.cell? ⟨CB, 5, none⟩ = some (.string val) := HS15.out.cel.cell 5
     have y5d : w15.drew.cell? ⟨CB, 5, none⟩ = some (.string val) := y5
     go_wp2_with (fail)
     go_still_tail 7, (by kernel_rfl)
     have HS16 := Lib.hid (HS15.out.on (Fp.drew w15))
     go_wp2_with (fail)
     (with_reducible refine (HWB.out (acc ++ two n ++ two m ++ tl.data.toList ++ [0]) c1 _ HS16.out.bat (by simp only [List.length_append, List.length_singleton]; have : (two n).length = 2 := rfl; have : (two m).length = 2 := rfl; have : tl.data.toList.length = tl.size := rfl; omega)).mono ?_)
     rintro e w17 ⟨rfl, hb, hf⟩
     have HS17 := Lib.hid (HS16.out.write hb hf HB0.out hcbn)
     clear hb hf y5 y5d
     have y5 : w17.cell? ⟨CB, 5, none⟩ = some (.string val) := HS17.out.cel.cell 5
     have y5d : w17.drew.cell? ⟨CB, 5, none⟩ = some (.string val) := y5
     go_wp2_with (fail)
     go_still_tail 5, (by kernel_rfl)
     have HS18 := Lib.hid (HS17.out.on (Fp.drew w17))
     go_wp2_with (fail)
     (with_reducible refine (HWS.out (acc ++ two n ++ two m ++ tl.data.toList ++ [0] ++ [c1]) val _ HS18.out.bat (by simp only [List.length_append, List.length_singleton]; have : (two n).length = 2 := rfl; have : (two m).length = 2 := rfl; have : tl.data.toList.length = tl.size := rfl; omega)).mono ?_)
     rintro e w19 ⟨rfl, hb, hf⟩
     have HS19 := Lib.hid (HS18.out.write hb hf HB0.out hcbn)
     clear hb hf y5 y5d
     go_wp2_with (fail)
     go_roundg (gk - 1)
     case measure => omega
     case rel =>
      refine ⟨k + 1, ky, _, by omega, by simp, rfl, HS19.out.fp, HS19.out.bat, ?_, ?_, hkz⟩
      ·rw [HGO.out, HD.out, show bodyL k last.data.toList (⟨row, col, ts, seq, false, val⟩ :: l.drop (k + 1)) = entL (lastAt k last.data.toList) ⟨row, col, ts, seq, false, val⟩ ++ bodyL (k + 1) (keyL ⟨row, col, ts, seq, false, val⟩) (l.drop (k + 1)) from rfl, HE0.out, HKY.out, HC1.out]
       simp only [List.append_assoc, List.cons_append, List.nil_append]
       rfl
      ·simp only [List.length_append, List.length_singleton]
       have : (two n).length = 2 := rfl
       have : (two m).length = 2 := rfl
       have : tl.data.toList.length = tl.size := rfl
       have : val.data.toList.length = val.size := rfl
       omega
    ·have e4 : ¬ (k : Int) % 4 = 0 := by omega
     have HLA : Hid (lastAt k last.data.toList = last.data.toList) := by unfold Hid lastAt; rw [if_neg h4]
     have HSZ : Hid ((last : ByteArray).size ≤ 180) := by unfold Hid; omega
     go_wp2_with (fail)
     obtain ⟨w8, hw8⟩ : ∃ w8, wr.alloc (.cells #[.string row, .string col, .int .u64 ts, .int .u64 seq, .bool false, .string val] 24) = w8 := ⟨_, rfl⟩
     rw [hw8]
     have HCW : Hid (CelIn w8 wr.heap.size ⟨row, col, ts, seq, false, val⟩) := by rw [← hw8]; exact heap_alloc_at rfl _
     have hf8 : Fp [] wr w8 := by rw [← hw8]; exact Fp.alloc _ _
     have HS8 : Hid (BSt w B wr.heap.size ⟨row, col, ts, seq, false, val⟩ acc w8) := ⟨HF.out.trans hf8 (by simp), HBA.out.fp hf8 (by simp), HCW.out⟩
     have hcbn : wr.heap.size ≠ B := by have := heap_lt (HBA.out.at.choose_spec.2.choose_spec.1); omega
     obtain ⟨CB, hCB⟩ : ∃ CB, wr.heap.size = CB := ⟨_, rfl⟩
     rw [hCB] at HS8 hcbn
     rw [hCB]
     clear hf8 hw8 hCB q0 q1 q2 q3 q4 q5 HCW
     obtain ⟨y0, y1, y2, y3, y4, y5, _⟩ := HS8.out.cel.facts0
     (with_reducible refine (HKE.out _ (HM.out.fp HS8.out.fp List.not_mem_nil)).mono ?_)
     rintro e w9 ⟨rfl, hf⟩
     have HS9 := Lib.hid (HS8.out.on hf)
     clear hf
     go_wp2_with (fail)
     (with_reducible refine (HSH.out last _ (by have := HSZ.out; omega)).mono ?_)
     rintro e w10 ⟨rfl, hf⟩
     have HS10 := Lib.hid (HS9.out.on hf)
     clear hf
     have hsl := share_le (last : ByteArray).data.toList ky.data.toList
     have HE0 : Hid (entL (lastAt k last.data.toList) ⟨row, col, ts, seq, false, val⟩ = two (shareB last ky) ++ two (ky.size - shareB last ky) ++ (ky.extract (shareB last ky) ky.size).data.toList ++ [delN false, UInt8.ofNat val.size] ++ val.data.toList) := by
      unfold Hid entL
      rw [HLA.out, show keyL ⟨row, col, ts, seq, false, val⟩ = ky.data.toList from HKY.out.symm, extract_to_end]
      rfl
     have hkd : ky.data.toList.length = ky.size := rfl
     have hsle : shareB last ky ≤ ky.size := by unfold shareB; omega
     obtain ⟨n, hn⟩ : ∃ n, shareB last ky = n := ⟨_, rfl⟩
     rw [hn] at hsle HE0
     rw [hn]
     obtain ⟨m, hm⟩ : ∃ m, ky.size - n = m := ⟨_, rfl⟩
     have em : (ky.size : Int) - (n : Int) = (m : Int) := by omega
     obtain ⟨tl, htl⟩ : ∃ tl, ky.extract n ky.size = tl := ⟨_, rfl⟩
     have htz : tl.size ≤ 180 := by rw [← htl, ByteArray.size_extract]; omega
     rw [hm, htl] at HE0
     have HTL := Lib.hid htl
     clear hn hsl hkd hm htl
     have hn180 : n ≤ 180 := by omega
     have hm180 : m ≤ 180 := by omega
     go_wp2_with (fail)
     (with_reducible refine (HTW.out acc n _ HS10.out.bat (by omega) (by omega)).mono ?_)
     rintro e w11 ⟨rfl, hb, hf⟩
     have HS11 := Lib.hid (HS10.out.write hb hf HB0.out hcbn)
     clear hb hf
     go_wp2_with (fail)
     (with_reducible refine (HTW.out (acc ++ two n) m _ HS11.out.bat (by rw [List.length_append]; have : (two n).length = 2 := rfl; omega) (by omega)).mono ?_)
     rintro e w12 ⟨rfl, hb, hf⟩
     have HS12 := Lib.hid (HS11.out.write hb hf HB0.out hcbn)
     clear hb hf
     have hex : ky.extract n ky.size = tl := HTL.out
     have hnky : (n : Int) ≤ (ky.size : Int) := by omega
     go_wp2_with (fail)
     go_still_tail 6, (by kernel_rfl)
     have HS13 := Lib.hid (HS12.out.on (Fp.drew w12))
     go_wp2_with (fail)
     (with_reducible refine (HWS.out (acc ++ two n ++ two m) tl _ HS13.out.bat (by rw [List.length_append, List.length_append]; have : (two n).length = 2 := rfl; have : (two m).length = 2 := rfl; omega)).mono ?_)
     rintro e w14 ⟨rfl, hb, hf⟩
     have HS14 := Lib.hid (HS13.out.write hb hf HB0.out hcbn)
     clear hb hf hex
     have y4 : w14.cell? ⟨CB, 4, none⟩ = some (.bool false) := HS14.out.cel.cell 4
     go_wp2_with (fail)
     (with_reducible refine (HWZ0.out (acc ++ two n ++ two m ++ tl.data.toList) _ HS14.out.bat (by rw [List.length_append, List.length_append, List.length_append]; have : (two n).length = 2 := rfl; have : (two m).length = 2 := rfl; have : tl.data.toList.length = tl.size := rfl; omega)).mono ?_)
     rintro e w15 ⟨rfl, hb, hf⟩
     have HS15 := Lib.hid (HS14.out.write hb hf HB0.out hcbn)
     clear hb hf y4
     have y5 : w15.cell? ⟨CB, 5, none⟩ = some (.string val) := HS15.out.cel.cell 5
     have y5d : w15.drew.cell? ⟨CB, 5, none⟩ = some (.string val) := y5
     go_wp2_with (fail)
     go_still_tail 7, (by kernel_rfl)
     have HS16 := Lib.hid (HS15.out.on (Fp.drew w15))
     go_wp2_with (fail)
     (with_reducible refine (HWB.out (acc ++ two n ++ two m ++ tl.data.toList ++ [0]) c1 _ HS16.out.bat (by simp only [List.length_append, List.length_singleton]; have : (two n).length = 2 := rfl; have : (two m).length = 2 := rfl; have : tl.data.toList.length = tl.size := rfl; omega)).mono ?_)
     rintro e w17 ⟨rfl, hb, hf⟩
     have HS17 := Lib.hid (HS16.out.write hb hf HB0.out hcbn)
     clear hb hf y5 y5d
     have y5 : w17.cell? ⟨CB, 5, none⟩ = some (.string val) := HS17.out.cel.cell 5
     have y5d : w17.drew.cell? ⟨CB, 5, none⟩ = some (.string val) := y5
     go_wp2_with (fail)
     go_still_tail 5, (by kernel_rfl)
     have HS18 := Lib.hid (HS17.out.on (Fp.drew w17))
     go_wp2_with (fail)
     (with_reducible refine (HWS.out (acc ++ two n ++ two m ++ tl.data.toList ++ [0] ++ [c1]) val _ HS18.out.bat (by simp only [List.length_append, List.length_singleton]; have : (two n).length = 2 := rfl; have : (two m).length = 2 := rfl; have : tl.data.toList.length = tl.size := rfl; omega)).mono ?_)
     rintro e w19 ⟨rfl, hb, hf⟩
     have HS19 := Lib.hid (HS18.out.write hb hf HB0.out hcbn)
     clear hb hf y5 y5d
     go_wp2_with (fail)
     go_roundg (gk - 1)
     case measure => omega
     case rel =>
      refine ⟨k + 1, ky, _, by omega, by simp, rfl, HS19.out.fp, HS19.out.bat, ?_, ?_, hkz⟩
      ·rw [HGO.out, HD.out, show bodyL k last.data.toList (⟨row, col, ts, seq, false, val⟩ :: l.drop (k + 1)) = entL (lastAt k last.data.toList) ⟨row, col, ts, seq, false, val⟩ ++ bodyL (k + 1) (keyL ⟨row, col, ts, seq, false, val⟩) (l.drop (k + 1)) from rfl, HE0.out, HKY.out, HC1.out]
       simp only [List.append_assoc, List.cons_append, List.nil_append]
       rfl
      ·simp only [List.length_append, List.length_singleton]
       have : (two n).length = 2 := rfl
       have : (two m).length = 2 := rfl
       have : tl.data.toList.length = tl.size := rfl
       have : val.data.toList.length = val.size := rfl
       omega
   ·by_cases h4 : k % 4 = 0
    ·have e4 : (k : Int) % 4 = 0 := by omega
     have HLA : Hid (lastAt k last.data.toList = (⟨#[]⟩ : ByteArray).data.toList) := by unfold Hid lastAt; rw [if_pos h4]
     have HSZ : Hid ((⟨#[]⟩ : ByteArray).size ≤ 180) := by unfold Hid; decide
     go_wp2_with (fail)
     obtain ⟨w8, hw8⟩ : ∃ w8, wr.alloc (.cells #[.string row, .string col, .int .u64 ts, .int .u64 seq, .bool true, .string val] 24) = w8 := ⟨_, rfl⟩
     rw [hw8]
     have HCW : Hid (CelIn w8 wr.heap.size ⟨row, col, ts, seq, true, val⟩) := by rw [← hw8]; exact heap_alloc_at rfl _
     have hf8 : Fp [] wr w8 := by rw [← hw8]; exact Fp.alloc _ _
     have HS8 : Hid (BSt w B wr.heap.size ⟨row, col, ts, seq, true, val⟩ acc w8) := ⟨HF.out.trans hf8 (by simp), HBA.out.fp hf8 (by simp), HCW.out⟩
     have hcbn : wr.heap.size ≠ B := by have := heap_lt (HBA.out.at.choose_spec.2.choose_spec.1); omega
     obtain ⟨CB, hCB⟩ : ∃ CB, wr.heap.size = CB := ⟨_, rfl⟩
     rw [hCB] at HS8 hcbn
     rw [hCB]
     clear hf8 hw8 hCB q0 q1 q2 q3 q4 q5 HCW
     obtain ⟨y0, y1, y2, y3, y4, y5, _⟩ := HS8.out.cel.facts0
     (with_reducible refine (HKE.out _ (HM.out.fp HS8.out.fp List.not_mem_nil)).mono ?_)
     rintro e w9 ⟨rfl, hf⟩
     have HS9 := Lib.hid (HS8.out.on hf)
     clear hf
     go_wp2_with (fail)
     (with_reducible refine (HSH.out ⟨#[]⟩ _ (by have := HSZ.out; omega)).mono ?_)
     rintro e w10 ⟨rfl, hf⟩
     have HS10 := Lib.hid (HS9.out.on hf)
     clear hf
     have hsl := share_le (⟨#[]⟩ : ByteArray).data.toList ky.data.toList
     have HE0 : Hid (entL (lastAt k last.data.toList) ⟨row, col, ts, seq, true, val⟩ = two (shareB ⟨#[]⟩ ky) ++ two (ky.size - shareB ⟨#[]⟩ ky) ++ (ky.extract (shareB ⟨#[]⟩ ky) ky.size).data.toList ++ [delN true, UInt8.ofNat val.size] ++ val.data.toList) := by
      unfold Hid entL
      rw [HLA.out, show keyL ⟨row, col, ts, seq, true, val⟩ = ky.data.toList from HKY.out.symm, extract_to_end]
      rfl
     have hkd : ky.data.toList.length = ky.size := rfl
     have hsle : shareB ⟨#[]⟩ ky ≤ ky.size := by unfold shareB; omega
     obtain ⟨n, hn⟩ : ∃ n, shareB ⟨#[]⟩ ky = n := ⟨_, rfl⟩
     rw [hn] at hsle HE0
     rw [hn]
     obtain ⟨m, hm⟩ : ∃ m, ky.size - n = m := ⟨_, rfl⟩
     have em : (ky.size : Int) - (n : Int) = (m : Int) := by omega
     obtain ⟨tl, htl⟩ : ∃ tl, ky.extract n ky.size = tl := ⟨_, rfl⟩
     have htz : tl.size ≤ 180 := by rw [← htl, ByteArray.size_extract]; omega
     rw [hm, htl] at HE0
     have HTL := Lib.hid htl
     clear hn hsl hkd hm htl
     have hn180 : n ≤ 180 := by omega
     have hm180 : m ≤ 180 := by omega
     go_wp2_with (fail)
     (with_reducible refine (HTW.out acc n _ HS10.out.bat (by omega) (by omega)).mono ?_)
     rintro e w11 ⟨rfl, hb, hf⟩
     have HS11 := Lib.hid (HS10.out.write hb hf HB0.out hcbn)
     clear hb hf
     go_wp2_with (fail)
     (with_reducible refine (HTW.out (acc ++ two n) m _ HS11.out.bat (by rw [List.length_append]; have : (two n).length = 2 := rfl; omega) (by omega)).mono ?_)
     rintro e w12 ⟨rfl, hb, hf⟩
     have HS12 := Lib.hid (HS11.out.write hb hf HB0.out hcbn)
     clear hb hf
     have hex : ky.extract n ky.size = tl := HTL.out
     have hnky : (n : Int) ≤ (ky.size : Int) := by omega
     go_wp2_with (fail)
     go_still_tail 6, (by kernel_rfl)
     have HS13 := Lib.hid (HS12.out.on (Fp.drew w12))
     go_wp2_with (fail)
     (with_reducible refine (HWS.out (acc ++ two n ++ two m) tl _ HS13.out.bat (by rw [List.length_append, List.length_append]; have : (two n).length = 2 := rfl; have : (two m).length = 2 := rfl; omega)).mono ?_)
     rintro e w14 ⟨rfl, hb, hf⟩
     have HS14 := Lib.hid (HS13.out.write hb hf HB0.out hcbn)
     clear hb hf hex
     have y4 : w14.cell? ⟨CB, 4, none⟩ = some (.bool true) := HS14.out.cel.cell 4
     go_wp2_with (fail)
     (with_reducible refine (HWZ1.out (acc ++ two n ++ two m ++ tl.data.toList) _ HS14.out.bat (by rw [List.length_append, List.length_append, List.length_append]; have : (two n).length = 2 := rfl; have : (two m).length = 2 := rfl; have : tl.data.toList.length = tl.size := rfl; omega)).mono ?_)
     rintro e w15 ⟨rfl, hb, hf⟩
     have HS15 := Lib.hid (HS14.out.write hb hf HB0.out hcbn)
     clear hb hf y4
     have y5 : w15.cell? ⟨CB, 5, none⟩ = some (.string val) := HS15.out.cel.cell 5
     have y5d : w15.drew.cell? ⟨CB, 5, none⟩ = some (.string val) := y5
     go_wp2_with (fail)
     go_still_tail 7, (by kernel_rfl)
     have HS16 := Lib.hid (HS15.out.on (Fp.drew w15))
     go_wp2_with (fail)
     (with_reducible refine (HWB.out (acc ++ two n ++ two m ++ tl.data.toList ++ [1]) c1 _ HS16.out.bat (by simp only [List.length_append, List.length_singleton]; have : (two n).length = 2 := rfl; have : (two m).length = 2 := rfl; have : tl.data.toList.length = tl.size := rfl; omega)).mono ?_)
     rintro e w17 ⟨rfl, hb, hf⟩
     have HS17 := Lib.hid (HS16.out.write hb hf HB0.out hcbn)
     clear hb hf y5 y5d
     have y5 : w17.cell? ⟨CB, 5, none⟩ = some (.string val) := HS17.out.cel.cell 5
     have y5d : w17.drew.cell? ⟨CB, 5, none⟩ = some (.string val) := y5
     go_wp2_with (fail)
     go_still_tail 5, (by kernel_rfl)
     have HS18 := Lib.hid (HS17.out.on (Fp.drew w17))
     go_wp2_with (fail)
     (with_reducible refine (HWS.out (acc ++ two n ++ two m ++ tl.data.toList ++ [1] ++ [c1]) val _ HS18.out.bat (by simp only [List.length_append, List.length_singleton]; have : (two n).length = 2 := rfl; have : (two m).length = 2 := rfl; have : tl.data.toList.length = tl.size := rfl; omega)).mono ?_)
     rintro e w19 ⟨rfl, hb, hf⟩
     have HS19 := Lib.hid (HS18.out.write hb hf HB0.out hcbn)
     clear hb hf y5 y5d
     go_wp2_with (fail)
     go_roundg (gk - 1)
     case measure => omega
     case rel =>
      refine ⟨k + 1, ky, _, by omega, by simp, rfl, HS19.out.fp, HS19.out.bat, ?_, ?_, hkz⟩
      ·rw [HGO.out, HD.out, show bodyL k last.data.toList (⟨row, col, ts, seq, true, val⟩ :: l.drop (k + 1)) = entL (lastAt k last.data.toList) ⟨row, col, ts, seq, true, val⟩ ++ bodyL (k + 1) (keyL ⟨row, col, ts, seq, true, val⟩) (l.drop (k + 1)) from rfl, HE0.out, HKY.out, HC1.out]
       simp only [List.append_assoc, List.cons_append, List.nil_append]
       rfl
      ·simp only [List.length_append, List.length_singleton]
       have : (two n).length = 2 := rfl
       have : (two m).length = 2 := rfl
       have : tl.data.toList.length = tl.size := rfl
       have : val.data.toList.length = val.size := rfl
       omega
    ·have e4 : ¬ (k : Int) % 4 = 0 := by omega
     have HLA : Hid (lastAt k last.data.toList = last.data.toList) := by unfold Hid lastAt; rw [if_neg h4]
     have HSZ : Hid ((last : ByteArray).size ≤ 180) := by unfold Hid; omega
     go_wp2_with (fail)
     obtain ⟨w8, hw8⟩ : ∃ w8, wr.alloc (.cells #[.string row, .string col, .int .u64 ts, .int .u64 seq, .bool true, .string val] 24) = w8 := ⟨_, rfl⟩
     rw [hw8]
     have HCW : Hid (CelIn w8 wr.heap.size ⟨row, col, ts, seq, true, val⟩) := by rw [← hw8]; exact heap_alloc_at rfl _
     have hf8 : Fp [] wr w8 := by rw [← hw8]; exact Fp.alloc _ _
     have HS8 : Hid (BSt w B wr.heap.size ⟨row, col, ts, seq, true, val⟩ acc w8) := ⟨HF.out.trans hf8 (by simp), HBA.out.fp hf8 (by simp), HCW.out⟩
     have hcbn : wr.heap.size ≠ B := by have := heap_lt (HBA.out.at.choose_spec.2.choose_spec.1); omega
     obtain ⟨CB, hCB⟩ : ∃ CB, wr.heap.size = CB := ⟨_, rfl⟩
     rw [hCB] at HS8 hcbn
     rw [hCB]
     clear hf8 hw8 hCB q0 q1 q2 q3 q4 q5 HCW
     obtain ⟨y0, y1, y2, y3, y4, y5, _⟩ := HS8.out.cel.facts0
     (with_reducible refine (HKE.out _ (HM.out.fp HS8.out.fp List.not_mem_nil)).mono ?_)
     rintro e w9 ⟨rfl, hf⟩
     have HS9 := Lib.hid (HS8.out.on hf)
     clear hf
     go_wp2_with (fail)
     (with_reducible refine (HSH.out last _ (by have := HSZ.out; omega)).mono ?_)
     rintro e w10 ⟨rfl, hf⟩
     have HS10 := Lib.hid (HS9.out.on hf)
     clear hf
     have hsl := share_le (last : ByteArray).data.toList ky.data.toList
     have HE0 : Hid (entL (lastAt k last.data.toList) ⟨row, col, ts, seq, true, val⟩ = two (shareB last ky) ++ two (ky.size - shareB last ky) ++ (ky.extract (shareB last ky) ky.size).data.toList ++ [delN true, UInt8.ofNat val.size] ++ val.data.toList) := by
      unfold Hid entL
      rw [HLA.out, show keyL ⟨row, col, ts, seq, true, val⟩ = ky.data.toList from HKY.out.symm, extract_to_end]
      rfl
     have hkd : ky.data.toList.length = ky.size := rfl
     have hsle : shareB last ky ≤ ky.size := by unfold shareB; omega
     obtain ⟨n, hn⟩ : ∃ n, shareB last ky = n := ⟨_, rfl⟩
     rw [hn] at hsle HE0
     rw [hn]
     obtain ⟨m, hm⟩ : ∃ m, ky.size - n = m := ⟨_, rfl⟩
     have em : (ky.size : Int) - (n : Int) = (m : Int) := by omega
     obtain ⟨tl, htl⟩ : ∃ tl, ky.extract n ky.size = tl := ⟨_, rfl⟩
     have htz : tl.size ≤ 180 := by rw [← htl, ByteArray.size_extract]; omega
     rw [hm, htl] at HE0
     have HTL := Lib.hid htl
     clear hn hsl hkd hm htl
     have hn180 : n ≤ 180 := by omega
     have hm180 : m ≤ 180 := by omega
     go_wp2_with (fail)
     (with_reducible refine (HTW.out acc n _ HS10.out.bat (by omega) (by omega)).mono ?_)
     rintro e w11 ⟨rfl, hb, hf⟩
     have HS11 := Lib.hid (HS10.out.write hb hf HB0.out hcbn)
     clear hb hf
     go_wp2_with (fail)
     (with_reducible refine (HTW.out (acc ++ two n) m _ HS11.out.bat (by rw [List.length_append]; have : (two n).length = 2 := rfl; omega) (by omega)).mono ?_)
     rintro e w12 ⟨rfl, hb, hf⟩
     have HS12 := Lib.hid (HS11.out.write hb hf HB0.out hcbn)
     clear hb hf
     have hex : ky.extract n ky.size = tl := HTL.out
     have hnky : (n : Int) ≤ (ky.size : Int) := by omega
     go_wp2_with (fail)
     go_still_tail 6, (by kernel_rfl)
     have HS13 := Lib.hid (HS12.out.on (Fp.drew w12))
     go_wp2_with (fail)
     (with_reducible refine (HWS.out (acc ++ two n ++ two m) tl _ HS13.out.bat (by rw [List.length_append, List.length_append]; have : (two n).length = 2 := rfl; have : (two m).length = 2 := rfl; omega)).mono ?_)
     rintro e w14 ⟨rfl, hb, hf⟩
     have HS14 := Lib.hid (HS13.out.write hb hf HB0.out hcbn)
     clear hb hf hex
     have y4 : w14.cell? ⟨CB, 4, none⟩ = some (.bool true) := HS14.out.cel.cell 4
     go_wp2_with (fail)
     (with_reducible refine (HWZ1.out (acc ++ two n ++ two m ++ tl.data.toList) _ HS14.out.bat (by rw [List.length_append, List.length_append, List.length_append]; have : (two n).length = 2 := rfl; have : (two m).length = 2 := rfl; have : tl.data.toList.length = tl.size := rfl; omega)).mono ?_)
     rintro e w15 ⟨rfl, hb, hf⟩
     have HS15 := Lib.hid (HS14.out.write hb hf HB0.out hcbn)
     clear hb hf y4
     have y5 : w15.cell? ⟨CB, 5, none⟩ = some (.string val) := HS15.out.cel.cell 5
     have y5d : w15.drew.cell? ⟨CB, 5, none⟩ = some (.string val) := y5
     go_wp2_with (fail)
     go_still_tail 7, (by kernel_rfl)
     have HS16 := Lib.hid (HS15.out.on (Fp.drew w15))
     go_wp2_with (fail)
     (with_reducible refine (HWB.out (acc ++ two n ++ two m ++ tl.data.toList ++ [1]) c1 _ HS16.out.bat (by simp only [List.length_append, List.length_singleton]; have : (two n).length = 2 := rfl; have : (two m).length = 2 := rfl; have : tl.data.toList.length = tl.size := rfl; omega)).mono ?_)
     rintro e w17 ⟨rfl, hb, hf⟩
     have HS17 := Lib.hid (HS16.out.write hb hf HB0.out hcbn)
     clear hb hf y5 y5d
     have y5 : w17.cell? ⟨CB, 5, none⟩ = some (.string val) := HS17.out.cel.cell 5
     have y5d : w17.drew.cell? ⟨CB, 5, none⟩ = some (.string val) := y5
     go_wp2_with (fail)
     go_still_tail 5, (by kernel_rfl)
     have HS18 := Lib.hid (HS17.out.on (Fp.drew w17))
     go_wp2_with (fail)
     (with_reducible refine (HWS.out (acc ++ two n ++ two m ++ tl.data.toList ++ [1] ++ [c1]) val _ HS18.out.bat (by simp only [List.length_append, List.length_singleton]; have : (two n).length = 2 := rfl; have : (two m).length = 2 := rfl; have : tl.data.toList.length = tl.size := rfl; omega)).mono ?_)
     rintro e w19 ⟨rfl, hb, hf⟩
     have HS19 := Lib.hid (HS18.out.write hb hf HB0.out hcbn)
     clear hb hf y5 y5d
     go_wp2_with (fail)
     go_roundg (gk - 1)
     case measure => omega
     case rel =>
      refine ⟨k + 1, ky, _, by omega, by simp, rfl, HS19.out.fp, HS19.out.bat, ?_, ?_, hkz⟩
      ·rw [HGO.out, HD.out, show bodyL k last.data.toList (⟨row, col, ts, seq, true, val⟩ :: l.drop (k + 1)) = entL (lastAt k last.data.toList) ⟨row, col, ts, seq, true, val⟩ ++ bodyL (k + 1) (keyL ⟨row, col, ts, seq, true, val⟩) (l.drop (k + 1)) from rfl, HE0.out, HKY.out, HC1.out]
       simp only [List.append_assoc, List.cons_append, List.nil_append]
       rfl
      ·simp only [List.length_append, List.length_singleton]
       have : (two n).length = 2 := rfl
       have : (two m).length = 2 := rfl
       have : tl.data.toList.length = tl.size := rfl
       have : val.data.toList.length = val.size := rfl
       omega
  ·have hkl : ¬ (k : Int) < (len : Int) := by omega
   have HD : Hid (l.drop k = []) := List.drop_eq_nil_of_le (by rw [← HLEN.out]; omega)
   go_wp2_with (fail)
   (with_reducible refine (HST.out acc _ HBA.out).mono ?_)
   rintro e w4 ⟨rfl, hb⟩
   have HF4 : Hid (Fp [] w w4) := HF.out.belowTrans (hb.mono HB0.out)
   clear hb
   go_wp2_with (fail)
   go_ret2
   rw [HR.out, ← HLEN.out, HC0.out, HGO.out, HD.out]
   exact ⟨by rw [show bodyL k last.data.toList [] = [] from rfl, List.append_nil]; rfl, HF4.out⟩
end Go.Proofs.YtkjmgbifoaoefaaGreatDoor
