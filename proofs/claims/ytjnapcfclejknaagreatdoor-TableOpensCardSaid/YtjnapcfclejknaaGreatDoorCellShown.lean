/-
  Decode. Encode. Encode and Decode: plain laws. The small case of layer 1, and the bound. Cells stand as their keys' bytes do.
-/
import Derived.Test.YtjnapcfclejknaaGreatDoorCellKey
import Derived.Test.YtjnapcfclejknaaGreatDoorCellRead
import Derived.Deep.RegionHeld3
import Derived.Test.YtjnapcfclejknaaGreatDoorBytesStep
import Derived.Outline
namespace Go.Proofs.YtjnapcfclejknaaGreatDoor
section
open Go.RowKit

def decO (c : Cel) (r : Rd) : Cel × ByteArray × Int :=
  if r.e = 0 then (if mayB c = true then (c, r.rest, 0) else (zeroC, ⟨#[]⟩, 1)) else (zeroC, ⟨#[]⟩, r.e)
def decP (s : ByteArray) : Cel × ByteArray × Int :=
  decO ⟨(⟨s, 0⟩ : Rd).text.1, (⟨s, 0⟩ : Rd).text.2.text.1, (⟨s, 0⟩ : Rd).text.2.text.2.number.1, (⟨s, 0⟩ : Rd).text.2.text.2.number.2.number.1, (⟨s, 0⟩ : Rd).text.2.text.2.number.2.number.2.flag.1, (⟨s, 0⟩ : Rd).text.2.text.2.number.2.number.2.flag.2.text.1⟩
    (⟨s, 0⟩ : Rd).text.2.text.2.number.2.number.2.flag.2.text.2

theorem text_size (r : Rd) : r.text.1.size ≤ 255 := by
  unfold Rd.text
  rw [take_size]
  have : (atB (r.take 1).1 0).toNat < 256 := (atB (r.take 1).1 0).toNat_lt
  omega
theorem text_rest (r : Rd) : r.text.2.rest.size ≤ r.rest.size := Nat.le_trans (take_rest _ _) (take_rest _ _)
theorem number_rest (r : Rd) : r.number.2.rest.size ≤ r.rest.size := take_rest _ _
theorem flag_rest (r : Rd) : r.flag.2.rest.size ≤ r.rest.size := by
  unfold Rd.flag
  show (if _ then _ else _ : Rd).rest.size ≤ _
  split
  · exact take_rest r 1
  · exact take_rest r 1
theorem number_lt (r : Rd) : r.number.1 < 18446744073709551616 := leN_lt _ 8

end

section
open Go.RowKit

def delN (d : Bool) : UInt8 := if d then 1 else 0
def encL (c : Cel) : List UInt8 :=
  UInt8.ofNat c.row.size :: c.row.data.toList ++ (UInt8.ofNat c.col.size :: c.col.data.toList) ++ le8 c.ts ++ le8 c.seq ++ [delN c.del, UInt8.ofNat c.val.size] ++ c.val.data.toList
def encB (c : Cel) : ByteArray := if mayB c = true then ⟨(encL c).toArray⟩ else ⟨#[]⟩
def encE (c : Cel) : Int := if mayB c = true then 0 else 1

end

section
open Go.Lib

def bl (l : List UInt8) : ByteArray := ⟨l.toArray⟩
theorem bl_data (s : ByteArray) : bl s.data.toList = s := mk_data s
theorem bl_size (l : List UInt8) : (bl l).size = l.length := by show l.toArray.size = _; simp
theorem bl_toList (l : List UInt8) : (bl l).data.toList = l := by simp [bl]
theorem bl_inj {a b : List UInt8} (h : bl a = bl b) : a = b := by rw [← bl_toList a, h, bl_toList]
theorem bl_extract (l : List UInt8) (a b : Nat) : (bl l).extract a b = bl ((l.drop a).take (b - a)) := by
  rw [← bl_data ((bl l).extract a b)]
  congr 1
  rw [extract_data, bl_toList]
theorem bl_at (l : List UInt8) (j : Nat) : atB (bl l) j = l.getD j 0 := by unfold atB; rw [bl_toList]

theorem take_app (x y : List UInt8) : (⟨bl (x ++ y), 0⟩ : Rd).take x.length = (bl x, ⟨bl y, 0⟩) := by
  unfold Rd.take
  rw [if_pos rfl, if_pos (by simp [bl_size])]
  rw [bl_extract, bl_extract, bl_size]
  simp
theorem take_few (l : List UInt8) (n : Nat) (h : l.length < n) : ((⟨bl l, 0⟩ : Rd).take n).2 = ⟨bl l, 10⟩ := by
  unfold Rd.take
  rw [if_pos rfl, if_neg (by simp [bl_size]; omega)]
theorem take_err (r : Rd) (n : Nat) (h : r.e ≠ 0) : (r.take n).2 = r := by
  unfold Rd.take
  rw [if_neg h]
theorem text_err (r : Rd) (h : r.e ≠ 0) : r.text.2 = r := by
  unfold Rd.text
  rw [take_err r 1 h, take_err r _ h]
theorem number_err (r : Rd) (h : r.e ≠ 0) : r.number.2 = r := take_err r 8 h
theorem flag_err (r : Rd) (h : r.e ≠ 0) : r.flag.2 = r := by
  unfold Rd.flag
  show (if _ then _ else _ : Rd) = r
  rw [take_err r 1 h, if_neg (fun k => h k.1)]

theorem toNat_ofNat {n : Nat} (h : n < 256) : (UInt8.ofNat n).toNat = n := by rw [UInt8.toNat_ofNat', Nat.mod_eq_of_lt h]
theorem text_app (x y : List UInt8) (h : x.length < 256) : (⟨bl (UInt8.ofNat x.length :: (x ++ y)), 0⟩ : Rd).text = (bl x, ⟨bl y, 0⟩) := by
  unfold Rd.text
  have h1 := take_app [UInt8.ofNat x.length] (x ++ y)
  simp only [List.length_cons, List.length_nil, List.cons_append, List.nil_append, Nat.zero_add] at h1
  rw [h1, bl_at]
  show Rd.take ⟨bl (x ++ y), 0⟩ (UInt8.ofNat x.length).toNat = _
  rw [toNat_ofNat h, take_app]
theorem text_cut (x y : List UInt8) (h : x.length < 256) (k : Nat) (hk : k ≤ x.length) : (⟨bl ((UInt8.ofNat x.length :: (x ++ y)).take k), 0⟩ : Rd).text.2.e = 10 := by
  unfold Rd.text
  cases k with
  | zero =>
    have h1 := take_few [] 1 (by decide)
    show ((((⟨bl [], 0⟩ : Rd).take 1).2).take _).2.e = 10
    rw [h1, take_err _ _ (by decide)]
  | succ k =>
    have h1 := take_app [UInt8.ofNat x.length] ((x ++ y).take k)
    simp only [List.length_cons, List.length_nil, List.cons_append, List.nil_append, Nat.zero_add] at h1
    rw [List.take_succ_cons, h1, bl_at]
    show (Rd.take ⟨bl ((x ++ y).take k), 0⟩ (UInt8.ofNat x.length).toNat).2.e = 10
    rw [toNat_ofNat h, take_few _ _ (by simp; omega)]

theorem leN_congr {s t : ByteArray} : ∀ k, (∀ j, j < k → atB s j = atB t j) → leN s k = leN t k
  | 0, _ => rfl
  | k + 1, h => by
    show leN s k + _ = leN t k + _
    rw [leN_congr k (fun j hj => h j (by omega)), h k (by omega)]

theorem leN_le8 (n : Nat) (y : List UInt8) : ∀ k, k ≤ 8 → leN (bl (le8 n ++ y)) k = n % 256 ^ k
  | 0, _ => by simp [leN, Nat.mod_one]
  | k + 1, h => by
    show leN _ k + _ = _
    rw [leN_le8 n y k (by omega), bl_at, List.getD_eq_getElem?_getD, List.getElem?_append_left (by rw [le8_length]; omega)]
    have : (le8 n)[k]? = some (byteN n k) := by
      unfold le8
      rw [List.getElem?_map, List.getElem?_range (by omega)]
      rfl
    rw [this]
    show _ + (byteN n k).toNat * _ = _
    unfold byteN
    have h2 := Nat.mod_mul (x := n) (a := 256 ^ k) (b := 256)
    have h3 : (256 : Nat) ^ (k + 1) = 256 ^ k * 256 := Nat.pow_succ _ _
    rw [UInt8.toNat_ofNat', show (2 : Nat) ^ 8 = 256 from rfl, h3, h2, Nat.mul_comm (256 ^ k) (n / 256 ^ k % 256)]
theorem number_app (n : Nat) (h : n < 18446744073709551616) (y : List UInt8) : (⟨bl (le8 n ++ y), 0⟩ : Rd).number = (n, ⟨bl y, 0⟩) := by
  unfold Rd.number
  have h1 := take_app (le8 n) y
  rw [le8_length] at h1
  rw [h1]
  have h2 := leN_le8 n [] 8 (Nat.le_refl _)
  rw [List.append_nil] at h2
  rw [h2, Nat.mod_eq_of_lt (by have : (256 : Nat) ^ 8 = 18446744073709551616 := by decide
                               omega)]
theorem number_cut (n : Nat) (y : List UInt8) (k : Nat) (hk : k < 8) : (⟨bl ((le8 n ++ y).take k), 0⟩ : Rd).number.2.e = 10 := by
  unfold Rd.number
  rw [take_few _ _ (by simp; omega)]
theorem flag_app (d : Bool) (y : List UInt8) : (⟨bl (delN d :: y), 0⟩ : Rd).flag = (d, ⟨bl y, 0⟩) := by
  unfold Rd.flag
  have h1 := take_app [delN d] y
  simp only [List.length_cons, List.length_nil, List.cons_append, List.nil_append, Nat.zero_add] at h1
  rw [h1, bl_at]
  cases d
  · rfl
  · rfl
theorem flag_cut (l : List UInt8) : (⟨bl (l.take 0), 0⟩ : Rd).flag.2.e = 10 := by
  unfold Rd.flag
  rw [List.take_zero, take_few [] 1 (by decide)]
  rfl

theorem encL_form (c : Cel) (rest : List UInt8) : encL c ++ rest = UInt8.ofNat c.row.data.toList.length :: (c.row.data.toList ++ (UInt8.ofNat c.col.data.toList.length :: (c.col.data.toList ++ (le8 c.ts ++ (le8 c.seq ++ (delN c.del :: (UInt8.ofNat c.val.data.toList.length :: (c.val.data.toList ++ rest)))))))) := by
  unfold encL
  rw [← size_eq, ← size_eq, ← size_eq]
  simp

/-- what was encoded is decoded -/
theorem dec_enc (c : Cel) (hc : CelOK c) (hm : mayB c = true) (rest : List UInt8) : decP (bl (encL c ++ rest)) = (c, bl rest, 0) := by
  obtain ⟨⟨_, hr⟩, ⟨_, hk⟩, hv, _⟩ := mayB_true hm
  rw [size_eq] at hr hk hv
  unfold decP
  rw [encL_form, text_app _ _ (by omega), text_app _ _ (by omega), number_app _ hc.ts, number_app _ hc.seq, flag_app, text_app _ _ (by omega)]
  simp only [bl_data]
  unfold decO
  rw [if_pos rfl, if_pos hm]

theorem decO_err {c : Cel} {r : Rd} (h : r.e = 10) : decO c r = (zeroC, ⟨#[]⟩, 10) := by
  unfold decO
  rw [if_neg (by rw [h]; decide), h]

/-- bytes that lost their end are short -/
theorem dec_cut (c : Cel) (hc : CelOK c) (hm : mayB c = true) (k : Nat) (hk : k < (encL c).length) : decP (bl ((encL c).take k)) = (zeroC, ⟨#[]⟩, 10) := by
  obtain ⟨⟨_, hr⟩, ⟨_, hc2⟩, hv, _⟩ := mayB_true hm
  rw [size_eq] at hr hc2 hv
  have hform := encL_form c []
  rw [List.append_nil, List.append_nil] at hform
  rw [hform] at hk ⊢
  simp only [List.length_cons, List.length_append, le8_length] at hk
  have ten : ∀ {r : Rd}, r.e = 10 → r.e ≠ 0 := fun h => by rw [h]; decide
  have pass : ∀ (p y : List UInt8) (k : Nat), p.length ≤ k → (p ++ y).take k = p ++ y.take (k - p.length) := by
    intro p y k h; rw [List.take_append, List.take_of_length_le h]
  have pass1 : ∀ (b : UInt8) (p y : List UInt8) (k : Nat), p.length + 1 ≤ k → (b :: (p ++ y)).take k = b :: (p ++ y.take (k - (p.length + 1))) := by
    intro b p y k h
    have := pass (b :: p) y k (by simpa using h)
    simpa using this
  unfold decP
  apply decO_err
  by_cases h1 : k ≤ c.row.data.toList.length
  · have e1 := text_cut c.row.data.toList (UInt8.ofNat c.col.data.toList.length :: (c.col.data.toList ++ (le8 c.ts ++ (le8 c.seq ++ (delN c.del :: (UInt8.ofNat c.val.data.toList.length :: c.val.data.toList)))))) (by omega) k h1
    rw [text_err _ (ten e1), number_err _ (ten e1), number_err _ (ten e1), flag_err _ (ten e1), text_err _ (ten e1)]
    exact e1
  rw [pass1 _ _ _ _ (by omega), text_app _ _ (by omega)]
  generalize hk2 : k - (c.row.data.toList.length + 1) = k2
  by_cases h2 : k2 ≤ c.col.data.toList.length
  · have e1 := text_cut c.col.data.toList (le8 c.ts ++ (le8 c.seq ++ (delN c.del :: (UInt8.ofNat c.val.data.toList.length :: c.val.data.toList)))) (by omega) k2 h2
    rw [number_err _ (ten e1), number_err _ (ten e1), flag_err _ (ten e1), text_err _ (ten e1)]
    exact e1
  rw [pass1 _ _ _ _ (by omega), text_app _ _ (by omega)]
  generalize hk3 : k2 - (c.col.data.toList.length + 1) = k3
  by_cases h3 : k3 < 8
  · have e1 := number_cut c.ts (le8 c.seq ++ (delN c.del :: (UInt8.ofNat c.val.data.toList.length :: c.val.data.toList))) k3 h3
    rw [number_err _ (ten e1), flag_err _ (ten e1), text_err _ (ten e1)]
    exact e1
  rw [pass _ _ _ (by rw [le8_length]; omega), number_app _ hc.ts, le8_length]
  generalize hk4 : k3 - 8 = k4
  by_cases h4 : k4 < 8
  · have e1 := number_cut c.seq (delN c.del :: (UInt8.ofNat c.val.data.toList.length :: c.val.data.toList)) k4 h4
    rw [flag_err _ (ten e1), text_err _ (ten e1)]
    exact e1
  rw [pass _ _ _ (by rw [le8_length]; omega), number_app _ hc.seq, le8_length]
  generalize hk5 : k4 - 8 = k5
  by_cases h5 : k5 = 0
  · subst h5
    have e1 := flag_cut (delN c.del :: (UInt8.ofNat c.val.data.toList.length :: c.val.data.toList))
    rw [text_err _ (ten e1)]
    exact e1
  obtain ⟨k6, rfl⟩ : ∃ k6, k5 = k6 + 1 := ⟨k5 - 1, by omega⟩
  rw [List.take_succ_cons, flag_app]
  have e1 := text_cut c.val.data.toList [] (by omega) k6 (by omega)
  rw [List.append_nil] at e1
  exact e1
end

section
open Go.RowKit

def bdB (c : Cel) : Bool := decide (c.row.size ≤ 200 ∧ c.col.size ≤ 200 ∧ c.val.size ≤ 300)

def ca : Cel := ⟨⟨#[114]⟩, ⟨#[99]⟩, 5, 0, false, ⟨#[118]⟩⟩
def cb : Cel := ⟨⟨#[114]⟩, ⟨#[99]⟩, 4, 0, false, ⟨#[]⟩⟩
theorem ca_ok : CelOK ca := ⟨by decide, by decide, by decide, by decide, by decide⟩
theorem cb_ok : CelOK cb := ⟨by decide, by decide, by decide, by decide, by decide⟩
theorem ca_may : mayB ca = true := by decide
theorem ca_key : (⟨(keyL ca).toArray⟩ : ByteArray).size = 22 := by decide

end

section
open Go.Lib

def beK (n : Nat) : Nat → List UInt8
  | 0 => []
  | k + 1 => byteN n k :: beK n k
theorem be8_beK (n : Nat) : be8 n = beK n 8 := rfl
theorem cmpN_self (n : Nat) : cmpN n n = 0 := cmpN_eq (Nat.lt_irrefl _) (Nat.lt_irrefl _)
theorem cb_beK (n m : Nat) (X Y : List UInt8) : ∀ k, compareBytes (beK n k ++ X) (beK m k ++ Y) = if n % 256 ^ k = m % 256 ^ k then compareBytes X Y else cmpN (n % 256 ^ k) (m % 256 ^ k)
  | 0 => by simp [beK, Nat.mod_one]
  | k + 1 => by
    have ih := cb_beK n m X Y k
    have hn := Nat.mod_mul (x := n) (a := 256 ^ k) (b := 256)
    have hm := Nat.mod_mul (x := m) (a := 256 ^ k) (b := 256)
    have hp : (256 : Nat) ^ (k + 1) = 256 ^ k * 256 := Nat.pow_succ _ _
    have hpos : 0 < (256 : Nat) ^ k := Nat.pow_pos (by decide)
    have ln := Nat.mod_lt n hpos
    have lm := Nat.mod_lt m hpos
    have bn : (byteN n k).toNat = n / 256 ^ k % 256 := by unfold byteN; rw [UInt8.toNat_ofNat']
    have bm : (byteN m k).toNat = m / 256 ^ k % 256 := by unfold byteN; rw [UInt8.toNat_ofNat']
    rw [hp, hn, hm]
    show compareBytes (byteN n k :: (beK n k ++ X)) (byteN m k :: (beK m k ++ Y)) = _
    generalize n / 256 ^ k % 256 = a at *
    generalize m / 256 ^ k % 256 = b at *
    generalize n % 256 ^ k = r at *
    generalize m % 256 ^ k = s at *
    generalize (256 : Nat) ^ k = P at *
    rcases Nat.lt_trichotomy a b with h | h | h
    · have h2 : P * (a + 1) ≤ P * b := Nat.mul_le_mul_left _ h
      rw [Nat.mul_add, Nat.mul_one] at h2
      rw [cb_cons_lt (UInt8.lt_iff_toNat_lt.2 (by omega)), if_neg (by omega), cmpN_lt (by omega)]
    · subst h
      obtain e : byteN n k = byteN m k := UInt8.toNat_inj.1 (by omega)
      rw [e, cb_cons_same, ih]
      by_cases hrs : r = s
      · rw [if_pos hrs, if_pos (by omega)]
      · rw [if_neg hrs, if_neg (by omega)]
        rcases Nat.lt_or_gt_of_ne hrs with h | h
        · rw [cmpN_lt h, cmpN_lt (by omega)]
        · rw [cmpN_gt h, cmpN_gt (by omega)]
    · have h2 : P * (b + 1) ≤ P * a := Nat.mul_le_mul_left _ h
      rw [Nat.mul_add, Nat.mul_one] at h2
      rw [cb_cons_gt (UInt8.lt_iff_toNat_lt.2 (by omega)), if_neg (by omega), cmpN_gt (by omega)]
theorem cb_be8 (n m : Nat) (hn : n < 18446744073709551616) (hm : m < 18446744073709551616) (X Y : List UInt8) : compareBytes (be8 n ++ X) (be8 m ++ Y) = if n = m then compareBytes X Y else cmpN n m := by
  have h := cb_beK n m X Y 8
  have e : (256 : Nat) ^ 8 = 18446744073709551616 := by decide
  rw [e, Nat.mod_eq_of_lt hn, Nat.mod_eq_of_lt hm] at h
  rw [be8_beK, be8_beK]
  exact h

theorem cmpN_zero {a b : Nat} (h : cmpN a b = 0) : a = b := by
  unfold cmpN at h
  by_cases h1 : a < b
  · rw [if_pos h1] at h; exact absurd h (by decide)
  · by_cases h2 : b < a
    · rw [if_neg h1, if_pos h2] at h; exact absurd h (by decide)
    · omega
theorem cmpN_turn (a b : Nat) (ha : a < 18446744073709551616) (hb : b < 18446744073709551616) : cmpN (M64 - a) (M64 - b) = cmpN b a := by
  unfold cmpN M64
  by_cases h1 : b < a
  · rw [if_pos h1, if_pos (by omega)]
  · by_cases h2 : a < b
    · rw [if_neg h1, if_pos h2, if_neg (by omega), if_pos (by omega)]
    · rw [if_neg h1, if_neg h2, if_neg (by omega), if_neg (by omega)]

theorem key_order (a b : Cel) (ha : CelOK a) (hb : CelOK b) : compareBytes (keyL a) (keyL b) = cmpC a b := by
  unfold keyL cmpC
  rw [cb_esc]
  unfold firstN
  by_cases h1 : a.row.data.toList = b.row.data.toList
  · have z1 : cmpS a.row b.row = 0 := by unfold cmpS; rw [h1]; exact cb_refl _
    rw [if_pos h1, if_neg (by simp [z1]), cb_esc]
    unfold firstN
    by_cases h2 : a.col.data.toList = b.col.data.toList
    · have z2 : cmpS a.col b.col = 0 := by unfold cmpS; rw [h2]; exact cb_refl _
      rw [if_pos h2, if_neg (by simp [z2]), cb_be8 _ _ (by unfold M64; omega) (by unfold M64; omega), cmpN_turn _ _ ha.ts hb.ts]
      unfold firstN
      have h5 := ha.ts
      have h6 := hb.ts
      by_cases h3 : M64 - a.ts = M64 - b.ts
      · have z3 : cmpN b.ts a.ts = 0 := by rw [show a.ts = b.ts by unfold M64 at h3; omega]; exact cmpN_self _
        have := cb_be8 (M64 - a.seq) (M64 - b.seq) (by unfold M64; omega) (by unfold M64; omega) [] []
        rw [List.append_nil, List.append_nil] at this
        rw [if_pos h3, if_neg (by simp [z3]), this, cmpN_turn _ _ ha.seq hb.seq]
        unfold firstN
        have h7 := ha.seq
        have h8 := hb.seq
        by_cases h4 : M64 - a.seq = M64 - b.seq
        · have z4 : cmpN b.seq a.seq = 0 := by rw [show a.seq = b.seq by unfold M64 at h4; omega]; exact cmpN_self _
          rw [if_pos h4, if_neg (by simp [z4])]
          rfl
        · have z4 : cmpN b.seq a.seq ≠ 0 := fun e => h4 (by rw [cmpN_zero e])
          rw [if_neg h4, if_pos z4]
      · have z3 : cmpN b.ts a.ts ≠ 0 := fun e => h3 (by rw [cmpN_zero e])
        rw [if_neg h3, if_pos z3]
    · have z2 : cmpS a.col b.col ≠ 0 := fun e => h2 (cb_eq e)
      rw [if_neg h2, if_pos z2]
      rfl
  · have z1 : cmpS a.row b.row ≠ 0 := fun e => h1 (cb_eq e)
    rw [if_neg h1, if_pos z1]
    rfl

theorem cmpC_self (a : Cel) (ha : CelOK a) : cmpC a a = 0 := by rw [← key_order a a ha ha]; exact cb_refl _
theorem cmpC_neg (a b : Cel) (ha : CelOK a) (hb : CelOK b) : cmpC b a = - cmpC a b := by rw [← key_order a b ha hb, ← key_order b a hb ha]; exact cb_neg _ _
theorem cmpC_trans (a b c : Cel) (ha : CelOK a) (hb : CelOK b) (hc : CelOK c) (h1 : cmpC a b ≤ 0) (h2 : cmpC b c ≤ 0) : cmpC a c ≤ 0 := by
  rw [← key_order a b ha hb] at h1
  rw [← key_order b c hb hc] at h2
  rw [← key_order a c ha hc]
  exact cb_trans h1 h2
theorem cmpC_range (a b : Cel) (ha : CelOK a) (hb : CelOK b) : cmpC a b = -1 ∨ cmpC a b = 0 ∨ cmpC a b = 1 := by
  rw [← key_order a b ha hb]; exact cb_range _ _

theorem less_cb : ∀ (x y : List UInt8), Op.bytesLess x y = decide (compareBytes x y = -1)
  | _, [] => by
    rename_i x
    cases x <;> simp [Op.bytesLess, compareBytes]
  | [], _ :: _ => by simp [Op.bytesLess, compareBytes]
  | a :: x, b :: y => by
    have ih := less_cb x y
    unfold Op.bytesLess
    rcases Nat.lt_trichotomy a.toNat b.toNat with k | k | k
    · have h := UInt8.lt_iff_toNat_lt.2 k
      rw [cb_cons_lt h]; simp [h]
    · obtain rfl : a = b := UInt8.toNat_inj.1 k
      rw [cb_cons_same, ih]; simp [UInt8.lt_irrefl]
    · have h := UInt8.lt_iff_toNat_lt.2 k
      rw [cb_cons_gt h]
      have h2 : ¬ a < b := UInt8.lt_asymm h
      have h3 : ¬ a = b := fun e => by rw [e] at k; omega
      simp [h2, h3]
end
end Go.Proofs.YtjnapcfclejknaaGreatDoor
