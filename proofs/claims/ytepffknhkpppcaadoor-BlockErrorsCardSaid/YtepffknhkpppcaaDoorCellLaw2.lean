/-
  Encode and Decode: plain laws.
-/
import Derived.Test.YtepffknhkpppcaaDoorCellDec
import Derived.Test.YtepffknhkpppcaaDoorCellEnc
namespace Go.Proofs.YtepffknhkpppcaaDoor
open Go.Lib

def bl (l : List UInt8) : ByteArray := ⟨l.toArray⟩
theorem bl_data (s : ByteArray) : bl s.data.toList = s := mk_data s
theorem bl_size (l : List UInt8) : (bl l).size = l.length := by show l.toArray.size = _; simp
theorem bl_toList (l : List UInt8) : (bl l).data.toList = l := by simp [bl]
theorem bl_inj {a b : List UInt8} (h : bl a = bl b) : a = b := by rw [← bl_toList a, h, bl_toList]
theorem bl_extract (l : List UInt8) (a b : Nat) : (bl l).extract a b = bl ((l.drop a).take (b - a)) := by
  rw [← bl_data ((bl l).extract a b)]
  congr 1
  rw [extract_data, bl_toList]
theorem bl_at (l : List UInt8) (j : Nat) : atB (bl l) j = l.getD j 0 := by unfold atB; rw [bl_toList]

theorem take_app (x y : List UInt8) : (⟨bl (x ++ y), 0⟩ : Rd).take x.length = (bl x, ⟨bl y, 0⟩) := by
  unfold Rd.take
  rw [if_pos rfl, if_pos (by simp [bl_size])]
  rw [bl_extract, bl_extract, bl_size]
  simp
theorem take_few (l : List UInt8) (n : Nat) (h : l.length < n) : ((⟨bl l, 0⟩ : Rd).take n).2 = ⟨bl l, 10⟩ := by
  unfold Rd.take
  rw [if_pos rfl, if_neg (by simp [bl_size]; omega)]
theorem take_err (r : Rd) (n : Nat) (h : r.e ≠ 0) : (r.take n).2 = r := by
  unfold Rd.take
  rw [if_neg h]
theorem text_err (r : Rd) (h : r.e ≠ 0) : r.text.2 = r := by
  unfold Rd.text
  rw [take_err r 1 h, take_err r _ h]
theorem number_err (r : Rd) (h : r.e ≠ 0) : r.number.2 = r := take_err r 8 h
theorem flag_err (r : Rd) (h : r.e ≠ 0) : r.flag.2 = r := by
  unfold Rd.flag
  show (if _ then _ else _ : Rd) = r
  rw [take_err r 1 h, if_neg (fun k => h k.1)]

theorem toNat_ofNat {n : Nat} (h : n < 256) : (UInt8.ofNat n).toNat = n := by rw [UInt8.toNat_ofNat', Nat.mod_eq_of_lt h]
theorem text_app (x y : List UInt8) (h : x.length < 256) : (⟨bl (UInt8.ofNat x.length :: (x ++ y)), 0⟩ : Rd).text = (bl x, ⟨bl y, 0⟩) := by
  unfold Rd.text
  have h1 := take_app [UInt8.ofNat x.length] (x ++ y)
  simp only [List.length_cons, List.length_nil, List.cons_append, List.nil_append, Nat.zero_add] at h1
  rw [h1, bl_at]
  show Rd.take ⟨bl (x ++ y), 0⟩ (UInt8.ofNat x.length).toNat = _
  rw [toNat_ofNat h, take_app]
theorem text_cut (x y : List UInt8) (h : x.length < 256) (k : Nat) (hk : k ≤ x.length) : (⟨bl ((UInt8.ofNat x.length :: (x ++ y)).take k), 0⟩ : Rd).text.2.e = 10 := by
  unfold Rd.text
  cases k with
  | zero =>
    have h1 := take_few [] 1 (by decide)
    show ((((⟨bl [], 0⟩ : Rd).take 1).2).take _).2.e = 10
    rw [h1, take_err _ _ (by decide)]
  | succ k =>
    have h1 := take_app [UInt8.ofNat x.length] ((x ++ y).take k)
    simp only [List.length_cons, List.length_nil, List.cons_append, List.nil_append, Nat.zero_add] at h1
    rw [List.take_succ_cons, h1, bl_at]
    show (Rd.take ⟨bl ((x ++ y).take k), 0⟩ (UInt8.ofNat x.length).toNat).2.e = 10
    rw [toNat_ofNat h, take_few _ _ (by simp; omega)]

theorem leN_congr {s t : ByteArray} : ∀ k, (∀ j, j < k → atB s j = atB t j) → leN s k = leN t k
  | 0, _ => rfl
  | k + 1, h => by
    show leN s k + _ = leN t k + _
    rw [leN_congr k (fun j hj => h j (by omega)), h k (by omega)]

theorem leN_le8 (n : Nat) (y : List UInt8) : ∀ k, k ≤ 8 → leN (bl (le8 n ++ y)) k = n % 256 ^ k
  | 0, _ => by simp [leN, Nat.mod_one]
  | k + 1, h => by
    show leN _ k + _ = _
    rw [leN_le8 n y k (by omega), bl_at, List.getD_eq_getElem?_getD, List.getElem?_append_left (by rw [le8_length]; omega)]
    have : (le8 n)[k]? = some (byteN n k) := by
      unfold le8
      rw [List.getElem?_map, List.getElem?_range (by omega)]
      rfl
    rw [this]
    show _ + (byteN n k).toNat * _ = _
    unfold byteN
    have h2 := Nat.mod_mul (x := n) (a := 256 ^ k) (b := 256)
    have h3 : (256 : Nat) ^ (k + 1) = 256 ^ k * 256 := Nat.pow_succ _ _
    rw [UInt8.toNat_ofNat', show (2 : Nat) ^ 8 = 256 from rfl, h3, h2, Nat.mul_comm (256 ^ k) (n / 256 ^ k % 256)]
theorem number_app (n : Nat) (h : n < 18446744073709551616) (y : List UInt8) : (⟨bl (le8 n ++ y), 0⟩ : Rd).number = (n, ⟨bl y, 0⟩) := by
  unfold Rd.number
  have h1 := take_app (le8 n) y
  rw [le8_length] at h1
  rw [h1]
  have h2 := leN_le8 n [] 8 (Nat.le_refl _)
  rw [List.append_nil] at h2
  rw [h2, Nat.mod_eq_of_lt (by have : (256 : Nat) ^ 8 = 18446744073709551616 := by decide
                               omega)]
theorem number_cut (n : Nat) (y : List UInt8) (k : Nat) (hk : k < 8) : (⟨bl ((le8 n ++ y).take k), 0⟩ : Rd).number.2.e = 10 := by
  unfold Rd.number
  rw [take_few _ _ (by simp; omega)]
theorem flag_app (d : Bool) (y : List UInt8) : (⟨bl (delN d :: y), 0⟩ : Rd).flag = (d, ⟨bl y, 0⟩) := by
  unfold Rd.flag
  have h1 := take_app [delN d] y
  simp only [List.length_cons, List.length_nil, List.cons_append, List.nil_append, Nat.zero_add] at h1
  rw [h1, bl_at]
  cases d
  · rfl
  · rfl
theorem flag_cut (l : List UInt8) : (⟨bl (l.take 0), 0⟩ : Rd).flag.2.e = 10 := by
  unfold Rd.flag
  rw [List.take_zero, take_few [] 1 (by decide)]
  rfl

theorem encL_form (c : Cel) (rest : List UInt8) : encL c ++ rest = UInt8.ofNat c.row.data.toList.length :: (c.row.data.toList ++ (UInt8.ofNat c.col.data.toList.length :: (c.col.data.toList ++ (le8 c.ts ++ (le8 c.seq ++ (delN c.del :: (UInt8.ofNat c.val.data.toList.length :: (c.val.data.toList ++ rest)))))))) := by
  unfold encL
  rw [← size_eq, ← size_eq, ← size_eq]
  simp

/-- what was encoded is decoded -/
theorem dec_enc (c : Cel) (hc : CelOK c) (hm : mayB c = true) (rest : List UInt8) : decP (bl (encL c ++ rest)) = (c, bl rest, 0) := by
  obtain ⟨⟨_, hr⟩, ⟨_, hk⟩, hv, _⟩ := mayB_true hm
  rw [size_eq] at hr hk hv
  unfold decP
  rw [encL_form, text_app _ _ (by omega), text_app _ _ (by omega), number_app _ hc.ts, number_app _ hc.seq, flag_app, text_app _ _ (by omega)]
  simp only [bl_data]
  unfold decO
  rw [if_pos rfl, if_pos hm]

theorem decO_err {c : Cel} {r : Rd} (h : r.e = 10) : decO c r = (zeroC, ⟨#[]⟩, 10) := by
  unfold decO
  rw [if_neg (by rw [h]; decide), h]

/-- bytes that lost their end are short -/
theorem dec_cut (c : Cel) (hc : CelOK c) (hm : mayB c = true) (k : Nat) (hk : k < (encL c).length) : decP (bl ((encL c).take k)) = (zeroC, ⟨#[]⟩, 10) := by
  obtain ⟨⟨_, hr⟩, ⟨_, hc2⟩, hv, _⟩ := mayB_true hm
  rw [size_eq] at hr hc2 hv
  have hform := encL_form c []
  rw [List.append_nil, List.append_nil] at hform
  rw [hform] at hk ⊢
  simp only [List.length_cons, List.length_append, le8_length] at hk
  have ten : ∀ {r : Rd}, r.e = 10 → r.e ≠ 0 := fun h => by rw [h]; decide
  have pass : ∀ (p y : List UInt8) (k : Nat), p.length ≤ k → (p ++ y).take k = p ++ y.take (k - p.length) := by
    intro p y k h; rw [List.take_append, List.take_of_length_le h]
  have pass1 : ∀ (b : UInt8) (p y : List UInt8) (k : Nat), p.length + 1 ≤ k → (b :: (p ++ y)).take k = b :: (p ++ y.take (k - (p.length + 1))) := by
    intro b p y k h
    have := pass (b :: p) y k (by simpa using h)
    simpa using this
  unfold decP
  apply decO_err
  by_cases h1 : k ≤ c.row.data.toList.length
  · have e1 := text_cut c.row.data.toList (UInt8.ofNat c.col.data.toList.length :: (c.col.data.toList ++ (le8 c.ts ++ (le8 c.seq ++ (delN c.del :: (UInt8.ofNat c.val.data.toList.length :: c.val.data.toList)))))) (by omega) k h1
    rw [text_err _ (ten e1), number_err _ (ten e1), number_err _ (ten e1), flag_err _ (ten e1), text_err _ (ten e1)]
    exact e1
  rw [pass1 _ _ _ _ (by omega), text_app _ _ (by omega)]
  generalize hk2 : k - (c.row.data.toList.length + 1) = k2
  by_cases h2 : k2 ≤ c.col.data.toList.length
  · have e1 := text_cut c.col.data.toList (le8 c.ts ++ (le8 c.seq ++ (delN c.del :: (UInt8.ofNat c.val.data.toList.length :: c.val.data.toList)))) (by omega) k2 h2
    rw [number_err _ (ten e1), number_err _ (ten e1), flag_err _ (ten e1), text_err _ (ten e1)]
    exact e1
  rw [pass1 _ _ _ _ (by omega), text_app _ _ (by omega)]
  generalize hk3 : k2 - (c.col.data.toList.length + 1) = k3
  by_cases h3 : k3 < 8
  · have e1 := number_cut c.ts (le8 c.seq ++ (delN c.del :: (UInt8.ofNat c.val.data.toList.length :: c.val.data.toList))) k3 h3
    rw [number_err _ (ten e1), flag_err _ (ten e1), text_err _ (ten e1)]
    exact e1
  rw [pass _ _ _ (by rw [le8_length]; omega), number_app _ hc.ts, le8_length]
  generalize hk4 : k3 - 8 = k4
  by_cases h4 : k4 < 8
  · have e1 := number_cut c.seq (delN c.del :: (UInt8.ofNat c.val.data.toList.length :: c.val.data.toList)) k4 h4
    rw [flag_err _ (ten e1), text_err _ (ten e1)]
    exact e1
  rw [pass _ _ _ (by rw [le8_length]; omega), number_app _ hc.seq, le8_length]
  generalize hk5 : k4 - 8 = k5
  by_cases h5 : k5 = 0
  · subst h5
    have e1 := flag_cut (delN c.del :: (UInt8.ofNat c.val.data.toList.length :: c.val.data.toList))
    rw [text_err _ (ten e1)]
    exact e1
  obtain ⟨k6, rfl⟩ : ∃ k6, k5 = k6 + 1 := ⟨k5 - 1, by omega⟩
  rw [List.take_succ_cons, flag_app]
  have e1 := text_cut c.val.data.toList [] (by omega) k6 (by omega)
  rw [List.append_nil] at e1
  exact e1
end Go.Proofs.YtepffknhkpppcaaDoor
