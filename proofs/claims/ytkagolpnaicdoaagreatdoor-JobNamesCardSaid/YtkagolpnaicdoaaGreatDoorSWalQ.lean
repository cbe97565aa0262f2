/-
 wal: what is read back of a log, whole or cut; a disk that has one log alone (plain). job: a job is told by its bytes; a journal on a disk of its own: what tell and Open make of it (plain).
-/
import Derived.Test.YtkagolpnaicdoaaGreatDoorSTabL
import Derived.Test.YtkagolpnaicdoaaGreatDoorSDrvC
set_option maxRecDepth 100000
set_option maxHeartbeats 8000000
namespace Go.Proofs.YtkagolpnaicdoaaGreatDoor
section
open Go.RowKit Go.Maps Go.MapKept Go.ChangeMaps
def endsL : Nat → List ByteArray → List (Nat × ByteArray)
 |_, [] => []
 |a, x :: r => (a + (6 + x.size), x) :: endsL (a + (6 + x.size)) r
theorem endsL_texts : ∀ (a : Nat) (xs : List ByteArray), (endsL a xs).map (·.2) = xs
 |_, [] => rfl
 |a, x :: r => by show x :: (endsL _ r).map (·.2) = _; rw [endsL_texts]
theorem endsL_last : ∀ (a : Nat) (x : ByteArray) (xs : List ByteArray), (endsL a (x :: xs)).getLast?.map (·.1) = some (a + sumsT (x :: xs))
 |a, x, [] => by show some (a + (6 + x.size)) = some (a + (6 + x.size + 0)); rfl
 |a, x, y :: r => by
  have ih := endsL_last (a + (6 + x.size)) y r
  show ((a + (6 + x.size), x) :: endsL (a + (6 + x.size)) (y :: r)).getLast?.map (·.1) = _
  rw [show endsL (a + (6 + x.size)) (y :: r) = (a + (6 + x.size) + (6 + y.size), y) :: endsL (a + (6 + x.size) + (6 + y.size)) r from rfl, List.getLast?_cons_cons]
  rw [show endsL (a + (6 + x.size)) (y :: r) = (a + (6 + x.size) + (6 + y.size), y) :: endsL (a + (6 + x.size) + (6 + y.size)) r from rfl] at ih
  rw [ih]
  congr 1
  show _ = a + (6 + x.size + sumsT (y :: r))
  omega
theorem endOf_ends (xs : List ByteArray) : endOf (endsL 0 xs) = sumsT xs := by
 unfold endOf
 cases xs with
 |nil => rfl
 |cons x r => rw [endsL_last]; show 0 + _ = _; omega
theorem texts_tail : ∀ (xs : List ByteArray) (P T : List UInt8) (n : Nat), (∀ x ∈ xs, x.size ≤ 65535) → (getP (bl T)).2.2 ≠ 0 → (recsL xs).length < n → textsF n P.length (bl (P ++ (recsL xs ++ T))) = endsL P.length xs
 |[], P, T, 0, _, _, h => absurd h (Nat.not_lt_zero _)
 |_ :: _, _, _, 0, _, _, h => absurd h (Nat.not_lt_zero _)
 |[], P, T, n + 1, _, hT, _ => by
  obtain ⟨⟨t, k, e⟩, hg⟩ : ∃ x, getP (bl T) = x := ⟨_, rfl⟩
  rw [hg] at hT
  have h0 : getP ((bl (P ++ T)).extract P.length (bl (P ++ T)).size) = (t, k, e) := by
   rw [bl_post P T P.length rfl]
   exact hg
  show textsF (n + 1) P.length (bl (P ++ ([] ++ T))) = []
  rw [List.nil_append, textsF_no h0 hT]
 |x :: xs, P, T, n + 1, hs, hT, hn => by
  have hx := hs x (by simp)
  rw [recsL_cons, List.append_assoc]
  have h0 : getP ((bl (P ++ (recL x ++ (recsL xs ++ T)))).extract P.length (bl (P ++ (recL x ++ (recsL xs ++ T)))).size) = (x, 6 + x.size, 0) := by
   rw [bl_post P _ P.length rfl]
   exact get_rec x _ hx
  rw [recsL_cons, List.length_append, recL_length] at hn
  rw [textsF_yes h0]
  have ih := texts_tail xs (P ++ recL x) T n (fun y hy => hs y (List.mem_cons_of_mem _ hy)) hT (by omega)
  rw [List.length_append, recL_length, List.append_assoc] at ih
  rw [ih]
  rfl
theorem textsP_tail (xs : List ByteArray) (T : List UInt8) (h : ∀ x ∈ xs, x.size ≤ 65535) (hT : (getP (bl T)).2.2 ≠ 0) : textsP (bl (recsL xs ++ T)) = endsL 0 xs := by
 have h1 := texts_tail xs [] T ((bl (recsL xs ++ T)).size + 1) h hT (by rw [bl_size, List.length_append]; omega)
 exact h1
theorem textsP_whole (xs : List ByteArray) (h : ∀ x ∈ xs, x.size ≤ 65535) : textsP (bl (recsL xs)) = endsL 0 xs := by
 have h1 := textsP_tail xs [] h (by rw [show getP (bl []) = (⟨#[]⟩, 0, 3) from getP_none rfl]; decide)
 rwa [List.append_nil] at h1
theorem get_part (x : ByteArray) (k : Nat) (h : x.size ≤ 65535) (hk : k < 6 + x.size) : (getP (bl ((recL x).take k))).2.2 ≠ 0 := by
 have hl : ((recL x).take k).length = k := by rw [List.length_take, recL_length]; omega
 have hsz : (bl ((recL x).take k)).size = k := by rw [bl_size, hl]
 by_cases h0 : k = 0
 ·rw [getP_none (by rw [hsz]; exact h0)]; decide
 ·by_cases h6 : k < 6
  ·rw [getP_short (by rw [hsz]; exact h0) (by rw [hsz]; exact h6)]; decide
  ·obtain ⟨m, rfl⟩ : ∃ m, k = m + 2 := ⟨k - 2, by omega⟩
   have a0 : atB (bl ((recL x).take (m + 2))) 0 = UInt8.ofNat x.size := by rw [bl_at]; rfl
   have a1 : atB (bl ((recL x).take (m + 2))) 1 = UInt8.ofNat (x.size / 256) := by rw [bl_at]; rfl
   have he : endN (bl ((recL x).take (m + 2))) = 6 + x.size := by
    unfold endN
    rw [a0, a1, UInt8.toNat_ofNat', UInt8.toNat_ofNat']
    omega
   rw [getP_cut (by rw [hsz]; exact h0) (by rw [hsz]; exact h6) (by rw [hsz, he]; exact hk)]
   decide
theorem tick_calm {d : Dk} (h : d.left = 0) : d.tick = d := by
 obtain ⟨c, z, F, o, l, k⟩ := d
 simp only at h
 subst h
 rfl
theorem does_calm {d : Dk} (h : d.left = 0) (b : Bool) : d.does b = true := by
 unfold Dk.does
 rw [h]
 cases b <;> rfl
theorem burnt_calm {d : Dk} (h : d.left = 0) (x : Dk) : d.burnt x = x := by
 unfold Dk.burnt
 rw [h, if_neg (by decide)]
theorem told_calm {d : Dk} (h : d.left = 0) : d.told = 0 := by
 unfold Dk.told
 rw [h, if_neg (by decide)]
theorem named_one {d : Dk} {x : ByteArray} (ho : d.off = false) (hx : nameOk x = true) : d.named [x] = 0 := named_good ho (by rw [List.all_cons, hx]; rfl)
theorem named_two {d : Dk} {x y : ByteArray} (ho : d.off = false) (hx : nameOk x = true) (hy : nameOk y = true) : d.named [x, y] = 0 := named_good ho (by rw [List.all_cons, List.all_cons, hx, hy]; rfl)
theorem there_some {d : Dk} {x : ByteArray} {f : File} (ho : d.off = false) (hx : nameOk x = true) (hf : mget d.files x = some f) (g : File → Dk) : d.thereD x g = d.burnt (g f) ∧ d.thereE x = d.told := by
 unfold Dk.thereD Dk.thereE
 rw [named_one ho hx, hf]
 exact ⟨if_neg (by decide), if_neg (by decide)⟩
theorem there_none {d : Dk} {x : ByteArray} (ho : d.off = false) (hx : nameOk x = true) (hf : mget d.files x = none) (g : File → Dk) : d.thereD x g = d ∧ d.thereE x = 3 := by
 unfold Dk.thereD Dk.thereE
 rw [named_one ho hx, hf]
 exact ⟨if_neg (by decide), if_neg (by decide)⟩
theorem there_calm {d : Dk} {x : ByteArray} {f : File} (ho : d.off = false) (hl : d.left = 0) (hx : nameOk x = true) (hf : mget d.files x = some f) (g : File → Dk) : d.thereD x g = g f ∧ d.thereE x = 0 := by
 obtain ⟨h1, h2⟩ := there_some ho hx hf g
 rw [h1, h2, burnt_calm hl, told_calm hl]
 exact ⟨rfl, rfl⟩
theorem sync_calm {d : Dk} {x : ByteArray} {f : File} (ho : d.off = false) (hl : d.left = 0) (hx : nameOk x = true) (hf : mget d.files x = some f) : d.sync x = d.set x (synced f) false ∧ d.thereE x = 0 := by
 obtain ⟨h1, h2⟩ := there_calm ho hl hx hf (d.syncG x)
 refine ⟨h1.trans ?_, h2⟩
 unfold Dk.syncG
 rw [does_calm hl, tick_calm hl]
 rfl
theorem append_calm {d : Dk} {x s : ByteArray} {f : File} (ho : d.off = false) (hl : d.left = 0) (hx : nameOk x = true) (hf : mget d.files x = some f) (hc : d.size + s.size ≤ d.cap) : d.append x s = d.set x (addTo s f) false ∧ d.appendE x s = 0 := by
 have hfu : d.full x s = false := by
  unfold Dk.full
  rw [hf, ho]
  simpa using hc
 obtain ⟨h1, h2⟩ := there_calm ho hl hx hf (fun f => d.tick.set x (addTo s f) false)
 unfold Dk.append Dk.appendE
 rw [hfu]
 refine ⟨(h1.trans ?_), h2⟩
 rw [tick_calm hl]
theorem delete_none {d : Dk} {x : ByteArray} (ho : d.off = false) (hx : nameOk x = true) (hf : mget d.files x = none) : d.delete x = d ∧ d.thereE x = 3 := there_none ho hx hf _
theorem create_calm {d : Dk} {x : ByteArray} (ho : d.off = false) (hl : d.left = 0) (hx : nameOk x = true) (hf : mget d.files x = none) (hn : d.files.length < 200) : d.create x = d.set x zeroFile false ∧ d.createE x = 0 := by
 have h1 : ¬ 200 ≤ d.files.length := by omega
 refine ⟨?_, ?_⟩
 case refine_2 =>
  unfold Dk.createE
  rw [named_one ho hx, hf, if_neg (by decide), if_neg (by decide), if_neg h1, told_calm hl]
 unfold Dk.create
 rw [named_one ho hx, hf, if_neg (by decide), if_neg (by decide), if_neg h1, burnt_calm hl]
 unfold Dk.createG
 rw [does_calm hl, tick_calm hl]
 rfl
theorem rename_calm {d : Dk} {a b : ByteArray} {f : File} (ho : d.off = false) (hl : d.left = 0) (ha : nameOk a = true) (hb : nameOk b = true) (hf : mget d.files a = some f) : d.rename a b = (d.set a zeroFile true).set b f false ∧ d.renameE a b = 0 := by
 obtain ⟨h1, h2⟩ := there_calm ho hl ha hf (d.renameG a b)
 unfold Dk.rename Dk.renameE
 rw [named_two ho ha hb, if_neg (by decide), if_neg (by decide)]
 refine ⟨h1.trans ?_, h2⟩
 unfold Dk.renameG
 rw [does_calm hl, tick_calm hl]
 rfl
def oneD (nm : ByteArray) (c : Int) (f : File) : Dk := { cap := c, size := f.s.size, files := [(nm, f)], off := false, left := 0, keep := 0 }
def noneD (c : Int) : Dk := { cap := c, size := 0, files := [], off := false, left := 0, keep := 0 }
theorem empty_add (s : ByteArray) : (⟨#[]⟩ : ByteArray) ++ s = s := by
 rw [show (⟨#[]⟩ : ByteArray) = ByteArray.empty from rfl, ByteArray.empty_append]
theorem one_read {nm : ByteArray} {c : Int} {f : File} (hx : nameOk nm = true) : (oneD nm c f).read nm = (f.s, 0) := by
 unfold Dk.read
 rw [named_one rfl hx, if_neg (by decide), show mget (oneD nm c f).files nm = some f from mget_cons_eq rfl]
theorem none_read {nm : ByteArray} {c : Int} (hx : nameOk nm = true) : (noneD c).read nm = (⟨#[]⟩, 3) := by
 unfold Dk.read
 rw [named_one rfl hx, if_neg (by decide)]
 rfl
theorem one_sync {nm : ByteArray} {c : Int} {f : File} (hx : nameOk nm = true) : (oneD nm c f).sync nm = oneD nm c (synced f) ∧ (oneD nm c f).thereE nm = 0 := by
 obtain ⟨h1, h2⟩ := sync_calm (d := oneD nm c f) rfl rfl hx (f := f) (mget_cons_eq rfl)
 refine ⟨h1.trans ?_, h2⟩
 unfold Dk.set fget
 rw [show mget (oneD nm c f).files nm = some f from mget_cons_eq rfl]
 show Dk.mk c ((f.s.size : Int) + ((f.s.size : Nat) - (f.s.size : Nat))) (mput [(nm, f)] nm (synced f)) false 0 0 = _
 rw [Int.sub_self, Int.add_zero]
 unfold mput
 rw [if_pos rfl]
 rfl
theorem write_one {nm s : ByteArray} {c : Int} {f : File} (hx : nameOk nm = true) (hy : nameOk (nm ++ plusB) = true) (hne : nm ≠ nm ++ plusB) (hc : (f.s.size : Int) + s.size ≤ c) : (oneD nm c f).wWrite nm s = (oneD nm c ⟨s, s.size⟩, 0) := by
 obtain ⟨ot, hot⟩ : ∃ o, nm ++ plusB = o := ⟨_, rfl⟩
 unfold Dk.wWrite
 rw [hot] at hy hne ⊢
 have hz : (zeroFile.s.size : Int) = 0 := rfl
 have g1 : mget [(nm, f)] ot = none := by rw [mget_cons_ne hne]; rfl
 have g2 : ∀ x : File, mget [(nm, f), (ot, x)] ot = some x := fun x => by rw [mget_cons_ne hne, mget_cons_eq rfl]
 have p1 : ∀ x : File, mput [(nm, f)] ot x = [(nm, f), (ot, x)] := fun x => by unfold mput; rw [if_neg hne]; rfl
 have p2 : ∀ x y : File, mput [(nm, f), (ot, x)] ot y = [(nm, f), (ot, y)] := fun x y => by unfold mput; rw [if_neg hne]; unfold mput; rw [if_pos rfl]
 have p3 : ∀ x : File, mdel [(nm, f), (ot, x)] ot = [(nm, f)] := fun x => by
  unfold mdel
  rw [List.filter_cons_of_pos (by simpa using hne), List.filter_cons_of_neg (by simp)]
  rfl
 have p4 : ∀ x : File, mput [(nm, f)] nm x = [(nm, x)] := fun x => by unfold mput; rw [if_pos rfl]
 obtain ⟨e1, e1'⟩ := delete_none (d := oneD nm c f) rfl hy g1
 obtain ⟨e2, e2'⟩ := create_calm (d := oneD nm c f) rfl rfl hy g1 (by show 1 < 200; decide)
 have s2 : (oneD nm c f).set ot zeroFile false = Dk.mk c f.s.size [(nm, f), (ot, zeroFile)] false 0 0 := by
  unfold Dk.set fget
  rw [show mget (oneD nm c f).files ot = none from g1]
  show Dk.mk c ((f.s.size : Int) + ((zeroFile.s.size : Nat) - (zeroFile.s.size : Nat))) (mput [(nm, f)] ot zeroFile) false 0 0 = _
  rw [Int.sub_self, Int.add_zero, p1]
 rw [s2] at e2
 obtain ⟨e3, e3'⟩ := append_calm (d := Dk.mk c f.s.size [(nm, f), (ot, zeroFile)] false 0 0) rfl rfl hy (g2 _) (s := s) hc
 have s3 : (Dk.mk c f.s.size [(nm, f), (ot, zeroFile)] false 0 0).set ot (addTo s zeroFile) false = Dk.mk c ((f.s.size : Int) + s.size) [(nm, f), (ot, ⟨s, 0⟩)] false 0 0 := by
  have ha : addTo s zeroFile = ⟨s, 0⟩ := by
   unfold addTo zeroFile
   rw [empty_add]
  rw [ha]
  unfold Dk.set fget
  rw [show mget (Dk.mk c f.s.size [(nm, f), (ot, zeroFile)] false 0 0).files ot = some zeroFile from g2 _]
  show Dk.mk c ((f.s.size : Int) + ((s.size : Nat) - (zeroFile.s.size : Nat))) (mput [(nm, f), (ot, zeroFile)] ot ⟨s, 0⟩) false 0 0 = _
  rw [hz, Int.sub_zero, p2]
 rw [s3] at e3
 obtain ⟨e4, e4'⟩ := sync_calm (d := Dk.mk c ((f.s.size : Int) + s.size) [(nm, f), (ot, ⟨s, 0⟩)] false 0 0) rfl rfl hy (g2 _)
 have s4 : (Dk.mk c ((f.s.size : Int) + s.size) [(nm, f), (ot, ⟨s, 0⟩)] false 0 0).set ot (synced ⟨s, 0⟩) false = Dk.mk c ((f.s.size : Int) + s.size) [(nm, f), (ot, ⟨s, s.size⟩)] false 0 0 := by
  unfold Dk.set fget
  rw [show mget (Dk.mk c ((f.s.size : Int) + s.size) [(nm, f), (ot, ⟨s, 0⟩)] false 0 0).files ot = some ⟨s, 0⟩ from g2 _]
  show Dk.mk c ((f.s.size : Int) + s.size + ((s.size : Nat) - (s.size : Nat))) (mput [(nm, f), (ot, ⟨s, 0⟩)] ot ⟨s, s.size⟩) false 0 0 = _
  rw [Int.sub_self, Int.add_zero, p2]
 rw [s4] at e4
 obtain ⟨e5, e5'⟩ := rename_calm (d := Dk.mk c ((f.s.size : Int) + s.size) [(nm, f), (ot, ⟨s, s.size⟩)] false 0 0) rfl rfl hy hx (g2 _)
 have s5 : ((Dk.mk c ((f.s.size : Int) + s.size) [(nm, f), (ot, ⟨s, s.size⟩)] false 0 0).set ot zeroFile true).set nm ⟨s, s.size⟩ false = oneD nm c ⟨s, s.size⟩ := by
  have h1 : (Dk.mk c ((f.s.size : Int) + s.size) [(nm, f), (ot, ⟨s, s.size⟩)] false 0 0).set ot zeroFile true = Dk.mk c f.s.size [(nm, f)] false 0 0 := by
   unfold Dk.set fget
   rw [show mget (Dk.mk c ((f.s.size : Int) + s.size) [(nm, f), (ot, ⟨s, s.size⟩)] false 0 0).files ot = some ⟨s, s.size⟩ from g2 _]
   show Dk.mk c ((f.s.size : Int) + s.size + ((zeroFile.s.size : Nat) - (s.size : Nat))) (mdel (mput [(nm, f), (ot, ⟨s, s.size⟩)] ot zeroFile) ot) false 0 0 = _
   rw [hz, p2, p3]
   congr 1
   omega
  rw [h1]
  unfold Dk.set fget
  rw [show mget (Dk.mk c f.s.size [(nm, f)] false 0 0).files nm = some f from mget_cons_eq rfl]
  show Dk.mk c ((f.s.size : Int) + ((s.size : Nat) - (f.s.size : Nat))) (mput [(nm, f)] nm ⟨s, s.size⟩) false 0 0 = _
  rw [p4]
  unfold oneD
  congr 1
  show (f.s.size : Int) + ((s.size : Nat) - (f.s.size : Nat)) = (s.size : Nat)
  omega
 rw [s5] at e5
 unfold wSteps
 simp only [stepsP, e1, e1', e2, e2', e3, e3', e4, e4', e5, e5', if_true]
theorem write_none {nm s : ByteArray} {c : Int} (hx : nameOk nm = true) (hy : nameOk (nm ++ plusB) = true) (hc : (s.size : Int) ≤ c) : (noneD c).wWrite nm s = (oneD nm c ⟨s, s.size⟩, 0) := by
 obtain ⟨ot, hot⟩ : ∃ o, nm ++ plusB = o := ⟨_, rfl⟩
 unfold Dk.wWrite
 rw [hot] at hy ⊢
 have hz : (zeroFile.s.size : Int) = 0 := rfl
 have g2 : ∀ x : File, mget [(ot, x)] ot = some x := fun x => mget_cons_eq rfl
 have p2 : ∀ x y : File, mput [(ot, x)] ot y = [(ot, y)] := fun x y => by unfold mput; rw [if_pos rfl]
 have p3 : ∀ x : File, mdel [(ot, x)] ot = [] := fun x => by
  unfold mdel
  rw [List.filter_cons_of_neg (by simp)]
  rfl
 obtain ⟨e1, e1'⟩ := delete_none (d := noneD c) rfl hy rfl
 obtain ⟨e2, e2'⟩ := create_calm (d := noneD c) rfl rfl hy rfl (by show 0 < 200; decide)
 have s2 : (noneD c).set ot zeroFile false = Dk.mk c 0 [(ot, zeroFile)] false 0 0 := rfl
 rw [s2] at e2
 obtain ⟨e3, e3'⟩ := append_calm (d := Dk.mk c 0 [(ot, zeroFile)] false 0 0) rfl rfl hy (g2 _) (s := s) (by show (0 : Int) + _ ≤ c; omega)
 have s3 : (Dk.mk c 0 [(ot, zeroFile)] false 0 0).set ot (addTo s zeroFile) false = Dk.mk c s.size [(ot, ⟨s, 0⟩)] false 0 0 := by
  have ha : addTo s zeroFile = ⟨s, 0⟩ := by
   unfold addTo zeroFile
   rw [empty_add]
  rw [ha]
  unfold Dk.set fget
  rw [show mget (Dk.mk c 0 [(ot, zeroFile)] false 0 0).files ot = some zeroFile from g2 _]
  show Dk.mk c ((0 : Int) + ((s.size : Nat) - (zeroFile.s.size : Nat))) (mput [(ot, zeroFile)] ot ⟨s, 0⟩) false 0 0 = _
  rw [hz, Int.sub_zero, Int.zero_add, p2]
 rw [s3] at e3
 obtain ⟨e4, e4'⟩ := sync_calm (d := Dk.mk c s.size [(ot, ⟨s, 0⟩)] false 0 0) rfl rfl hy (g2 _)
 have s4 : (Dk.mk c s.size [(ot, ⟨s, 0⟩)] false 0 0).set ot (synced ⟨s, 0⟩) false = Dk.mk c s.size [(ot, ⟨s, s.size⟩)] false 0 0 := by
  unfold Dk.set fget
  rw [show mget (Dk.mk c s.size [(ot, ⟨s, 0⟩)] false 0 0).files ot = some ⟨s, 0⟩ from g2 _]
  show Dk.mk c ((s.size : Int) + ((s.size : Nat) - (s.size : Nat))) (mput [(ot, ⟨s, 0⟩)] ot ⟨s, s.size⟩) false 0 0 = _
  rw [Int.sub_self, Int.add_zero, p2]
 rw [s4] at e4
 obtain ⟨e5, e5'⟩ := rename_calm (d := Dk.mk c s.size [(ot, ⟨s, s.size⟩)] false 0 0) rfl rfl hy hx (g2 _)
 have s5 : ((Dk.mk c s.size [(ot, ⟨s, s.size⟩)] false 0 0).set ot zeroFile true).set nm ⟨s, s.size⟩ false = oneD nm c ⟨s, s.size⟩ := by
  have h1 : (Dk.mk c s.size [(ot, ⟨s, s.size⟩)] false 0 0).set ot zeroFile true = Dk.mk c 0 [] false 0 0 := by
   unfold Dk.set fget
   rw [show mget (Dk.mk c s.size [(ot, ⟨s, s.size⟩)] false 0 0).files ot = some ⟨s, s.size⟩ from g2 _]
   show Dk.mk c ((s.size : Int) + ((zeroFile.s.size : Nat) - (s.size : Nat))) (mdel (mput [(ot, ⟨s, s.size⟩)] ot zeroFile) ot) false 0 0 = _
   rw [hz, p2, p3]
   congr 1
   omega
  rw [h1]
  unfold Dk.set fget
  show Dk.mk c ((0 : Int) + ((s.size : Nat) - (zeroFile.s.size : Nat))) [(nm, ⟨s, s.size⟩)] false 0 0 = _
  rw [hz, Int.sub_zero, Int.zero_add]
  rfl
 rw [s5] at e5
 unfold wSteps
 simp only [stepsP, e1, e1', e2, e2', e3, e3', e4, e4', e5, e5', if_true]
theorem name_fit {nm : ByteArray} (h : ¬ (nm.size = 0 ∨ 59 < nm.size)) : nameOk nm = true ∧ nameOk (nm ++ plusB) = true ∧ nm ≠ nm ++ plusB := by
 have hs : (nm ++ plusB).size = nm.size + 1 := by rw [ByteArray.size_append]; rfl
 refine ⟨nameOk_fit (by omega) (by omega), nameOk_fit (by omega) (by omega), fun e => ?_⟩
 have := congrArg ByteArray.size e
 omega
theorem open_none {nm : ByteArray} {c : Int} (hn : ¬ (nm.size = 0 ∨ 59 < nm.size)) (hc : 0 ≤ c) : (noneD c).wOpen nm = (oneD nm c ⟨⟨#[]⟩, 0⟩, 0, []) := by
 obtain ⟨hx, hy, -⟩ := name_fit hn
 have ht : textsP ⟨#[]⟩ = [] := textsP_whole [] (by simp)
 unfold Dk.wOpen
 rw [if_neg hn, none_read hx, if_neg (by decide)]
 simp only [ht, true_or, if_true]
 rw [show (⟨#[]⟩ : ByteArray).extract 0 (endOf []) = ⟨#[]⟩ from rfl, write_none hx hy (s := ⟨#[]⟩) (by show (0 : Int) ≤ c; omega)]
 rfl
theorem open_one {nm : ByteArray} {c : Int} {xs : List ByteArray} {T : List UInt8} {k : Nat} (hn : ¬ (nm.size = 0 ∨ 59 < nm.size)) (h : ∀ x ∈ xs, x.size ≤ 65535) (hT : (getP (bl T)).2.2 ≠ 0) (hc : 2 * ((sumsT xs : Int) + T.length) ≤ c) :
  (oneD nm c ⟨bl (recsL xs ++ T), k⟩).wOpen nm = (oneD nm c ⟨bl (recsL xs), sumsT xs⟩, 0, xs) := by
 obtain ⟨hx, hy, hne⟩ := name_fit hn
 have ht := textsP_tail xs T h hT
 have hsz : (bl (recsL xs ++ T)).size = sumsT xs + T.length := by rw [bl_size, List.length_append, recsL_length]
 have hsz0 : (bl (recsL xs)).size = sumsT xs := by rw [bl_size, recsL_length]
 unfold Dk.wOpen
 rw [if_neg hn, one_read hx, if_neg (fun h => h.1 rfl)]
 simp only [ht, endOf_ends, hsz, endsL_texts]
 by_cases hT0 : T = []
 ·subst hT0
  rw [if_neg (by simp)]
  obtain ⟨h1, h2⟩ := one_sync (nm := nm) (c := c) (f := ⟨bl (recsL xs ++ []), k⟩) hx
  simp only [h1, h2, if_true]
  unfold synced
  simp only [List.append_nil, hsz0]
 ·have hlen : 0 < T.length := List.length_pos_iff.2 hT0
  have hex : (bl (recsL xs ++ T)).extract 0 (sumsT xs) = bl (recsL xs) := bl_pre _ _ _ (recsL_length xs).symm
  rw [if_pos (Or.inr (by omega)), hex, write_one hx hy hne (by rw [hsz0]; show ((bl (recsL xs ++ T)).size : Int) + _ ≤ c; rw [hsz]; omega), hsz0]
  simp only [if_true]
theorem open_whole {nm : ByteArray} {c : Int} {xs : List ByteArray} {k : Nat} (hn : ¬ (nm.size = 0 ∨ 59 < nm.size)) (h : ∀ x ∈ xs, x.size ≤ 65535) (hc : 2 * (sumsT xs : Int) ≤ c) :
  (oneD nm c ⟨bl (recsL xs), k⟩).wOpen nm = (oneD nm c ⟨bl (recsL xs), sumsT xs⟩, 0, xs) := by
 have h1 := open_one (nm := nm) (c := c) (xs := xs) (T := []) (k := k) hn h (by rw [show getP (bl []) = (⟨#[]⟩, 0, 3) from getP_none rfl]; decide) (by simpa using hc)
 rwa [List.append_nil] at h1
theorem set_one {nm : ByteArray} {c z : Int} {f g : File} {l k : Int} (hz : z = f.s.size) : (Dk.mk c z [(nm, f)] false l k).set nm g false = Dk.mk c g.s.size [(nm, g)] false l k := by
 unfold Dk.set fget
 rw [show mget (Dk.mk c z [(nm, f)] false l k).files nm = some f from mget_cons_eq rfl]
 show Dk.mk c (z + ((g.s.size : Nat) - (f.s.size : Nat))) (mput [(nm, f)] nm g) false l k = _
 unfold mput
 rw [if_pos rfl]
 congr 1
 omega
theorem crash_one {nm : ByteArray} {c z : Int} {s r : ByteArray} {y : Nat} {l k k2 : Int} (h1 : s.size ≤ y) (h2 : y ≤ (s ++ r).size) :
  ∃ x, s.size ≤ x ∧ x ≤ (s ++ r).size ∧ (((Dk.mk c z [(nm, ⟨s ++ r, y⟩)] false l k).crash k2).fuse 0 0).on = oneD nm c ⟨(s ++ r).extract 0 x, x⟩ := by
 have hl := crashLen_le (keep := k2) (f := ⟨s ++ r, y⟩) h2
 have hl1 : y ≤ crashLen k2 ⟨s ++ r, y⟩ := by unfold crashLen; exact Nat.le_add_right _ _
 refine ⟨crashLen k2 ⟨s ++ r, y⟩, by omega, hl, ?_⟩
 have hsz : ((s ++ r).extract 0 (crashLen k2 ⟨s ++ r, y⟩)).size = crashLen k2 ⟨s ++ r, y⟩ := extract_size hl
 show Dk.mk c (total [(nm, crashFile k2 ⟨s ++ r, y⟩)] : Nat) [(nm, crashFile k2 ⟨s ++ r, y⟩)] false 0 0 = _
 have he : crashFile k2 ⟨s ++ r, y⟩ = ⟨(s ++ r).extract 0 (crashLen k2 ⟨s ++ r, y⟩), crashLen k2 ⟨s ++ r, y⟩⟩ := by
  unfold crashFile
  simp only [hsz]
 rw [he]
 unfold oneD
 congr 1
theorem append_fused {nm : ByteArray} {c : Int} {s r : ByteArray} {n k : Int} (hx : nameOk nm = true) (hc : (s.size : Int) + r.size ≤ c) :
  ((((oneD nm c ⟨s, s.size⟩).fuse n k).wAppend nm r).2 = 0 ∧ (((oneD nm c ⟨s, s.size⟩).fuse n k).wAppend nm r).1.fuse 0 0 = oneD nm c ⟨s ++ r, (s ++ r).size⟩) ∨
  ((((oneD nm c ⟨s, s.size⟩).fuse n k).wAppend nm r).2 = 6 ∧ ∃ x, s.size ≤ x ∧ x ≤ (s ++ r).size ∧ ((((oneD nm c ⟨s, s.size⟩).fuse n k).wAppend nm r).1.fuse 0 0).on = oneD nm c ⟨(s ++ r).extract 0 x, x⟩) := by
 have hsr : (s ++ r).size = s.size + r.size := ByteArray.size_append
 have hd0 : (oneD nm c ⟨s, s.size⟩).fuse n k = Dk.mk c s.size [(nm, ⟨s, s.size⟩)] false (max n 0) k := rfl
 rw [hd0]
 have hm0 : 0 ≤ max n 0 := by omega
 obtain ⟨m, hm⟩ : ∃ m, max n 0 = m := ⟨_, rfl⟩
 rw [hm] at hm0 ⊢
 have hg : ∀ f : File, mget [(nm, f)] nm = some f := fun f => mget_cons_eq rfl
 have hfu : (Dk.mk c s.size [(nm, ⟨s, s.size⟩)] false m k).full nm r = false := by
  unfold Dk.full
  rw [hg]
  simpa using hc
 have ha : addTo r ⟨s, s.size⟩ = ⟨s ++ r, s.size⟩ := rfl
 obtain ⟨t1, t2⟩ := there_some (d := Dk.mk c s.size [(nm, ⟨s, s.size⟩)] false m k) (x := nm) rfl hx (hg _) (fun f => (Dk.mk c s.size [(nm, ⟨s, s.size⟩)] false m k).tick.set nm (addTo r f) false)
 have hap : (Dk.mk c s.size [(nm, ⟨s, s.size⟩)] false m k).append nm r = (Dk.mk c s.size [(nm, ⟨s, s.size⟩)] false m k).burnt (Dk.mk c ((s ++ r).size : Nat) [(nm, ⟨s ++ r, s.size⟩)] false (max (m - 1) 0) k) := by
  unfold Dk.append
  rw [hfu, if_neg (by decide), t1]
  show Dk.burnt _ ((Dk.mk c s.size [(nm, ⟨s, s.size⟩)] false (max (m - 1) 0) k).set nm (addTo r ⟨s, s.size⟩) false) = _
  rw [ha, set_one (f := ⟨s, s.size⟩) rfl]
 have hape : (Dk.mk c s.size [(nm, ⟨s, s.size⟩)] false m k).appendE nm r = (if m = 1 then 6 else 0) := by
  unfold Dk.appendE
  rw [hfu, if_neg (by decide), t2]
  rfl
 unfold Dk.wAppend aSteps
 by_cases h1 : m = 1
 ·subst h1
  right
  rw [if_pos rfl] at hape
  have hb : (Dk.mk c s.size [(nm, ⟨s, s.size⟩)] false 1 k).burnt (Dk.mk c ((s ++ r).size : Nat) [(nm, ⟨s ++ r, s.size⟩)] false (max (1 - 1) 0) k) = (Dk.mk c ((s ++ r).size : Nat) [(nm, ⟨s ++ r, s.size⟩)] false (max (1 - 1) 0) k).crash k := if_pos rfl
  rw [hb] at hap
  simp only [stepsP, hap, hape]
  rw [if_neg (by decide)]
  exact ⟨rfl, crash_one (Nat.le_refl _) (by omega)⟩
 ·rw [if_neg h1] at hape
  have hb : (Dk.mk c s.size [(nm, ⟨s, s.size⟩)] false m k).burnt (Dk.mk c ((s ++ r).size : Nat) [(nm, ⟨s ++ r, s.size⟩)] false (max (m - 1) 0) k) = Dk.mk c ((s ++ r).size : Nat) [(nm, ⟨s ++ r, s.size⟩)] false (max (m - 1) 0) k := if_neg h1
  rw [hb] at hap
  obtain ⟨m2, hm2⟩ : ∃ m2, max (m - 1) 0 = m2 := ⟨_, rfl⟩
  rw [hm2] at hap
  obtain ⟨t3, t4⟩ := there_some (d := Dk.mk c ((s ++ r).size : Nat) [(nm, ⟨s ++ r, s.size⟩)] false m2 k) (x := nm) rfl hx (hg _) ((Dk.mk c ((s ++ r).size : Nat) [(nm, ⟨s ++ r, s.size⟩)] false m2 k).syncG nm)
  have hG : ∃ y, s.size ≤ y ∧ y ≤ (s ++ r).size ∧ (Dk.mk c ((s ++ r).size : Nat) [(nm, ⟨s ++ r, s.size⟩)] false m2 k).syncG nm ⟨s ++ r, s.size⟩ = Dk.mk c ((s ++ r).size : Nat) [(nm, ⟨s ++ r, y⟩)] false (max (m2 - 1) 0) k ∧ (¬ m2 = 1 → y = (s ++ r).size) := by
   unfold Dk.syncG
   by_cases hdo : (Dk.mk c ((s ++ r).size : Nat) [(nm, ⟨s ++ r, s.size⟩)] false m2 k).does false = true
   ·rw [if_pos hdo]
    refine ⟨(s ++ r).size, by omega, Nat.le_refl _, ?_, fun _ => rfl⟩
    show (Dk.mk c ((s ++ r).size : Nat) [(nm, ⟨s ++ r, s.size⟩)] false (max (m2 - 1) 0) k).set nm ⟨s ++ r, (s ++ r).size⟩ false = _
    rw [set_one (f := ⟨s ++ r, s.size⟩) rfl]
   ·rw [if_neg hdo]
    refine ⟨s.size, Nat.le_refl _, by omega, rfl, fun h => absurd ?_ hdo⟩
    unfold Dk.does
    rw [show ((Dk.mk c ((s ++ r).size : Nat) [(nm, ⟨s ++ r, s.size⟩)] false m2 k).left != 1) = true from by simpa using h]
    rfl
  obtain ⟨y, hy1, hy2, hG, hy3⟩ := hG
  have hsy : (Dk.mk c ((s ++ r).size : Nat) [(nm, ⟨s ++ r, s.size⟩)] false m2 k).sync nm = (Dk.mk c ((s ++ r).size : Nat) [(nm, ⟨s ++ r, s.size⟩)] false m2 k).burnt (Dk.mk c ((s ++ r).size : Nat) [(nm, ⟨s ++ r, y⟩)] false (max (m2 - 1) 0) k) := t3.trans (by rw [hG])
  by_cases h2 : m2 = 1
  ·subst h2
   right
   have hb2 : (Dk.mk c ((s ++ r).size : Nat) [(nm, ⟨s ++ r, s.size⟩)] false 1 k).burnt (Dk.mk c ((s ++ r).size : Nat) [(nm, ⟨s ++ r, y⟩)] false (max (1 - 1) 0) k) = (Dk.mk c ((s ++ r).size : Nat) [(nm, ⟨s ++ r, y⟩)] false (max (1 - 1) 0) k).crash k := if_pos rfl
   rw [hb2] at hsy
   have t5 : (Dk.mk c ((s ++ r).size : Nat) [(nm, ⟨s ++ r, s.size⟩)] false 1 k).thereE nm = 6 := t4.trans (if_pos rfl)
   simp only [stepsP, hap, hape, hsy, t5, if_true]
   rw [if_neg (by decide)]
   exact ⟨rfl, crash_one hy1 hy2⟩
  ·left
   have hb2 : (Dk.mk c ((s ++ r).size : Nat) [(nm, ⟨s ++ r, s.size⟩)] false m2 k).burnt (Dk.mk c ((s ++ r).size : Nat) [(nm, ⟨s ++ r, y⟩)] false (max (m2 - 1) 0) k) = Dk.mk c ((s ++ r).size : Nat) [(nm, ⟨s ++ r, y⟩)] false (max (m2 - 1) 0) k := if_neg h2
   rw [hb2, hy3 h2] at hsy
   have t5 : (Dk.mk c ((s ++ r).size : Nat) [(nm, ⟨s ++ r, s.size⟩)] false m2 k).thereE nm = 0 := t4.trans (if_neg h2)
   simp only [stepsP, hap, hape, hsy, t5, if_true]
   exact ⟨trivial, rfl⟩
end
section
open Go.RowKit
theorem headL_at (id p e : Nat) (y : List UInt8) : atB (bl (headL id p e ++ y)) 8 = UInt8.ofNat p ∧ atB (bl (headL id p e ++ y)) 9 = UInt8.ofNat e ∧ atB (bl (headL id p e ++ y)) 10 = UInt8.ofNat (e / 256) := by
 refine ⟨?_, ?_, ?_⟩ <;> rw [bl_at] <;> rfl
theorem headL_id (id p e : Nat) (y : List UInt8) (h : id < 18446744073709551616) : leN (bl (headL id p e ++ y)) 8 = id := by
 have h1 := leN_le8 id ([UInt8.ofNat p, UInt8.ofNat e, UInt8.ofNat (e / 256)] ++ y) 8 (Nat.le_refl _)
 rw [show bl (headL id p e ++ y) = bl (le8 id ++ ([UInt8.ofNat p, UInt8.ofNat e, UInt8.ofNat (e / 256)] ++ y)) by unfold headL; rw [List.append_assoc], h1]
 exact Nat.mod_eq_of_lt (by simpa using h)
theorem encJ_bl (j : JobR) : encJ j = bl (headL j.id j.phase.toNat j.e.toNat ++ j.input.data.toList) := by
 unfold encJ
 conv => lhs; rw [← bl_data j.input]
 rw [bl_append]
theorem decode_encode {j : JobR} (hj : JobOK j) (hb : badJ j = false) (hs : ¬ 60000 < j.input.size) : decodeP (encJ j) = (j, 0) := by
 obtain ⟨id, p, x, inp⟩ := j
 unfold badJ at hb
 simp only [Bool.or_eq_false_iff, decide_eq_false_iff_not] at hb
 obtain ⟨⟨⟨h1, h2⟩, h3⟩, h4⟩ := hb
 simp only at hs
 have hid : id < 18446744073709551616 := hj.id
 have hsz := encJ_size ⟨id, p, x, inp⟩
 simp only at hsz
 obtain ⟨pn, rfl⟩ : ∃ n : Nat, p = n := ⟨p.toNat, by omega⟩
 obtain ⟨xn, rfl⟩ : ∃ n : Nat, x = n := ⟨x.toNat, by omega⟩
 have e0 := encJ_bl ⟨id, pn, xn, inp⟩
 simp only [Int.toNat_natCast] at e0
 obtain ⟨a8, a9, a10⟩ := headL_at id pn xn inp.data.toList
 rw [← e0] at a8 a9 a10
 have hn := headL_id id pn xn inp.data.toList hid
 rw [← e0] at hn
 have v8 : (UInt8.ofNat pn).toNat = pn := by rw [UInt8.toNat_ofNat']; omega
 have v9 : (UInt8.ofNat xn).toNat = xn % 256 := by rw [UInt8.toNat_ofNat']
 have v10 : (UInt8.ofNat (xn / 256)).toNat = xn / 256 := by rw [UInt8.toNat_ofNat']; omega
 have hex : (encJ ⟨id, pn, xn, inp⟩).extract 11 (encJ ⟨id, pn, xn, inp⟩).size = inp := by
  rw [e0, bl_post _ _ _ (headL_length _ _ _).symm, bl_data]
 unfold decodeP badJS decJ
 rw [hn, hex, a8, a9, a10, v8, v9, v10, hsz]
 rw [if_neg]
 ·have : xn % 256 + xn / 256 * 256 = xn := by omega
  rw [this]
 ·simp only [Bool.or_eq_true, decide_eq_true_eq]
  omega
theorem append_one {nm : ByteArray} {c : Int} {s r : ByteArray} (hx : nameOk nm = true) (hc : (s.size : Int) + r.size ≤ c) :
  (oneD nm c ⟨s, s.size⟩).wAppend nm r = (oneD nm c ⟨s ++ r, (s ++ r).size⟩, 0) := by
 have hsr : (s ++ r).size = s.size + r.size := ByteArray.size_append
 obtain ⟨e1, e1'⟩ := append_calm (d := oneD nm c ⟨s, s.size⟩) (x := nm) (s := r) rfl rfl hx (mget_cons_eq rfl) hc
 have s1 : (oneD nm c ⟨s, s.size⟩).set nm (addTo r ⟨s, s.size⟩) false = oneD nm c ⟨s ++ r, s.size⟩ := by
  show (Dk.mk c s.size [(nm, ⟨s, s.size⟩)] false 0 0).set nm ⟨s ++ r, s.size⟩ false = _
  rw [set_one (f := ⟨s, s.size⟩) rfl]
  rfl
 rw [s1] at e1
 obtain ⟨e2, e2'⟩ := one_sync (nm := nm) (c := c) (f := ⟨s ++ r, s.size⟩) hx
 unfold Dk.wAppend aSteps
 simp only [stepsP, e1, e1', e2, e2', if_true]
 rfl
def jourD (c : Int) (texts : List ByteArray) : Dk := oneD jobsB c ⟨bl (recsL texts), sumsT texts⟩
def jourL (texts : List ByteArray) : Lg := ⟨jobsB, texts.length, false⟩
def JGood (texts : List ByteArray) : Prop := ∀ t ∈ texts, (decodeP t).2 = 0 ∧ t.size ≤ 65535
theorem jobs_name : nameOk jobsB = true := by decide
theorem jobs_fit : ¬ (jobsB.size = 0 ∨ 59 < jobsB.size) := by decide
theorem jour_ok {c : Int} {texts : List ByteArray} (h0 : c ≤ 1000000000) (hc : (sumsT texts : Int) ≤ c) : DkOK (jourD c texts) := by
 have hsz : (bl (recsL texts)).size = sumsT texts := by rw [bl_size, recsL_length]
 have ht : total [(jobsB, (⟨bl (recsL texts), sumsT texts⟩ : File))] = sumsT texts := by simp [total, hsz]
 refine ⟨?_, ?_, h0, by simp [jourD, oneD, mkeys], ?_, by simp [jourD, oneD], Int.le_refl _, (by show (0 : Int) ≤ 9223372036854775807; decide), (by show (-9223372036854775808 : Int) ≤ 0; decide), (by show (0 : Int) ≤ 9223372036854775807; decide)⟩
 ·show ((bl (recsL texts)).size : Int) = ((total [(jobsB, (⟨bl (recsL texts), sumsT texts⟩ : File))] : Nat) : Int)
  rw [ht, hsz]
 ·show ((total [(jobsB, (⟨bl (recsL texts), sumsT texts⟩ : File))] : Nat) : Int) ≤ c
  rw [ht]; exact hc
 ·intro p hp
  have : p = (jobsB, (⟨bl (recsL texts), sumsT texts⟩ : File)) := by simpa [jourD, oneD] using hp
  subst this
  show sumsT texts ≤ (bl (recsL texts)).size
  rw [hsz]; exact Nat.le_refl _
theorem jour_read {c : Int} {texts : List ByteArray} : ((jourD c texts).read jobsB).1.size = sumsT texts := by
 unfold jourD
 rw [one_read jobs_name]
 show (bl (recsL texts)).size = _
 rw [bl_size, recsL_length]
theorem jour_open {c : Int} {texts : List ByteArray} (h : JGood texts) (hc : 2 * (sumsT texts : Int) ≤ c) : (jourD c texts).wOpen jobsB = (jourD c texts, 0, texts) :=
 open_whole jobs_fit (fun x hx => (h x hx).2) hc
theorem jour_new {c : Int} (hc : 0 ≤ c) : (Dk.new c).wOpen jobsB = (jourD c [], 0, []) := by
 have h := open_none (nm := jobsB) (c := c) jobs_fit hc
 have e : Dk.new c = noneD c := by unfold Dk.new noneD; rw [Int.max_eq_left hc]
 rw [e, h]
 rfl
theorem jour_append {c : Int} {texts : List ByteArray} {s : ByteArray} (hs : s.size ≤ 65535) (hc : (sumsT texts : Int) + 6 + s.size ≤ c) :
  appendLP (jourL texts) (jourD c texts) [s] = (jourL (texts ++ [s]), jourD c (texts ++ [s]), 0) := by
 have hsz : (bl (recsL texts)).size = sumsT texts := by rw [bl_size, recsL_length]
 have hr : (bl (recsL [s])).size = 6 + s.size := by rw [bl_size, recsL_length]; rfl
 have h1 := append_one (nm := jobsB) (c := c) (s := bl (recsL texts)) (r := bl (recsL [s])) jobs_name (by rw [hsz, hr]; omega)
 have hby : bytesP [s] = (bl (recsL [s]), 0) := bytesP_good (by intro t ht; rw [List.mem_singleton.1 ht]; exact hs)
 have hcat : bl (recsL texts) ++ bl (recsL [s]) = bl (recsL (texts ++ [s])) := by rw [bl_append, ← recsL_append]
 rw [hcat] at h1
 have hsz2 : (bl (recsL (texts ++ [s]))).size = sumsT (texts ++ [s]) := by rw [bl_size, recsL_length]
 rw [hsz, hsz2] at h1
 unfold appendLP changeP
 rw [show (jourL texts).off = false from rfl, hby, if_neg (by decide), if_neg (by simp)]
 have hw : (jourD c texts).wAppend (jourL texts).name (bl (recsL [s])) = (jourD c (texts ++ [s]), 0) := h1
 simp only [hw, if_true]
 unfold jourL
 simp only [List.length_append, List.length_cons, List.length_nil]
theorem jour_tell {c : Int} {texts : List ByteArray} {j : JobR} (hj : JobOK j) (hb : badJ j = false) (hs : ¬ 60000 < j.input.size) (h : JGood texts) (hc : (sumsT texts : Int) + 17 + j.input.size ≤ c) :
  tellP (jourD c texts) (jourL texts) (jobsT texts) j = ⟨jourD c (texts ++ [encJ j]), jourL (texts ++ [encJ j]), jobsT (texts ++ [encJ j]), 0⟩ ∧ JGood (texts ++ [encJ j]) ∧ jobsT (texts ++ [encJ j]) = putJ (jobsT texts) j := by
 have he : encodeP j = (encJ j, 0) := by unfold encodeP; rw [hb, if_neg (by decide), if_neg hs]
 have hsz := encJ_size j
 have hd := decode_encode hj hb hs
 have ha := jour_append (c := c) (texts := texts) (s := encJ j) (by omega) (by omega)
 have hj2 : jobsT (texts ++ [encJ j]) = putJ (jobsT texts) j := by rw [jobsT_snoc, hd]
 refine ⟨?_, ?_, hj2⟩
 ·rw [tellP_ok he ha, hj2]
 ·intro t ht
  rcases List.mem_append.1 ht with h1 | h1
  ·exact h t h1
  ·rw [List.mem_singleton.1 h1, hd]
   exact ⟨rfl, by omega⟩
theorem sums_snoc (texts : List ByteArray) (j : JobR) : sumsT (texts ++ [encJ j]) = sumsT texts + 17 + j.input.size := by
 rw [sumsT_append]
 show sumsT texts + (6 + (encJ j).size + 0) = _
 rw [encJ_size]
 omega
end
end Go.Proofs.YtkagolpnaicdoaaGreatDoor
