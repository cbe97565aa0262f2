/-
  The law VdiskRenames: its walk.
-/
import Derived.Test.YtmadkoebopfhoaaVdOne
namespace Go.Proofs.Ytmadkoebopfhoaa
open Go.RowKit Go.Maps Go.MapKept Go.ChangeMaps

def nNew : ByteArray := ⟨#[110, 101, 119]⟩
def nOld : ByteArray := ⟨#[111, 108, 100]⟩

def twoD (a b : ByteArray) (sa sb : Nat) (off : Bool) (left keep : Int) : Dk := { cap := 1000, size := (a.size : Int) + b.size, files := [(nNew, ⟨a, sa⟩), (nOld, ⟨b, sb⟩)], off := off, left := left, keep := keep }

theorem new_old : nNew ≠ nOld := by decide

theorem two_total (a b : ByteArray) (sa sb : Nat) : total [(nNew, ⟨a, sa⟩), (nOld, ⟨b, sb⟩)] = a.size + b.size := by simp [total]

theorem twoOK {a b : ByteArray} {sa sb : Nat} {off : Bool} {left keep : Int} (h : a.size + b.size ≤ 1000) (h1 : sa ≤ a.size) (h2 : sb ≤ b.size) (h3 : 0 ≤ left) (h4 : left ≤ 9223372036854775807) (h5 : -9223372036854775808 ≤ keep) (h6 : keep ≤ 9223372036854775807) :
    DkOK (twoD a b sa sb off left keep) := by
  refine ⟨?_, ?_, by show (1000 : Int) ≤ 1000000000; decide, ?_, ?_, by show 2 ≤ 200; decide, h3, h4, h5, h6⟩
  · show (a.size : Int) + b.size = ((total [(nNew, ⟨a, sa⟩), (nOld, ⟨b, sb⟩)] : Nat) : Int)
    rw [two_total]; omega
  · show ((total [(nNew, ⟨a, sa⟩), (nOld, ⟨b, sb⟩)] : Nat) : Int) ≤ 1000
    rw [two_total]; omega
  · show [nNew, nOld].Nodup
    simp [new_old]
  · intro p hp
    rcases List.mem_cons.1 hp with rfl | hp
    · exact h1
    · rw [List.mem_singleton] at hp; subst hp; exact h2

section
variable (a b : ByteArray) (sa sb : Nat) (off : Bool) (left keep : Int)
theorem two_new : mget (twoD a b sa sb off left keep).files nNew = some ⟨a, sa⟩ := mget_cons_eq rfl
theorem two_old : mget (twoD a b sa sb off left keep).files nOld = some ⟨b, sb⟩ := (mget_cons_ne new_old).trans (mget_cons_eq rfl)
theorem two_named {l : List ByteArray} (h : l.all nameOk = true) : (twoD a b sa sb false left keep).named l = 0 := by
  unfold Dk.named
  rw [show (twoD a b sa sb false left keep).off = false from rfl, if_neg (by simp), if_pos h]
theorem put_new (x y z : File) : mput [(nNew, x), (nOld, y)] nNew z = [(nNew, z), (nOld, y)] := by unfold mput; rw [if_pos rfl]
theorem put_old (x y z : File) : mput [(nNew, x), (nOld, y)] nOld z = [(nNew, x), (nOld, z)] := by
  unfold mput; rw [if_neg new_old]
  show _ :: mput [(nOld, y)] nOld z = _
  unfold mput; rw [if_pos rfl]
theorem two_set_new (f : File) : (twoD a b sa sb off 0 keep).tick.set nNew f false = twoD f.s b f.synced sb off 0 keep := by
  have h1 : fget (twoD a b sa sb off 0 keep).tick nNew = ⟨a, sa⟩ := fget_tick (two_new _ _ _ _ _ _ _)
  have h2 : mput (twoD a b sa sb off 0 keep).tick.files nNew f = [(nNew, f), (nOld, ⟨b, sb⟩)] := put_new _ _ _
  have h3 : (twoD a b sa sb off 0 keep).tick.size + ((f.s.size : Int) - (⟨a, sa⟩ : File).s.size) = f.s.size + b.size := by
    show (a.size : Int) + b.size + (f.s.size - a.size) = _
    omega
  unfold Dk.set
  simp only [Bool.false_eq_true, if_false]
  rw [h1, h2, h3]
  rfl
theorem two_set_old (f : File) : (twoD a b sa sb off 0 keep).tick.set nOld f false = twoD a f.s sa f.synced off 0 keep := by
  have h1 : fget (twoD a b sa sb off 0 keep).tick nOld = ⟨b, sb⟩ := fget_tick (two_old _ _ _ _ _ _ _)
  have h2 : mput (twoD a b sa sb off 0 keep).tick.files nOld f = [(nNew, ⟨a, sa⟩), (nOld, f)] := put_old _ _ _
  have h3 : (twoD a b sa sb off 0 keep).tick.size + ((f.s.size : Int) - (⟨b, sb⟩ : File).s.size) = a.size + f.s.size := by
    show (a.size : Int) + b.size + (f.s.size - b.size) = _
    omega
  unfold Dk.set
  simp only [Bool.false_eq_true, if_false]
  rw [h1, h2, h3]
  rfl
theorem two_append_new (t : ByteArray) (h : a.size + b.size + t.size ≤ 1000) : (twoD a b sa sb false 0 keep).append nNew t = twoD (a ++ t) b sa sb false 0 keep ∧ (twoD a b sa sb false 0 keep).appendE nNew t = 0 := by
  have hf : (twoD a b sa sb false 0 keep).full nNew t = false := by
    unfold Dk.full
    rw [two_new]
    have : ¬ (1000 : Int) < (a.size : Int) + b.size + t.size := by omega
    simp [twoD, this]
  unfold Dk.append Dk.appendE Dk.thereD Dk.thereE
  rw [hf, two_named _ _ _ _ _ _ (by decide), two_new]
  simp only [Bool.false_eq_true, if_false, ne_eq, not_true_eq_false]
  rw [two_set_new]
  exact ⟨rfl, rfl⟩
theorem two_append_old (t : ByteArray) (h : a.size + b.size + t.size ≤ 1000) : (twoD a b sa sb false 0 keep).append nOld t = twoD a (b ++ t) sa sb false 0 keep ∧ (twoD a b sa sb false 0 keep).appendE nOld t = 0 := by
  have hf : (twoD a b sa sb false 0 keep).full nOld t = false := by
    unfold Dk.full
    rw [two_old]
    have : ¬ (1000 : Int) < (a.size : Int) + b.size + t.size := by omega
    simp [twoD, this]
  unfold Dk.append Dk.appendE Dk.thereD Dk.thereE
  rw [hf, two_named _ _ _ _ _ _ (by decide), two_old]
  simp only [Bool.false_eq_true, if_false, ne_eq, not_true_eq_false]
  rw [two_set_old]
  exact ⟨rfl, rfl⟩
theorem two_sync_new : (twoD a b sa sb false 0 keep).sync nNew = twoD a b a.size sb false 0 keep ∧ (twoD a b sa sb false 0 keep).thereE nNew = 0 := by
  unfold Dk.sync Dk.thereD Dk.thereE Dk.syncG
  rw [two_named _ _ _ _ _ _ (by decide), two_new, show (twoD a b sa sb false 0 keep).does false = true from rfl]
  simp only [if_true, if_false, ne_eq, not_true_eq_false]
  rw [two_set_new]
  exact ⟨rfl, rfl⟩
theorem two_sync_old : (twoD a b sa sb false 0 keep).sync nOld = twoD a b sa b.size false 0 keep ∧ (twoD a b sa sb false 0 keep).thereE nOld = 0 := by
  unfold Dk.sync Dk.thereD Dk.thereE Dk.syncG
  rw [two_named _ _ _ _ _ _ (by decide), two_old, show (twoD a b sa sb false 0 keep).does false = true from rfl]
  simp only [if_true, if_false, ne_eq, not_true_eq_false]
  rw [two_set_old]
  exact ⟨rfl, rfl⟩

theorem crashFile_whole (k : Int) (s : ByteArray) : crashFile k ⟨s, s.size⟩ = ⟨s, s.size⟩ := by
  unfold crashFile
  rw [crashLen_again, extract_all]

/-- the disk behind a Rename that was done -/
def doneD (a : ByteArray) (off : Bool) (left keep : Int) : Dk := { cap := 1000, size := a.size, files := [(nOld, ⟨a, a.size⟩)], off := off, left := left, keep := keep }

theorem two_turned : ((twoD a b a.size b.size false left keep).tick.set nNew zeroFile true).set nOld ⟨a, a.size⟩ false = doneD a false (max (left - 1) 0) keep := by
  have h1 : fget (twoD a b a.size b.size false left keep).tick nNew = ⟨a, a.size⟩ := fget_tick (two_new _ _ _ _ _ _ _)
  have h2 : mdel (mput (twoD a b a.size b.size false left keep).tick.files nNew zeroFile) nNew = [(nOld, ⟨b, b.size⟩)] := by
    show mdel (mput [(nNew, ⟨a, a.size⟩), (nOld, ⟨b, b.size⟩)] nNew zeroFile) nNew = _
    rw [put_new]
    unfold mdel
    rw [List.filter_cons, if_neg (by simp), List.filter_cons, if_pos (by simpa using fun e => new_old (Eq.symm e))]
    rfl
  have h3 : (twoD a b a.size b.size false left keep).tick.set nNew zeroFile true = { cap := 1000, size := b.size, files := [(nOld, ⟨b, b.size⟩)], off := false, left := max (left - 1) 0, keep := keep } := by
    unfold Dk.set
    simp only [if_true]
    rw [h1, h2]
    have : (twoD a b a.size b.size false left keep).tick.size + ((zeroFile.s.size : Int) - (⟨a, a.size⟩ : File).s.size) = b.size := by
      show (a.size : Int) + b.size + ((0 : Nat) - a.size) = _
      omega
    rw [this]
    rfl
  rw [h3]
  unfold Dk.set fget
  simp only [Bool.false_eq_true, if_false]
  rw [mget_cons_eq rfl]
  have h4 : mput [(nOld, (⟨b, b.size⟩ : File))] nOld ⟨a, a.size⟩ = [(nOld, ⟨a, a.size⟩)] := by unfold mput; rw [if_pos rfl]
  rw [h4]
  have : (b.size : Int) + ((⟨a, a.size⟩ : File).s.size - ((some (⟨b, b.size⟩ : File)).getD zeroFile).s.size) = a.size := by
    show (b.size : Int) + (a.size - b.size) = _
    omega
  rw [this]
  rfl

theorem two_rename_calm : (twoD a b a.size b.size false 0 keep).rename nNew nOld = doneD a false 0 keep ∧ (twoD a b a.size b.size false 0 keep).renameE nNew nOld = 0 := by
  unfold Dk.rename Dk.renameE Dk.thereD Dk.thereE Dk.renameG
  rw [two_named _ _ _ _ _ _ (by decide), two_named _ _ _ _ _ _ (by decide), two_new, show (twoD a b a.size b.size false 0 keep).does false = true from rfl]
  simp only [if_true, if_false, ne_eq, not_true_eq_false]
  rw [two_turned]
  exact ⟨rfl, rfl⟩

theorem two_rename_done (hk : (keep.tmod 2 != 0) = true) : (twoD a b a.size b.size false 1 keep).rename nNew nOld = doneD a true 0 keep ∧ (twoD a b a.size b.size false 1 keep).renameE nNew nOld = 6 := by
  have hd : (twoD a b a.size b.size false 1 keep).does false = true := by unfold Dk.does; show (_ || _ || (keep.tmod 2 != 0)) = true; rw [hk]; simp
  unfold Dk.rename Dk.renameE Dk.thereD Dk.thereE Dk.renameG
  rw [two_named _ _ _ _ _ _ (by decide), two_named _ _ _ _ _ _ (by decide), two_new, hd]
  simp only [if_true, if_false, ne_eq, not_true_eq_false]
  rw [two_turned]
  refine ⟨?_, rfl⟩
  unfold Dk.burnt
  rw [if_pos (show (twoD a b a.size b.size false 1 keep).left = 1 from rfl)]
  unfold Dk.crash
  have h1 : mall (crashFile (doneD a false (max (1 - 1) 0) keep).keep) (doneD a false (max (1 - 1) 0) keep).files = [(nOld, ⟨a, a.size⟩)] := by
    show [(nOld, crashFile keep ⟨a, a.size⟩)] = _
    rw [crashFile_whole]
  rw [h1]
  simp [doneD, total]

theorem two_rename_not (hk : (keep.tmod 2 != 0) = false) : (twoD a b a.size b.size false 1 keep).rename nNew nOld = twoD a b a.size b.size true 0 keep ∧ (twoD a b a.size b.size false 1 keep).renameE nNew nOld = 6 := by
  have hd : (twoD a b a.size b.size false 1 keep).does false = false := by unfold Dk.does; show (_ || _ || (keep.tmod 2 != 0)) = false; rw [hk]; rfl
  unfold Dk.rename Dk.renameE Dk.thereD Dk.thereE Dk.renameG
  rw [two_named _ _ _ _ _ _ (by decide), two_named _ _ _ _ _ _ (by decide), two_new, hd]
  simp only [Bool.false_eq_true, if_false, ne_eq, not_true_eq_false]
  refine ⟨?_, rfl⟩
  unfold Dk.burnt
  rw [if_pos (show (twoD a b a.size b.size false 1 keep).left = 1 from rfl)]
  unfold Dk.crash
  have h1 : mall (crashFile (twoD a b a.size b.size false 1 keep).tick.keep) (twoD a b a.size b.size false 1 keep).tick.files = [(nNew, ⟨a, a.size⟩), (nOld, ⟨b, b.size⟩)] := by
    show [(nNew, crashFile keep ⟨a, a.size⟩), (nOld, crashFile keep ⟨b, b.size⟩)] = _
    rw [crashFile_whole, crashFile_whole]
  rw [h1, two_total]
  simp [twoD, Dk.tick]

theorem done_read : (doneD a false left keep).read nOld = (a, 0) ∧ (doneD a false left keep).read nNew = (⟨#[]⟩, 3) := by
  have h1 : (doneD a false left keep).named [nOld] = 0 := by
    unfold Dk.named; rw [show (doneD a false left keep).off = false from rfl, if_neg (by simp), if_pos (by decide)]
  have h2 : (doneD a false left keep).named [nNew] = 0 := by
    unfold Dk.named; rw [show (doneD a false left keep).off = false from rfl, if_neg (by simp), if_pos (by decide)]
  unfold Dk.read
  rw [h1, h2, show mget (doneD a false left keep).files nOld = some ⟨a, a.size⟩ from mget_cons_eq rfl, show mget (doneD a false left keep).files nNew = none from mget_none (by intro p hp; rw [show (doneD a false left keep).files = [(nOld, ⟨a, a.size⟩)] from rfl, List.mem_singleton] at hp; subst hp; exact fun e => new_old e.symm)]
  exact ⟨rfl, rfl⟩
theorem two_read : (twoD a b sa sb false left keep).read nOld = (b, 0) ∧ (twoD a b sa sb false left keep).read nNew = (a, 0) := by
  unfold Dk.read
  rw [two_named _ _ _ _ _ _ (by decide), two_named _ _ _ _ _ _ (by decide), two_new, two_old]
  exact ⟨rfl, rfl⟩
end

theorem empty_app (s : ByteArray) : (⟨#[]⟩ : ByteArray) ++ s = s := by
  rw [show (⟨#[]⟩ : ByteArray) = ByteArray.empty from rfl, ByteArray.empty_append]

/-- the three ways of a Rename -/
theorem rename_ways (cut : Bool) (keep : Int) : (cut = false) ∨ (cut = true ∧ (keep.tmod 2 != 0) = true) ∨ (cut = true ∧ (keep.tmod 2 != 0) = false) := by
  cases cut
  · exact Or.inl rfl
  · cases (keep.tmod 2 != 0)
    · exact Or.inr (Or.inr ⟨rfl, rfl⟩)
    · exact Or.inr (Or.inl ⟨rfl, rfl⟩)

set_option maxRecDepth 100000 in
set_option maxHeartbeats 4000000 in
theorem renames_walk (w : World) (a b : ByteArray) (keep : Int) (cut : Bool) (ha : a.size ≤ maxLen) (hb : b.size ≤ maxLen) (hk1 : -9223372036854775808 ≤ keep) (hk2 : keep ≤ 9223372036854775807) :
    Calls Try.prog 4 #[.string a, .string b, .int .i64 keep, .bool cut] w fun e w' => e = .returned (.bool true) ∧ Fp [] w w' := by
  unfold maxLen at ha hb
  have HN1 : Hid (nNew.size ≤ maxLen) := by unfold Hid; decide
  have HN2 : Hid (nOld.size ≤ maxLen) := by unfold Hid; decide
  by_cases h1 : a.size ≤ 200
  case neg =>
    go_enter Try.func4, Try.ntmps4
    go_wp2_with (go_at_call 8; refine (shown_any _).mono ?_; rintro e w1 ⟨rfl, hf1⟩)
    go_ret
    exact ⟨rfl, hf1⟩
  by_cases h2 : b.size ≤ 200
  case neg =>
    go_enter Try.func4, Try.ntmps4
    go_wp2_with (go_at_call 8; refine (shown_any _).mono ?_; rintro e w1 ⟨rfl, hf1⟩)
    go_ret
    exact ⟨rfl, hf1⟩
  have hway := rename_ways cut keep
  have HOK : ∀ sa sb, sa ≤ a.size → sb ≤ b.size → ∀ off l k, 0 ≤ l → l ≤ 9223372036854775807 → -9223372036854775808 ≤ k → k ≤ 9223372036854775807 → Hid (DkOK (twoD a b sa sb off l k)) := fun sa sb h3 h4 off l k h5 h6 h7 h8 => twoOK (by omega) h3 h4 h5 h6 h7 h8
  rcases hway with rfl | ⟨rfl, hodd⟩ | ⟨rfl, hodd⟩
  all_goals
    go_enter Try.func4, Try.ntmps4
    go_wp2_with (go_at_call 8; refine (shown_any _).mono ?_; rintro e w1 ⟨rfl, hf1⟩)
    refine (new_any 1000 w1).mono ?_
    rintro e w2 ⟨rfl, hd2, hf2⟩
    obtain ⟨bd, hbd⟩ : ∃ bd, bd = w1.heap.size := ⟨_, rfl⟩
    rw [← hbd] at hd2 ⊢
    have hnew : w.heap.size ≤ bd := by have := hf1.size; omega
    have HF2 := Lib.hid (hf1.trans hf2 (by simp))
    have hc := create_any w2 _ _ _ nNew hd2 (DkOK.new (by decide)) HN1.out
    rw [show (Dk.new 1000).create nNew = oneD 1000 nNew ⟨#[]⟩ 0 false from by kernel_rfl, show (Dk.new 1000).createE nNew = 0 from by kernel_rfl] at hc
    have HC := Lib.hid hc
    clear hc hd2 hf1 hf2 hbd
    go_wp2_with (fail)
    refine HC.out.mono ?_
    rintro e w3 ⟨rfl, hd3, hf3⟩
    have HF3 := Lib.hid (fp_new HF2.out hf3 hnew)
    have hc := create_any w3 _ _ _ nOld hd3 (oneOK (by decide) (by decide) (by decide)) HN2.out
    rw [show (oneD 1000 nNew ⟨#[]⟩ 0 false).create nOld = twoD ⟨#[]⟩ ⟨#[]⟩ 0 0 false 0 0 from by kernel_rfl, show (oneD 1000 nNew ⟨#[]⟩ 0 false).createE nOld = 0 from by kernel_rfl] at hc
    have HC2 := Lib.hid hc
    clear HC hc hd3 hf3 HF2
    go_wp2_with (fail)
    refine HC2.out.mono ?_
    rintro e w4 ⟨rfl, hd4, hf4⟩
    have HF4 := Lib.hid (fp_new HF3.out hf4 hnew)
    have hc := append_any w4 _ _ _ nNew a hd4 (twoOK (by decide) (by decide) (by decide) (by decide) (by decide) (by decide) (by decide)) HN1.out (by omega)
    rw [(two_append_new ⟨#[]⟩ ⟨#[]⟩ 0 0 0 a (by show 0 + 0 + a.size ≤ 1000; omega)).1, (two_append_new ⟨#[]⟩ ⟨#[]⟩ 0 0 0 a (by show 0 + 0 + a.size ≤ 1000; omega)).2, empty_app] at hc
    have HC3 := Lib.hid hc
    clear HC2 hc hd4 hf4 HF3
    go_wp2_with (fail)
    refine HC3.out.mono ?_
    rintro e w5 ⟨rfl, hd5, hf5⟩
    have HF5 := Lib.hid (fp_new HF4.out hf5 hnew)
    have hc := append_any w5 _ _ _ nOld b hd5 (twoOK (by show a.size + 0 ≤ 1000; omega) (Nat.zero_le _) (by decide) (by decide) (by decide) (by decide) (by decide)) HN2.out (by omega)
    rw [(two_append_old a ⟨#[]⟩ 0 0 0 b (by show a.size + 0 + b.size ≤ 1000; omega)).1, (two_append_old a ⟨#[]⟩ 0 0 0 b (by show a.size + 0 + b.size ≤ 1000; omega)).2, empty_app] at hc
    have HC4 := Lib.hid hc
    clear HC3 hc hd5 hf5 HF4
    go_wp2_with (fail)
    refine HC4.out.mono ?_
    rintro e w6 ⟨rfl, hd6, hf6⟩
    have HF6 := Lib.hid (fp_new HF5.out hf6 hnew)
    have hc := sync_any w6 _ _ _ nNew hd6 (HOK 0 0 (Nat.zero_le _) (Nat.zero_le _) _ _ _ (by decide) (by decide) (by decide) (by decide)).out HN1.out
    rw [(two_sync_new a b 0 0 0).1, (two_sync_new a b 0 0 0).2] at hc
    have HC5 := Lib.hid hc
    clear HC4 hc hd6 hf6 HF5
    go_wp2_with (fail)
    refine HC5.out.mono ?_
    rintro e w7 ⟨rfl, hd7, hf7⟩
    have HF7 := Lib.hid (fp_new HF6.out hf7 hnew)
    have hc := sync_any w7 _ _ _ nOld hd7 (HOK _ 0 (Nat.le_refl _) (Nat.zero_le _) _ _ _ (by decide) (by decide) (by decide) (by decide)).out HN2.out
    rw [(two_sync_old a b a.size 0 0).1, (two_sync_old a b a.size 0 0).2] at hc
    have HC6 := Lib.hid hc
    clear HC5 hc hd7 hf7 HF6
    go_wp2_with (fail)
    refine HC6.out.mono ?_
    rintro e w8 ⟨rfl, hd8, hf8⟩
    have HF8 := Lib.hid (fp_new HF7.out hf8 hnew)
    have HD8 := Lib.hid hd8
    clear HC6 hd8 hf8 HF7
  · have hc := rename_any w8 _ _ _ nNew nOld HD8.out (HOK _ _ (Nat.le_refl _) (Nat.le_refl _) _ _ _ (by decide) (by decide) (by decide) (by decide)).out HN1.out HN2.out
    rw [(two_rename_calm a b 0).1, (two_rename_calm a b 0).2] at hc
    have HC := Lib.hid hc
    clear hc HD8
    go_wp2_with (fail)
    refine HC.out.mono ?_
    rintro e w9 ⟨rfl, hd9, hf9⟩
    have HF9 := Lib.hid (fp_new HF8.out hf9 hnew)
    have hc := on_any w9 _ _ _ hd9
    have HC1 := Lib.hid hc
    clear hc hd9 hf9 HC HF8
    go_wp2_with (fail)
    refine HC1.out.mono ?_
    rintro e w10 ⟨rfl, hd10, hf10⟩
    change DiskAt w10 _ _ (doneD a false 0 0) at hd10
    have HF10 := Lib.hid (fp_new HF9.out (hf10.mono (by simp)) hnew)
    have HD10 := Lib.hid hd10
    have hc := read_any w10 _ _ _ nOld hd10 HN2.out
    rw [(done_read a 0 0).1] at hc
    have HC2 := Lib.hid hc
    clear hc hd10 hf10 HC1 HF9
    go_wp2_with (fail)
    refine HC2.out.mono ?_
    rintro e w11 ⟨rfl, hf11⟩
    have hd11 := HD10.out.of_fp hf11 (by simp) (by simp)
    have HF11 := Lib.hid (HF10.out.trans hf11 (by simp))
    have HD11 := Lib.hid hd11
    have hc := read_any w11 _ _ _ nNew hd11 HN1.out
    rw [(done_read a 0 0).2] at hc
    have HC3 := Lib.hid hc
    clear hc hd11 hf11 HC2 HF10 HD10
    go_wp2_with (fail)
    refine HC3.out.mono ?_
    rintro e w12 ⟨rfl, hf12⟩
    have HF12 := Lib.hid (HF11.out.trans hf12 (by simp))
    have hc := size_any w12 _ _ _ (HD11.out.of_fp hf12 (by simp) (by simp))
    change Calls _ _ _ _ fun e w' => e = .returned (.int .i64 (a.size : Int)) ∧ _ = w' at hc
    have HC4 := Lib.hid hc
    clear hc hf12 HC3 HF11 HD11
    go_wp2_with (fail)
    refine HC4.out.mono ?_
    rintro e w13 ⟨rfl, rfl⟩
    go_wp2_with (fail)
    go_ret
    exact ⟨rfl, HF12.out⟩
  · have hc := fuse_any w8 _ _ _ 1 keep HD8.out
    change Calls _ _ _ _ fun e w' => e = _ ∧ DiskAt w' _ _ (twoD a b a.size b.size false 1 keep) ∧ _ at hc
    have HCF := Lib.hid hc
    clear hc HD8
    go_wp2_with (fail)
    refine HCF.out.mono ?_
    rintro e w8b ⟨rfl, hd8, hf8⟩
    have HF8b := Lib.hid (fp_new HF8.out (hf8.mono (by simp)) hnew)
    have hc := rename_any w8b _ _ _ nNew nOld hd8 (HOK _ _ (Nat.le_refl _) (Nat.le_refl _) _ _ _ (by decide) (by decide) hk1 hk2).out HN1.out HN2.out
    rw [(two_rename_done a b keep hodd).1, (two_rename_done a b keep hodd).2] at hc
    have HC := Lib.hid hc
    clear hc hd8 hf8 HCF HF8
    go_wp2_with (fail)
    refine HC.out.mono ?_
    rintro e w9 ⟨rfl, hd9, hf9⟩
    have HF9 := Lib.hid (fp_new HF8b.out hf9 hnew)
    have hc := on_any w9 _ _ _ hd9
    have HC1 := Lib.hid hc
    clear hc hd9 hf9 HC HF8b
    go_wp2_with (fail)
    refine HC1.out.mono ?_
    rintro e w10 ⟨rfl, hd10, hf10⟩
    change DiskAt w10 _ _ (doneD a false 0 keep) at hd10
    have HF10 := Lib.hid (fp_new HF9.out (hf10.mono (by simp)) hnew)
    have HD10 := Lib.hid hd10
    have hc := read_any w10 _ _ _ nOld hd10 HN2.out
    rw [(done_read a 0 keep).1] at hc
    have HC2 := Lib.hid hc
    clear hc hd10 hf10 HC1 HF9
    go_wp2_with (fail)
    refine HC2.out.mono ?_
    rintro e w11 ⟨rfl, hf11⟩
    have hd11 := HD10.out.of_fp hf11 (by simp) (by simp)
    have HF11 := Lib.hid (HF10.out.trans hf11 (by simp))
    have HD11 := Lib.hid hd11
    have hc := read_any w11 _ _ _ nNew hd11 HN1.out
    rw [(done_read a 0 keep).2] at hc
    have HC3 := Lib.hid hc
    clear hc hd11 hf11 HC2 HF10 HD10
    go_wp2_with (fail)
    refine HC3.out.mono ?_
    rintro e w12 ⟨rfl, hf12⟩
    have HF12 := Lib.hid (HF11.out.trans hf12 (by simp))
    have hc := size_any w12 _ _ _ (HD11.out.of_fp hf12 (by simp) (by simp))
    change Calls _ _ _ _ fun e w' => e = .returned (.int .i64 (a.size : Int)) ∧ _ = w' at hc
    have HC4 := Lib.hid hc
    clear hc hf12 HC3 HF11 HD11
    go_wp2_with (fail)
    refine HC4.out.mono ?_
    rintro e w13 ⟨rfl, rfl⟩
    go_wp2_with (fail)
    go_ret
    exact ⟨rfl, HF12.out⟩
  · have hc := fuse_any w8 _ _ _ 1 keep HD8.out
    change Calls _ _ _ _ fun e w' => e = _ ∧ DiskAt w' _ _ (twoD a b a.size b.size false 1 keep) ∧ _ at hc
    have HCF := Lib.hid hc
    clear hc HD8
    go_wp2_with (fail)
    refine HCF.out.mono ?_
    rintro e w8b ⟨rfl, hd8, hf8⟩
    have HF8b := Lib.hid (fp_new HF8.out (hf8.mono (by simp)) hnew)
    have hc := rename_any w8b _ _ _ nNew nOld hd8 (HOK _ _ (Nat.le_refl _) (Nat.le_refl _) _ _ _ (by decide) (by decide) hk1 hk2).out HN1.out HN2.out
    rw [(two_rename_not a b keep hodd).1, (two_rename_not a b keep hodd).2] at hc
    have HC := Lib.hid hc
    clear hc hd8 hf8 HCF HF8
    go_wp2_with (fail)
    refine HC.out.mono ?_
    rintro e w9 ⟨rfl, hd9, hf9⟩
    have HF9 := Lib.hid (fp_new HF8b.out hf9 hnew)
    have hc := on_any w9 _ _ _ hd9
    have HC1 := Lib.hid hc
    clear hc hd9 hf9 HC HF8b
    go_wp2_with (fail)
    refine HC1.out.mono ?_
    rintro e w10 ⟨rfl, hd10, hf10⟩
    change DiskAt w10 _ _ (twoD a b a.size b.size false 0 keep) at hd10
    have HF10 := Lib.hid (fp_new HF9.out (hf10.mono (by simp)) hnew)
    have HD10 := Lib.hid hd10
    have hc := read_any w10 _ _ _ nOld hd10 HN2.out
    rw [(two_read a b _ _ 0 keep).1] at hc
    have HC2 := Lib.hid hc
    clear hc hd10 hf10 HC1 HF9
    go_wp2_with (fail)
    refine HC2.out.mono ?_
    rintro e w11 ⟨rfl, hf11⟩
    have hd11 := HD10.out.of_fp hf11 (by simp) (by simp)
    have HF11 := Lib.hid (HF10.out.trans hf11 (by simp))
    have HD11 := Lib.hid hd11
    have hc := read_any w11 _ _ _ nNew hd11 HN1.out
    rw [(two_read a b _ _ 0 keep).2] at hc
    have HC3 := Lib.hid hc
    clear hc hd11 hf11 HC2 HF10 HD10
    go_wp2_with (fail)
    refine HC3.out.mono ?_
    rintro e w12 ⟨rfl, hf12⟩
    have HF12 := Lib.hid (HF11.out.trans hf12 (by simp))
    have hc := size_any w12 _ _ _ (HD11.out.of_fp hf12 (by simp) (by simp))
    change Calls _ _ _ _ fun e w' => e = .returned (.int .i64 ((a.size : Int) + b.size)) ∧ _ = w' at hc
    have HC4 := Lib.hid hc
    clear hc hf12 HC3 HF11 HD11
    go_wp2_with (fail)
    refine HC4.out.mono ?_
    rintro e w13 ⟨rfl, rfl⟩
    go_wp2_with (fail)
    go_ret
    exact ⟨rfl, HF12.out⟩
end Go.Proofs.Ytmadkoebopfhoaa
