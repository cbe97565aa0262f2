/-
 What an opened file says: Blocks, Many, Cells. What an opened file says of a row: near, Looks, Row. Files: what is built is opened to what it was built of. The law's own helpers: bounded, cells. A row's cells lie in the parts that are near; a filter has all its names. The law's own helper: shown. wal: what its functions compute, over the disk as data (plain). wal: steps; write. mem's table; the engine as it lies; steps that go well; Pending, Last, kept. wal: the closures of write and of Append. Slices of strings that came in.
-/
import Derived.Test.YtkjmgbifoaoefaaGreatDoorQTabL
import Derived.Test.YtkjmgbifoaoefaaGreatDoorQVdOps2
import Derived.Test.YtkjmgbifoaoefaaGreatDoorQCellA
import Derived.Test.YtkjmgbifoaoefaaGreatDoorQEngA
import Derived.Test.YtkjmgbifoaoefaaGreatDoorQCellShown
import Derived.Test.YtkjmgbifoaoefaaGreatDoorQTabG
set_option maxRecDepth 100000
set_option maxHeartbeats 8000000
namespace Go.Proofs.YtkjmgbifoaoefaaGreatDoor
section
section
open Go.RowKit
theorem OwnC.len {w : World} {base : Nat} {v : Value} {l : List Cel} (h : OwnC w base v l) : ∃ a cap, v = .slice a l.length cap := by
 rcases h.2 with ⟨rfl, h0⟩ | ⟨g, cap, cur, rfl, _⟩
 ·have : l = [] := List.eq_nil_of_length_eq_zero h0
  subst this
  exact ⟨_, _, rfl⟩
 ·exact ⟨_, _, rfl⟩
theorem flat_seq : ∀ (l : List Cel) (k : Nat) (q : Nat), k < l.length → (l.flatMap celRow).set (k * 6 + 3) (.int .u64 q) = (l.set k { l.getD k zeroC with seq := q }).flatMap celRow
 |[], k, q, h => absurd h (Nat.not_lt_zero _)
 |c :: l, 0, q, _ => by simp [celRow]
 |c :: l, k + 1, q, h => by
  rw [List.flatMap_cons, List.set_append, if_neg (by show ¬ (k + 1) * 6 + 3 < 6; omega), List.set_cons_succ, List.flatMap_cons]
  have e : (k + 1) * 6 + 3 - (celRow c).length = k * 6 + 3 := by show (k + 1) * 6 + 3 - 6 = _; omega
  rw [e, flat_seq l k q (by simpa using h)]
  rfl
theorem OwnC.setSeq {w : World} {base g k n cap : Nat} {l : List Cel} (q : Nat) (h : OwnC w base (.slice (some ⟨g, 0, none⟩) n cap) l) (hk : k < l.length) :
  OwnC (w.setCell ⟨g, k * 6 + 3, none⟩ (.int .u64 q)) base (.slice (some ⟨g, 0, none⟩) n cap) (l.set k { l.getD k zeroC with seq := q }) := by
 obtain ⟨g2, cap2, cur, e, hg, hh, hn, hm, hs, ht⟩ := h.open (by omega)
 cases e
 refine ⟨by rw [flat_len], Or.inr ⟨g, cap, cur.setIfInBounds (k * 6 + 3) (.int .u64 q), by rw [List.length_set], hg, heap_setCell_same hh _, by rw [List.length_set]; exact hn, hm, by rw [Array.size_setIfInBounds]; exact hs, ?_⟩⟩
 rw [Array.toList_setIfInBounds, List.length_set, List.take_set, ht, flat_seq l k q hk]
end
section
open Go.RowKit
end
end
section
section
open Go.RowKit
def recL (x : ByteArray) : List UInt8 := two x.size ++ (quad (crcN (bl (two x.size)) x) ++ x.data.toList)
theorem recB_bl (x : ByteArray) : recB x = bl (recL x) := by
 unfold recB recL
 conv => lhs; rw [← bl_data x]
 simp only [bl_data, bl_append]
 rw [show (x : ByteArray) = bl x.data.toList from (bl_data x).symm]
 simp only [bl_append, bl_toList, List.append_assoc, bl_size]
theorem recL_length (x : ByteArray) : (recL x).length = 6 + x.size := by
 unfold recL two quad
 simp only [List.length_append, List.length_cons, List.length_nil]
 show 0 + 1 + 1 + (0 + 1 + 1 + 1 + 1 + x.size) = _
 omega
end
section
open Go.RowKit
end
section
open Go.RowKit
def rowAt (l : List Cel) (k : Nat) : ByteArray := (l.getD k zeroC).row
end
section
open Go.RowKit
end
end
section
open Go.RowKit Go.Maps Go.MapKept Go.ChangeMaps
theorem DkOK.thereD {d : Dk} {name : ByteArray} {g : File → Dk} (h : DkOK d) (hg : d.named [name] = 0 → ∀ f, mget d.files name = some f → DkOK (g f)) : DkOK (d.thereD name g) := by
 unfold Dk.thereD
 split
 ·exact h
 ·rename_i hn
  split
  ·exact h
  ·rename_i f hf
   exact (hg (by simpa using hn) f hf).burnt
theorem DkOK.syncD {d : Dk} (h : DkOK d) (name : ByteArray) : DkOK (d.sync name) := by
 refine h.thereD fun _ f hf => ?_
 unfold Dk.syncG
 have hfile := h.file hf
 have hfi := h.fits
 split
 ·refine h.tick.put name _ ?_ (Nat.le_refl _) (Or.inl (by show (mget d.files name).isSome = true; rw [hf]; rfl))
  rw [fget_tick hf]
  show (total d.files : Int) + (f.s.size : Nat) - f.s.size ≤ d.cap
  omega
 ·exact h.tick
theorem DkOK.deleteD {d : Dk} (h : DkOK d) (name : ByteArray) : DkOK (d.delete name) := by
 refine h.thereD fun _ f hf => ?_
 unfold Dk.deleteG
 split
 ·exact h.tick.gone name (by show (mget d.files name).isSome = true; rw [hf]; rfl)
 ·exact h.tick
theorem DkOK.appendD {d : Dk} (h : DkOK d) (name s : ByteArray) : DkOK (d.append name s) := by
 unfold Dk.append
 split
 ·exact h
 ·rename_i hfull
  refine h.thereD fun hn f hf => ?_
  have ho := named_zero hn
  have hfit : d.size + s.size ≤ d.cap := by
   unfold Dk.full at hfull
   rw [hf, ho] at hfull
   simpa using hfull
  have hfile := h.file hf
  have hz := h.size
  have hfg : fget d.tick name = f := by
   show (mget d.files name).getD zeroFile = f
   rw [hf]; rfl
  refine h.tick.put name _ ?_ ?_ (Or.inl (by show (mget d.files name).isSome = true; rw [hf]; rfl))
  ·rw [hfg]
   show (total d.files : Int) + ((f.s ++ s).size : Nat) - f.s.size ≤ d.cap
   simp only [ByteArray.size_append]
   omega
  ·show f.synced ≤ (f.s ++ s).size
   simp only [ByteArray.size_append]
   omega
theorem DkOK.renameD {d : Dk} (h : DkOK d) (frm dst : ByteArray) : DkOK (d.rename frm dst) := by
 unfold Dk.rename
 split
 ·exact h
 ·exact h.thereD fun _ f hf => renameG_ok h hf
theorem DkOK.createD {d : Dk} (h : DkOK d) (name : ByteArray) : DkOK (d.create name) := by
 unfold Dk.create
 split
 ·exact h
 ·split
  ·exact h
  ·split
   ·exact h
   ·exact (createG_ok h (by omega)).burnt
def stepsP : List (Dk → Dk × Int) → Dk → Dk × Int
 |[], d => (d, 0)
 |g :: r, d => if (g d).2 = 0 then stepsP r (g d).1 else g d
def recsL (l : List ByteArray) : List UInt8 := l.flatMap recL
theorem recsL_cons (t : ByteArray) (r : List ByteArray) : recsL (t :: r) = recL t ++ recsL r := rfl
theorem recsL_append (a b : List ByteArray) : recsL (a ++ b) = recsL a ++ recsL b := by unfold recsL; rw [List.flatMap_append]
def sumsT : List ByteArray → Nat
 |[] => 0
 |t :: r => 6 + t.size + sumsT r
theorem sumsT_append : ∀ (a b : List ByteArray), sumsT (a ++ b) = sumsT a + sumsT b
 |[], b => by simp [sumsT]
 |t :: r, b => by show 6 + t.size + sumsT (r ++ b) = 6 + t.size + sumsT r + sumsT b; rw [sumsT_append r b]; omega
theorem recsL_length : ∀ (l : List ByteArray), (recsL l).length = sumsT l
 |[] => rfl
 |t :: r => by
  rw [recsL_cons, List.length_append, recsL_length r, recL_length]
  rfl
def narrow (l : List ByteArray) : Bool := l.all (fun t => decide (t.size ≤ 65535))
def bytesP (l : List ByteArray) : ByteArray × Int := if narrow l then (bl (recsL l), 0) else (⟨#[]⟩, 71)
def plusB : ByteArray := ⟨#[43]⟩
def wSteps (name other s : ByteArray) : List (Dk → Dk × Int) :=
 [fun d => (d.delete other, if d.thereE other = 3 then 0 else d.thereE other),
  fun d => (d.create other, d.createE other),
  fun d => (d.append other s, d.appendE other s),
  fun d => (d.sync other, d.thereE other),
  fun d => (d.rename other name, d.renameE other name)]
def Dk.wWrite (d : Dk) (name s : ByteArray) : Dk × Int := stepsP (wSteps name (name ++ plusB) s) d
def aSteps (name s : ByteArray) : List (Dk → Dk × Int) := [fun d => (d.append name s, d.appendE name s), fun d => (d.sync name, d.thereE name)]
def Dk.wAppend (d : Dk) (name s : ByteArray) : Dk × Int := stepsP (aSteps name s) d
theorem stepsP_ok : ∀ (l : List (Dk → Dk × Int)) {d : Dk}, DkOK d → (∀ g ∈ l, ∀ d, DkOK d → DkOK (g d).1) → DkOK (stepsP l d).1
 |[], _, h, _ => h
 |g :: r, d, h, hg => by
  unfold stepsP
  split
  ·exact stepsP_ok r (hg g List.mem_cons_self d h) (fun g' hm => hg g' (List.mem_cons_of_mem _ hm))
  ·exact hg g List.mem_cons_self d h
theorem wSteps_ok (name other s : ByteArray) : ∀ g ∈ wSteps name other s, ∀ d, DkOK d → DkOK (g d).1 := by
 intro g hg d hd
 simp only [wSteps, List.mem_cons, List.not_mem_nil, or_false] at hg
 rcases hg with rfl | rfl | rfl | rfl | rfl
 ·exact hd.deleteD _
 ·exact hd.createD _
 ·exact hd.appendD _ _
 ·exact hd.syncD _
 ·exact hd.renameD _ _
theorem aSteps_ok (name s : ByteArray) : ∀ g ∈ aSteps name s, ∀ d, DkOK d → DkOK (g d).1 := by
 intro g hg d hd
 simp only [aSteps, List.mem_cons, List.not_mem_nil, or_false] at hg
 rcases hg with rfl | rfl
 ·exact hd.appendD _ _
 ·exact hd.syncD _
theorem DkOK.wWriteD {d : Dk} (h : DkOK d) (name s : ByteArray) : DkOK (d.wWrite name s).1 := stepsP_ok _ h (wSteps_ok _ _ _)
theorem DkOK.wAppendD {d : Dk} (h : DkOK d) (name s : ByteArray) : DkOK (d.wAppend name s).1 := stepsP_ok _ h (aSteps_ok _ _)
def Dk.wOpen (d : Dk) (name : ByteArray) : Dk × Int × List ByteArray :=
 if name.size = 0 ∨ 59 < name.size then (d, 1, [])
 else if (d.read name).2 ≠ 0 ∧ (d.read name).2 ≠ 3 then (d, (d.read name).2, [])
 else
  let s := (d.read name).1
  let r := if (d.read name).2 = 3 ∨ endOf (textsP s) < s.size then d.wWrite name (s.extract 0 (endOf (textsP s))) else (d.sync name, d.thereE name)
  (r.1, r.2, if r.2 = 0 then (textsP s).map (·.2) else [])
theorem DkOK.wOpenD {d : Dk} (h : DkOK d) (name : ByteArray) : DkOK (d.wOpen name).1 := by
 unfold Dk.wOpen
 split
 ·exact h
 ·split
  ·exact h
  ·simp only
   split
   ·exact h.wWriteD _ _
   ·exact h.syncD _
structure Lg where
 name : ByteArray
 many : Nat
 off : Bool
def changeP (lg : Lg) (d : Dk) (texts : List ByteArray) (many : Nat) (g : ByteArray → Dk → Dk × Int) : Lg × Dk × Int :=
 if lg.off then (lg, d, 6)
 else if (bytesP texts).2 ≠ 0 then (lg, d, (bytesP texts).2)
 else
  let r := g (bytesP texts).1 d
  (if r.2 = 0 then { lg with many := many } else if r.2 = 2 then lg else { lg with off := true }, r.1, r.2)
def appendLP (lg : Lg) (d : Dk) (texts : List ByteArray) : Lg × Dk × Int := changeP lg d texts (lg.many + texts.length) (fun s d => d.wAppend lg.name s)
end
section
open Go.RowKit Go.Lib Go.Maps Go.MapKept Go.ChangeMaps
structure StepAt (w0 : World) (b bm : Nat) (f : Nat × Array Value) (g : Dk → Dk × Int) : Prop where
 enters : ∀ w, (callFunc f.1 f.2).run Tryz.prog w = .ok (.enter f.1 f.2) w
 calls : ∀ d W, DiskAt W b bm d → DkOK d → Fp [b, bm] w0 W → Calls Tryz.prog f.1 f.2 W fun e w' => e = .returned (.int .i64 (g d).2) ∧ DiskAt w' b bm (g d).1 ∧ Fp [b, bm] W w'
def stepV (f : Nat × Array Value) : Value := .func (.func f.1) #[] f.2
structure StepsAt (w : World) (b bm : Nat) (fs : List (Nat × Array Value)) (gs : List (Dk → Dk × Int)) : Prop where
 len : fs.length = gs.length
 step : ∀ i (h : i < fs.length) (h2 : i < gs.length), StepAt w b bm fs[i] gs[i]
 ok : ∀ g ∈ gs, ∀ d, DkOK d → DkOK (g d).1
theorem stepsP_drop {gs : List (Dk → Dk × Int)} {k : Nat} (h : k < gs.length) (d : Dk) : stepsP (gs.drop k) d = if (gs[k] d).2 = 0 then stepsP (gs.drop (k + 1)) (gs[k] d).1 else gs[k] d := by
 rw [List.drop_eq_getElem_cons h]
 rfl
theorem steps_any (w : World) (b bm sb : Nat) (d : Dk) (fs : List (Nat × Array Value)) (gs : List (Dk → Dk × Int)) (hd : DiskAt w b bm d) (hok : DkOK d)
  (hs : w.heap[sb]? = some (.cells (fs.map stepV).toArray 44 (0, 0))) (hn : fs.length ≤ 1000) (hst : StepsAt w b bm fs gs) :
  Calls Tryz.prog 75 #[.slice (some ⟨sb, 0, none⟩) fs.length fs.length] w fun e w' => e = .returned (.int .i64 (stepsP gs d).2) ∧ DiskAt w' b bm (stepsP gs d).1 ∧ Fp [b, bm] w w' := by
 have hsb : sb ∉ [b, bm] := by
  intro h
  simp only [List.mem_cons, List.not_mem_nil, or_false] at h
  rcases h with rfl | rfl
  ·have h2 := hd.cells
   rw [hs] at h2
   injection Option.some.inj h2 with _ h3
   exact absurd h3 (by decide)
  ·obtain ⟨es, clock, h1, _⟩ := hd.files; rw [hs] at h1; cases h1
 have HD := Lib.hid hd
 have HOK := Lib.hid hok
 have HS := Lib.hid hs
 have HST := Lib.hid hst
 clear hd hok hs hst
 go_enter Tryz.func75, Tryz.ntmps75
 go_wp2_with (fail)
 go_loopg [8] fs.length (fun g vi W => ∃ (k : Nat) (d2 : Dk), g + k = fs.length ∧ vi = .int .i64 k ∧ stepsP gs d = stepsP (gs.drop k) d2 ∧ DiskAt W b bm d2 ∧ DkOK d2 ∧ Fp [b, bm] w W)
 case atStart => exact ⟨0, d, by omega, rfl, rfl, HD.out, HOK.out, Fp.refl _ _⟩
 case round =>
  obtain ⟨k, d2, hg, rfl, hp, hd2, hok2, hf⟩ := hrel
  have HP := Lib.hid hp
  have HD2 := Lib.hid hd2
  have HOK2 := Lib.hid hok2
  have HF := Lib.hid hf
  clear hp hd2 hok2 hf
  by_cases hk : k < fs.length
  ·have zk : (k : Int) < (fs.length : Int) := by omega
   have hkg : k < gs.length := by rw [← HST.out.len]; exact hk
   have hstp := HST.out.step k hk hkg
   have hdrop := stepsP_drop hkg d2
   have hcell : wr.cell? ⟨sb, k, none⟩ = some (stepV fs[k]) := by
    rw [cell_of_block ((HF.out.block sb (heap_lt HS.out) hsb).trans HS.out)]; simp [hk]
   obtain ⟨⟨F, cap⟩, hfk⟩ : ∃ f, fs[k] = f := ⟨_, rfl⟩
   obtain ⟨gk2, hgk⟩ : ∃ g, gs[k] = g := ⟨_, rfl⟩
   have hokg : DkOK (gk2 d2).1 := HST.out.ok gk2 (by rw [← hgk]; exact List.getElem_mem hkg) d2 HOK2.out
   rw [hfk, hgk] at hstp
   rw [hfk] at hcell
   rw [hgk] at hdrop
   unfold stepV at hcell
   have hen := hstp.enters
   have HC := Lib.hid (hstp.calls d2 wr HD2.out HOK2.out HF.out)
   have HOKG := Lib.hid hokg
   obtain ⟨⟨d3, x⟩, hx⟩ : ∃ r, gk2 d2 = r := ⟨_, rfl⟩
   rw [hx] at HC hdrop HOKG
   have HDR := Lib.hid hdrop
   simp only at hen hcell
   clear hstp hdrop hfk hgk hokg hx
   go_wp2_with (fail)
   (with_reducible refine HC.out.mono ?_)
   rintro e w2 ⟨rfl, hd3, hf3⟩
   have HD3 := Lib.hid hd3
   have HF3 := Lib.hid (HF.out.trans hf3 (by intro i hi; exact Or.inl hi))
   clear hd3 hf3
   by_cases h0 : x = 0
   ·subst h0
    have HE : Hid (stepsP gs d = stepsP (gs.drop (k + 1)) d3) := by
     have := HDR.out
     rw [if_pos rfl] at this
     exact HP.out.trans this
    go_wp2_with (fail)
    go_roundg (gk - 1)
    case measure => omega
    case rel => exact ⟨k + 1, d3, by omega, by go_num, HE.out, HD3.out, HOKG.out, HF3.out⟩
   ·have HE : Hid (stepsP gs d = (d3, x)) := by
     have := HDR.out
     rw [if_neg h0] at this
     exact HP.out.trans this
    have hb : ((x : Int) != 0) = true := by simpa using h0
    clear h0
    go_wp2_with (fail)
    go_ret
    rw [HE.out]
    exact ⟨rfl, HD3.out, HF3.out⟩
  ·have zk : ¬ (k : Int) < (fs.length : Int) := by omega
   have HE : Hid (stepsP gs d = (d2, 0)) := by
    refine HP.out.trans ?_
    rw [List.drop_of_length_le (by rw [← HST.out.len]; omega)]
    rfl
   go_wp2_with (fail)
   go_ret
   rw [HE.out]
   exact ⟨rfl, HD2.out, HF.out⟩
def logCells (b : Nat) (lg : Lg) : Array Value := #[.pointer (some ⟨b, 0, none⟩), .string lg.name, .int .i64 lg.many, .bool lg.off]
def LogAt (w : World) (L b : Nat) (lg : Lg) : Prop := w.heap[L]? = some (.cells (logCells b lg) 139 (0, 0))
theorem LogAt.fp {w w' : World} {S : List Nat} {L b : Nat} {lg : Lg} (h : LogAt w L b lg) (hf : Fp S w w') (hS : L ∉ S) : LogAt w' L b lg := (hf.block L (heap_lt h) hS).trans h
theorem LogAt.ne {w : World} {L b bm : Nat} {lg : Lg} {d : Dk} (h : LogAt w L b lg) (hd : DiskAt w b bm d) : L ∉ [b, bm] := by
 intro hm
 simp only [List.mem_cons, List.not_mem_nil, or_false] at hm
 rcases hm with rfl | rfl
 ·have := hd.cells; rw [h] at this; cases this
 ·obtain ⟨es, clock, h1, _⟩ := hd.files; rw [h] at h1; cases h1
theorem box_ne {w : World} {q b bm : Nat} {d : Dk} {c : Array Value} {T : TypeId} {fr : Nat × Nat} (h : w.heap[q]? = some (.cells c T fr)) (hT : T ≠ 53) (hd : DiskAt w b bm d) : q ∉ [b, bm] := by
 intro hm
 simp only [List.mem_cons, List.not_mem_nil, or_false] at hm
 rcases hm with rfl | rfl
 ·have := hd.cells; rw [h] at this; cases this; exact hT rfl
 ·obtain ⟨es, clock, h1, _⟩ := hd.files; rw [h] at h1; cases h1
structure DkC (b bm : Nat) (w0 : World) (d d2 : Dk) (done : Bool) (w : World) : Prop where
 disk : DiskAt w b bm (if done then d2 else d)
 fp : Fp [b, bm] w0 w
theorem DkC.first {b bm : Nat} {w0 : World} {d d2 : Dk} {done : Bool} {w : World} (h : DkC b bm w0 d d2 done w) (hb : done = false) : DiskAt w b bm d := by
 have := h.disk
 rw [hb] at this
 exact this
theorem DkC.start {b bm : Nat} {w0 : World} {d d2 : Dk} (h : DiskAt w0 b bm d) : DkC b bm w0 d d2 false w0.drew := ⟨h.of_fp (Fp.drew w0) (by simp) (by simp), (Fp.drew w0).mono (by simp)⟩
theorem write1_any (w : World) (b bm L ql qo : Nat) (lg : Lg) (d : Dk) (other : ByteArray) (hd : DiskAt w b bm d) (hok : DkOK d) (hname : other.size ≤ maxLen)
  (hl : LogAt w L b lg) (h1 : w.heap[ql]? = some (.cells #[.pointer (some ⟨L, 0, none⟩)] 59 (0, 0))) (h2 : w.heap[qo]? = some (.cells #[.string other] 9 (0, 0))) :
  Calls Tryz.prog 190 #[.pointer (some ⟨ql, 0, none⟩), .pointer (some ⟨qo, 0, none⟩)] w fun e w' => e = .returned (.int .i64 (if d.thereE other = 3 then 0 else d.thereE other)) ∧ DiskAt w' b bm (d.delete other) ∧ Fp [b, bm] w w' := by
 have n1 := hl.ne hd
 have n2 := box_ne h1 (by decide) hd
 have n3 := box_ne h2 (by decide) hd
 have HD := Lib.hid hd
 have HL := Lib.hid hl
 have H1 := Lib.hid h1
 have H2 := Lib.hid h2
 have HC := Lib.hid (fun W (h : DiskAt W b bm d) => delete_any W b bm d other h hok hname)
 clear hd hl h1 h2
 obtain ⟨x, hx⟩ : ∃ x, d.thereE other = x := ⟨_, rfl⟩
 obtain ⟨d2, hd2⟩ : ∃ x, d.delete other = x := ⟨_, rfl⟩
 rw [hx, hd2] at HC ⊢
 clear hx hd2
 go_enter Tryz.func190, Tryz.ntmps190
 go_wp2_with (fail)
 refine wp_region_n (fun bb w' => DkC b bm w d d2 (bb 5) w') (fun _ _ => True) (by kernel_rfl) (by kernel_rfl) (DkC.start HD.out) ?_
 iterate 5
  apply nx_plain (fun _ _ h => h) rfl rfl rfl
  ·intro b a w hC hA K hK
   have := hA.f 0
   have := hA.f 1
   try have := hA.e 0 4
   try have := hA.e 1 5
   try have := hA.e 2 6
   have q0 := cell_of_block ((hC.fp.block _ (heap_lt H1.out) n2).trans H1.out) 0
   have q1 := cell_of_block ((hC.fp.block _ (heap_lt H2.out) n3).trans H2.out) 0
   have q2 := cell_of_block (HL.out.fp hC.fp n1) 0
   simp only [logCells, List.getElem?_toArray, List.getElem?_cons_zero] at q0 q1 q2
   simp only [Oper.wp, execOp]; go_simp
   exact hK _ hC trivial
 apply nx_turn (eqV (.int .i64 x)) rfl rfl rfl
 ·intro b a w hC hA K hK
  have h7 := hA.e 3 7
  have h8 := hA.e 4 8
  simp only [Oper.wp, execOp]; go_simp
  (with_reducible refine (HC.out _ (hC.first hA.self)).mono ?_)
  rintro e w2 ⟨rfl, hd2, hf2⟩
  exact hK _ _ ⟨hd2, hC.fp.trans hf2 (by intro i hi; exact Or.inl hi)⟩ trivial rfl
 apply nx_plain (fun _ _ h => h) rfl rfl rfl
 ·intro b a w hC hA K hK
  have h9 := hA.e 5 9
  simp only [Oper.wp, execOp]; go_simp
  exact hK _ hC trivial
 refine ⟨?_, ?_⟩
 ·refine stabN_val _ ?_
  refine ⟨fun _ _ _ _ h => h, ?_⟩
  iterate 5 refine stabN_val _ ?_
  exact trivial
 ·intro w' bb hC hbb
  simp only [List.reverse_cons, List.reverse_nil, List.nil_append, List.cons_append]
  iterate 5 (refine all_val ?_)
  refine all_some ?_
  intro v5 u5
  obtain rfl := u5
  iterate 1 (refine all_val ?_)
  refine all_nil ?_
  simp only [putAll, Act.put, List.setIfInBounds_toArray, List.set_cons_succ, List.set_cons_zero]
  have hb5 : bb 5 = true := hbb 5 (by decide)
  have hCd := hC.disk
  rw [hb5] at hCd
  have HDD : Hid (DiskAt w' b bm d2) := Lib.hid hCd
  have HFF := Lib.hid hC.fp
  clear hC hbb hCd
  by_cases h3 : x = 3
  ·subst h3
   go_wp2_with (fail)
   go_ret
   exact ⟨rfl, HDD.out, HFF.out⟩
  ·have hb : ((x : Int) != 3) = true := by simpa using h3
   go_wp2_with (fail)
   go_ret
   exact ⟨rfl, HDD.out, HFF.out⟩
end
section
open Go.RowKit Go.Lib
def MemAt (w : World) (M : Nat) (root : Value) (many bytes : Int) : Prop := w.heap[M]? = some (.cells #[root, .int .i64 many, .int .i64 bytes] 118 (0, 0))
theorem MemAt.fp {S : List Nat} {w w' : World} {M : Nat} {r : Value} {m n : Int} (h : MemAt w M r m n) (hf : Fp S w w') (hS : M ∉ S) : MemAt w' M r m n := (hf.block M (heap_lt h) hS).trans h
theorem LeafV.calm {n : Nat} {c : Cel} {w1 w2 : World} {v : Value} (h : LeafV n c w1 v) (hf : Fp [] w1 w2) : LeafV n c w2 v := by
 obtain ⟨q, h1, h2, h3⟩ := h
 exact ⟨q, h1, h2, h3.fp hf (by simp)⟩
theorem LeafP.calm {n : Nat} {c : Cel} {w1 w2 : World} {v : Value} (h : LeafP n c w1 v) (hf : Fp [] w1 w2) : LeafP n c w2 v := by
 obtain ⟨q, h1, h2, h3⟩ := h
 exact ⟨q, h1, h2, h3.fp hf (by simp)⟩
theorem mnew_any (w : World) : Calls Tryz.prog 17 #[] w fun e w' => e = .returned (ptrV w.heap.size) ∧ w' = w.alloc (.cells #[.pointer none, .int .i64 0, .int .i64 0] 118) := by
 unfold ptrV
 go_enter Tryz.func17, Tryz.ntmps17
 go_wp2_with (fail)
 go_ret
 exact ⟨rfl, rfl⟩
theorem mmany_any (w : World) (M : Nat) (r : Value) (m n : Int) (h : MemAt w M r m n) : Calls Tryz.prog 47 #[ptrV M] w fun e w' => e = .returned (.int .i64 m) ∧ w' = w := by
 unfold ptrV
 have q1 : w.cell? ⟨M, 1, none⟩ = some (.int .i64 m) := cell_of_block h 1
 clear h
 go_enter Tryz.func47, Tryz.ntmps47
 go_wp2_with (fail)
 go_ret
 exact ⟨rfl, rfl⟩
def engA (fv : Value) (nx fl b : Nat) (l1 l2 : Value) (tm M la : Nat) (off : Bool) : Array Value :=
 #[fv, .int .u64 nx, .int .u64 fl, .pointer (some ⟨b, 0, none⟩), l1, l2, .map (some tm), .pointer (some ⟨M, 0, none⟩), .int .u64 la, .bool off]
def EngAt (w : World) (G : Nat) (fv : Value) (nx fl b : Nat) (l1 l2 : Value) (tm M la : Nat) (off : Bool) : Prop := w.heap[G]? = some (.cells (engA fv nx fl b l1 l2 tm M la off) 61 (0, 0))
theorem EngAt.cell {w : World} {G nx fl b tm M la : Nat} {fv l1 l2 : Value} {off : Bool} (h : EngAt w G fv nx fl b l1 l2 tm M la off) (i : Nat) : w.cell? ⟨G, i, none⟩ = (engA fv nx fl b l1 l2 tm M la off)[i]? := cell_of_block h i
theorem EngAt.fp {S : List Nat} {w w' : World} {G nx fl b tm M la : Nat} {fv l1 l2 : Value} {off : Bool} (h : EngAt w G fv nx fl b l1 l2 tm M la off) (hf : Fp S w w') (hS : G ∉ S) : EngAt w' G fv nx fl b l1 l2 tm M la off := (hf.block G (heap_lt h) hS).trans h
theorem pending_any (w : World) (G nx fl b tm M la : Nat) (fv l1 l2 r : Value) (off : Bool) (m n : Int) (h : EngAt w G fv nx fl b l1 l2 tm M la off) (h2 : MemAt w M r m n) :
  Calls Tryz.prog 12 #[ptrV G] w fun e w' => e = .returned (.int .i64 m) ∧ w' = w := by
 have q7 : w.cell? ⟨G, 7, none⟩ = some (.pointer (some ⟨M, 0, none⟩)) := h.cell 7
 have HM := Lib.hid (mmany_any w M r m n h2)
 clear h h2
 unfold ptrV at *
 go_enter Tryz.func12, Tryz.ntmps12
 go_wp2_with (fail)
 refine HM.out.mono ?_
 rintro e w2 ⟨rfl, rfl⟩
 go_wp2_with (fail)
 go_ret
 exact ⟨rfl, rfl⟩
theorem last_any (w : World) (G nx fl b tm M la : Nat) (fv l1 l2 : Value) (off : Bool) (h : EngAt w G fv nx fl b l1 l2 tm M la off) :
  Calls Tryz.prog 13 #[ptrV G] w fun e w' => e = .returned (.int .u64 la) ∧ w' = w := by
 have q8 : w.cell? ⟨G, 8, none⟩ = some (.int .u64 la) := h.cell 8
 clear h
 unfold ptrV
 go_enter Tryz.func13, Tryz.ntmps13
 go_wp2_with (fail)
 go_ret
 exact ⟨rfl, rfl⟩
theorem put0_any (w : World) (M : Nat) (c : Cel) (hc : CelOK c) (hmay : mayB c = true) (h : MemAt w M (.pointer none) 0 0) :
  Calls Tryz.prog 34 #[ptrV M, cellV c] w fun e w' => e = .returned (.int .i64 0) ∧ (∃ q n, w.heap.size ≤ q ∧ NodeAt w' q c (.pointer none) (.pointer none) ∧ MemAt w' M (ptrV q) 1 n) ∧ Fp [M] w w' := by
 have HE := Lib.hid (fun w => enc_yes c w hc hmay)
 have HB := Lib.hid (fun w => nput_none w c)
 obtain ⟨s, hs⟩ : ∃ s : ByteArray, ⟨(encL c).toArray⟩ = s := ⟨_, rfl⟩
 rw [hs] at HE
 clear hs hmay hc
 have hlt := heap_lt h
 obtain ⟨row, col, ts, seq, del, val⟩ := c
 obtain ⟨W, hW⟩ : ∃ W, W = w.alloc (.cells #[.string row, .string col, .int .u64 ts, .int .u64 seq, .bool del, .string val] 24) := ⟨_, rfl⟩
 have hWF : Fp [] w W := by rw [hW]; exact Fp.alloc _ _
 have hbx : W.heap[w.heap.size]? = some (.cells #[.string row, .string col, .int .u64 ts, .int .u64 seq, .bool del, .string val] 24 (0, 0)) := by rw [hW]; exact heap_alloc_at rfl _
 have HXB : Hid (∀ w', Fp [] W w' → w'.cell? ⟨w.heap.size, 0, none⟩ = some (.string row) ∧ w'.cell? ⟨w.heap.size, 1, none⟩ = some (.string col) ∧ w'.cell? ⟨w.heap.size, 2, none⟩ = some (.int .u64 ts) ∧ w'.cell? ⟨w.heap.size, 3, none⟩ = some (.int .u64 seq) ∧ w'.cell? ⟨w.heap.size, 4, none⟩ = some (.bool del) ∧ w'.cell? ⟨w.heap.size, 5, none⟩ = some (.string val)) := fun w' hf => by
  have hb := (hf.block _ (heap_lt hbx) (by simp)).trans hbx
  exact ⟨cell_of_block hb 0, cell_of_block hb 1, cell_of_block hb 2, cell_of_block hb 3, cell_of_block hb 4, cell_of_block hb 5⟩
 have H := Lib.hid (h.fp hWF (by simp))
 have HWF := Lib.hid hWF
 obtain ⟨y0, y1, y2, y3, y4, y5⟩ := HXB.out _ (Fp.refl _ _)
 rw [hW] at y0 y1 y2 y3 y4 y5
 clear h hbx hWF
 unfold ptrV cellV at *
 go_enter Tryz.func34, Tryz.ntmps34
 go_wp2_with (fail)
 rw [← hW]
 clear hW y0 y1 y2 y3 y4 y5
 refine (HE.out _).mono ?_
 rintro e w2 ⟨rfl, hf2⟩
 have HF2 := Lib.hid hf2
 have H2 := Lib.hid (H.out.fp hf2 (by simp))
 clear hf2
 go_wp2_with (fail)
 refine wp_region_n (fun _ w3 => Fp [] w2 w3) (Fp []) (by kernel_rfl) (by kernel_rfl) (Fp.drew _) ?_
 iterate 5
  apply nx_plain (fun _ _ h => h) rfl rfl rfl
  ·intro b a w hC hA K hK
   have := hA.f 0
   have := hA.f 3
   try have := hA.e 0 18
   try have := hA.e 1 19
   try have := hA.e 2 20
   have q0 : w.cell? ⟨M, 0, none⟩ = some (.pointer none) := cell_of_block (H2.out.fp hC (by simp)) 0
   obtain ⟨y0, y1, y2, y3, y4, y5⟩ := HXB.out _ (HF2.out.trans hC (by simp))
   simp only [Oper.wp, execOp]; go_simp
   exact hK _ hC (Fp.refl _ _)
 apply nx_turn (LeafV w2.heap.size ⟨row, col, ts, seq, del, val⟩) rfl rfl rfl
 ·intro b a w hC hA K hK
  have h21 := hA.e 3 21
  have h22 := hA.e 4 22
  simp only [Oper.wp, execOp]; go_simp
  (with_reducible refine (HB.out _).mono ?_)
  rintro e w3 ⟨rfl, hn, hf⟩
  exact hK _ _ (hC.trans hf (by simp)) hf ⟨_, rfl, by have := hC.size; omega, hn⟩
 apply nx_turn (LeafV w2.heap.size ⟨row, col, ts, seq, del, val⟩) rfl rfl rfl
 ·intro b a w hC hA K hK
  have h23 := hA.dep 5 23 _ (by kernel_rfl) rfl
  obtain ⟨q, h23, hq, hn⟩ := h23
  simp only [Oper.wp, execOp]; go_simp
  exact hK _ _ hC (Fp.refl _ _) ⟨q, rfl, hq, hn⟩
 apply nx_turn (LeafP w2.heap.size ⟨row, col, ts, seq, del, val⟩) rfl rfl rfl
 ·intro b a w hC hA K hK
  have h17 := hA.dep 6 17 _ (by kernel_rfl) rfl
  obtain ⟨q, h17, hq, hn⟩ := h17
  simp only [Oper.wp, execOp]; go_simp
  exact hK _ _ hC (Fp.refl _ _) ⟨q, rfl, hq, hn⟩
 apply nx_turn (eqV (.bool true)) rfl rfl rfl
 ·intro b a w hC hA K hK
  have h17 := hA.dep 6 17 _ (by kernel_rfl) rfl
  obtain ⟨q, h17, hq, hn⟩ := h17
  simp only [Oper.wp, execOp]; go_simp
  exact hK _ _ hC (Fp.refl _ _) rfl
 apply nx_turn (LeafP w2.heap.size ⟨row, col, ts, seq, del, val⟩) rfl rfl rfl
 ·intro b a w hC hA K hK
  have h24 := hA.dep 7 24 _ (by kernel_rfl) rfl
  obtain ⟨q, h24, hq, hn⟩ := h24
  unfold ptrV at h24
  simp only [Oper.wp, execOp]; go_simp
  exact hK _ _ hC (Fp.refl _ _) ⟨q, rfl, hq, hn⟩
 apply nx_plain (fun _ _ h => h) rfl rfl rfl
 ·intro b a w hC hA K hK
  have h25 := hA.e 8 25
  simp only [Oper.wp, execOp]; go_simp
  exact hK _ hC (Fp.refl _ _)
 refine ⟨?_, ?_⟩
 ·refine stabN_val _ ?_
  refine ⟨fun w1 w2 v hf h => LeafP.calm h hf, ?_⟩
  refine stabN_val _ ?_
  refine ⟨fun w1 w2 v hf h => LeafP.calm h hf, ?_⟩
  refine ⟨fun w1 w2 v hf h => LeafV.calm h hf, ?_⟩
  refine ⟨fun w1 w2 v hf h => LeafV.calm h hf, ?_⟩
  iterate 5 refine stabN_val _ ?_
  exact trivial
 ·intro w3 bb hC hbb
  simp only [List.reverse_cons, List.reverse_nil, List.nil_append, List.cons_append]
  iterate 5 (refine all_val ?_)
  refine all_some ?_
  intro v5 u5
  refine all_some ?_
  intro v6 u6
  refine all_some ?_
  intro v7 u7
  refine all_some ?_
  intro v8 u8
  obtain rfl := u8
  refine all_some ?_
  intro v9 u9
  iterate 1 (refine all_val ?_)
  refine all_nil ?_
  simp only [putAll, Act.put, List.setIfInBounds_toArray, List.set_cons_succ, List.set_cons_zero]
  obtain ⟨q, hv9, hq, hn⟩ := u9
  unfold ptrV at hv9
  subst hv9
  have h3 := H2.out.fp hC (by simp)
  have HF3 := Lib.hid hC
  have hqw : w.heap.size ≤ q := Nat.le_trans (Nat.le_trans HWF.out.size HF2.out.size) hq
  have hqM : q ≠ M := by omega
  have q0 : w3.cell? ⟨M, 0, none⟩ = some (.pointer none) := cell_of_block h3 0
  have q1 : w3.cell? ⟨M, 1, none⟩ = some (.int .i64 0) := cell_of_block h3 1
  have q2 : w3.cell? ⟨M, 2, none⟩ = some (.int .i64 0) := cell_of_block h3 2
  have f0 : w3.frozen? ⟨M, 0, none⟩ = false := frozen_of_block h3 0
  have f1 : w3.frozen? ⟨M, 1, none⟩ = false := frozen_of_block h3 1
  have f2 : w3.frozen? ⟨M, 2, none⟩ = false := frozen_of_block h3 2
  have HN := Lib.hid hn
  have H3 := Lib.hid h3
  clear hC hbb u5 u6 u7 hn h3
  go_wp2_with (fail)
  go_ret
  have h4 := heap_setCell_same (o := 0) H3.out (.pointer (some ⟨q, 0, none⟩))
  have h5 := heap_setCell_same (o := 1) h4 (.int .i64 1)
  refine ⟨rfl, ⟨q, _, hqw, ((HN.out.other hqM).other hqM).other hqM, heap_setCell_same (o := 2) h5 _⟩, ?_⟩
  exact ((HWF.out.trans HF2.out (by simp)).trans HF3.out (by simp)).mono (S' := [M]) (by simp) |>.trans (((Fp.setCell _ ⟨M, 0, none⟩ _).trans (Fp.setCell _ ⟨M, 1, none⟩ _) (by simp)).trans (Fp.setCell _ ⟨M, 2, none⟩ _) (by simp)) (by simp)
theorem put1_any (w : World) (M p : Nat) (c x : Cel) (n : Int) (hc : CelOK c) (hmay : mayB c = true) (h : MemAt w M (ptrV p) 1 n) (hx : NodeAt w p x (.pointer none) (.pointer none)) :
  Calls Tryz.prog 34 #[ptrV M, cellV c] w fun e w' => (∃ k, e = .returned (.int .i64 k)) ∧ Fp [M, p] w w' := by
 have HE := Lib.hid (fun w => enc_yes c w hc hmay)
 have HB := Lib.hid (fun w => nput_leaf w p c x)
 obtain ⟨s, hs⟩ : ∃ s : ByteArray, ⟨(encL c).toArray⟩ = s := ⟨_, rfl⟩
 rw [hs] at HE
 clear hs hmay hc
 have hlt := heap_lt h
 have hltp := heap_lt hx
 have hMp : M ≠ p := by
  rintro rfl
  unfold MemAt at h
  unfold NodeAt at hx
  rw [h] at hx
  injection Option.some.inj hx with _ h2
  exact absurd h2 (by decide)
 obtain ⟨row, col, ts, seq, del, val⟩ := c
 obtain ⟨W, hW⟩ : ∃ W, W = w.alloc (.cells #[.string row, .string col, .int .u64 ts, .int .u64 seq, .bool del, .string val] 24) := ⟨_, rfl⟩
 have hWF : Fp [] w W := by rw [hW]; exact Fp.alloc _ _
 have hbx : W.heap[w.heap.size]? = some (.cells #[.string row, .string col, .int .u64 ts, .int .u64 seq, .bool del, .string val] 24 (0, 0)) := by rw [hW]; exact heap_alloc_at rfl _
 have HXB : Hid (∀ w', Fp [p] W w' → w'.cell? ⟨w.heap.size, 0, none⟩ = some (.string row) ∧ w'.cell? ⟨w.heap.size, 1, none⟩ = some (.string col) ∧ w'.cell? ⟨w.heap.size, 2, none⟩ = some (.int .u64 ts) ∧ w'.cell? ⟨w.heap.size, 3, none⟩ = some (.int .u64 seq) ∧ w'.cell? ⟨w.heap.size, 4, none⟩ = some (.bool del) ∧ w'.cell? ⟨w.heap.size, 5, none⟩ = some (.string val)) := fun w' hf => by
  have hb := (hf.block _ (heap_lt hbx) (by simp; omega)).trans hbx
  exact ⟨cell_of_block hb 0, cell_of_block hb 1, cell_of_block hb 2, cell_of_block hb 3, cell_of_block hb 4, cell_of_block hb 5⟩
 have H := Lib.hid (h.fp hWF (by simp))
 have HX := Lib.hid (hx.fp hWF (by simp))
 have HWF := Lib.hid hWF
 obtain ⟨y0, y1, y2, y3, y4, y5⟩ := HXB.out _ (Fp.refl _ _)
 rw [hW] at y0 y1 y2 y3 y4 y5
 clear h hx hbx hWF
 unfold ptrV cellV at *
 go_enter Tryz.func34, Tryz.ntmps34
 go_wp2_with (fail)
 rw [← hW]
 clear hW y0 y1 y2 y3 y4 y5
 refine (HE.out _).mono ?_
 rintro e w2 ⟨rfl, hf2⟩
 have HF2 := Lib.hid hf2
 have H2 := Lib.hid (H.out.fp hf2 (by simp))
 have HX2 := Lib.hid (HX.out.fp hf2 (by simp))
 clear hf2
 go_wp2_with (fail)
 refine wp_region_n (fun b w3 => Fp [p] w2 w3 ∧ (b 5 = false → Fp [] w2 w3)) (fun _ _ => True) (by kernel_rfl) (by kernel_rfl) ⟨(Fp.drew _).mono (by simp), fun _ => Fp.drew _⟩ ?_
 iterate 5
  apply nx_plain (fun _ _ h => h) rfl rfl rfl
  ·intro b a w hC hA K hK
   have := hA.f 0
   have := hA.f 3
   try have := hA.e 0 18
   try have := hA.e 1 19
   try have := hA.e 2 20
   have q0 : w.cell? ⟨M, 0, none⟩ = some (.pointer (some ⟨p, 0, none⟩)) := cell_of_block (H2.out.fp hC.1 (by simpa using hMp)) 0
   obtain ⟨y0, y1, y2, y3, y4, y5⟩ := HXB.out _ ((HF2.out.mono (S' := [p]) (by simp)).trans hC.1 (by simp))
   simp only [Oper.wp, execOp]; go_simp
   exact hK _ hC trivial
 apply nx_turn (fun _ v => ∃ q is, v = .tuple #[ptrV q, .bool is]) rfl rfl rfl
 ·intro b a w hC hA K hK
  have h21 := hA.e 3 21
  have h22 := hA.e 4 22
  have hno := hA.self
  simp only [Oper.wp, execOp]; go_simp
  (with_reducible refine (HB.out _ (HX2.out.fp (hC.2 hno) (by simp))).mono ?_)
  rintro e w3 ⟨q, is, rfl, hf⟩
  exact hK _ _ ⟨hC.1.trans hf (by simp), fun h => by cases h⟩ trivial ⟨q, is, rfl⟩
 apply nx_turn (fun _ v => ∃ q is, v = .tuple #[ptrV q, .bool is]) rfl rfl rfl
 ·intro b a w hC hA K hK
  have h23 := hA.dep 5 23 _ (by kernel_rfl) rfl
  obtain ⟨q, is, h23⟩ := h23
  simp only [Oper.wp, execOp]; go_simp
  exact hK _ _ hC trivial ⟨q, is, rfl⟩
 apply nx_turn (fun _ v => ∃ q, v = ptrV q) rfl rfl rfl
 ·intro b a w hC hA K hK
  have h17 := hA.dep 6 17 _ (by kernel_rfl) rfl
  obtain ⟨q, is, h17⟩ := h17
  simp only [Oper.wp, execOp]; go_simp
  exact hK _ _ hC trivial ⟨q, rfl⟩
 apply nx_turn (fun _ v => ∃ is, v = .bool is) rfl rfl rfl
 ·intro b a w hC hA K hK
  have h17 := hA.dep 6 17 _ (by kernel_rfl) rfl
  obtain ⟨q, is, h17⟩ := h17
  simp only [Oper.wp, execOp]; go_simp
  exact hK _ _ hC trivial ⟨is, rfl⟩
 apply nx_turn (fun _ v => ∃ q, v = ptrV q) rfl rfl rfl
 ·intro b a w hC hA K hK
  have h24 := hA.dep 7 24 _ (by kernel_rfl) rfl
  obtain ⟨q, h24⟩ := h24
  unfold ptrV at h24
  simp only [Oper.wp, execOp]; go_simp
  exact hK _ _ hC trivial ⟨q, rfl⟩
 apply nx_turn (fun _ v => ∃ is, v = .bool is) rfl rfl rfl
 ·intro b a w hC hA K hK
  have h25 := hA.dep 8 25 _ (by kernel_rfl) rfl
  obtain ⟨is, h25⟩ := h25
  simp only [Oper.wp, execOp]; go_simp
  exact hK _ _ hC trivial ⟨is, rfl⟩
 refine ⟨?_, ?_⟩
 ·refine ⟨fun _ _ _ _ h => h, ?_⟩
  refine ⟨fun _ _ _ _ h => h, ?_⟩
  refine ⟨fun _ _ _ _ h => h, ?_⟩
  refine ⟨fun _ _ _ _ h => h, ?_⟩
  refine ⟨fun _ _ _ _ h => h, ?_⟩
  refine ⟨fun _ _ _ _ h => h, ?_⟩
  iterate 5 refine stabN_val _ ?_
  exact trivial
 ·intro w3 bb hC hbb
  simp only [List.reverse_cons, List.reverse_nil, List.nil_append, List.cons_append]
  iterate 5 (refine all_val ?_)
  refine all_some ?_
  intro v5 u5
  refine all_some ?_
  intro v6 u6
  refine all_some ?_
  intro v7 u7
  refine all_some ?_
  intro v8 u8
  refine all_some ?_
  intro v9 u9
  refine all_some ?_
  intro v10 u10
  refine all_nil ?_
  simp only [putAll, Act.put, List.setIfInBounds_toArray, List.set_cons_succ, List.set_cons_zero]
  obtain ⟨q, hv9⟩ := u9
  obtain ⟨is, hv10⟩ := u10
  unfold ptrV at hv9
  subst hv9 hv10
  have h3 := H2.out.fp hC.1 (by simpa using hMp)
  have HF3 := Lib.hid hC.1
  have q0 : w3.cell? ⟨M, 0, none⟩ = some (.pointer (some ⟨p, 0, none⟩)) := cell_of_block h3 0
  have q1 : w3.cell? ⟨M, 1, none⟩ = some (.int .i64 1) := cell_of_block h3 1
  have q2 : w3.cell? ⟨M, 2, none⟩ = some (.int .i64 n) := cell_of_block h3 2
  have f0 : w3.frozen? ⟨M, 0, none⟩ = false := frozen_of_block h3 0
  have f1 : w3.frozen? ⟨M, 1, none⟩ = false := frozen_of_block h3 1
  have f2 : w3.frozen? ⟨M, 2, none⟩ = false := frozen_of_block h3 2
  have H3 := Lib.hid h3
  have hall : Hid (Fp [M, p] w w3) := (((HWF.out.trans HF2.out (by simp)).mono (S' := [p]) (by simp)).trans HF3.out (by simp)).mono (by simp)
  clear hC hbb u5 u6 u7 u8 h3 HF3
  cases is
  ·go_wp2_with (fail)
   go_ret
   exact ⟨⟨_, rfl⟩, hall.out.trans (Fp.setCell _ ⟨M, 0, none⟩ _) (by simp)⟩
  ·go_wp2_with (fail)
   go_ret
   exact ⟨⟨_, rfl⟩, hall.out.trans (((Fp.setCell _ ⟨M, 0, none⟩ _).trans (Fp.setCell _ ⟨M, 1, none⟩ _) (by simp)).trans (Fp.setCell _ ⟨M, 2, none⟩ _) (by simp)) (by simp)⟩
end
section
open Go.RowKit Go.Lib Go.Maps Go.MapKept Go.ChangeMaps
theorem write2_any (w : World) (b bm L ql qo : Nat) (lg : Lg) (d : Dk) (other : ByteArray) (hd : DiskAt w b bm d) (hok : DkOK d) (hname : other.size ≤ maxLen) (hl : LogAt w L b lg) (hql : w.heap[ql]? = some (.cells #[.pointer (some ⟨L, 0, none⟩)] 59 (0, 0))) (hqo : w.heap[qo]? = some (.cells #[.string other] 9 (0, 0))) :
  Calls Tryz.prog 191 #[.pointer (some ⟨ql, 0, none⟩), .pointer (some ⟨qo, 0, none⟩)] w fun e w' => e = .returned (.int .i64 (d.createE other)) ∧ DiskAt w' b bm (d.create other) ∧ Fp [b, bm] w w' := by
 have n0 := hl.ne hd
 have nql := box_ne hql (by decide) hd
 have nqo := box_ne hqo (by decide) hd
 have HD := Lib.hid hd
 have HL := Lib.hid hl
 have Hql := Lib.hid hql
 have Hqo := Lib.hid hqo
 have HC := Lib.hid (fun W (h : DiskAt W b bm d) => create_any W b bm d other h hok hname)
 clear hd hl hql hqo
 obtain ⟨x, hx⟩ : ∃ x, d.createE other = x := ⟨_, rfl⟩
 obtain ⟨d2, hd2⟩ : ∃ x, d.create other = x := ⟨_, rfl⟩
 rw [hx, hd2] at HC ⊢
 clear hx hd2
 go_enter Tryz.func191, Tryz.ntmps191
 go_wp2_with (fail)
 refine wp_region_n (fun bb w' => DkC b bm w d d2 (bb 5) w') (fun _ _ => True) (by kernel_rfl) (by kernel_rfl) (DkC.start HD.out) ?_
 iterate 5
  apply nx_plain (fun _ _ h => h) rfl rfl rfl
  ·intro b a w hC hA K hK
   have := hA.f 0
   have := hA.f 1
   try have := hA.e 0 3
   try have := hA.e 1 4
   try have := hA.e 2 5
   have rql := cell_of_block ((hC.fp.block _ (heap_lt Hql.out) nql).trans Hql.out) 0
   have rqo := cell_of_block ((hC.fp.block _ (heap_lt Hqo.out) nqo).trans Hqo.out) 0
   have g0 := cell_of_block (HL.out.fp hC.fp n0) 0
   have g1 := cell_of_block (HL.out.fp hC.fp n0) 1
   simp only [logCells, List.getElem?_toArray, List.getElem?_cons_succ, List.getElem?_cons_zero] at g0 g1 rql rqo
   simp only [Oper.wp, execOp]; go_simp
   exact hK _ hC trivial
 apply nx_turn (eqV (.int .i64 x)) rfl rfl rfl
 ·intro b a w hC hA K hK
  have h6 := hA.e 3 6
  have h7 := hA.e 4 7
  simp only [Oper.wp, execOp]; go_simp
  (with_reducible refine (HC.out _ (hC.first hA.self)).mono ?_)
  rintro e w2 ⟨rfl, hd2, hf2⟩
  exact hK _ _ ⟨hd2, hC.fp.trans hf2 (by intro i hi; exact Or.inl hi)⟩ trivial rfl
 apply nx_plain (fun _ _ h => h) rfl rfl rfl
 ·intro b a w hC hA K hK
  have h8 := hA.e 5 8
  simp only [Oper.wp, execOp]; go_simp
  exact hK _ hC trivial
 refine ⟨?_, ?_⟩
 ·refine stabN_val _ ?_
  refine ⟨fun _ _ _ _ h => h, ?_⟩
  iterate 5 refine stabN_val _ ?_
  exact trivial
 ·intro w' bb hC hbb
  simp only [List.reverse_cons, List.reverse_nil, List.nil_append, List.cons_append]
  iterate 5 (refine all_val ?_)
  refine all_some ?_
  intro v5 u5
  obtain rfl := u5
  iterate 1 (refine all_val ?_)
  refine all_nil ?_
  simp only [putAll, Act.put, List.setIfInBounds_toArray, List.set_cons_succ, List.set_cons_zero]
  have hbx : bb 5 = true := hbb 5 (by decide)
  have hCd := hC.disk
  rw [hbx] at hCd
  have HDD : Hid (DiskAt w' b bm d2) := Lib.hid hCd
  have HFF := Lib.hid hC.fp
  clear hC hbb hCd
  go_wp2_with (fail)
  go_ret
  exact ⟨rfl, HDD.out, HFF.out⟩
theorem write3_any (w : World) (b bm L ql qo qs : Nat) (lg : Lg) (d : Dk) (other s : ByteArray) (hd : DiskAt w b bm d) (hok : DkOK d) (hname : other.size ≤ maxLen) (hs : s.size ≤ 1000000000) (hl : LogAt w L b lg) (hql : w.heap[ql]? = some (.cells #[.pointer (some ⟨L, 0, none⟩)] 59 (0, 0))) (hqo : w.heap[qo]? = some (.cells #[.string other] 9 (0, 0))) (hqs : w.heap[qs]? = some (.cells #[.string s] 9 (0, 0))) :
  Calls Tryz.prog 192 #[.pointer (some ⟨ql, 0, none⟩), .pointer (some ⟨qo, 0, none⟩), .pointer (some ⟨qs, 0, none⟩)] w fun e w' => e = .returned (.int .i64 (d.appendE other s)) ∧ DiskAt w' b bm (d.append other s) ∧ Fp [b, bm] w w' := by
 have n0 := hl.ne hd
 have nql := box_ne hql (by decide) hd
 have nqo := box_ne hqo (by decide) hd
 have nqs := box_ne hqs (by decide) hd
 have HD := Lib.hid hd
 have HL := Lib.hid hl
 have Hql := Lib.hid hql
 have Hqo := Lib.hid hqo
 have Hqs := Lib.hid hqs
 have HC := Lib.hid (fun W (h : DiskAt W b bm d) => append_any W b bm d other s h hok hname hs)
 clear hd hl hql hqo hqs
 obtain ⟨x, hx⟩ : ∃ x, d.appendE other s = x := ⟨_, rfl⟩
 obtain ⟨d2, hd2⟩ : ∃ x, d.append other s = x := ⟨_, rfl⟩
 rw [hx, hd2] at HC ⊢
 clear hx hd2
 go_enter Tryz.func192, Tryz.ntmps192
 go_wp2_with (fail)
 refine wp_region_n (fun bb w' => DkC b bm w d d2 (bb 6) w') (fun _ _ => True) (by kernel_rfl) (by kernel_rfl) (DkC.start HD.out) ?_
 iterate 6
  apply nx_plain (fun _ _ h => h) rfl rfl rfl
  ·intro b a w hC hA K hK
   have := hA.f 0
   have := hA.f 1
   have := hA.f 2
   try have := hA.e 0 4
   try have := hA.e 1 5
   try have := hA.e 2 6
   have rql := cell_of_block ((hC.fp.block _ (heap_lt Hql.out) nql).trans Hql.out) 0
   have rqo := cell_of_block ((hC.fp.block _ (heap_lt Hqo.out) nqo).trans Hqo.out) 0
   have rqs := cell_of_block ((hC.fp.block _ (heap_lt Hqs.out) nqs).trans Hqs.out) 0
   have g0 := cell_of_block (HL.out.fp hC.fp n0) 0
   have g1 := cell_of_block (HL.out.fp hC.fp n0) 1
   simp only [logCells, List.getElem?_toArray, List.getElem?_cons_succ, List.getElem?_cons_zero] at g0 g1 rql rqo rqs
   simp only [Oper.wp, execOp]; go_simp
   exact hK _ hC trivial
 apply nx_turn (eqV (.int .i64 x)) rfl rfl rfl
 ·intro b a w hC hA K hK
  have h7 := hA.e 3 7
  have h8 := hA.e 4 8
  have h9 := hA.e 5 9
  simp only [Oper.wp, execOp]; go_simp
  (with_reducible refine (HC.out _ (hC.first hA.self)).mono ?_)
  rintro e w2 ⟨rfl, hd2, hf2⟩
  exact hK _ _ ⟨hd2, hC.fp.trans hf2 (by intro i hi; exact Or.inl hi)⟩ trivial rfl
 apply nx_plain (fun _ _ h => h) rfl rfl rfl
 ·intro b a w hC hA K hK
  have h10 := hA.e 6 10
  simp only [Oper.wp, execOp]; go_simp
  exact hK _ hC trivial
 refine ⟨?_, ?_⟩
 ·refine stabN_val _ ?_
  refine ⟨fun _ _ _ _ h => h, ?_⟩
  iterate 6 refine stabN_val _ ?_
  exact trivial
 ·intro w' bb hC hbb
  simp only [List.reverse_cons, List.reverse_nil, List.nil_append, List.cons_append]
  iterate 6 (refine all_val ?_)
  refine all_some ?_
  intro v6 u6
  obtain rfl := u6
  iterate 1 (refine all_val ?_)
  refine all_nil ?_
  simp only [putAll, Act.put, List.setIfInBounds_toArray, List.set_cons_succ, List.set_cons_zero]
  have hbx : bb 6 = true := hbb 6 (by decide)
  have hCd := hC.disk
  rw [hbx] at hCd
  have HDD : Hid (DiskAt w' b bm d2) := Lib.hid hCd
  have HFF := Lib.hid hC.fp
  clear hC hbb hCd
  go_wp2_with (fail)
  go_ret
  exact ⟨rfl, HDD.out, HFF.out⟩
theorem write4_any (w : World) (b bm L ql qo : Nat) (lg : Lg) (d : Dk) (other : ByteArray) (hd : DiskAt w b bm d) (hok : DkOK d) (hname : other.size ≤ maxLen) (hl : LogAt w L b lg) (hql : w.heap[ql]? = some (.cells #[.pointer (some ⟨L, 0, none⟩)] 59 (0, 0))) (hqo : w.heap[qo]? = some (.cells #[.string other] 9 (0, 0))) :
  Calls Tryz.prog 193 #[.pointer (some ⟨ql, 0, none⟩), .pointer (some ⟨qo, 0, none⟩)] w fun e w' => e = .returned (.int .i64 (d.thereE other)) ∧ DiskAt w' b bm (d.sync other) ∧ Fp [b, bm] w w' := by
 have n0 := hl.ne hd
 have nql := box_ne hql (by decide) hd
 have nqo := box_ne hqo (by decide) hd
 have HD := Lib.hid hd
 have HL := Lib.hid hl
 have Hql := Lib.hid hql
 have Hqo := Lib.hid hqo
 have HC := Lib.hid (fun W (h : DiskAt W b bm d) => sync_any W b bm d other h hok hname)
 clear hd hl hql hqo
 obtain ⟨x, hx⟩ : ∃ x, d.thereE other = x := ⟨_, rfl⟩
 obtain ⟨d2, hd2⟩ : ∃ x, d.sync other = x := ⟨_, rfl⟩
 rw [hx, hd2] at HC ⊢
 clear hx hd2
 go_enter Tryz.func193, Tryz.ntmps193
 go_wp2_with (fail)
 refine wp_region_n (fun bb w' => DkC b bm w d d2 (bb 5) w') (fun _ _ => True) (by kernel_rfl) (by kernel_rfl) (DkC.start HD.out) ?_
 iterate 5
  apply nx_plain (fun _ _ h => h) rfl rfl rfl
  ·intro b a w hC hA K hK
   have := hA.f 0
   have := hA.f 1
   try have := hA.e 0 3
   try have := hA.e 1 4
   try have := hA.e 2 5
   have rql := cell_of_block ((hC.fp.block _ (heap_lt Hql.out) nql).trans Hql.out) 0
   have rqo := cell_of_block ((hC.fp.block _ (heap_lt Hqo.out) nqo).trans Hqo.out) 0
   have g0 := cell_of_block (HL.out.fp hC.fp n0) 0
   have g1 := cell_of_block (HL.out.fp hC.fp n0) 1
   simp only [logCells, List.getElem?_toArray, List.getElem?_cons_succ, List.getElem?_cons_zero] at g0 g1 rql rqo
   simp only [Oper.wp, execOp]; go_simp
   exact hK _ hC trivial
 apply nx_turn (eqV (.int .i64 x)) rfl rfl rfl
 ·intro b a w hC hA K hK
  have h6 := hA.e 3 6
  have h7 := hA.e 4 7
  simp only [Oper.wp, execOp]; go_simp
  (with_reducible refine (HC.out _ (hC.first hA.self)).mono ?_)
  rintro e w2 ⟨rfl, hd2, hf2⟩
  exact hK _ _ ⟨hd2, hC.fp.trans hf2 (by intro i hi; exact Or.inl hi)⟩ trivial rfl
 apply nx_plain (fun _ _ h => h) rfl rfl rfl
 ·intro b a w hC hA K hK
  have h8 := hA.e 5 8
  simp only [Oper.wp, execOp]; go_simp
  exact hK _ hC trivial
 refine ⟨?_, ?_⟩
 ·refine stabN_val _ ?_
  refine ⟨fun _ _ _ _ h => h, ?_⟩
  iterate 5 refine stabN_val _ ?_
  exact trivial
 ·intro w' bb hC hbb
  simp only [List.reverse_cons, List.reverse_nil, List.nil_append, List.cons_append]
  iterate 5 (refine all_val ?_)
  refine all_some ?_
  intro v5 u5
  obtain rfl := u5
  iterate 1 (refine all_val ?_)
  refine all_nil ?_
  simp only [putAll, Act.put, List.setIfInBounds_toArray, List.set_cons_succ, List.set_cons_zero]
  have hbx : bb 5 = true := hbb 5 (by decide)
  have hCd := hC.disk
  rw [hbx] at hCd
  have HDD : Hid (DiskAt w' b bm d2) := Lib.hid hCd
  have HFF := Lib.hid hC.fp
  clear hC hbb hCd
  go_wp2_with (fail)
  go_ret
  exact ⟨rfl, HDD.out, HFF.out⟩
theorem write5_any (w : World) (b bm L ql qo : Nat) (lg : Lg) (d : Dk) (other : ByteArray) (hd : DiskAt w b bm d) (hok : DkOK d) (hname : other.size ≤ maxLen) (hto : lg.name.size ≤ maxLen) (hl : LogAt w L b lg) (hql : w.heap[ql]? = some (.cells #[.pointer (some ⟨L, 0, none⟩)] 59 (0, 0))) (hqo : w.heap[qo]? = some (.cells #[.string other] 9 (0, 0))) :
  Calls Tryz.prog 194 #[.pointer (some ⟨ql, 0, none⟩), .pointer (some ⟨qo, 0, none⟩)] w fun e w' => e = .returned (.int .i64 (d.renameE other lg.name)) ∧ DiskAt w' b bm (d.rename other lg.name) ∧ Fp [b, bm] w w' := by
 have n0 := hl.ne hd
 have nql := box_ne hql (by decide) hd
 have nqo := box_ne hqo (by decide) hd
 have HD := Lib.hid hd
 have HL := Lib.hid hl
 have Hql := Lib.hid hql
 have Hqo := Lib.hid hqo
 have HC := Lib.hid (fun W (h : DiskAt W b bm d) => rename_any W b bm d other lg.name h hok hname hto)
 clear hd hl hql hqo
 obtain ⟨x, hx⟩ : ∃ x, d.renameE other lg.name = x := ⟨_, rfl⟩
 obtain ⟨d2, hd2⟩ : ∃ x, d.rename other lg.name = x := ⟨_, rfl⟩
 rw [hx, hd2] at HC ⊢
 clear hx hd2
 go_enter Tryz.func194, Tryz.ntmps194
 go_wp2_with (fail)
 refine wp_region_n (fun bb w' => DkC b bm w d d2 (bb 9) w') (fun _ _ => True) (by kernel_rfl) (by kernel_rfl) (DkC.start HD.out) ?_
 iterate 9
  apply nx_plain (fun _ _ h => h) rfl rfl rfl
  ·intro b a w hC hA K hK
   have := hA.f 0
   have := hA.f 1
   try have := hA.e 0 3
   try have := hA.e 1 4
   try have := hA.e 2 5
   try have := hA.e 5 8
   try have := hA.e 6 9
   try have := hA.e 7 10
   have rql := cell_of_block ((hC.fp.block _ (heap_lt Hql.out) nql).trans Hql.out) 0
   have rqo := cell_of_block ((hC.fp.block _ (heap_lt Hqo.out) nqo).trans Hqo.out) 0
   have g0 := cell_of_block (HL.out.fp hC.fp n0) 0
   have g1 := cell_of_block (HL.out.fp hC.fp n0) 1
   simp only [logCells, List.getElem?_toArray, List.getElem?_cons_succ, List.getElem?_cons_zero] at g0 g1 rql rqo
   simp only [Oper.wp, execOp]; go_simp
   exact hK _ hC trivial
 apply nx_turn (eqV (.int .i64 x)) rfl rfl rfl
 ·intro b a w hC hA K hK
  have h6 := hA.e 3 6
  have h7 := hA.e 4 7
  have h11 := hA.e 8 11
  simp only [Oper.wp, execOp]; go_simp
  (with_reducible refine (HC.out _ (hC.first hA.self)).mono ?_)
  rintro e w2 ⟨rfl, hd2, hf2⟩
  exact hK _ _ ⟨hd2, hC.fp.trans hf2 (by intro i hi; exact Or.inl hi)⟩ trivial rfl
 apply nx_plain (fun _ _ h => h) rfl rfl rfl
 ·intro b a w hC hA K hK
  have h12 := hA.e 9 12
  simp only [Oper.wp, execOp]; go_simp
  exact hK _ hC trivial
 refine ⟨?_, ?_⟩
 ·refine stabN_val _ ?_
  refine ⟨fun _ _ _ _ h => h, ?_⟩
  iterate 9 refine stabN_val _ ?_
  exact trivial
 ·intro w' bb hC hbb
  simp only [List.reverse_cons, List.reverse_nil, List.nil_append, List.cons_append]
  iterate 9 (refine all_val ?_)
  refine all_some ?_
  intro v9 u9
  obtain rfl := u9
  iterate 1 (refine all_val ?_)
  refine all_nil ?_
  simp only [putAll, Act.put, List.setIfInBounds_toArray, List.set_cons_succ, List.set_cons_zero]
  have hbx : bb 9 = true := hbb 9 (by decide)
  have hCd := hC.disk
  rw [hbx] at hCd
  have HDD : Hid (DiskAt w' b bm d2) := Lib.hid hCd
  have HFF := Lib.hid hC.fp
  clear hC hbb hCd
  go_wp2_with (fail)
  go_ret
  exact ⟨rfl, HDD.out, HFF.out⟩
theorem append11_any (w : World) (b bm L ql qs : Nat) (lg : Lg) (d : Dk) (s : ByteArray) (hd : DiskAt w b bm d) (hok : DkOK d) (hto : lg.name.size ≤ maxLen) (hs : s.size ≤ 1000000000) (hl : LogAt w L b lg) (hql : w.heap[ql]? = some (.cells #[.pointer (some ⟨L, 0, none⟩)] 59 (0, 0))) (hqs : w.heap[qs]? = some (.cells #[.string s] 9 (0, 0))) :
  Calls Tryz.prog 76 #[.pointer (some ⟨ql, 0, none⟩), .pointer (some ⟨qs, 0, none⟩)] w fun e w' => e = .returned (.int .i64 (d.appendE lg.name s)) ∧ DiskAt w' b bm (d.append lg.name s) ∧ Fp [b, bm] w w' := by
 have n0 := hl.ne hd
 have nql := box_ne hql (by decide) hd
 have nqs := box_ne hqs (by decide) hd
 have HD := Lib.hid hd
 have HL := Lib.hid hl
 have Hql := Lib.hid hql
 have Hqs := Lib.hid hqs
 have HC := Lib.hid (fun W (h : DiskAt W b bm d) => append_any W b bm d lg.name s h hok hto hs)
 clear hd hl hql hqs
 obtain ⟨x, hx⟩ : ∃ x, d.appendE lg.name s = x := ⟨_, rfl⟩
 obtain ⟨d2, hd2⟩ : ∃ x, d.append lg.name s = x := ⟨_, rfl⟩
 rw [hx, hd2] at HC ⊢
 clear hx hd2
 go_enter Tryz.func76, Tryz.ntmps76
 go_wp2_with (fail)
 refine wp_region_n (fun bb w' => DkC b bm w d d2 (bb 9) w') (fun _ _ => True) (by kernel_rfl) (by kernel_rfl) (DkC.start HD.out) ?_
 iterate 9
  apply nx_plain (fun _ _ h => h) rfl rfl rfl
  ·intro b a w hC hA K hK
   have := hA.f 0
   have := hA.f 1
   try have := hA.e 0 3
   try have := hA.e 1 4
   try have := hA.e 2 5
   try have := hA.e 4 7
   try have := hA.e 5 8
   try have := hA.e 6 9
   have rql := cell_of_block ((hC.fp.block _ (heap_lt Hql.out) nql).trans Hql.out) 0
   have rqs := cell_of_block ((hC.fp.block _ (heap_lt Hqs.out) nqs).trans Hqs.out) 0
   have g0 := cell_of_block (HL.out.fp hC.fp n0) 0
   have g1 := cell_of_block (HL.out.fp hC.fp n0) 1
   simp only [logCells, List.getElem?_toArray, List.getElem?_cons_succ, List.getElem?_cons_zero] at g0 g1 rql rqs
   simp only [Oper.wp, execOp]; go_simp
   exact hK _ hC trivial
 apply nx_turn (eqV (.int .i64 x)) rfl rfl rfl
 ·intro b a w hC hA K hK
  have h6 := hA.e 3 6
  have h10 := hA.e 7 10
  have h11 := hA.e 8 11
  simp only [Oper.wp, execOp]; go_simp
  (with_reducible refine (HC.out _ (hC.first hA.self)).mono ?_)
  rintro e w2 ⟨rfl, hd2, hf2⟩
  exact hK _ _ ⟨hd2, hC.fp.trans hf2 (by intro i hi; exact Or.inl hi)⟩ trivial rfl
 apply nx_plain (fun _ _ h => h) rfl rfl rfl
 ·intro b a w hC hA K hK
  have h12 := hA.e 9 12
  simp only [Oper.wp, execOp]; go_simp
  exact hK _ hC trivial
 refine ⟨?_, ?_⟩
 ·refine stabN_val _ ?_
  refine ⟨fun _ _ _ _ h => h, ?_⟩
  iterate 9 refine stabN_val _ ?_
  exact trivial
 ·intro w' bb hC hbb
  simp only [List.reverse_cons, List.reverse_nil, List.nil_append, List.cons_append]
  iterate 9 (refine all_val ?_)
  refine all_some ?_
  intro v9 u9
  obtain rfl := u9
  iterate 1 (refine all_val ?_)
  refine all_nil ?_
  simp only [putAll, Act.put, List.setIfInBounds_toArray, List.set_cons_succ, List.set_cons_zero]
  have hbx : bb 9 = true := hbb 9 (by decide)
  have hCd := hC.disk
  rw [hbx] at hCd
  have HDD : Hid (DiskAt w' b bm d2) := Lib.hid hCd
  have HFF := Lib.hid hC.fp
  clear hC hbb hCd
  go_wp2_with (fail)
  go_ret
  exact ⟨rfl, HDD.out, HFF.out⟩
theorem append12_any (w : World) (b bm L ql : Nat) (lg : Lg) (d : Dk)  (hd : DiskAt w b bm d) (hok : DkOK d) (hto : lg.name.size ≤ maxLen) (hl : LogAt w L b lg) (hql : w.heap[ql]? = some (.cells #[.pointer (some ⟨L, 0, none⟩)] 59 (0, 0))) :
  Calls Tryz.prog 78 #[.pointer (some ⟨ql, 0, none⟩)] w fun e w' => e = .returned (.int .i64 (d.thereE lg.name)) ∧ DiskAt w' b bm (d.sync lg.name) ∧ Fp [b, bm] w w' := by
 have n0 := hl.ne hd
 have nql := box_ne hql (by decide) hd
 have HD := Lib.hid hd
 have HL := Lib.hid hl
 have Hql := Lib.hid hql
 have HC := Lib.hid (fun W (h : DiskAt W b bm d) => sync_any W b bm d lg.name h hok hto)
 clear hd hl hql
 obtain ⟨x, hx⟩ : ∃ x, d.thereE lg.name = x := ⟨_, rfl⟩
 obtain ⟨d2, hd2⟩ : ∃ x, d.sync lg.name = x := ⟨_, rfl⟩
 rw [hx, hd2] at HC ⊢
 clear hx hd2
 go_enter Tryz.func78, Tryz.ntmps78
 go_wp2_with (fail)
 refine wp_region_n (fun bb w' => DkC b bm w d d2 (bb 8) w') (fun _ _ => True) (by kernel_rfl) (by kernel_rfl) (DkC.start HD.out) ?_
 iterate 8
  apply nx_plain (fun _ _ h => h) rfl rfl rfl
  ·intro b a w hC hA K hK
   have := hA.f 0
   try have := hA.e 0 2
   try have := hA.e 1 3
   try have := hA.e 2 4
   try have := hA.e 4 6
   try have := hA.e 5 7
   try have := hA.e 6 8
   have rql := cell_of_block ((hC.fp.block _ (heap_lt Hql.out) nql).trans Hql.out) 0
   have g0 := cell_of_block (HL.out.fp hC.fp n0) 0
   have g1 := cell_of_block (HL.out.fp hC.fp n0) 1
   simp only [logCells, List.getElem?_toArray, List.getElem?_cons_succ, List.getElem?_cons_zero] at g0 g1 rql
   simp only [Oper.wp, execOp]; go_simp
   exact hK _ hC trivial
 apply nx_turn (eqV (.int .i64 x)) rfl rfl rfl
 ·intro b a w hC hA K hK
  have h5 := hA.e 3 5
  have h9 := hA.e 7 9
  simp only [Oper.wp, execOp]; go_simp
  (with_reducible refine (HC.out _ (hC.first hA.self)).mono ?_)
  rintro e w2 ⟨rfl, hd2, hf2⟩
  exact hK _ _ ⟨hd2, hC.fp.trans hf2 (by intro i hi; exact Or.inl hi)⟩ trivial rfl
 apply nx_plain (fun _ _ h => h) rfl rfl rfl
 ·intro b a w hC hA K hK
  have h10 := hA.e 8 10
  simp only [Oper.wp, execOp]; go_simp
  exact hK _ hC trivial
 refine ⟨?_, ?_⟩
 ·refine stabN_val _ ?_
  refine ⟨fun _ _ _ _ h => h, ?_⟩
  iterate 8 refine stabN_val _ ?_
  exact trivial
 ·intro w' bb hC hbb
  simp only [List.reverse_cons, List.reverse_nil, List.nil_append, List.cons_append]
  iterate 8 (refine all_val ?_)
  refine all_some ?_
  intro v8 u8
  obtain rfl := u8
  iterate 1 (refine all_val ?_)
  refine all_nil ?_
  simp only [putAll, Act.put, List.setIfInBounds_toArray, List.set_cons_succ, List.set_cons_zero]
  have hbx : bb 8 = true := hbb 8 (by decide)
  have hCd := hC.disk
  rw [hbx] at hCd
  have HDD : Hid (DiskAt w' b bm d2) := Lib.hid hCd
  have HFF := Lib.hid hC.fp
  clear hC hbb hCd
  go_wp2_with (fail)
  go_ret
  exact ⟨rfl, HDD.out, HFF.out⟩
end
section
open Go.ChangeShapes Go.WideShapes Go.ChangeAt Go.RowKit
structure StrsAt (w : World) (a : Option Addr) (len : Nat) (l : List ByteArray) : Prop where
 len : len = l.length
 cells : l = [] ∨ ∃ b o, a = some ⟨b, o, none⟩ ∧ ∀ i (h : i < l.length), w.cell? ⟨b, o + i, none⟩ = some (.string l[i])
 small : ∀ s ∈ l, s.size ≤ maxLen
theorem StrsAt.of_fp {w w' : World} {a : Option Addr} {len : Nat} {l : List ByteArray} (h : StrsAt w a len l) (hf : Fp [] w w') : StrsAt w' a len l := by
 refine ⟨h.len, ?_, h.small⟩
 rcases h.cells with h0 | ⟨b, o, rfl, hc⟩
 ·exact Or.inl h0
 ·exact Or.inr ⟨b, o, rfl, fun i hi => by rw [hf.cell (World.block_lt_of_cell? _ _ (hc i hi)) (by simp)]; exact hc i hi⟩
end
end Go.Proofs.YtkjmgbifoaoefaaGreatDoor
