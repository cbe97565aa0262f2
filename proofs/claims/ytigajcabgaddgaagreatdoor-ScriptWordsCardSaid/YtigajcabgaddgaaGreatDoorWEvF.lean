/-
 The evaluator, compiled: what of a program does not turn from run to run is reckoned once (the kernel keeps it). The same answers.
-/
import Derived.Test.YtigajcabgaddgaaGreatDoorWRegionG
set_option maxRecDepth 100000
set_option maxHeartbeats 8000000
namespace Go.Proofs.YtigajcabgaddgaaGreatDoor
open Go.RowKit
noncomputable section
abbrev RunV := ERec → ET AV → EM AV
abbrev RunT := ERec → ET AV → EM (ET AV)
abbrev RunC := ERec → ET AV → List AV → EM ERun
def cO (x : Operand) : Bx (ET AV → AV) := match x with
 |.tmp t => Bx.rec (fun f => .mk fun tm => Option.rec .un (fun v => v) (f tm)) (ET.gets (toPB (Nat.succ t)) : Bx (ET AV → Option AV))
 |.const v => .mk fun _ => Option.rec .bad (fun v => v) (ofV v)
 |.global g => .mk fun _ => .gp g 0
 |.func f => .mk fun _ => .fn f [] []
theorem cO_eq (x : Operand) : cO x = .mk fun tm => evO tm x := by
 cases x with
 |tmp t =>
  show (Bx.rec (fun f => .mk fun tm => Option.rec .un (fun v => v) (f tm)) (ET.gets (toPB (Nat.succ t)) : Bx (ET AV → Option AV)) : Bx (ET AV → AV)) = _
  rw [ET.gets_eq]
  show Bx.mk (fun tm => (Option.rec .un (fun v => v) (ET.getp (toPB (Nat.succ t)) tm) : AV)) = .mk fun tm => tmGet tm t
  unfold tmGet
  simp only [ET.get_def]
 |_ => rfl
def cL (l : List Operand) : Bx (ET AV → List AV) := List.rec (.mk fun _ => []) (fun x _ ih => Bx.rec (fun f => Bx.rec (fun g => .mk fun tm => f tm :: g tm) ih) (cO x)) l
theorem cL_eq : ∀ l : List Operand, cL l = .mk fun tm => lmap (evO tm) l
 |[] => rfl
 |x :: l => by
  show (Bx.rec (fun f => Bx.rec (fun g => .mk fun tm => f tm :: g tm) (cL l)) (cO x) : Bx (ET AV → List AV)) = _
  rw [cO_eq, cL_eq l]
  rfl
def cP (l : List (Nat × Operand)) : Bx (ET AV → List (Nat × AV)) := List.rec (.mk fun _ => []) (fun x _ ih => Bx.rec (fun f => Bx.rec (fun g => .mk fun tm => (x.1, f tm) :: g tm) ih) (cO x.2)) l
theorem cP_eq : ∀ l : List (Nat × Operand), cP l = .mk fun tm => lmap (fun p => (p.1, evO tm p.2)) l
 |[] => rfl
 |x :: l => by
  show (Bx.rec (fun f => Bx.rec (fun g => .mk fun tm => (x.1, f tm) :: g tm) (cP l)) (cO x.2) : Bx (ET AV → List (Nat × AV))) = _
  rw [cO_eq, cP_eq l]
  rfl
def cQ (x : Option Operand) : Bx (ET AV → Option AV) := match x with
 |none => .mk fun _ => none
 |some x => Bx.rec (fun f => .mk fun tm => some (f tm)) (cO x)
theorem cQ_eq (x : Option Operand) : cQ x = .mk fun tm => x.map (evO tm) := by
 cases x with
 |none => rfl
 |some x =>
  show (Bx.rec (fun f => .mk fun tm => some (f tm)) (cO x) : Bx (ET AV → Option AV)) = _
  rw [cO_eq]
  rfl
variable (P : Program) (G : Globs)
def c1 (x : Operand) (k : AV → EM AV) : Bx RunV := Bx.rec (fun f => .mk fun _ tm => k (f tm)) (cO x)
def c2 (x y : Operand) (k : AV → AV → EM AV) : Bx RunV := Bx.rec (fun f => Bx.rec (fun g => .mk fun _ tm => k (f tm) (g tm)) (cO y)) (cO x)
def c3 (x y z : Operand) (k : AV → AV → AV → EM AV) : Bx RunV := Bx.rec (fun f => Bx.rec (fun g => Bx.rec (fun h => .mk fun _ tm => k (f tm) (g tm) (h tm)) (cO z)) (cO y)) (cO x)
theorem c1_eq (x : Operand) (k : AV → EM AV) : c1 x k = .mk fun _ tm => k (evO tm x) := by unfold c1; rw [cO_eq]
theorem c2_eq (x y : Operand) (k : AV → AV → EM AV) : c2 x y k = .mk fun _ tm => k (evO tm x) (evO tm y) := by unfold c2; rw [cO_eq, cO_eq]
theorem c3_eq (x y z : Operand) (k : AV → AV → AV → EM AV) : c3 x y z k = .mk fun _ tm => k (evO tm x) (evO tm y) (evO tm z) := by unfold c3; rw [cO_eq, cO_eq, cO_eq]
def fPick (c a b : AV) : EM AV := match c with
 |.bo t => epure (Bool.rec b a t)
 |_ => efail [80]
def fField (t : TypeId) (o : Nat) (x : AV) : EM AV := match x with
 |.ag cs => vpart P t cs o
 |_ => efail [85]
def fExtract (i : Nat) (x : AV) : EM AV := match x with
 |.tu l => eopt [86] (lnth l i)
 |_ => efail [86]
def fCallee (R : ERec) (f : AV) (l : List AV) : EM AV := match f with
 |.fn k x y => R.fn k (lapp x (lapp l y))
 |.yl i => R.rn i l
 |_ => efail [73]
def cBuiltin (b : Builtin) (l : List AV) (ts : List TypeId) : EM AV := match b, l, ts with
 |.append, [s, x], [t, t2] => eappend P t t2 s x
 |.copy, [d, s], t :: _ => ecopy P t d s
 |.len, [x], t :: _ => elen P t x
 |.cap, [x], t :: _ => ecap P t x
 |.min, l, _ => eminmax false l
 |.max, l, _ => eminmax true l
 |.delete, [m, k], t :: _ => edelete P t m k
 |.unsafeSliceData, [x], _ => match x with
  |.sl i o _ c => Bool.rec (epure (.pt i o)) (efail [76]) (Nat.beq c 0)
  |.sn => epure .pn
  |_ => efail [76]
 |.unsafeString, [p, n], [t, _] => eunsafeString P t p n
 |_, _, _ => efail [75]
def cCall (c : Call) : Bx RunV := match c.callee with
 |.value f => match f with
  |.func k => Bx.rec (fun g => .mk fun R tm => R.fn k (lapp [] (lapp (g tm) []))) (cL c.args.toList)
  |f => Bx.rec (fun f => Bx.rec (fun g => .mk fun R tm => fCallee R (f tm) (g tm)) (cL c.args.toList)) (cO f)
 |.invoke _ _ => .mk fun _ _ => efail [74]
 |.builtin b => Bx.rec (fun g => .mk fun _ tm => cBuiltin P b (g tm) c.argTypes.toList) (cL c.args.toList)
theorem cCall_eq (c : Call) (t : TypeId) : cCall P c = .mk fun R tm => ecall P R tm c t := by
 unfold cCall ecall
 cases hc : c.callee with
 |value f =>
  cases f with
  |func k => simp only; rw [cL_eq]; rfl
  |_ => simp only; rw [cL_eq, cO_eq]; rfl
 |invoke _ _ => rfl
 |builtin b => simp only; rw [cL_eq]; rfl
def cOp (o : Oper) : Bx RunV := match o.op with
 |.move x => c1 x epure
 |.assign x => c1 x epure
 |.pick c a b => c3 c a b fPick
 |.alloc e => .mk fun _ _ => ebind (esz P e) fun _ => ebind (ezero P e) fun z => ebind (enew (.cs e z 0)) fun i => epure (.pt i 0)
 |.box e x => c1 x fun v => ebind (esz P e) fun _ => ebind (evc v) fun c => ebind (enew (.cs e c 0)) fun i => epure (.pt i 0)
 |.build t ps => Bx.rec (fun g => .mk fun _ tm => ebuild P t (g tm)) (cP ps.toList)
 |.buildSlice t n ps => Bx.rec (fun g => .mk fun _ tm => ebuildSlice P t n (g tm)) (cP ps.toList)
 |.load t a => c1 a (eload P G t)
 |.store t a x => c2 a x (estore P t)
 |.nilCheck x => c1 x enil
 |.binOp op t x y _ => c2 x y (ebin P (kon x y) op t)
 |.unOp op _ x => c1 x (eun op)
 |.convert s d x => c1 x (econv P s d)
 |.makeInterface t x => match P.underlying t with
  |some (.interface _) => .mk fun _ _ => efail [82]
  |some _ => c1 x fun v => epure (.ic t v)
  |none => .mk fun _ _ => efail [82]
 |.makeFunc f x y => match f with
  |.func k => Bx.rec (fun g => Bx.rec (fun h => .mk fun _ tm => epure (.fn k (g tm) (h tm))) (cL y.toList)) (cL x.toList)
  |_ => .mk fun _ _ => efail [83]
 |.makeMap _ r => match r with
  |none => .mk fun _ _ => ebind (enew (.ma [] 0)) fun i => epure (.mp i)
  |some _ => .mk fun _ _ => efail [84]
 |.makeSlice t n c => c2 n c (emakeSlice P t)
 |.slice t x lo hi mx => Bx.rec (fun f => Bx.rec (fun g => Bx.rec (fun h => Bx.rec (fun m => .mk fun _ tm => ecase [89] (ior (Option.rec true (fun _ => false) mx) (Option.rec false (fun _ => true) hi)) (eslice P t (f tm) (g tm) (h tm) (m tm))) (cQ mx)) (cQ hi)) (cQ lo)) (cO x)
 |.fieldAddr s x f => c1 x fun v => ebind (efield P s f) fun y => ebind (esz P y.type) fun z => ecase [85] (Bool.not (Nat.beq z 0)) (eaddr v y.offset)
 |.field s x f => c1 x fun v => ebind (efield P s f) fun y => fField P y.type y.offset v
 |.indexAddr t x i => c2 x i (eindexAddr P t)
 |.index t x i => c2 x i (eindex P t)
 |.lookup t x i ok => c2 x i fun a b => elookup P t a b ok
 |.mapUpdate t m k x => c3 m k x (emapUpdate P t)
 |.insert t m k x => c3 m k x (emapUpdate P t)
 |.mapEntry t m k => c2 m k (emapEntry P t)
 |.entryStore _ m s x => c3 m s x eentryStore
 |.range t x => c1 x (erange P t)
 |.next it s => c1 it fun v => enext v s
 |.typeAssert x _ a ok => c1 x fun v => eassert P v a ok
 |.extract t i => c1 t (fExtract i)
 |.call c => cCall P c
 |_ => .mk fun _ _ => efail [87]
theorem cOp_eq (o : Oper) : cOp P G o = .mk fun R tm => evOp P G R tm o := by
 unfold cOp evOp
 obtain ⟨dst, op, type, pos, after, guard⟩ := o
 cases op <;> simp only [c1_eq, c2_eq, c3_eq, cP_eq, cL_eq, cQ_eq, cO_eq, cCall_eq P _ type] <;> first
  |rfl
  |(rename_i a b; cases P.underlying a with
    |none => rfl
    |some d => cases d <;> rfl)
  |(rename_i a b c; cases a <;> rfl)
  |(rename_i a b; cases b <;> rfl)
  |(rename_i a b c; cases hu : P.underlying a <;> rfl)
def cPut (N : Nat) (d : Option Tmp) (run : RunV) : Bx RunT := match d with
 |none => .mk fun R tm s => ERes.rec (fun e => .no e) (fun _ s => .ok tm s) (run R tm s)
 |some d => Bool.rec (.mk fun R tm => ebind (run R tm) fun _ => efail [88]) (Bx.rec (fun f => .mk fun R tm s => ERes.rec (fun e => .no e) (fun v s => .ok (f v tm) s) (run R tm s)) (ET.sets (toPB (Nat.succ d)) : Bx (AV → ET AV → ET AV))) (Nat.blt d N)
def cGuard (N : Nat) (l : List Oper) (o : Oper) (run : RunV) : Bx RunT := match o.guard with
 |none => cPut N o.dst run
 |some _ => .mk fun R tm => Option.rec (efail [109]) (fun g => Bool.rec (eput1 N tm o.dst .un) (ebind (run R tm) fun v => eput1 N tm o.dst v) g) (ewant l tm o)
def cMove (N : Nat) (x : Operand) (d : Tmp) : Bx RunT := Bx.rec (fun g => Bool.rec (.mk fun _ _ => efail [88]) (Bx.rec (fun f => .mk fun _ tm s => .ok (f (g tm) tm) s) (ET.sets (toPB (Nat.succ d)) : Bx (AV → ET AV → ET AV))) (Nat.blt d N)) (cO x)
def cStep (N : Nat) (l : List Oper) (o : Oper) : Bx RunT := match o.op, o.dst, o.guard with
 |.move x, some d, none => cMove N x d
 |.assign x, some d, none => cMove N x d
 |_, _, _ => Bx.rec (cGuard N l o) (cOp P G o)
theorem cPut_eq (N : Nat) (d : Option Tmp) (run : RunV) : cPut N d run = .mk fun R tm => ebind (run R tm) fun v => eput1 N tm d v := by
 unfold cPut eput1
 cases d with
 |none => rfl
 |some d =>
  simp only
  rw [ET.sets_eq]
  cases Nat.blt d N with
  |false => rfl
  |true =>
   show Bx.mk (fun R tm s => (ERes.rec (fun e => .no e) (fun v s => .ok (ET.setp v (toPB (Nat.succ d)) tm) s) (run R tm s) : ERes (ET AV))) = Bx.mk fun R tm => ebind (run R tm) fun v => epure (tm.set (Nat.succ d) v)
   simp only [ET.set_def]
   rfl
theorem cMove_eq (N : Nat) (x : Operand) (d : Tmp) : cMove N x d = .mk fun _ tm => eput1 N tm (some d) (evO tm x) := by
 unfold cMove eput1
 rw [cO_eq, ET.sets_eq]
 simp only
 cases Nat.blt d N with
 |false => rfl
 |true =>
  show (Bx.mk (fun _ tm s => .ok (ET.setp (evO tm x) (toPB (Nat.succ d)) tm) s) : Bx RunT) = Bx.mk fun _ tm => epure (tm.set (Nat.succ d) (evO tm x))
  simp only [ET.set_def]
  rfl
theorem cStep_gen (N : Nat) (l : List Oper) (o : Oper) : (Bx.rec (cGuard N l o) (cOp P G o) : Bx RunT) = .mk fun R tm => estep P G R N l tm o := by
 rw [cOp_eq]
 show cGuard N l o (fun R tm => evOp P G R tm o) = _
 unfold cGuard estep ewant
 cases hg : o.guard with
 |none =>
  simp only
  rw [cPut_eq]
 |some _ => rfl
theorem cStep_eq (N : Nat) (l : List Oper) (o : Oper) : cStep P G N l o = .mk fun R tm => estep P G R N l tm o := by
 unfold cStep
 split
 ·rename_i x d h1 h2 h3
  rw [cMove_eq]
  unfold estep ewant evOp
  rw [h1, h2, h3]
  rfl
 ·rename_i x d h1 h2 h3
  rw [cMove_eq]
  unfold estep ewant evOp
  rw [h1, h2, h3]
  rfl
 ·exact cStep_gen P G N l o
abbrev RunK := ERec → ET AV → ESt → (ET AV → ESt → ERes ERun) → ERes ERun
def cStepK (N : Nat) (l : List Oper) (o : Oper) : Bx RunK := match o.op, o.dst, o.guard with
 |.move x, some d, none => Bx.rec (fun g => Bool.rec (.mk fun _ _ _ _ => .no [88]) (Bx.rec (fun f => .mk fun _ tm s k => k (f (g tm) tm) s) (ET.sets (toPB (Nat.succ d)) : Bx (AV → ET AV → ET AV))) (Nat.blt d N)) (cO x)
 |.assign x, some d, none => Bx.rec (fun g => Bool.rec (.mk fun _ _ _ _ => .no [88]) (Bx.rec (fun f => .mk fun _ tm s k => k (f (g tm) tm) s) (ET.sets (toPB (Nat.succ d)) : Bx (AV → ET AV → ET AV))) (Nat.blt d N)) (cO x)
 |_, _, _ => Bx.rec (fun f => .mk fun R tm s k => ERes.rec (fun e => .no e) k (f R tm s)) (cStep P G N l o)
def runK (m : ET AV → EM (ET AV)) (tm : ET AV) (s : ESt) (k : ET AV → ESt → ERes ERun) : ERes ERun := ERes.rec (fun e => .no e) k (m tm s)
theorem cStepK_eq (N : Nat) (l : List Oper) (o : Oper) : cStepK P G N l o = .mk fun R => runK fun tm => estep P G R N l tm o := by
 unfold cStepK
 split
 ·rename_i x d h1 h2 h3
  rw [cO_eq, ET.sets_eq]
  show (Bool.rec (.mk fun _ _ _ _ => .no [88]) (.mk fun _ tm s k => k (ET.setp (evO tm x) (toPB (Nat.succ d)) tm) s) (Nat.blt d N) : Bx RunK) = _
  unfold runK estep ewant evOp
  rw [h1, h2, h3]
  unfold eput1
  simp only [ET.set_def]
  cases Nat.blt d N <;> rfl
 ·rename_i x d h1 h2 h3
  rw [cO_eq, ET.sets_eq]
  show (Bool.rec (.mk fun _ _ _ _ => .no [88]) (.mk fun _ tm s k => k (ET.setp (evO tm x) (toPB (Nat.succ d)) tm) s) (Nat.blt d N) : Bx RunK) = _
  unfold runK estep ewant evOp
  rw [h1, h2, h3]
  unfold eput1
  simp only [ET.set_def]
  cases Nat.blt d N <;> rfl
 ·rw [cStep_eq]
  rfl
def cOps (N : Nat) (l : List Oper) (r : List Oper) : Bx RunK := List.rec (.mk fun _ tm s k => k tm s) (fun o _ ih => Bx.rec (fun f => Bx.rec (fun g => .mk fun R tm s k => f R tm s fun tm s => g R tm s k) ih) (cStepK P G N l o)) r
theorem cOps_eq (N : Nat) (l : List Oper) : ∀ r : List Oper, cOps P G N l r = .mk fun R => runK fun tm => eops P G R N l r tm
 |[] => rfl
 |o :: r => by
  show (Bx.rec (fun f => Bx.rec (fun g => .mk fun R tm s k => f R tm s fun tm s => g R tm s k) (cOps P G N l r)) (cStepK P G N l o) : Bx RunK) = _
  rw [cStepK_eq, cOps_eq N l r]
  show Bx.mk (fun R tm s k => runK (fun tm => estep P G R N l tm o) tm s fun tm s => runK (fun tm => eops P G R N l r tm) tm s k) = Bx.mk fun R => runK fun tm => ebind (estep P G R N l tm o) (eops P G R N l r)
  congr 1
  funext R tm s k
  unfold runK ebind
  dsimp only
  cases estep P G R N l tm o s <;> rfl
def tb (b k : Nat) : Bool := Nat.beq (Nat.mod (Nat.shiftRight b k) 2) 1
theorem tb_eq (b k : Nat) : tb b k = b.testBit k := by
 unfold tb
 rw [Bool.eq_iff_iff, Nat.beq_eq, Nat.testBit_eq_decide_div_mod_eq, decide_eq_true_eq]
 rw [show Nat.shiftRight b k = b >>> k from rfl, Nat.shiftRight_eq_div_pow]
 exact Iff.rfl
def orz (x : Option Nat) : Nat := Option.rec 0 (fun x => x) x
def eapartF (b : Nat) (r w : Nat) (ms : List (Nat × Nat)) : Bool :=
 List.rec (fun _ => true) (fun m _ ih k => iand (ior (tb b k) (iand (Nat.beq (Nat.land w (Nat.lor m.1 m.2)) 0) (Nat.beq (Nat.land r m.2) 0))) (ih (Nat.succ k))) ms 0
theorem eapartF_eq : eapartF = eapart := by
 funext b r w ms
 unfold eapartF eapart
 simp only [tb_eq]
abbrev RunD := ERec → List (Nat × Nat) → ET AV → EM (ET AV)
def cDraws (N : Nat) (l : List Oper) (bs : List Nat) (r : List Oper) : Nat → Bx RunD :=
 List.rec (fun _ => .mk fun _ _ tm => epure tm) (fun o _ ih i => Bx.rec (fun f => Bx.rec (fun g => .mk fun R ms tm s =>
  ERes.rec (fun e => .no e) (fun tm' s' => (Bool.rec (efail [90, i]) (g R (lapp ms [(s'.rd, s'.wr)]) tm')
   (eapartF (orz (lnth bs i)) s'.rd s'.wr ms) : EM (ET AV)) ⟨s'.hp, s'.nx, Nat.lor s.rd s'.rd, Nat.lor s.wr s'.wr⟩) (f R tm ⟨s.hp, s.nx, 0, 0⟩)) (ih (Nat.succ i))) (cStep P G N l o)) r
theorem cDraws_eq (N : Nat) (l : List Oper) (bs : List Nat) : ∀ (r : List Oper) (i : Nat), cDraws P G N l bs r i = .mk fun R ms tm => edraws P G R N l bs r i ms tm
 |[], _ => rfl
 |o :: r, i => by
  show (Bx.rec (fun f => Bx.rec (fun g => .mk fun R ms tm s =>
   ERes.rec (fun e => .no e) (fun tm' s' => (Bool.rec (efail [90, i]) (g R (lapp ms [(s'.rd, s'.wr)]) tm')
    (eapartF (orz (lnth bs i)) s'.rd s'.wr ms) : EM (ET AV)) ⟨s'.hp, s'.nx, Nat.lor s.rd s'.rd, Nat.lor s.wr s'.wr⟩) (f R tm ⟨s.hp, s.nx, 0, 0⟩)) (cDraws P G N l bs r (Nat.succ i))) (cStep P G N l o) : Bx RunD) = _
  rw [cStep_eq, cDraws_eq N l bs r, eapartF_eq]
  rfl
def odm (o : Oper) : Nat := Option.rec 0 (fun d => Nat.shiftLeft 1 d) o.dst
def osm (ts : List Tmp) : Nat := List.rec 0 (fun t _ ih => Nat.lor (Nat.shiftLeft 1 t) ih) ts
def dsOf (bs : List Nat) (l : List Oper) : Nat → List (Nat × Nat) := List.rec (fun _ => []) (fun o _ ih j => (odm o, orz (lnth bs j)) :: ih (Nat.succ j)) l
def fIn (i rm di bi : Nat) (ds : List (Nat × Nat)) : Nat → Bool := List.rec (fun _ => true) (fun x _ ih j => iand (ior (Nat.beq i j) (iand (ior (Nat.beq (Nat.land rm x.1) 0) (ior (tb bi j) (tb x.2 i))) (Nat.beq (Nat.land di x.1) 0))) (ih (Nat.succ j))) ds
def fEdges (i : Nat) (es : List Edge) : Bool := List.rec true (fun e _ ih => iand (Bool.rec true (Nat.blt e.on i) (Region.binds .any e)) ih) es
def fOuts (N : Nat) (l : List Oper) (bs : List Nat) (ds : List (Nat × Nat)) (r : List Oper) : Nat → Bool :=
 List.rec (fun _ => true) (fun o _ ih i => iand (fEdges i o.after.toList) (iand (Option.rec true (fun d => Nat.blt d N) o.dst) (iand (fIn i (osm (lapp (eslots o) (eguardSlot l o))) (odm o) (orz (lnth bs i)) ds 0) (ih (Nat.succ i))))) r
def eformF (l : List Oper) (N : Nat) : Bool := fOuts N l (ebefore l) (dsOf (ebefore l) l 0) l 0
theorem dsOf_get (bs : List Nat) : ∀ (l : List Oper) (j k : Nat), (dsOf bs l j)[k]? = (l[k]?).map fun o => (odm o, orz (lnth bs (j + k)))
 |[], _, _ => by simp [dsOf]
 |o :: l, j, 0 => by simp [dsOf]
 |o :: l, j, k + 1 => by
  have := dsOf_get bs l (j + 1) k
  show (dsOf bs l (j + 1))[k]? = _
  rw [this, show j + (k + 1) = j + 1 + k by omega]
  rfl
theorem fIn_get {i rm di bi : Nat} : ∀ {ds : List (Nat × Nat)} {j : Nat}, fIn i rm di bi ds j = true → ∀ (k : Nat) x, ds[k]? = some x → ior (Nat.beq i (j + k)) (iand (ior (Nat.beq (Nat.land rm x.1) 0) (ior (tb bi (j + k)) (tb x.2 i))) (Nat.beq (Nat.land di x.1) 0)) = true
 |[], _, _, k, x, hx => by simp at hx
 |y :: ds, j, h, k, x, hx => by
  have h' : iand (ior (Nat.beq i j) (iand (ior (Nat.beq (Nat.land rm y.1) 0) (ior (tb bi j) (tb y.2 i))) (Nat.beq (Nat.land di y.1) 0))) (fIn i rm di bi ds (j + 1)) = true := h
  have iand_t : ∀ {a b : Bool}, iand a b = true → a = true ∧ b = true := fun {a b} h => by cases a <;> cases b <;> first | exact ⟨rfl, rfl⟩ | cases h
  obtain ⟨h1, h2⟩ := iand_t h'
  cases k with
  |zero =>
   simp only [List.getElem?_cons_zero, Option.some.injEq] at hx
   subst hx
   exact h1
  |succ k =>
   have := fIn_get h2 k x (by simpa using hx)
   rw [show j + (k + 1) = j + 1 + k by omega]
   exact this
theorem fOuts_get {N : Nat} {l : List Oper} {bs : List Nat} {ds : List (Nat × Nat)} : ∀ {r : List Oper} {i : Nat}, fOuts N l bs ds r i = true → ∀ (k : Nat) o, r[k]? = some o → fEdges (i + k) o.after.toList = true ∧ (Option.rec true (fun d => Nat.blt d N) o.dst : Bool) = true ∧ fIn (i + k) (osm (lapp (eslots o) (eguardSlot l o))) (odm o) (orz (lnth bs (i + k))) ds 0 = true
 |[], _, _, k, o, ho => by simp at ho
 |y :: r, i, h, k, o, ho => by
  have h' : iand (fEdges i y.after.toList) (iand (Option.rec true (fun d => Nat.blt d N) y.dst) (iand (fIn i (osm (lapp (eslots y) (eguardSlot l y))) (odm y) (orz (lnth bs i)) ds 0) (fOuts N l bs ds r (i + 1)))) = true := h
  have iand_t : ∀ {a b : Bool}, iand a b = true → a = true ∧ b = true := fun {a b} h => by cases a <;> cases b <;> first | exact ⟨rfl, rfl⟩ | cases h
  obtain ⟨h1, h2⟩ := iand_t h'
  obtain ⟨h3, h4⟩ := iand_t h2
  obtain ⟨h5, h6⟩ := iand_t h4
  cases k with
  |zero =>
   simp only [List.getElem?_cons_zero, Option.some.injEq] at ho
   subst ho
   exact ⟨h1, h3, h5⟩
  |succ k =>
   have := fOuts_get h6 k o (by simpa using ho)
   rw [show i + (k + 1) = i + 1 + k by omega]
   exact this
theorem fEdges_ok {i : Nat} : ∀ {es : List Edge}, fEdges i es = true → ∀ e ∈ es, (!Region.binds .any e || decide (e.on < i)) = true
 |[], _, e, he => by simp at he
 |x :: es, h, e, he => by
  have h' : iand (Bool.rec true (Nat.blt x.on i) (Region.binds .any x)) (fEdges i es) = true := h
  have iand_t : ∀ {a b : Bool}, iand a b = true → a = true ∧ b = true := fun {a b} h => by cases a <;> cases b <;> first | exact ⟨rfl, rfl⟩ | cases h
  obtain ⟨h1, h2⟩ := iand_t h'
  rcases List.mem_cons.1 he with rfl | he
  ·cases hb : Region.binds .any e with
   |false => rfl
   |true =>
    rw [hb] at h1
    have h3 : Nat.blt e.on i = true := h1
    rw [Nat.blt_eq] at h3
    simpa using h3
  ·exact fEdges_ok h2 e he
theorem osm_bit {t : Tmp} : ∀ {ts : List Tmp}, t ∈ ts → (osm ts).testBit t = true
 |[], h => by simp at h
 |x :: ts, h => by
  show (Nat.lor (Nat.shiftLeft 1 x) (osm ts)).testBit t = true
  rw [show Nat.lor (Nat.shiftLeft 1 x) (osm ts) = (1 <<< x) ||| osm ts from rfl, Nat.testBit_or, Bool.or_eq_true, Nat.one_shiftLeft, Nat.testBit_two_pow]
  rcases List.mem_cons.1 h with rfl | h
  ·exact Or.inl (by simp)
  ·exact Or.inr (osm_bit h)
theorem land_bit {a b t : Nat} (h : Nat.beq (Nat.land a b) 0 = true) (ha : a.testBit t = true) (hb : b.testBit t = true) : False := by
 rw [Nat.beq_eq] at h
 have : (a &&& b).testBit t = true := by rw [Nat.testBit_and, ha, hb]; rfl
 rw [show a &&& b = 0 from h] at this
 simp at this
theorem eformF_ok {l : List Oper} {N : Nat} (h : eformF l N = true) : eform l N = true := by
 have hget : ∀ (i : Nat) o, l[i]? = some o → _ := fun i o ho => fOuts_get h i o ho
 simp only [Nat.zero_add] at hget
 have hpair : ∀ (i j : Nat) o oj, l[i]? = some o → l[j]? = some oj → i = j ∨ (((Nat.land (osm (lapp (eslots o) (eguardSlot l o))) (odm oj)).beq 0 = true ∨ (orz (lnth (ebefore l) i)).testBit j = true ∨ (orz (lnth (ebefore l) j)).testBit i = true) ∧ (Nat.land (odm o) (odm oj)).beq 0 = true) := fun i j o oj ho hj => by
  obtain ⟨_, _, h3⟩ := hget i o ho
  have h4 := fIn_get h3 j (odm oj, orz (lnth (ebefore l) (0 + j))) (by rw [dsOf_get, hj]; rfl)
  simp only [Nat.zero_add] at h4
  have ior_e : ∀ a b : Bool, ior a b = (a || b) := fun a b => by cases a <;> rfl
  have iand_e : ∀ a b : Bool, iand a b = (a && b) := fun a b => by cases a <;> cases b <;> rfl
  rw [ior_e, iand_e, ior_e, ior_e, Bool.or_eq_true, Bool.and_eq_true, Bool.or_eq_true, Bool.or_eq_true, tb_eq, tb_eq] at h4
  rcases h4 with h4 | ⟨h4, h5⟩
  ·exact Or.inl (Nat.eq_of_beq_eq_true h4)
  ·exact Or.inr ⟨h4, h5⟩
 have hodm : ∀ {o : Oper} {d : Tmp}, o.dst = some d → (odm o).testBit d = true := fun {o d} hd => by
  unfold odm
  rw [hd]
  show (1 <<< d).testBit d = true
  rw [Nat.one_shiftLeft, Nat.testBit_two_pow]
  simp
 unfold eform
 rw [Bool.and_eq_true]
 refine ⟨?_, List.all_eq_true.2 fun i hi => ?_⟩
 ·unfold relForm
  refine List.all_eq_true.2 fun i hi => ?_
  rw [List.mem_range] at hi
  have ho : l[i]? = some l[i] := List.getElem?_eq_getElem hi
  obtain ⟨h1, h2, h3⟩ := hget i _ ho
  rw [ho]
  simp only [Bool.and_eq_true]
  refine ⟨Array.all_eq_true_iff_forall_mem.2 fun e he => fEdges_ok h1 e (by simpa using he), ?_⟩
  cases hd : (l[i]).dst with
  |none => rfl
  |some d =>
   simp only [Bool.and_eq_true]
   rw [hd] at h2
   refine ⟨by have h4 : Nat.blt d N = true := h2; rw [Nat.blt_eq] at h4; simpa using h4, List.all_eq_true.2 fun j hj => ?_⟩
   rw [List.mem_range] at hj
   have hoj : l[j]? = some l[j] := List.getElem?_eq_getElem hj
   rw [hoj]
   simp only [Bool.or_eq_true, beq_iff_eq, bne_iff_ne, ne_eq]
   rcases hpair i j _ _ ho hoj with e | ⟨_, h5⟩
   ·exact Or.inl e.symm
   ·refine Or.inr fun e => land_bit h5 (hodm hd) (hodm e)
 ·rw [List.mem_range] at hi
  have ho : l[i]? = some l[i] := List.getElem?_eq_getElem hi
  rw [ho]
  refine List.all_eq_true.2 fun t ht => List.all_eq_true.2 fun j hj => ?_
  rw [List.mem_range] at hj
  have hoj : l[j]? = some l[j] := List.getElem?_eq_getElem hj
  rw [hoj]
  simp only [Bool.or_eq_true, beq_iff_eq, bne_iff_ne, ne_eq]
  by_cases hd : (l[j]).dst = some t
  ·rcases hpair i j _ _ ho hoj with e | ⟨h4 | h4 | h4, _⟩
   ·exact Or.inl (Or.inl (Or.inr e))
   ·exfalso
    refine land_bit h4 (osm_bit (t := t) ?_) (hodm hd)
    rw [show ∀ a b : List Tmp, lapp a b = a ++ b from fun a b => by
     induction a with
     |nil => rfl
     |cons x a ih => exact congrArg (x :: ·) ih]
    exact ht
   ·exact Or.inl (Or.inr h4)
   ·exact Or.inr h4
  ·exact Or.inl (Or.inl (Or.inl hd))
def cDraw (N : Nat) (l : List Oper) : Bx RunT := Bool.rec (.mk fun R tm => edraw P G R N l tm) (Bx.rec (fun g => .mk fun R tm => g R [] tm) (cDraws P G N l (ebefore l) l 0)) (eformF l N)
theorem cDraw_eq (N : Nat) (l : List Oper) : cDraw P G N l = .mk fun R tm => edraw P G R N l tm := by
 unfold cDraw
 rw [cDraws_eq]
 cases h : eformF l N with
 |false => rfl
 |true =>
  unfold edraw
  rw [eformF_ok h]
def fRegion (g : RunT) : Bx RunC := .mk fun R tm mk => ebind (g R tm) fun tm' => epure ⟨.nm, tm', mk⟩
def cRegion (N : Nat) (inr draw : Bool) (l : List Oper) : Bx RunC :=
 Bool.rec (Bool.rec (Bx.rec (fun g => .mk fun R tm mk s => g R tm s fun tm' s' => .ok ⟨.nm, tm', mk⟩ s') (cOps P G N l l)) (.mk fun R tm mk => ebind (eopsD P G R N l l tm mk) fun x => epure ⟨.nm, x.1, x.2⟩) (iand (Bool.not inr) (ehasD l))) (Bx.rec fRegion (cDraw P G N l)) draw
theorem cRegion_eq (N : Nat) (inr draw : Bool) (l : List Oper) : cRegion P G N inr draw l = .mk fun R tm mk => eregion P G R N inr draw l tm mk := by
 unfold cRegion eregion
 rw [cOps_eq, cDraw_eq]
 cases draw with
 |true => rfl
 |false => cases iand (Bool.not inr) (ehasD l) <;> rfl
def fSeq (b : RunC) (R : ERec) (r : ERun) : EM ERun := EOut.rec (b R r.tm r.ms) (fun _ => epure r) (epure r) r.o
def fCond (a b : RunC) (R : ERec) (tm : ET AV) (mk : List AV) (v : AV) : EM ERun := match v with
 |.bo t => Bool.rec (b R tm mk) (a R tm mk) t
 |_ => efail [94]
def fBlock (id : Nat) (r : ERun) : EM ERun := EOut.rec (epure r) (fun j => Bool.rec (epure r) (epure ⟨.nm, r.tm, r.ms⟩) (Nat.beq j id)) (epure r) r.o
def cCode (f : FuncId) (N : Nat) (inr : Bool) (c : Code) : Bx RunC :=
 Code.rec (.mk fun _ tm mk => epure ⟨.nm, tm, mk⟩)
  (fun _ ops draw => cRegion P G N inr draw ops.toList)
  (fun _ _ iha ihb => Bx.rec (fun a => Bx.rec (fun b => .mk fun R tm mk => ebind (a R tm mk) (fSeq b R)) ihb) iha)
  (fun c _ _ iha ihb => Bx.rec (fun v => Bx.rec (fun a => Bx.rec (fun b => .mk fun R tm mk => fCond a b R tm mk (v tm)) ihb) iha) (cO c))
  (fun id _ ih => Bx.rec (fun a => .mk fun R tm mk => ebind (a R tm mk) (fBlock id)) ih)
  (fun _ ih => Bx.rec (fun a => .mk fun R tm mk => eloop (a R) 100000 tm mk) ih)
  (fun g ps assign body _ _ => .mk fun R tm mk => erangeFunc R f N inr g ps.toList assign body tm mk)
  (fun i => .mk fun _ tm mk => epure ⟨.ex i, tm, mk⟩)
  (fun _ _ => .mk fun _ _ _ => efail [96])
  (fun _ => .mk fun _ tm mk => epure ⟨.nm, tm, mk⟩)
  (fun _ => .mk fun _ _ _ => efail [97])
  (.mk fun _ tm mk => epure ⟨.rt, tm, mk⟩)
  (fun _ => .mk fun _ _ _ => efail [98]) c
theorem cCode_eq (f : FuncId) (N : Nat) (inr : Bool) (c : Code) : cCode P G f N inr c = .mk fun R tm mk => evCode P G R f N inr c tm mk := by
 induction c with
 |region id ops draw =>
  show cRegion P G N inr draw ops.toList = _
  rw [cRegion_eq]
  rfl
 |seq a b iha ihb =>
  show (Bx.rec (fun a => Bx.rec (fun b => .mk fun R tm mk => ebind (a R tm mk) (fSeq b R)) (cCode P G f N inr b)) (cCode P G f N inr a) : Bx RunC) = _
  rw [iha, ihb]
  show Bx.mk (fun R tm mk => ebind (evCode P G R f N inr a tm mk) (fSeq (fun R tm mk => evCode P G R f N inr b tm mk) R)) = Bx.mk (fun R tm mk => ebind (evCode P G R f N inr a tm mk) fun r => match r.o with
   |.nm => evCode P G R f N inr b r.tm r.ms
   |_ => epure r)
  congr 1
  funext R tm mk
  congr 1
  funext r
  obtain ⟨o, t, m⟩ := r
  cases o <;> rfl
 |cond c a b iha ihb =>
  show (Bx.rec (fun v => Bx.rec (fun a => Bx.rec (fun b => .mk fun R tm mk => fCond a b R tm mk (v tm)) (cCode P G f N inr b)) (cCode P G f N inr a)) (cO c) : Bx RunC) = _
  rw [iha, ihb, cO_eq]
  rfl
 |block id a ih =>
  show (Bx.rec (fun a => .mk fun R tm mk => ebind (a R tm mk) (fBlock id)) (cCode P G f N inr a) : Bx RunC) = _
  rw [ih]
  show Bx.mk (fun R tm mk => ebind (evCode P G R f N inr a tm mk) (fBlock id)) = Bx.mk (fun R tm mk => ebind (evCode P G R f N inr a tm mk) fun r => match r.o with
   |.ex j => Bool.rec (epure r) (epure ⟨.nm, r.tm, r.ms⟩) (Nat.beq j id)
   |_ => epure r)
  congr 1
  funext R tm mk
  congr 1
  funext r
  obtain ⟨o, t, m⟩ := r
  cases o <;> rfl
 |loop a ih =>
  show (Bx.rec (fun a => .mk fun R tm mk => eloop (a R) 100000 tm mk) (cCode P G f N inr a) : Bx RunC) = _
  rw [ih]
  rfl
 |_ => rfl
variable (I : Intr)
abbrev RunF := ERec → List AV → EM AV
def fEnd (rs : List ResultVar) (R : ERec) (r : ERun) : EM AV := EOut.rec (ebind (emarks R r.ms) fun _ => ebind (eresults P G rs r.tm) fun vs => epure (etuple vs)) (fun _ => efail [101]) (ebind (emarks R r.ms) fun _ => ebind (eresults P G rs r.tm) fun vs => epure (etuple vs)) r.o
def cFun (f : FuncId) : Bx RunF := match I f with
 |some g => .mk fun _ args => g args
 |none => match P.funcs[f]? with
  |some fn => match fn.body with
   |some c => Bool.rec (.mk fun R args => evFun P G R I f args) (Bx.rec (fun run => .mk fun R args => Bool.rec (efail [100, f]) (ebind (run R (earg args 0 .lf) []) (fEnd P G fn.results.toList R)) (Nat.ble (llen args) fn.ntmps)) (cCode P G f fn.ntmps false c)) (Bool.not (fn.name == "runtime.NumGoroutine"))
   |none => .mk fun _ _ => efail [102, f]
  |none => .mk fun _ _ => efail [103, f]
theorem cFun_eq (f : FuncId) : cFun P G I f = .mk fun R args => evFun P G R I f args := by
 unfold cFun
 cases hi : I f with
 |some g =>
  show Bx.mk (fun _ args => g args) = _
  congr 1
  funext R args
  unfold evFun
  rw [hi]
 |none => cases hf : P.funcs[f]? with
  |none =>
   show Bx.mk (fun _ _ => efail [103, f]) = _
   congr 1
   funext R args
   unfold evFun
   rw [hi]
   simp only [hf]
  |some fn => cases hb : fn.body with
   |none =>
    simp only [hb]
    congr 1
    funext R args
    unfold evFun
    rw [hi]
    simp only [hf, hb]
   |some c =>
    simp only [hb]
    cases hn : Bool.not (fn.name == "runtime.NumGoroutine") with
    |false => rfl
    |true =>
     rw [cCode_eq]
     show Bx.mk (fun R args => (Bool.rec (efail [100, f]) (ebind (evCode P G R f fn.ntmps false c (earg args 0 .lf) []) (fEnd P G fn.results.toList R)) (Nat.ble (llen args) fn.ntmps) : EM AV)) = _
     congr 1
     funext R args
     unfold evFun
     rw [hi]
     simp only [hf, hb]
     have e : iand (Nat.ble (llen args) fn.ntmps) (Bool.not (fn.name == "runtime.NumGoroutine")) = Nat.ble (llen args) fn.ntmps := by
      rw [hn]
      cases Nat.ble (llen args) fn.ntmps <;> rfl
     rw [e]
     cases Nat.ble (llen args) fn.ntmps with
     |false => rfl
     |true =>
      show ebind (evCode P G R f fn.ntmps false c (earg args 0 .lf) []) (fEnd P G fn.results.toList R) = ebind (evCode P G R f fn.ntmps false c (earg args 0 .lf) []) fun r => match r.o with
       |.ex _ => efail [101]
       |_ => ebind (emarks R r.ms) fun _ => ebind (eresults P G fn.results.toList r.tm) fun vs => epure (etuple vs)
      congr 1
      funext r
      obtain ⟨o, t, m⟩ := r
      cases o <;> rfl
def evC (d : Nat) : ERec := Nat.rec ⟨fun f _ => efail [108, f], fun _ _ => efail [108], fun _ => false, fun f _ => efail [134, f]⟩ (fun _ R => ⟨fun f args s => ERes.rec (fun e => .no (f :: e)) (fun a s => .ok a s) (Bx.rec (fun run => run R args s) (cFun P G I f)), fun l args => evRound P G R l args, fun f => Option.rec true (fun _ => false) (I f), fun f args => evDef P G R f args⟩) d
theorem evC_eq : ∀ d, evC P G I d = evD P G I d
 |0 => rfl
 |d + 1 => by
  show (⟨fun f args s => ERes.rec (fun e => .no (f :: e)) (fun a s => .ok a s) (Bx.rec (fun run => run (evC P G I d) args s) (cFun P G I f)), fun l args => evRound P G (evC P G I d) l args, fun f => Option.rec true (fun _ => false) (I f), fun f args => evDef P G (evC P G I d) f args⟩ : ERec) = _
  rw [evC_eq d]
  show _ = (⟨fun f args s => ERes.rec (fun e => .no (f :: e)) (fun a s => .ok a s) (evFun P G (evD P G I d) I f args s), fun l args => evRound P G (evD P G I d) l args, fun f => Option.rec true (fun _ => false) (I f), fun f args => evDef P G (evD P G I d) f args⟩ : ERec)
  congr 1
  funext f args s
  rw [cFun_eq]
end
end Go.Proofs.YtigajcabgaddgaaGreatDoor
