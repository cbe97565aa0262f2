/-
 layer 20: shown, walked. What every Parse law's frame needs: the laid variables handed on. names of files: numbers at base sixteen, digit by digit; how names stand (plain). What the laws of layer 20 take out of the laid variables. JobNames: files of unlike jobs, epochs, or places have unlike names.
-/
import Derived.Test.YtkagolpnaicdoaaGreatDoorMJobE
import Derived.Test.YtkagolpnaicdoaaGreatDoorMTabG
import Derived.Test.YtkagolpnaicdoaaGreatDoorMParPure
import Derived.Stop.LaidErr
set_option maxRecDepth 100000
set_option maxHeartbeats 8000000
open Go.Lib renaming hid→a0z
open Nat renaming pow_succ→a0x,div_lt_of_lt_mul→a0w,mod_lt→a0v
namespace Go.Proofs.YtkagolpnaicdoaaGreatDoor
section
open Go.RowKit Go.Lib Go.Maps Go.MapKept Go.ChangeMaps
def Q1:ByteArray:=⟨#[120]⟩
def C6:Ar:=⟨7,1,0,Q1⟩
def Ia:Ar:=⟨7,2,0,Q1⟩
theorem bM:Hi C6:=⟨by decide,by decide,by decide,by decide,by decide,by decide⟩
theorem oI:Hi Ia:=⟨by decide,by decide,by decide,by decide,by decide,by decide⟩
theorem Ws:Df (A6 10000 []) (Bh []) (A0 []) C6=⟨A6 10000 ([]++[Au C6]),Bh ([]++[Au C6]),A0 ([]++[Au C6]),0⟩∧O0 ([]++[Au C6])∧A0 ([]++[Au C6])=Fv (A0 []) C6:=
 Vr bM (by decide) (by decide) (by intro t ht;cases ht) (by decide)
theorem To:A0 [Au C6]=[C6]:=by
 have h:=Ws.2.2;exact h
theorem oJ:Ho (A6 10000 []) (Bh []) (A0 []) 7 Q1=⟨A6 10000 [Au C6],Bh [Au C6],A0 [Au C6],0⟩:=by
 have h:=Ws.1;exact h
theorem Wt:Bd [Au C6]=18:=by
 have h:=R5 [] C6;exact h
theorem Q2:Df (A6 10000 [Au C6]) (Bh [Au C6]) (A0 [Au C6]) Ia=⟨A6 10000 ([Au C6]++[Au Ia]),Bh ([Au C6]++[Au Ia]),A0 ([Au C6]++[Au Ia]),0⟩∧O0 ([Au C6]++[Au Ia])∧A0 ([Au C6]++[Au Ia])=Fv (A0 [Au C6]) Ia:=
 Vr oI (by decide) (by decide) Ws.2.1 (by rw[Wt];decide)
theorem oK:A0 ([Au C6]++[Au Ia])=[Ia]:=by
 have h:=Q2.2.2;rw[To] at h;exact h
theorem oL:F8 (A6 10000 [Au C6]) (Bh [Au C6]) (A0 [Au C6]) 7 2 0=⟨A6 10000 ([Au C6]++[Au Ia]),Bh ([Au C6]++[Au Ia]),A0 ([Au C6]++[Au Ia]),0⟩:=by
 have h:=Q2.1;rw[←h,To];rfl
theorem Wu:Bd ([Au C6]++[Au Ia])=36:=by
 rw[R5,Wt];rfl
theorem K3.behind{w0 w w':World}{base b bm L V:Nat}{r:Pg}(h:K3 base b bm L V r w w')(hf:Fp [] w0 w)(hb:w0.heap.size≤base)(h1:w0.heap.size≤b)(h2:w0.heap.size≤bm)(h3:w0.heap.size≤L)(h4:w0.heap.size≤V):Fp [] w0 w':=by
 refine h.2.onto hf hb ?_;intro i hi;right;simp only[List.mem_cons,List.not_mem_nil,or_false] at hi;omega
theorem bN(w:World)(hp:Jt w)(ht:B0 w)(hz:Gw w):Calls Tryz.prog 10 #[] w fun e w'=>e=.returned (.bool true)∧Fp [] w w':=by
 have HP:=a0z hp;have HT:=a0z ht;have HZ:=a0z hz;have hfa:=Fp.alloc w (.cells #[.string ⟨#[109]⟩] 9)
 have hst:Fj (w.alloc (.cells #[.string ⟨#[109]⟩] 9)) (some ⟨w.heap.size,0,none⟩) 1 [Na]:=⟨rfl,Or.inr ⟨w.heap.size,0,rfl,fun i hi=>by
  have:i=0:=by simpa using hi
  subst this
  rw[Aa (Aj rfl _)];rfl⟩,by intro s hs;rw[List.mem_singleton.1 hs];decide⟩
 have HMK:=a0z (mS (w.alloc (.cells #[.string ⟨#[109]⟩] 9)) Nz 9 2 9 3 (some ⟨w.heap.size,0,none⟩) 1 1 [Na] (by decide) (by rw[bE];decide) hst (by decide) (by decide) (by decide) (by decide) ⟨hp.mx.fp hfa (by simp),hp.er.fp hfa (by simp) (by simp)⟩ (ht.fp hfa (by simp)));have HFA:=a0z hfa;unfold Nz at HMK;clear hp ht hz hfa hst;go_enter Tryz.func10,Tryz.ntmps10;go_wp2_with (fail);(with_reducible refine HMK.out.mono ?_);rintro e w1 ⟨hf1,he⟩
 have he:∃a c sa sn sc,e=.returned (.tuple #[.agg #[.int .u32 (D1 0 Nz),.int .u64 3,.slice a 2 c,.slice sa sn sc],.int .i64 0]):=by
  rcases he with⟨files,vF,vS,rfl,hm,ho,ho2⟩|⟨x,hx,_,hm⟩
  ·have h2:=(bH hm).2;obtain⟨⟨a,c,e1⟩,-⟩:=ho.at;obtain⟨⟨sa,sc,e2⟩,-⟩:=ho2.at;rw[List.length_map,h2] at e1;subst e1;subst e2;exact⟨_,_,_,_,_,rfl⟩
  ·exact absurd (bH hm).1 hx
 obtain⟨a,c,sa,sn,sc,rfl⟩:=he
 obtain⟨sum,hsum⟩:∃n,D1 0 Nz=n:=⟨_,rfl⟩
 rw[hsum];have HF1:=a0z (HFA.out.trans hf1 (by simp));clear hf1 hsum;go_wp2_with (fail)
 obtain⟨w2,hw2⟩:∃x,w1.alloc (.cells #[.int .u32 sum,.int .u64 3,.slice a 2 c,.slice sa sn sc] 29)=x:=⟨_,rfl⟩
 have hf2:Fp [] w w2:=by rw[←hw2];exact HF1.out.alloc' _
 have hb2:w2.heap[w1.heap.size]?=some (.cells #[.int .u32 sum,.int .u64 3,.slice a 2 c,.slice sa sn sc] 29 (0,0)):=by rw[←hw2];exact Aj rfl _
 have hp1:w.heap.size≤w1.heap.size:=HF1.out.size
 obtain⟨q,hq⟩:∃q,w1.heap.size=q:=⟨_,rfl⟩
 rw[hq] at hb2 hp1
 try rw[hq]
 try rw[hw2]
 have HF2:=a0z hf2;have HB2:=a0z hb2;clear hw2 hf2 hb2 hq HF1 HMK;go_wp2_with (fail);(with_reducible refine(hO 10000 _).mono ?_);rintro e w3 ⟨rfl,hd3,hf3⟩;have hq3:=Ab HB2.out;have HF3:=a0z (HF2.out.trans hf3 (by simp));have HB3:=a0z ((hf3.block _ (Ab HB2.out) (by simp)).trans HB2.out)
 obtain⟨bm,hbm⟩:∃x,w2.heap.size=x:=⟨_,rfl⟩
 have hbmw:w.heap.size≤bm:=by rw[←hbm];exact HF2.out.size
 rw[hbm] at hd3 hq3
 try rw[hbm]
 have HO3:=a0z (V9 w3 (bm+1) bm (Dk.new 10000) (A6 10000 []) [] hd3 (Ap.new (by decide)) (HT.out.fp HF3.out (by simp)) (by decide) (jD (by decide)) (by intro t ht;cases ht) (by decide));clear hd3 hf3 hbm;go_wp2_with (fail);(with_reducible refine HO3.out.mono ?_);rintro e w4 ⟨L,V,v,rfl,hD4,hL4,hV4,hf4⟩;have hw3:w.heap.size≤w3.heap.size:=HF3.out.size;have hq4:q<w3.heap.size:=Ab HB3.out;have HF4:Hid (Fp [] w w4):=a0z (HF3.out.trans hf4 (by intro i hi;right;simp at hi;omega));have HB4:=a0z ((hf4.block _ (Ab HB3.out) (by simp;omega)).trans HB3.out);have HD4:Hid (Dc w4 w3.heap.size (bm+1) bm L V v (A6 10000 []) (Bh []) (A0 [])):=a0z hD4;have HS4:=a0z (aM w4 w3.heap.size (bm+1) bm L V v (A6 10000 []) (Bh []) (A0 []) 7 Q1 HD4.out (Qh (by decide) (by decide)) (by decide) (by decide) (HT.out.fp HF4.out (by simp)) (by decide) (by decide) (by decide));rw[oJ,show((7:Nat):Int)=7 from rfl] at HS4;unfold Q1 at HS4;clear hD4 hf4 HO3;go_wp2_with (fail);(with_reducible refine HS4.out.mono ?_);rintro e w5 ⟨rfl,ht5⟩;have HF5:=a0z (ht5.behind HF4.out (by omega) (by omega) hbmw (by omega) (by omega))
 have hnL:q≠L∧q≠V:=by omega
 have HB5:=a0z (ht5.2.low (Ab HB4.out) hq4 (by simp;omega) |>.trans HB4.out);obtain⟨⟨v5,hD5⟩,-⟩:=ht5;have HD5:=a0z hD5;have HM5:=a0z (aN w5 w3.heap.size (bm+1) bm L V v5 (A6 10000 [Au C6]) (Bh [Au C6]) (A0 [Au C6]) 7 2 0 hD5 (Qh (by decide) (by rw[Wt];decide)) (by rw[To];intro j hj;rw[List.mem_singleton.1 hj];exact bM) (by decide) (by decide) (by decide) (by decide) (HT.out.fp HF5.out (by simp)) (by decide) (by decide) (by rw[To];decide));rw[oL,show((7:Nat):Int)=7 from rfl] at HM5;clear hD5 HS4;go_wp2_with (fail);(with_reducible refine HM5.out.mono ?_);rintro e w6 ⟨rfl,ht6⟩;have HF6:=a0z (ht6.behind HF5.out (by omega) (by omega) hbmw (by omega) (by omega));have HB6:=a0z (ht6.2.low (Ab HB5.out) hq4 (by simp;omega) |>.trans HB5.out);obtain⟨⟨v6,hD6⟩,-⟩:=ht6;have HO6:=a0z (V9 w6 (bm+1) bm _ _ _ hD6.disk (Qh (by decide) (by rw[Wu];decide)) (HT.out.fp HF6.out (by simp)) (by rw[jB,Wu];decide) (jC (c:=10000) Q2.2.1 (by rw[Wu];decide)) (fun t ht=>⟨(Q2.2.1 t ht).1,by have:=(Q2.2.1 t ht).2;omega⟩) (by decide));rw[oK] at HO6;clear hD6 HM5;go_wp2_with (fail);(with_reducible refine HO6.out.mono ?_);rintro e w7 ⟨L7,V7,v7,rfl,hD7,hL7,hV7,hf7⟩;have hw6:w.heap.size≤w6.heap.size:=HF6.out.size;have HF7:Hid (Fp [] w w7):=a0z (HF6.out.trans hf7 (by intro i hi;right;simp at hi;omega));have HB7:=a0z ((hf7.block _ (Ab HB6.out) (by simp;omega)).trans HB6.out);have HD7:=a0z hD7;have HJ7:=a0z (fun W (hf:Fp [] w7 W)=>lZ W w6.heap.size V7 L7 v7 [Ia] (hD7.drv.fp hf (by simp)) (hD7.own.fp hf (by simp)) (by decide));have r2:w7.cell? ⟨q,2,none⟩=some (.slice a 2 c):=Aa HB7.out 2;clear hD7 hf7 HO6;go_wp2_with (fail);(with_reducible refine(HJ7.out _ (Fp.refl _ _)).mono ?_);rintro e w8 ⟨v8,rfl,ho8,hf8⟩;obtain⟨g8,c8,rfl,-,-,-⟩:=Qx ho8 (i:=0) (by decide);have HF8:=a0z hf8;clear ho8 hf8;go_wp2_with (fail);(with_reducible refine(HJ7.out _ HF8.out).mono ?_);rintro e w9 ⟨v9,rfl,ho9,hf9⟩;obtain⟨g9,c9,rfl,hg9,-,hc9⟩:=Qx ho9 (i:=0) (by decide);obtain⟨-,k1,-,-⟩:=hc9 w9 (Fp.refl _ _);have k1:w9.cell? ⟨g9,1,none⟩=some (.int .i64 2):=k1;have HF9:=a0z (HF8.out.trans hf9 (by simp));have HN9:=a0z (Wj 255 1 2 (by decide) (by decide) (by decide) w9 (HZ.out.fp (HF7.out.trans HF9.out (by simp)) (by simp)));rw[nJ,show((255:Nat):Int)=255 from rfl,show((1:Nat):Int)=1 from rfl,show((2:Nat):Int)=2 from rfl] at HN9;clear ho9 hf9 hc9;go_wp2_with (fail);(with_reducible refine HN9.out.mono ?_);rintro e w10 ⟨rfl,hf10⟩;have HF10:=a0z ((HF7.out.trans HF9.out (by simp)).trans hf10 (by simp));clear hf10;go_wp2_with (fail);go_ret;exact⟨rfl,HF10.out⟩
end
section
open Go.ChangeShapes Go.WideShapes Go.ChangeAt Go.RowKit
section
variable {H : Type} {enc : TypeId × Value → H}
theorem oM{a:Assume}{C:Checked}{os:Os}{f:FuncId}{fn:Func}{s:ChangeSpec}{conds:List PathCond}{apart fresh handsOn again:Bool}{X:World→Array Value→Prop}
  (own:ownKnob C.prog.godebug=none)(started:os.Started)(noInit:C.prog.inits.idxOf? f=none)(hfn:C.prog.funcs[f]?=some fn)
  (witness:∃(w:World) (tape:Tape) (i:Input),w.os=os∧(w.forCall tape i).Shaped C.prog∧i.vars=[]∧Input.okWide C.prog (w.forCall tape i) .any w.heap.size f i∧
   ((s.pre enc C.prog fn conds apart (w.forCall tape i).memory i.args∧X (w.forCall tape i).memory i.args)∧sizedMet enc C.prog fn (OpenSpec.ofChange s) apart (w.forCall tape i).memory i.args)∧a.holds C.prog (lone (Frame.enter C.prog f i.args .normal) [] (w.forCall tape i)))
  (contract:∀(W:World) (args:Array Value) (ds gs:List (DataW H)) (before:List MemPlace),
   (∀(j:Nat) t v,fn.params[j]?=some t→args[j]?=some v→∃base,Value.okWide C.prog W .any base t v)→
   DataW.Whole enc C.prog fn.params.toList s.vars apart W args.toList ds gs before→W.ShapedOpen C.prog→X W.memory args→
   Calls C.prog f args W fun e W'=>∃v,e=.returned v∧s.post enc C.prog fn apart fresh handsOn again W args v W'):
  ReturnsInHanded a C os f .any (fun w args=>(s.pre enc C.prog fn conds apart w args∧X w args)∧sizedMet enc C.prog fn (OpenSpec.ofChange s) apart w args) (s.post enc C.prog fn apart fresh handsOn again):=by
 refine returnsInHanded_of_calls own started noInit witness ?_;intro w tape i _ hsh _ hok hpre _;obtain⟨_,_,_,fn',hfn',_,_,_,_,hval⟩:=hok;have e:fn'=fn:=Option.some.inj (hfn'.symm.trans hfn);subst e;obtain⟨⟨⟨ds,gs,before,hw,_⟩,hx⟩,_⟩:=hpre;have hw':=DataW.Whole.of_heap (w':=w.forCall tape i) (by rfl) hw
 refine(contract (w.forCall tape i) i.args ds gs before (fun j t v h1 h2=>⟨_,hval j t v h1 h2⟩) hw' hsh hx).mono fun e W' ⟨v,he,hp⟩=>?_
 subst he;exact ChangeSpec.post_blind hp
end
theorem bO: "*" ++ "errors.errorString" = "*errors.errorString" :=by decide
theorem bP(u:TypeId)(h:Tryz.prog.typeName? 3 u=some "*errors.errorString"):u=350:=
 typeName_ptr_named (nm:= "errors.errorString") (by rw[bO];kernel_rfl) (by kernel_rfl) (by decide) u (by rw[bO];exact h)
theorem oN{W:World}{x1 x2:List UInt8}{r:List (String × DataW Unit)}(h:laidMet Tryz.prog (("strconv.ErrRange",.iface "*errors.errorString" (.ptr (.agg [.lit (.string x1)])))::("strconv.ErrSyntax",.iface "*errors.errorString" (.ptr (.agg [.lit (.string x2)])))::r) W):Oc W:=by
 obtain⟨a1,s1,hv1,_⟩:=laid_sentinel h (show Tryz.prog.globalNamed "strconv.ErrRange" =some 4 by kernel_rfl) (show(Tryz.prog.globals[4]?).map (·.type)=some 136 by kernel_rfl) Tryz.underlying136 bP Tryz.underlying350 Tryz.underlying352 rfl rfl Tryz.underlying9 (by kernel_rfl) (by kernel_rfl);obtain⟨a2,s2,hv2,_⟩:=laid_sentinel h.tail (show Tryz.prog.globalNamed "strconv.ErrSyntax" =some 3 by kernel_rfl) (show(Tryz.prog.globals[3]?).map (·.type)=some 136 by kernel_rfl) Tryz.underlying136 bP Tryz.underlying350 Tryz.underlying352 rfl rfl Tryz.underlying9 (by kernel_rfl) (by kernel_rfl);exact⟨⟨_,_,by simpa using World.var?_cell (show Tryz.prog.globalNamed "strconv.ErrSyntax" =some 3 by kernel_rfl) hv2 0⟩,⟨_,_,by simpa using World.var?_cell (show Tryz.prog.globalNamed "strconv.ErrRange" =some 4 by kernel_rfl) hv1 0⟩⟩
theorem oO{W:World}{x1 x2:List UInt8}{r:List (String × DataW Unit)}(hsh:W.ShapedOpen Tryz.prog)(h:laidMet Tryz.prog (("strconv.ErrRange",.iface "*errors.errorString" (.ptr (.agg [.lit (.string x1)])))::("strconv.ErrSyntax",.iface "*errors.errorString" (.ptr (.agg [.lit (.string x2)])))::r) W.memory):Jt W:=by
 have he:=oN h;exact⟨vY hsh,he.sy,he.rg⟩
end
section
open Go.RowKit Go.Lib
def Ft:Nat→Nat→List UInt8
 |0,_=>[]
 |k+1,u=>Cm (u/16^k)::Ft k (u%16^k)
theorem Pn:∀(k u:Nat),(Ft k u).length=k
 |0,_=>rfl
 |k+1,u=>by show(Ft k _).length+1=k+1;rw[Pn]
theorem oP:∀(k u:Nat),u<16^(k+1)→Ft (k+1) u=Ft k (u/16)++[Cm (u%16)]:=by
 intro k
 induction k with
 |zero=>
  intro u hu
  have h1:u<16:=by simpa using hu
  show[Cm (u/16^0)]=[]++[Cm (u%16)]
  rw[Nat.pow_zero,Nat.div_one,Nat.mod_eq_of_lt h1];rfl
 |succ k ih=>
  intro u hu;have hp:0<16^(k+1):=Nat.pow_pos (by decide);show Cm (u/16^(k+1))::Ft (k+1) (u%16^(k+1))=Cm (u/16/16^k)::(Ft k (u/16%16^k)++[Cm (u%16)])
  have e1:u/16/16^k=u/16^(k+1):=by rw[Nat.div_div_eq_div_mul,a0x,Nat.mul_comm]
  have e2:u%16^(k+1)/16=u/16%16^k:=by
   rw[a0x,Nat.mul_comm,Nat.mod_mul_right_div_self]
  have e3:u%16^(k+1)%16=u%16:=by
   rw[a0x,Nat.mod_mul_left_mod]
  rw[ih _ (a0v _ hp),e1,e2,e3]
theorem bQ:∀(k:Nat),Ft k 0=List.replicate k 48
 |0=>rfl
 |k+1=>by
  show Cm (0/16^k)::Ft k (0%16^k)=_;rw[Nat.zero_div,Nat.zero_mod,bQ k];rfl
theorem bR:∀(k u:Nat),u<16^k→1≤k→List.replicate (k-(C5 u).length) 48++C5 u=Ft k u
 |0,_,_,h=>absurd h (by decide)
 |k+1,u,hu,_=>by
  rw[oP k u hu]
  by_cases h:u<16
  ·rw[Pm h,Nat.div_eq_of_lt h,bQ,Nat.mod_eq_of_lt h];rfl
  ·rw[Tm h,List.length_append,List.length_singleton,←List.append_assoc]
   have hk:1≤k:=by
    rcases Nat.eq_zero_or_pos k with rfl|h1
    ·simp at hu;omega
    ·exact h1
   have hu2:u/16<16^k:=by rw[a0x] at hu;omega
   rw[show k+1-((C5 (u/16)).length+1)=k-(C5 (u/16)).length by omega,bR k (u/16) hu2 hk]
theorem Wv{u k:Nat}(hu:u<16^k)(hk:1≤k):Hr u k=bl (Ft k u):=by
 unfold Hr Jk;rw[←bR k u hu hk];show _ ++bl (C5 u)=_;rw[←Nv];congr 1
theorem oQ:∀a,a<16→∀b,b<16→(Cm a<Cm b↔a<b):=by decide
theorem bS:∀a,a<16→∀b,b<16→(Cm a=Cm b↔a=b):=by decide
theorem oR{u v p:Nat}(h1:u/p=v/p)(h2:u%p=v%p):u=v:=by rw[←Nat.div_add_mod u p,←Nat.div_add_mod v p,h1,h2]
theorem bT:∀(k u v:Nat) (X Y:List UInt8),u<16^k→v<16^k→Op.bytesLess (Ft k u++X) (Ft k v++Y)=if u=v then Op.bytesLess X Y else decide (u<v)
 |0,u,v,X,Y,hu,hv=>by
  have e:u=v:=by simp at hu hv;omega
  rw[if_pos e];rfl
 |k+1,u,v,X,Y,hu,hv=>by
  have hp:0<16^k:=Nat.pow_pos (by decide);have ha:u/16^k<16:=a0w (by rw[a0x] at hu;exact hu);have hb:v/16^k<16:=a0w (by rw[a0x] at hv;exact hv);show(decide (Cm (u/16^k)<Cm (v/16^k))||(Cm (u/16^k)==Cm (v/16^k)&&Op.bytesLess (Ft k (u%16^k)++X) (Ft k (v%16^k)++Y)))=_;rw[bT k _ _ X Y (a0v _ hp) (a0v _ hp)];have hd:=oQ _ ha _ hb;have hi:=bS _ ha _ hb;have du:=Nat.div_add_mod' u (16^k);have dv:=Nat.div_add_mod' v (16^k);have mu:=a0v u hp;have mv:=a0v v hp
  rcases Nat.lt_trichotomy (u/16^k) (v/16^k) with h|h|h
  ·have hlt:u<v:=by
    have h3:(u/16^k+1)*16^k≤(v/16^k)*16^k:=Nat.mul_le_mul_right _ h;rw[Nat.succ_mul] at h3;omega
   have hR:(if u=v then Op.bytesLess X Y else decide (u<v))=true:=by rw[if_neg (by omega)];exact decide_eq_true hlt
   rw[hR,decide_eq_true (hd.2 h)];rfl
  ·have e1:(Cm (u/16^k)==Cm (v/16^k))=true:=by rw[h];simp
   have e2:decide (Cm (u/16^k)<Cm (v/16^k))=false:=decide_eq_false (fun h2=>by have:=hd.1 h2;omega);rw[e1,e2,Bool.false_or,Bool.true_and];rw[h] at du
   by_cases hm:u%16^k=v%16^k
   ·rw[if_pos hm,if_pos (by omega)]
   ·rw[if_neg hm,if_neg (by omega)];congr 1;exact propext ⟨fun _=>by omega,fun _=>by omega⟩
  ·have hlt:v<u:=by
    have h3:(v/16^k+1)*16^k≤(u/16^k)*16^k:=Nat.mul_le_mul_right _ h;rw[Nat.succ_mul] at h3;omega
   have e1:(Cm (u/16^k)==Cm (v/16^k))=false:=beq_eq_false_iff_ne.2 (fun h2=>by have:=hi.1 h2;omega);have e2:decide (Cm (u/16^k)<Cm (v/16^k))=false:=decide_eq_false (fun h2=>by have:=hd.1 h2;omega)
   have hR:(if u=v then Op.bytesLess X Y else decide (u<v))=false:=by rw[if_neg (by omega)];exact decide_eq_false (by omega)
   rw[hR,e1,e2];rfl
theorem Tq:∀(k u v:Nat),u<16^k→v<16^k→Ft k u=Ft k v→u=v
 |0,u,v,hu,hv,_=>by simp at hu hv;omega
 |k+1,u,v,hu,hv,h=>by
  have hp:0<16^k:=Nat.pow_pos (by decide);have ha:u/16^k<16:=a0w (by rw[a0x] at hu;exact hu);have hb:v/16^k<16:=a0w (by rw[a0x] at hv;exact hv);obtain⟨h1,h2⟩:=List.cons.inj h;exact oR ((bS _ ha _ hb).1 h1) (Tq k _ _ (a0v _ hp) (a0v _ hp) h2)
def Jl(id ep k:Nat):List UInt8:=115::(Ft 16 id++(45::(Ft 16 ep++(45::Ft 4 k))))
theorem bU{id ep k:Nat}(h1:id<18446744073709551616)(h2:ep<18446744073709551616)(h3:k<65536):K6 id ep k=bl (Jl id ep k):=by
 unfold K6 Jl;rw[Wv (by simpa using h1) (by decide),Wv (by simpa using h2) (by decide),Wv (by simpa using h3) (by decide)];rw[show(⟨#[115]⟩:ByteArray)=bl [115] from rfl,show(⟨#[45]⟩:ByteArray)=bl [45] from rfl];simp only[Nv,List.append_assoc];rfl
theorem bV(id ep k:Nat):(Jl id ep k).length=39:=by
 unfold Jl;simp only[List.length_cons,List.length_append,Pn]
theorem oS{a b ep ot k l:Nat}(ha:a<18446744073709551616)(hb:b<18446744073709551616)(he:ep<18446744073709551616)(ho:ot<18446744073709551616)(hk:k<65536)(hl:l<65536)
  (h:Jl a ep k=Jl b ot l):a=b∧ep=ot∧k=l:=by
 unfold Jl at h;have h1:=(List.cons.inj h).2;obtain⟨e1,h2⟩:=List.append_inj h1 (by rw[Pn,Pn]);obtain⟨e2,h3⟩:=List.append_inj (List.cons.inj h2).2 (by rw[Pn,Pn]);exact⟨Tq 16 a b (by simpa using ha) (by simpa using hb) e1,Tq 16 ep ot (by simpa using he) (by simpa using ho) e2,Tq 4 k l (by simpa using hk) (by simpa using hl) (List.cons.inj h3).2⟩
theorem oT{a b ep ot k l:Nat}(ha:a<18446744073709551616)(hb:b<18446744073709551616)(hne:a≠b):Op.bytesLess (Jl a ep k) (Jl b ot l)=decide (a<b):=by
 unfold Jl;show(decide ((115:UInt8)<115)||((115:UInt8)==115&&Op.bytesLess (Ft 16 a++_) (Ft 16 b++_)))=_;rw[bT 16 a b _ _ (by simpa using ha) (by simpa using hb),if_neg hne];rfl
def bW:List Int:=[0,1,56,2,57,49,28,3,61,58,42,50,38,29,17,4,62,47,59,36,45,43,51,22,53,39,33,30,24,18,12,5,63,55,48,27,60,41,37,16,46,35,44,21,52,32,23,11,54,26,40,15,34,20,31,10,25,14,19,9,13,8,7,6]
theorem oU{W:World}{r:List (String × DataW Unit)}(h:laidMet Tryz.prog (("math/bits.deBruijn64tab",tabData .u8 bW)::r) W.memory):Gw W:=by
 have ht:TabIs Tryz.prog W.memory "math/bits.deBruijn64tab" .u8 bW:=tabIs_of_head (show Tryz.prog.globalNamed "math/bits.deBruijn64tab" =some 6 by kernel_rfl) (show(Tryz.prog.globals[6]?).map (·.type)=some 349 by kernel_rfl) Tryz.underlying349 Tryz.underlying5 (by kernel_rfl) (by kernel_rfl) h;exact ht.cell (g:=6) (by kernel_rfl) 15 (by decide)
end
section
open Go.RowKit Go.Lib
theorem Po{a b:Nat}(h:a=b):((a:Int)==(b:Int))=true:=by subst h;simp
theorem N5{a b:Nat}(h:¬a=b):((a:Int)==(b:Int))=false:=beq_eq_false_iff_ne.2 (by omega)
structure oV(x y:ByteArray)(a b ep ot k l:Nat):Prop where
 hx:x.size=39
 hy:y.size=39
 h0:A1 x 0=115
 eq:(x.toList==y.toList)=(((a:Int)==(b:Int))&&(((ep:Int)==(ot:Int))&&((k:Int)==(l:Int))))
 lt:a≠b→Op.bytesLess x.toList y.toList=decide (a<b)
theorem oW{a b ep ot k l:Nat}(ha:a<18446744073709551616)(hb:b<18446744073709551616)(he:ep<18446744073709551616)(ho:ot<18446744073709551616)(hk:k<65536)(hl:l<65536):
  oV (K6 a ep k) (K6 b ot l) a b ep ot k l:=by
 rw[bU ha he hk,bU hb ho hl]
 have t1:∀l:List UInt8,(bl l).toList=l:=fun l=>by rw[ByteArray.toList_eq];exact Qr l
 refine⟨by rw[Ef,bV],by rw[Ef,bV],by rw[J6];rfl,?_,fun hne=>by rw[t1,t1];exact oT ha hb hne⟩;rw[t1,t1]
 by_cases h:Jl a ep k=Jl b ot l
 ·obtain⟨rfl,rfl,rfl⟩:=oS ha hb he ho hk hl h;simp
 ·rw[beq_eq_false_iff_ne.2 h]
  by_cases h1:a=b
  ·by_cases h2:ep=ot
   ·by_cases h3:k=l
    ·subst h1;subst h2;subst h3;exact absurd rfl h
    ·rw[N5 h3];simp
   ·rw[N5 h2];simp
  ·rw[N5 h1];rfl
theorem oY(w:World)(a b ep ot k l:Nat)(ha:a<18446744073709551616)(hb:b<18446744073709551616)(he:ep<18446744073709551616)(ho:ot<18446744073709551616)(hk:k<65536)(hl:l<65536)(hp:Jt w)(ht:B0 w)(hz:Gw w):
  Calls Tryz.prog 6 #[.int .u64 a,.int .u64 b,.int .u64 ep,.int .u64 ot,.int .u16 k,.int .u16 l] w fun e w'=>e=.returned (.bool true)∧Fp [] w w':=by
 have HN1:=a0z (Wj a ep k ha he hk w hz);have HN2:=a0z (fun w hz=>Wj b ot l hb ho hl w hz);have hnm:=oW ha hb he ho hk hl
 obtain⟨x,hx⟩:∃x,K6 a ep k=x:=⟨_,rfl⟩
 obtain⟨y,hy⟩:∃x,K6 b ot l=x:=⟨_,rfl⟩
 rw[hx] at HN1 hnm;rw[hy] at HN2 hnm;obtain⟨sx,sy,hx0,heq,hlt⟩:=hnm
 have p0:0<x.size:=by omega
 have e0:x[0]=115:=(Lh x 0 p0).trans hx0;have HSH:=a0z (fun W (hf:Fp [] w W)=>bN W ⟨hp.mx.fp hf (by simp),hp.er.fp hf (by simp) (by simp)⟩ (ht.fp hf (by simp)) (hz.fp hf (by simp)));have HZ:=a0z hz;clear hx hy hx0 hp ht hz ha hb he ho hk hl
 have hc:(a=b∧ep=ot∧k=l)∨(a=b∧ep=ot∧¬k=l)∨(a=b∧¬ep=ot)∨(¬a=b∧a<b)∨(¬a=b∧¬a<b):=by omega
 rcases hc with⟨c1,c2,c3⟩|⟨c1,c2,c3⟩|⟨c1,c2⟩|⟨c1,c2⟩|⟨c1,c2⟩
 ·have q1:=Po c1;have q2:=Po c2;have q3:=Po c3;rw[q1,q2,q3] at heq
  change (x.toList==y.toList)=true at heq
  clear hlt c1 c2 c3;go_enter Tryz.func6,Tryz.ntmps6;go_wp2_with (fail);(with_reducible refine HN1.out.mono ?_);rintro e w1 ⟨rfl,hf1⟩;have HF1:=a0z hf1;clear hf1;go_wp2_with (fail);(with_reducible refine(HN2.out _ (HZ.out.fp HF1.out (by simp))).mono ?_);rintro e w2 ⟨rfl,hf2⟩;have HF2:=a0z (HF1.out.trans hf2 (by simp));clear hf2;go_wp2_with (fail);(with_reducible refine(HSH.out _ HF2.out).mono ?_);rintro e w3 ⟨rfl,hf3⟩;have HF3:=a0z (HF2.out.trans hf3 (by simp));clear hf3;go_wp2_with (fail);go_ret;exact⟨rfl,HF3.out⟩
 ·have q1:=Po c1;have q2:=Po c2;have q3:=N5 c3;rw[q1,q2,q3] at heq
  change (x.toList==y.toList)=false at heq
  clear hlt c1 c2 c3;go_enter Tryz.func6,Tryz.ntmps6;go_wp2_with (fail);(with_reducible refine HN1.out.mono ?_);rintro e w1 ⟨rfl,hf1⟩;have HF1:=a0z hf1;clear hf1;go_wp2_with (fail);(with_reducible refine(HN2.out _ (HZ.out.fp HF1.out (by simp))).mono ?_);rintro e w2 ⟨rfl,hf2⟩;have HF2:=a0z (HF1.out.trans hf2 (by simp));clear hf2;go_wp2_with (fail);(with_reducible refine(HSH.out _ HF2.out).mono ?_);rintro e w3 ⟨rfl,hf3⟩;have HF3:=a0z (HF2.out.trans hf3 (by simp));clear hf3;go_wp2_with (fail);go_ret;exact⟨rfl,HF3.out⟩
 ·have q1:=Po c1;have q2:=N5 c2;rw[q1,q2] at heq
  change (x.toList==y.toList)=false at heq
  clear hlt c1 c2;go_enter Tryz.func6,Tryz.ntmps6;go_wp2_with (fail);(with_reducible refine HN1.out.mono ?_);rintro e w1 ⟨rfl,hf1⟩;have HF1:=a0z hf1;clear hf1;go_wp2_with (fail);(with_reducible refine(HN2.out _ (HZ.out.fp HF1.out (by simp))).mono ?_);rintro e w2 ⟨rfl,hf2⟩;have HF2:=a0z (HF1.out.trans hf2 (by simp));clear hf2;go_wp2_with (fail);(with_reducible refine(HSH.out _ HF2.out).mono ?_);rintro e w3 ⟨rfl,hf3⟩;have HF3:=a0z (HF2.out.trans hf3 (by simp));clear hf3;go_wp2_with (fail);go_ret;exact⟨rfl,HF3.out⟩
 ·have q1:=N5 c1;rw[q1] at heq
  change (x.toList==y.toList)=false at heq
  have hl2:=hlt c1;rw[decide_eq_true c2] at hl2
  have z:(a:Int)<(b:Int):=by omega
  clear hlt c1 c2;go_enter Tryz.func6,Tryz.ntmps6;go_wp2_with (fail);(with_reducible refine HN1.out.mono ?_);rintro e w1 ⟨rfl,hf1⟩;have HF1:=a0z hf1;clear hf1;go_wp2_with (fail);(with_reducible refine(HN2.out _ (HZ.out.fp HF1.out (by simp))).mono ?_);rintro e w2 ⟨rfl,hf2⟩;have HF2:=a0z (HF1.out.trans hf2 (by simp));clear hf2;go_wp2_with (fail);(with_reducible refine(HSH.out _ HF2.out).mono ?_);rintro e w3 ⟨rfl,hf3⟩;have HF3:=a0z (HF2.out.trans hf3 (by simp));clear hf3;go_wp2_with (fail);go_ret;exact⟨rfl,HF3.out⟩
 ·have q1:=N5 c1;rw[q1] at heq
  change (x.toList==y.toList)=false at heq
  have hl2:=hlt c1;rw[decide_eq_false c2] at hl2
  have z:¬(a:Int)<(b:Int):=by omega
  clear hlt c1;go_enter Tryz.func6,Tryz.ntmps6;go_wp2_with (fail);(with_reducible refine HN1.out.mono ?_);rintro e w1 ⟨rfl,hf1⟩;have HF1:=a0z hf1;clear hf1;go_wp2_with (fail);(with_reducible refine(HN2.out _ (HZ.out.fp HF1.out (by simp))).mono ?_);rintro e w2 ⟨rfl,hf2⟩;have HF2:=a0z (HF1.out.trans hf2 (by simp));clear hf2;go_wp2_with (fail);(with_reducible refine(HSH.out _ HF2.out).mono ?_);rintro e w3 ⟨rfl,hf3⟩;have HF3:=a0z (HF2.out.trans hf3 (by simp));clear hf3;go_wp2_with (fail);go_ret;exact⟨rfl,HF3.out⟩
theorem Aah(w:World)(a b ep ot k l:Int)(a0:0≤a)(a1:a≤18446744073709551615)(b0:0≤b)(b1:b≤18446744073709551615)(e0:0≤ep)(e1:ep≤18446744073709551615)(o0:0≤ot)(o1:ot≤18446744073709551615)(k0:0≤k)(k1:k≤65535)(l0:0≤l)(l1:l≤65535)(hp:Jt w)(ht:B0 w)(hz:Gw w):
  Calls Tryz.prog 6 #[.int .u64 a,.int .u64 b,.int .u64 ep,.int .u64 ot,.int .u16 k,.int .u16 l] w fun e w'=>e=.returned (.bool true)∧Fp [] w w':=by
 obtain⟨a,rfl⟩:∃n:Nat,a=n:=⟨a.toNat,by omega⟩
 obtain⟨b,rfl⟩:∃n:Nat,b=n:=⟨b.toNat,by omega⟩
 obtain⟨ep,rfl⟩:∃n:Nat,ep=n:=⟨ep.toNat,by omega⟩
 obtain⟨ot,rfl⟩:∃n:Nat,ot=n:=⟨ot.toNat,by omega⟩
 obtain⟨k,rfl⟩:∃n:Nat,k=n:=⟨k.toNat,by omega⟩
 obtain⟨l,rfl⟩:∃n:Nat,l=n:=⟨l.toNat,by omega⟩
 exact oY w a b ep ot k l (by omega) (by omega) (by omega) (by omega) (by omega) (by omega) hp ht hz
end
end Go.Proofs.YtkagolpnaicdoaaGreatDoor
