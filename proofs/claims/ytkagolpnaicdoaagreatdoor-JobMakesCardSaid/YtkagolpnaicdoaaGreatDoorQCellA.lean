/- Lemmas. -/
import Derived.Test.YtkagolpnaicdoaaGreatDoorRows
import Derived.Test.YtkagolpnaicdoaaGreatDoorQShelf
import Derived.Test.YtkagolpnaicdoaaGreatDoorQCellPure
import Derived.Deep.RegionHeld3
import Derived.Deep.DrawnRows
import Derived.Test.YtkagolpnaicdoaaGreatDoorQRegion
import Derived.Lib.AppendZeros
import Derived.Laws.AppendOwnNone
import Derived.Deep.AppendLies
import Derived.Laws.DeepStrings4
import Derived.Laws.Cover1
set_option maxRecDepth 100000
set_option maxHeartbeats 8000000
open Go.Lib renaming hid->Z
open List renaming getElem?_eq_getElem->a0z,getD_eq_getElem?_getD->a0w,length_append->a0v,setIfInBounds_toArray->a1z,set_cons_succ->a2z,set_cons_zero->a2x,range->a2w,getElem?_map->a2v,take_of_length_le->a2u,take_succ_eq_append_getElem->a3z,eq_nil_of_length_eq_zero->a3x,length_cons->a3v,append_nil->a4z
open UInt8 renaming ofNat->a0x,toNat_ofNat'->a0u,lt_irrefl->a1u
open Nat renaming lt_trichotomy->a1x,mod_eq_of_lt->a1w,le_refl->a1v,pos_of_ne_zero->a3w,pow_succ->a3u
namespace Go.Proofs.YtkagolpnaicdoaaGreatDoor
section
open Go.RowKit
theorem gI{s:ByteArray}(h:s.size=0):s=⟨#[]⟩:=by
 obtain⟨⟨l⟩⟩:=s
 cases l with
 |nil=>rfl
 |cons a r=>cases h
theorem gJ(s:ByteArray)(w:World)(c:s.size≤9223372036854775807):Calls Tryz.prog 224 #[.string s] w fun e w'=>e=.returned (.bool (Jg s))∧w=w':=by
 by_cases a:s.size=0
 .have H:=Z (uI a);obtain rfl:=gI a;clear a;go_in;go_wp2;go_ret;exact⟨by rw[H.o];rfl,rfl⟩
 .have d:=Nw (a3w a);by_cases b:s.size<=40
  .have H:=Z (uJ a b);clear a;go_in;go_wp2;go_ret;exact⟨G9 (by rw[H.o];simp;omega),rfl⟩
  .have H:=Z (uK b);clear a;go_in;go_wp2;go_ret;exact⟨G9 (by rw[H.o];simp;omega),rfl⟩
theorem gK(c:Ac)(w:World)(t:Di c):Calls Tryz.prog 149 #[A7 c] w fun e w'=>e=.returned (.bool (Bh c))∧Fp [] w w':=by
 obtain⟨A,z,x,v,u⟩:=t;unfold A7;have d:=Z (Fp.alloc w (.cells #[.string c.row,.string c.col,.int .u64 c.ts,.int .u64 c.seq,.bool c.del,.string c.val] 80));have b:Hid (Bh c=(Jg c.row&&Jg c.col&&decide (c.val.size<=100)&&(!c.del||decide (c.val.size=0)))):=rfl;obtain⟨r,q⟩:=Bz (Jg c.row);obtain⟨k,s⟩:=Bz (Jg c.col);have n:=fun w=>gJ c.row w x;have m:=fun w=>gJ c.col w v;rw[<-q] at b n;rw[<-s] at b m;have h:=Z n;have l:=Z m;clear n m q s;obtain⟨y,j⟩:=Bz c.del;rw[<-j] at b d ⊢;clear j;cases r
 .have a:Hid (Bh c=false):=b.o;go_in;go_wp2_with (go_at_call 224;refine(h.o _).mono ?_;rintro e w' ⟨rfl,rfl⟩);go_ret;exact⟨by rw[a.o];rfl,d.o⟩
 cases k
 .have a:Hid (Bh c=false):=b.o;go_in;go_wp2_with fail;refine(h.o _).mono ?_;rintro e w' ⟨rfl,rfl⟩;go_wp2_with fail;refine(l.o _).mono ?_;rintro e w' ⟨rfl,rfl⟩;go_wp2_with fail;go_ret;exact⟨by rw[a.o];rfl,d.o⟩
 by_cases i:c.val.size<=100
 case neg=>
  have a:Hid (Bh c=false):=by unfold Hid;rw[b.o,decide_eq_false i];rfl
  go_in;go_wp2_with fail;refine(h.o _).mono ?_;rintro e w' ⟨rfl,rfl⟩;go_wp2_with fail;refine(l.o _).mono ?_;rintro e w' ⟨rfl,rfl⟩;go_wp2_with fail;go_ret;exact⟨by rw[a.o];rfl,d.o⟩
 cases y
 .have a:Hid (Bh c=true):=by unfold Hid;rw[b.o,decide_eq_true i];rfl
  go_in;go_wp2_with fail;refine(h.o _).mono ?_;rintro e w' ⟨rfl,rfl⟩;go_wp2_with fail;refine(l.o _).mono ?_;rintro e w' ⟨rfl,rfl⟩;go_wp2_with fail;go_ret;exact⟨by rw[a.o];rfl,d.o⟩
 by_cases g:c.val.size=0
 .have a:Hid (Bh c=true):=by unfold Hid;rw[b.o,decide_eq_true i,decide_eq_true g];rfl
  have p:=gI g;rw[p] at d ⊢;clear g p i u;go_in;go_wp2_with fail;refine(h.o _).mono ?_;rintro e w' ⟨rfl,rfl⟩;go_wp2_with fail;refine(l.o _).mono ?_;rintro e w' ⟨rfl,rfl⟩;go_wp2_with fail;go_ret;exact⟨by rw[a.o];rfl,d.o⟩
 .have a:Hid (Bh c=false):=by unfold Hid;rw[b.o,decide_eq_true i,decide_eq_false g];rfl
  have p:=Nw (a3w g);clear g;go_in;go_wp2_with fail;refine(h.o _).mono ?_;rintro e w' ⟨rfl,rfl⟩;go_wp2_with fail;refine(l.o _).mono ?_;rintro e w' ⟨rfl,rfl⟩;go_wp2_with fail;go_ret;exact⟨by rw[a.o];rfl,d.o⟩
theorem Zy(a:Int)(w:World):Calls Tryz.prog 276 #[.int .u64 a] w fun e w'=>e=.returned (.bool false)/\w=w':=by
 go_in;go_wp2;go_ret;exact⟨by simp,rfl⟩
theorem P0{a b:Nat}(h:a<b):Du a b= -1:=if_pos h
theorem P1{a b:Nat}(h:b<a):Du a b=1:=by unfold Du;rw[if_neg (by omega),if_pos h]
theorem R6{a b:Nat}(h:¬a<b)(c:¬b<a):Du a b=0:=by unfold Du;rw[if_neg h,if_neg c]
theorem gP(a b:Nat)(w:World):Calls Tryz.prog 229 #[.int .u64 a,.int .u64 b] w fun e w'=>e=.returned (.int .i64 (Du a b))∧w=w':=by
 by_cases d:a<b
 .have H:=Z (P0 d);go_in;go_wp2_with (go_at_call 276;refine(Zy _ _).mono ?_;rintro e w' ⟨rfl,rfl⟩);go_ret;exact⟨by rw[H.o];rfl,rfl⟩
 .by_cases c:b<a
  .have H:=Z (P1 c);go_in;go_wp2_with (go_at_call 276;refine(Zy _ _).mono ?_;rintro e w' ⟨rfl,rfl⟩);go_ret;exact⟨by rw[H.o];rfl,rfl⟩
  .have H:=Z (R6 d c);go_in;go_wp2_with (go_at_call 276;refine(Zy _ _).mono ?_;rintro e w' ⟨rfl,rfl⟩);go_ret;exact⟨by rw[H.o];rfl,rfl⟩
theorem tE{l:List Int}{k:Nat}(h:∀x∈l.take k,x=0)(b:k<l.length)(a:l[k]≠0):E2 l=l[k]:=by
 induction l generalizing k with
 |nil=>simp at b
 |cons y r ih=>
  unfold E2
  cases k with
  |zero=>exact if_pos a
  |succ k=>
   have:y=0:=h y (by simp);rw[if_neg (by simp[this])];exact ih (fun x a=>h x (by simp[a])) (by simpa using b) a
theorem tF{l:List Int}(h:∀x∈l,x=0):E2 l=0:=by
 induction l with
 |nil=>rfl
 |cons y r ih=>
  unfold E2;rw[if_neg (by simp[h y (by simp)])];exact ih (fun x a=>h x (by simp[a]))
theorem gQ(w:World)(h:Nat)(l:List Int)(m:w.heap[h]?=some (.cells (l.map (Value.int .i64)).toArray 3 (0,0)))(s:l.length≤1000):
  Calls Tryz.prog 227 #[.slice (some ⟨h,0,none⟩) l.length l.length] w fun e w'=>e=.returned (.int .i64 (E2 l))/\w=w':=by
 have r:=Z m;have q:=Ae m;clear m;go_in;go_wp2
 go_loop [8] (fun i=>∃k:Nat,k<=l.length/\i=.int .i64 k/\∀x∈l.take k,x=0) (fun i=>l.length-(intOf i).toNat)
 case atStart=>exact⟨0,by omega,rfl,by simp⟩
 case round=>
  obtain⟨k,t,rfl,b⟩:=hrel;have p:=Z b;clear b;by_cases a:k<l.length
  .have c:w.cell? ⟨h,k,none⟩=some (.int .i64 l[k]):=(by rw[Ab r.o];simp[a])
   obtain⟨x,j⟩:=Bz (l[k]);rw[<-j] at c;have n:=Z j;clear j;by_cases g:x=0
   .subst g;go_wp2
    go_round
    case rel=>
     refine⟨k+1,by omega,by go_num,?_⟩;rw[a3z a];intro y d;rcases List.mem_append.1 d with d|d
     .exact p.o y d
     .rw[List.mem_singleton] at d;rw[d,<-n.o]
    case measure=>simp[intOf];omega
   .have u:(x !=0)=true:=(by simpa using g)
    have H:=Z (tE p.o a (by rw[<-n.o];exact g));clear g;go_wp2;go_ret;exact⟨by rw[H.o,<-n.o];rfl,rfl⟩
  .have H:=Z (tF (l:=l) (by have:=p.o;rwa [a2u (by omega)] at this));go_wp2;go_ret;exact⟨by rw[H.o];rfl,rfl⟩
theorem gR(a b:Ac)(w:World):Calls Tryz.prog 156 #[A7 a,A7 b] w fun e w'=>e=.returned (.int .i64 (Db a b))∧Fp [] w w':=by
 unfold A7;have S:Hid (Db a b=E2 [Bq a.row b.row,Bq a.col b.col,Du b.ts a.ts,Du b.seq a.seq]):=rfl;obtain⟨I,p⟩:=Bz (Bq a.row b.row);obtain⟨G,n⟩:=Bz (Bq a.col b.col);obtain⟨P,m⟩:=Bz (Du b.ts a.ts);obtain⟨O,l⟩:=Bz (Du b.seq a.seq)
 have R:∀w,Calls Tryz.prog 228 #[.string a.row,.string b.row] w fun e w'=>e=.returned (.int .i64 I)/\w'=w:=fun w=>by rw[p];exact Tryz.strings_Compare _ _ w
 have Q:∀w,Calls Tryz.prog 228 #[.string a.col,.string b.col] w fun e w'=>e=.returned (.int .i64 G)/\w'=w:=fun w=>by rw[n];exact Tryz.strings_Compare _ _ w
 have L:=fun w=>gP b.ts a.ts w;have J:=fun w=>gP b.seq a.seq w;rw[<-p,<-n,<-m,<-l] at S;rw[<-m] at L;rw[<-l] at J;have N1:=Z R;have N2:=Z Q;have N3:=Z L;have N4:=Z J;clear R Q L J p n m l;obtain⟨W,E⟩:=Bz ((w.alloc (.cells #[.string a.row,.string a.col,.int .u64 a.ts,.int .u64 a.seq,.bool a.del,.string a.val] 80)).alloc (.cells #[.string b.row,.string b.col,.int .u64 b.ts,.int .u64 b.seq,.bool b.del,.string b.val] 80))
 have D:Fp [] w W:=by rw[E];exact(Fp.alloc _ _).alloc' _
 have r:W.heap[w.heap.size]?=some (.cells #[.string a.row,.string a.col,.int .u64 a.ts,.int .u64 a.seq,.bool a.del,.string a.val] 80 (0,0)):=by
  rw[E,Below.heap_alloc _ _ _ (by simp)];exact Ai rfl _
 have q:W.heap[w.heap.size+1]?=some (.cells #[.string b.row,.string b.col,.int .u64 b.ts,.int .u64 b.seq,.bool b.del,.string b.val] 80 (0,0)):=by
  rw[E];exact Ai (by simp) _
 have j:∀w',Fp [] W w'->w'.cell? ⟨w.heap.size,0,none⟩=some (.string a.row)/\w'.cell? ⟨w.heap.size,1,none⟩=some (.string a.col)/\w'.cell? ⟨w.heap.size,2,none⟩=some (.int .u64 a.ts)/\w'.cell? ⟨w.heap.size,3,none⟩=some (.int .u64 a.seq)/\w'.cell? ⟨w.heap.size+1,0,none⟩=some (.string b.row)/\w'.cell? ⟨w.heap.size+1,1,none⟩=some (.string b.col)/\w'.cell? ⟨w.heap.size+1,2,none⟩=some (.int .u64 b.ts)/\w'.cell? ⟨w.heap.size+1,3,none⟩=some (.int .u64 b.seq):=by
  intro w' F;have C:=(F.block _ (Ae r) (by simp)).trans r;have k:=(F.block _ (Ae q) (by simp)).trans q;exact⟨Ab C 0,Ab C 1,Ab C 2,Ab C 3,Ab k 0,Ab k 1,Ab k 2,Ab k 3⟩
 have i:=Z j;have N:=Z D;have HW:=Z E;clear j D r q E;go_in;go_wp2_with fail;rw[<-HW.o];refine Bo (by kernel_rfl) (by kernel_rfl) ?_;apply A1 rfl rfl rfl
 .intro a w c d K h;have k:=d.free 2 _ (by kernel_rfl) rfl;simp only[Oper.wp,execOp];go_simp;exact h _ c (Fp.refl _ _)
 apply A1 rfl rfl rfl
 .intro a w c d K h;have h5:a.tmps[5]?.getD undef=_ :=d.dep 0 5 _ (by kernel_rfl) rfl;obtain⟨B,A,z,y,x,u,t,s⟩:=i.o _ c;simp only[Oper.wp,execOp];go_simp;exact h _ c (Fp.refl _ _)
 apply A1 rfl rfl rfl
 .intro a w c d K h;have M:=d.free 3 _ (by kernel_rfl) rfl;simp only[Oper.wp,execOp];go_simp;exact h _ c (Fp.refl _ _)
 apply A1 rfl rfl rfl
 .intro a w c d K h;have h7:a.tmps[7]?.getD undef=_ :=d.dep 2 7 _ (by kernel_rfl) rfl;obtain⟨B,A,z,y,x,u,t,s⟩:=i.o _ c;simp only[Oper.wp,execOp];go_simp;exact h _ c (Fp.refl _ _)
 apply A1 rfl rfl rfl
 .intro a w c d K h;have h6:a.tmps[6]?.getD undef=_ :=d.dep 1 6 _ (by kernel_rfl) rfl;have h8:a.tmps[8]?.getD undef=_ :=d.dep 3 8 _ (by kernel_rfl) rfl;simp only[Oper.wp,execOp];go_simp;refine(N1.o _).mono ?_;rintro e w2 ⟨rfl,rfl⟩;exact h _ c (Fp.refl _ _)
 apply A1 rfl rfl rfl
 .intro a w c d K h;have k:=d.free 2 _ (by kernel_rfl) rfl;simp only[Oper.wp,execOp];go_simp;exact h _ c (Fp.refl _ _)
 apply A1 rfl rfl rfl
 .intro a w c d K h;have ap:a.tmps[10]?.getD undef=_ :=d.dep 5 10 _ (by kernel_rfl) rfl;obtain⟨B,A,z,y,x,u,t,s⟩:=i.o _ c;simp only[Oper.wp,execOp];go_simp;exact h _ c (Fp.refl _ _)
 apply A1 rfl rfl rfl
 .intro a w c d K h;have M:=d.free 3 _ (by kernel_rfl) rfl;simp only[Oper.wp,execOp];go_simp;exact h _ c (Fp.refl _ _)
 apply A1 rfl rfl rfl
 .intro a w c d K h;have an:a.tmps[12]?.getD undef=_ :=d.dep 7 12 _ (by kernel_rfl) rfl;obtain⟨B,A,z,y,x,u,t,s⟩:=i.o _ c;simp only[Oper.wp,execOp];go_simp;exact h _ c (Fp.refl _ _)
 apply A1 rfl rfl rfl
 .intro a w c d K h;have ao:a.tmps[11]?.getD undef=_ :=d.dep 6 11 _ (by kernel_rfl) rfl;have am:a.tmps[13]?.getD undef=_ :=d.dep 8 13 _ (by kernel_rfl) rfl;simp only[Oper.wp,execOp];go_simp;refine(N2.o _).mono ?_;rintro e w2 ⟨rfl,rfl⟩;exact h _ c (Fp.refl _ _)
 apply A1 rfl rfl rfl
 .intro a w c d K h;have M:=d.free 3 _ (by kernel_rfl) rfl;simp only[Oper.wp,execOp];go_simp;exact h _ c (Fp.refl _ _)
 apply A1 rfl rfl rfl
 .intro a w c d K h;have ak:a.tmps[15]?.getD undef=_ :=d.dep 10 15 _ (by kernel_rfl) rfl;obtain⟨B,A,z,y,x,u,t,s⟩:=i.o _ c;simp only[Oper.wp,execOp];go_simp;exact h _ c (Fp.refl _ _)
 apply A1 rfl rfl rfl
 .intro a w c d K h;have k:=d.free 2 _ (by kernel_rfl) rfl;simp only[Oper.wp,execOp];go_simp;exact h _ c (Fp.refl _ _)
 apply A1 rfl rfl rfl
 .intro a w c d K h;have ai:a.tmps[17]?.getD undef=_ :=d.dep 12 17 _ (by kernel_rfl) rfl;obtain⟨B,A,z,y,x,u,t,s⟩:=i.o _ c;simp only[Oper.wp,execOp];go_simp;exact h _ c (Fp.refl _ _)
 apply A1 rfl rfl rfl
 .intro a w c d K h;have aj:a.tmps[16]?.getD undef=_ :=d.dep 11 16 _ (by kernel_rfl) rfl;have ah:a.tmps[18]?.getD undef=_ :=d.dep 13 18 _ (by kernel_rfl) rfl;simp only[Oper.wp,execOp];go_simp;refine(N3.o _).mono ?_;rintro e w2 ⟨rfl,rfl⟩;exact h _ c (Fp.refl _ _)
 apply A1 rfl rfl rfl
 .intro a w c d K h;have M:=d.free 3 _ (by kernel_rfl) rfl;simp only[Oper.wp,execOp];go_simp;exact h _ c (Fp.refl _ _)
 apply A1 rfl rfl rfl
 .intro a w c d K h;have af:a.tmps[20]?.getD undef=_ :=d.dep 15 20 _ (by kernel_rfl) rfl;obtain⟨B,A,z,y,x,u,t,s⟩:=i.o _ c;simp only[Oper.wp,execOp];go_simp;exact h _ c (Fp.refl _ _)
 apply A1 rfl rfl rfl
 .intro a w c d K h;have k:=d.free 2 _ (by kernel_rfl) rfl;simp only[Oper.wp,execOp];go_simp;exact h _ c (Fp.refl _ _)
 apply A1 rfl rfl rfl
 .intro a w c d K h;have ad:a.tmps[22]?.getD undef=_ :=d.dep 17 22 _ (by kernel_rfl) rfl;obtain⟨B,A,z,y,x,u,t,s⟩:=i.o _ c;simp only[Oper.wp,execOp];go_simp;exact h _ c (Fp.refl _ _)
 apply A1 rfl rfl rfl
 .intro a w c d K h;have ae:a.tmps[21]?.getD undef=_ :=d.dep 16 21 _ (by kernel_rfl) rfl;have ac:a.tmps[23]?.getD undef=_ :=d.dep 18 23 _ (by kernel_rfl) rfl;simp only[Oper.wp,execOp];go_simp;refine(N4.o _).mono ?_;rintro e w2 ⟨rfl,rfl⟩;exact h _ c (Fp.refl _ _)
 apply nI (fun w' v=>∃g,v=.slice (some ⟨g,0,none⟩) 4 4/\w'.heap[g]?=some (.cells #[.int .i64 I,.int .i64 G,.int .i64 P,.int .i64 O] 3 (0,0))) rfl rfl rfl
 .intro a w c d K h;have h9:a.tmps[9]?.getD undef=_ :=d.dep 4 9 _ (by kernel_rfl) rfl;have al:a.tmps[14]?.getD undef=_ :=d.dep 9 14 _ (by kernel_rfl) rfl;have ag:a.tmps[19]?.getD undef=_ :=d.dep 14 19 _ (by kernel_rfl) rfl;have ab:a.tmps[24]?.getD undef=_ :=d.dep 19 24 _ (by kernel_rfl) rfl;simp only[Oper.wp,execOp];go_simp;exact h _ _ (c.alloc' _) (Fp.alloc _ _) ⟨_,rfl,Ai rfl _⟩
 apply A1 rfl rfl rfl
 .intro a w c d K h;obtain⟨g,aa,U⟩:=d.dep 20 25 _ (by kernel_rfl) rfl;simp only[Oper.wp,execOp];go_simp;refine(gQ w g [I,G,P,O] U (by simp)).mono ?_;rintro e w2 ⟨rfl,rfl⟩;exact h _ c (Fp.refl _ _)
 apply A1 rfl rfl rfl
 .intro a w c d K h;have V:a.tmps[26]?.getD undef=_ :=d.dep 21 26 _ (by kernel_rfl) rfl;simp only[Oper.wp,execOp];go_simp;exact h _ c (Fp.refl _ _)
 refine⟨?_,?_⟩
 .repeat(first|exact trivial|refine cI _ ?_ |refine⟨fun w1 w2 v _ F ⟨g,C,k⟩=>⟨g,C,(F.block g (Ae k) (by simp)).trans k⟩,?_⟩)
 .intro w' c;simp only[List.reverse_cons,List.reverse_nil,List.nil_append,List.cons_append]
  repeat(refine A2 ?_)
  refine As ?_;intro T _
  repeat(refine A2 ?_)
  refine C7 ?_;simp only[Aj,Act.put,a1z,a2z,a2x];have HF:=Z (N.o.trans c);clear c;go_wp2;go_ret;exact⟨lA S.o.symm,HF.o⟩
def I2(a b:Ac):Bool:=(a.row.toList==b.row.toList)&&((a.col.toList==b.col.toList)&&(a.ts==b.ts))
theorem gU(a b:Ac)(w:World):Calls Tryz.prog 265 #[A7 a,A7 b] w fun e w'=>e=.returned (.bool (I2 a b))∧Fp [] w w':=by
 unfold A7;go_in;go_wp2_with fail
 go_region
 go_wp2_with fail
 all_goals
  go_ret;refine⟨G9 (by simp[I2, *]<;>omega),?_⟩;exact((Fp.alloc _ _).alloc' _).drew'
end
section
open Go.Lib
theorem Uw(s a new:List UInt8)(h:a≠new):replaceAll s a new=replaceK a new (count s a) s:=by
 unfold replaceAll replace replaceNum;rw[if_neg (by simpa using h),if_pos (Or.inl (by decide))]
theorem tG(b new:List UInt8)(c:b≠[])(h:b≠new):replaceAll [] b new=[]:=by
 rw[Uw _ _ _ h];have:index [] b= -1:=by
  unfold index
  cases b with
  |nil=>exact absurd rfl c
  |cons a l=>rfl
 rw[count_miss this];rfl
theorem tH(s a new:List UInt8)(b:a≠[])(h:a≠new)(c:index s a=((0:Nat):Int)):replaceAll s a new=new++replaceAll (s.drop a.length) a new:=by
 rw[Uw _ _ _ h,Uw _ _ _ h,count_hit b c,Nat.add_comm 1,replaceK_hit _ _ _ _ 0 c];simp
theorem tI(b:UInt8)(l a new:List UInt8)(g:a≠[])(h:a≠new)(m:a.isPrefixOf (b::l)=false):replaceAll (b::l) a new=b::replaceAll l a new:=by
 have d:index (b::l) a=if index l a==-1 then -1 else index l a+1:=by
  conv=>lhs;unfold index
  rw[m];simp
 rw[Uw _ _ _ h,Uw _ _ _ h];have n:=index_ge l a;by_cases k:index l a= -1
 .rw[k] at d;rw[count_miss k,count_miss (by rw[d];rfl)];rfl
 .obtain⟨i,j⟩:∃i:Nat,index l a=i:=⟨(index l a).toNat,by omega⟩
  have c:index (b::l) a=((i+1:Nat):Int):=by
   rw[d,j,if_neg (by simp)];omega
  have e:(b::l).drop (i+1+a.length)=l.drop (i+a.length):=by
   rw[show i+1+a.length=(i+a.length)+1 by omega];rfl
  rw[count_hit g c,count_hit g j,e,Nat.add_comm 1,replaceK_hit _ _ _ _ _ c,replaceK_hit _ _ _ _ _ j,e];rfl
theorem tJ{s sub:List UInt8}(h:sub.isPrefixOf s=true):index s sub=((0:Nat):Int):=by
 cases s with
 |nil=>
  cases sub with
  |nil=>rfl
  |cons a l=>cases h
 |cons b l=>unfold index;rw[if_pos h];rfl
def B3:List UInt8->List UInt8
 |[]=>[]
 |b::l=>if b=0 then 0::255::B3 l else b::B3 l
theorem Ol(l:List UInt8):B3 (0::l)=0::255::B3 l:=rfl
theorem Nn{b:UInt8}(h:b≠0)(l:List UInt8):B3 (b::l)=b::B3 l:=if_neg h
theorem Om(l:List UInt8):(B3 l).length≤2*l.length:=by
 induction l with
 |nil=>exact a1v _
 |cons b l ih=>
  by_cases h:b=0
  .subst h;rw[Ol];simp only[a3v];omega
  .rw[Nn h];simp only[a3v];omega
theorem tK(l:List UInt8):replaceAll l [0] [0,255]=B3 l:=by
 induction l with
 |nil=>exact tG _ _ (by simp) (by simp)
 |cons b l ih=>
  by_cases h:b=0
  .subst h;rw[tH _ _ _ (by simp) (by simp) (tJ (by simp[List.isPrefixOf])),Ol];simp[ih]
  .rw[tI _ _ _ _ (by simp) (by simp) (by simpa [List.isPrefixOf] using Ne.symm h),Nn h,ih]
theorem P2(l:List UInt8):compareBytes l l=0:=by
 induction l with
 |nil=>rfl
 |cons b l ih=>unfold compareBytes;rw[if_neg (a1u _),if_neg (a1u _),ih]
theorem Ux{a b:List UInt8}(h:compareBytes a b=0):a=b:=by
 induction a generalizing b with
 |nil=>cases b with
  |nil=>rfl
  |cons y b=>simp[compareBytes] at h
 |cons x a ih=>cases b with
  |nil=>simp[compareBytes] at h
  |cons y b=>
   unfold compareBytes at h;by_cases c:x<y
   .rw[if_pos c] at h;simp at h
   .by_cases d:y<x
    .rw[if_neg c,if_pos d] at h;simp at h
    .rw[if_neg c,if_neg d] at h;have:x=y:=UInt8.le_antisymm (UInt8.not_lt.1 d) (UInt8.not_lt.1 c);rw[this,ih h]
theorem gV(a b:List UInt8):compareBytes b a= -compareBytes a b:=by
 induction a generalizing b with
 |nil=>cases b<;>simp[compareBytes]
 |cons x a ih=>cases b with
  |nil=>simp[compareBytes]
  |cons y b=>
   unfold compareBytes;by_cases c:x<y
   .rw[if_pos c,if_neg (UInt8.lt_asymm c),if_pos c];rfl
   .by_cases d:y<x
    .rw[if_pos d,if_neg c,if_pos d]
    .rw[if_neg c,if_neg d,if_neg d,if_neg c];exact ih b
theorem Wx(a b:List UInt8):compareBytes a b= -1∨compareBytes a b=0∨compareBytes a b=1:=by
 induction a generalizing b with
 |nil=>cases b<;>simp[compareBytes]
 |cons x a ih=>cases b with
  |nil=>simp[compareBytes]
  |cons y b=>
   unfold compareBytes;by_cases c:x<y
   .rw[if_pos c];simp
   .by_cases d:y<x
    .rw[if_neg c,if_pos d];simp
    .rw[if_neg c,if_neg d];exact ih b
theorem K3(x:UInt8)(a b:List UInt8):compareBytes (x::a) (x::b)=compareBytes a b:=by
 conv=>lhs;unfold compareBytes
 rw[if_neg (a1u _),if_neg (a1u _)]
theorem L8{x y:UInt8}(h:x<y)(a b:List UInt8):compareBytes (x::a) (y::b)= -1:=by
 unfold compareBytes;rw[if_pos h]
theorem L9{x y:UInt8}(h:y<x)(a b:List UInt8):compareBytes (x::a) (y::b)=1:=by
 unfold compareBytes;rw[if_neg (UInt8.lt_asymm h),if_pos h]
theorem Zz{a b c:List UInt8}(g:compareBytes a b≤0)(d:compareBytes b c≤0):compareBytes a c≤0:=by
 induction a generalizing b c with
 |nil=>cases c<;>simp[compareBytes]
 |cons x a ih=>
  cases b with
  |nil=>simp[compareBytes] at g
  |cons y b=>
   cases c with
   |nil=>simp[compareBytes] at d
   |cons z c=>
    rcases a1x x.toNat y.toNat with h|h|h
    .have i:x<y:=UInt8.lt_iff_toNat_lt.2 h;rcases a1x y.toNat z.toNat with k|k|k
     .rw[L8 (UInt8.lt_iff_toNat_lt.2 (by omega))];decide
     .rw[L8 (UInt8.lt_iff_toNat_lt.2 (by omega))];decide
     .rw[L9 (UInt8.lt_iff_toNat_lt.2 k)] at d;exact absurd d (by decide)
    .obtain rfl:x=y:=UInt8.toNat_inj.1 h;rw[K3] at g;rcases a1x x.toNat z.toNat with k|k|k
     .rw[L8 (UInt8.lt_iff_toNat_lt.2 k)];decide
     .obtain rfl:x=z:=UInt8.toNat_inj.1 k;rw[K3] at d ⊢;exact ih g d
     .rw[L9 (UInt8.lt_iff_toNat_lt.2 k)] at d;exact absurd d (by decide)
    .rw[L9 (UInt8.lt_iff_toNat_lt.2 h)] at g;exact absurd g (by decide)
theorem R7{b:UInt8}(h:b≠0):(0:UInt8)<b:=by
 rw[UInt8.lt_iff_toNat_lt];have:b.toNat≠0:=fun e=>h (UInt8.toNat_inj.1 e);show 0<b.toNat;omega
theorem gW(a b X Y:List UInt8):compareBytes (B3 a++0::1::X) (B3 b++0::1::Y)=if a=b then compareBytes X Y else compareBytes a b:=by
 induction a generalizing b with
 |nil=>
  cases b with
  |nil=>rw[if_pos rfl];show compareBytes (0::1::X) (0::1::Y)=_;rw[K3,K3]
  |cons y b=>
   rw[if_neg (by simp)];by_cases h:y=0
   .subst h;rw[Ol];show compareBytes (0::1::X) (0::255::_)=_;rw[K3,L8 (by decide)];rfl
   .rw[Nn h];show compareBytes (0::1::X) (y::_)=_;rw[L8 (R7 h)];rfl
 |cons x a ih=>
  cases b with
  |nil=>
   rw[if_neg (by simp)];by_cases h:x=0
   .subst h;rw[Ol];show compareBytes (0::255::_) (0::1::Y)=_;rw[K3,L9 (by decide)];rfl
   .rw[Nn h];show compareBytes (x::_) (0::1::Y)=_;rw[L9 (R7 h)];rfl
  |cons y b=>
   by_cases d:x=0
   .subst d;rw[Ol];by_cases c:y=0
    .subst c;rw[Ol];show compareBytes (0::255::(B3 a++_)) (0::255::(B3 b++_))=_;rw[K3,K3,ih,K3];by_cases e:a=b
     .rw[if_pos e,if_pos (by rw[e])]
     .rw[if_neg e,if_neg (by simpa using e)]
    .rw[Nn c,if_neg (by simp[Ne.symm c])];show compareBytes (0::_) (y::_)=_;rw[L8 (R7 c),L8 (R7 c)]
   .rw[Nn d];by_cases c:y=0
    .subst c;rw[Ol,if_neg (by simp[d])];show compareBytes (x::_) (0::_)=_;rw[L9 (R7 d),L9 (R7 d)]
    .rw[Nn c];show compareBytes (x::(B3 a++_)) (y::(B3 b++_))=_;by_cases e:x=y
     .subst e;rw[K3,K3,ih];by_cases g:a=b
      .rw[if_pos g,if_pos (by rw[g])]
      .rw[if_neg g,if_neg (by simpa using g)]
     .rw[if_neg (by simp[e])];rcases a1x x.toNat y.toNat with k|k|k
      .rw[L8 (UInt8.lt_iff_toNat_lt.2 k),L8 (UInt8.lt_iff_toNat_lt.2 k)]
      .exact absurd (UInt8.toNat_inj.1 k) e
      .rw[L9 (UInt8.lt_iff_toNat_lt.2 k),L9 (UInt8.lt_iff_toNat_lt.2 k)]
end
section
open Go.RowKit
def A5(b:UInt8):Value:=.int .u8 b.toNat
def Bt(w:World)(base:Nat)(v:Value)(l:List UInt8):Prop:=w.ownsRow base 5 1 v l.length (l.map A5)
theorem Tryz.info5:(Tryz.prog.info? 5).map (fun i=>(i.zero,i.size,i.bytes))=some (some (.int .u8 0),1,1):=by kernel_rfl
theorem Bt.nil(w:World)(base:Nat):Bt w base (.slice none 0 0) []:=World.ownsRow_nil w base _ _
theorem Bt.mono{w:World}{base base':Nat}{v:Value}{l:List UInt8}(h:Bt w base v l)(i:base'<=base):Bt w base' v l:=by
 obtain⟨j,a⟩:=h;refine⟨j,?_⟩;rcases a with a|⟨g,cap,b,c,d,r⟩
 .exact Or.inl a
 .exact Or.inr ⟨g,cap,b,c,Nat.le_trans i d,r⟩
theorem Bt.alloc{w:World}{base:Nat}{v:Value}{l:List UInt8}(h:Bt w base v l)(o:Obj):Bt (w.alloc o) base v l:=World.ownsRow.alloc h o
theorem Bt.lt{w:World}{base:Nat}{v:Value}{l:List UInt8}(h:Bt w base v l):∀k,v.ownBlock=some k->base<=k/\k<w.heap.size:=World.ownsRow.lt h
theorem Bt.kept{w w':World}{base:Nat}{v:Value}{l:List UInt8}(h:Bt w base v l)(j:∀k,v.ownBlock=some k->w'.heap[k]?=w.heap[k]?):Bt w' base v l:=by
 obtain⟨m,a⟩:=h;refine⟨m,?_⟩;rcases a with a|⟨g,cap,b,c,i,d,r⟩
 .exact Or.inl a
 .exact Or.inr ⟨g,cap,b,c,i,(j g (by rw[c];rfl)).trans d,r⟩
theorem Bt.fp{w w':World}{base:Nat}{v:Value}{l:List UInt8}(h:Bt w base v l)(b:Fp [] w w'):Bt w' base v l:=
 h.kept fun k a=>b.block k (h.lt k a).2 (by simp)
theorem Bt.made(w:World)(base:Nat)(l:List UInt8)(b:base≤w.heap.size)(a:l.length≤maxLen):
  Bt (w.alloc (.cells (l.map A5).toArray 5)) base (.slice (some ⟨w.heap.size,0,none⟩) l.length l.length) l:=
 ⟨by simp,Or.inr ⟨w.heap.size,l.length,(l.map A5).toArray,rfl,b,(MapKept.heap_alloc w _).1,a1v _,a,by simp,by
  rw[a2u (by simp)]⟩⟩
theorem gX{w w':World}{base:Nat}{v:Value}{l:List UInt8}(h:Bt w base v l)(b:w.grownBy w' v.ownBlock)(c:base<=w.heap.size):Below base w w':=
 (Below.refl base w).grown b c (fun k a=>(h.lt k a).1)
theorem tL(l:List UInt8):∀u∈l.map A5,u.oneCell'=true:=by
 intro u a;obtain⟨b,_,rfl⟩:=List.mem_map.1 a;rfl
theorem Uy{w:World}{p:Array Oper}{rest:List Oper}{o:Oper}{a:Act}{Q:Exit→Act→World→Prop}(B:o.guard=none)(s x:Operand)
  (G:o.op=.call {callee:=.builtin .append,args:=#[s,x],argTypes:=#[113,113]})(base:Nat)(v:Value)(l:List UInt8)(F:a.eval s=v)(i:Bt w base v l)
  (b off m c:Nat)(g:List UInt8)(E:a.eval x=.slice (some ⟨b,off,none⟩) m c)(I:m=g.length)(k:∀j (h:j<g.length),w.cell? ⟨b,off+j,none⟩=some (A5 g[j]))(C:l.length+g.length<=1000000000)(d:base<=w.heap.size)
  (h:∀q w',Bt w' base q (l++g)->Below base w w'->wpList Tryz.prog p Q rest (a.put o.dst q) w'):wpList Tryz.prog p Q (o::rest) a w:=by
 obtain⟨D,J,z,t,r⟩:=info_parts Tryz.info5;subst I;refine wpList_append_own w B s x 113 G base 5 D (.int .u8 0) 1 1 Tryz.underlying113 J z t r rfl (by decide) v l.length (l.map A5) F i ⟨b,off,none⟩ g.length c (g.map A5) E (by simp) ?_ (tL g) (by unfold maxLen;omega) (by omega) d ?_
 .intro j u n;rw[a2v] at n
  cases hj:g[j]? with
  |none=>rw[hj] at n;cases n
  |some y=>
   rw[hj] at n;simp only[Option.map_some,Option.some.injEq] at n;subst n;have A:=(List.getElem?_eq_some_iff.1 hj).1
   have N:(⟨b,off,none⟩:Addr).add j=⟨b,off+j,none⟩:=(by unfold Addr.add;split<;>simp_all)
   rw[N,k j A];obtain⟨_,M⟩:=List.getElem?_eq_some_iff.1 hj;rw[M]
 .intro q w' L K _;refine h q w' ?_ (gX i K d);unfold Bt;rw[a0v,List.map_append];exact L
theorem Z0{w:World}{b:Nat}{x:UInt8}(h:w.cell? ⟨b,0,none⟩=some (A5 x)):∀j (h:j<[x].length),w.cell? ⟨b,0+j,none⟩=some (A5 [x][j]):=by
 intro j a
 have:j=0:=by simpa using a
 subst this;exact h
theorem Z1{w:World}{d:Array Oper}{rest:List Oper}{o:Oper}{a:Act}{Q:Exit→Act→World→Prop}(m:o.guard=none)(sl x:Operand)
  (t:o.op=.call {callee:=.builtin .append,args:=#[sl,x],argTypes:=#[113,9]})(base:Nat)(v:Value)(l:List UInt8)(r:a.eval sl=v)(c:Bt w base v l)(s:ByteArray)(q:a.eval x=.string s)
  (n:l.length+s.size<=1000000000)(b:base<=w.heap.size)
  (h:∀g w',Bt w' base g (l++s.data.toList)->Below base w w'->wpList Tryz.prog d Q rest (a.put o.dst g) w'):wpList Tryz.prog d Q (o::rest) a w:=by
 obtain⟨p,u,k,j,i⟩:=info_parts Tryz.info5;refine Lib.wpList_append_own_string w m sl x 113 9 t base 5 p Tryz.underlying113 Tryz.underlying9 u k j i v l.length (l.map A5) r c s q (by unfold maxLen;omega) (by omega) b ?_;intro g w' z y _;refine h g w' ?_ (gX c y b);unfold Bt;rw[a0v,List.map_append];exact z
theorem Wy{w:World}{base:Nat}{v:Value}{l:List UInt8}(a:Bt w base v l):(convert 113 9 v).run Tryz.prog w=.ok (.string ⟨l.toArray⟩) w:=by
 obtain⟨t,k⟩:=a;rcases k with⟨rfl,m⟩|⟨g,cap,b,rfl,s,i,q,r,p,d⟩
 .have:l=[]:=a3x m;subst this;rw[run_convert_bytes_string w _ _ 5 none 0 0 Tryz.underlying113 Tryz.underlying5 Tryz.underlying9];rfl
 .refine run_convert_bytes_back w _ _ 5 ⟨g,0,none⟩ cap l Tryz.underlying113 Tryz.underlying5 Tryz.underlying9 ?_;intro j h
  have n:(⟨g,0,none⟩:Addr).add j=⟨g,j,none⟩:=by unfold Addr.add;split<;>simp_all
  rw[n,Ab i]
  have c:(b.toList.take (l.length*1))[j]?=(l.map A5)[j]?:=by rw[d]
  rw[List.getElem?_take,if_pos (by omega),a2v,a0z h] at c
  simpa [A5] using c
def Cj(n i:Nat):UInt8:=a0x (n/256^i)
def Hg(n:Nat):List UInt8:=(a2w 8).map (Cj n)
def Ht(n:Nat):List UInt8:=(Hg n).reverse
theorem Z2(n k:Nat):A5 (Cj n k)=.int .u8 ((n:Int)/2^(8*k)%256):=by
 unfold A5 Cj
 have b:(2:Nat)^(8*k)=256^k:=by rw[Nat.pow_mul]
 have a:((a0x (n/256^k)).toNat:Int)=(n:Int)/2^(8*k)%256:=by
  rw[a0u,<-b];rw[Int.natCast_emod,Int.natCast_ediv,Int.natCast_pow];rfl
 rw[a]
theorem tM{n k:Nat}(h:k<8):(Hg n).take (k+1)=(Hg n).take k++[Cj n k]:=by
 unfold Hg;rw[a3z (by simpa using h)];simp
theorem Np(n:Nat):(Hg n).length=8:=by simp[Hg]
theorem tN(w:World)(base:Nat)(v:Value)(l:List UInt8)(n:Nat)(h:Bt w base v l)(G:base≤w.heap.size)(E:l.length≤1000000)(A:n<18446744073709551616):
  Calls Tryz.prog 274 #[v,.int .u64 n] w fun e w'=>∃q,e=.returned q/\Bt w' base q (l++Hg n)/\Below base w w':=by
 have I:=Z A;clear A;go_in;go_wp2
 go_loopg [0,6] 8 (fun g q i wr=>∃k:Nat,g+k=8/\i=.int .i64 k/\Bt wr base q (l++(Hg n).take k)/\Below base w wr)
 case atStart=>exact⟨0,rfl,rfl,by simpa using h,Below.refl _ _⟩
 case round=>
  obtain⟨k,F,rfl,z,c⟩:=hrel;have B:=Z z;have y:=Z c;clear z c;by_cases C:k<8
  .have p:(wr.alloc (.cells #[.int .u8 ((n:Int)/2^(8*k)%256)] 5)).cell? ⟨wr.heap.size,0,none⟩=some (A5 (Cj n k)):=by
    rw[Z2];exact Ab (Ai rfl _) 0
   have u:=Z p
   have r:base<=wr.heap.size:=by have:=y.o.size;omega
   have j:(l++(Hg n).take k).length+1<=1000000000:=by
    have:((Hg n).take k).length<=8:=(by rw[List.length_take,Np];omega)
    simp only[a0v];omega
   have t:=Z j;clear p j;go_wp2_with (at_builtin;refine Uy rfl _ _ rfl base _ _ rfl (B.o.alloc _) wr.heap.size 0 1 1 [Cj n k] rfl rfl (Z0 u.o) t.o (by simp;omega) ?_;intro D w2 a b);have d:=Z a;have x:=Z b;clear a b;go_wp2
   go_roundg (gk-1)
   case measure=>omega
   case rel=>exact⟨k+1,by omega,by go_num,by rw[tM C,<-List.append_assoc];exact d.o,(y.o.alloc r _).trans x.o⟩
  .have m:(Hg n).take k=Hg n:=a2u (by rw[Np];omega);have s:=B.o;rw[m] at s;have d:=Z s;clear m s;go_wp2;go_ret;exact⟨_,rfl,d.o,y.o⟩
structure Je(w:World)(b:Nat)(n:Nat)(f:Nat->UInt8):Prop where
 lt:b<w.heap.size
 cell:∀j,j<n->w.cell? ⟨b,j,none⟩=some (A5 (f j))
 free:∀j,j<n->w.frozen? ⟨b,j,none⟩=false
def Nq(n k:Nat)(f:Nat->UInt8)(t:Nat):UInt8:=if t<k∨n-k<=t then f (n-1-t) else f t
theorem tO{n k:Nat}{f:Nat->UInt8}(h:2*k<n):Nq n k f k=f k:=by unfold Nq;rw[if_neg (by omega)]
theorem tP{n k:Nat}{f:Nat->UInt8}(h:2*k<n):Nq n k f (n-1-k)=f (n-1-k):=by unfold Nq;rw[if_neg (by omega)]
theorem tQ(w:World)(b n cap:Nat)(f:Nat→UInt8)(x:Je w b n f)(P:n≤1000000000):
  Calls Tryz.prog 258 #[.slice (some ⟨b,0,none⟩) n cap] w fun e w'=>e=.returned (.tuple #[])/\Je w' b n (fun t=>f (n-1-t))/\Fp [b] w w':=by
 have u:=Z x;clear x;go_in;go_wp2_with fail
 go_loopg [2,3] n (fun g F E wr=>∃k:Nat,g+k=n/\F=.int .i64 k/\E=.int .i64 ((n:Int)-1-k)/\2*k<=n/\Je wr b n (Nq n k f)/\Fp [b] w wr)
 case atStart=>
  refine⟨0,rfl,rfl,by simp,by omega,⟨u.o.lt,fun j h=>?_,u.o.free⟩,Fp.refl _ _⟩;rw[u.o.cell j h];unfold Nq;rw[if_neg (by omega)]
 case round=>
  obtain⟨k,Q,rfl,rfl,L,a,i⟩:=hrel;have c:=Z a;have l:=Z i;clear i;by_cases s:k+1+k<n
  .obtain⟨m,r⟩:=Bz (n-1-k)
   have d:(n:Int)-1-k=(m:Int):=(by omega)
   have D:wr.cell? ⟨b,k,none⟩=some (A5 (f k)):=(by rw[a.cell k (by omega),tO (by omega)])
   have C:wr.cell? ⟨b,m,none⟩=some (A5 (f m)):=(by rw[a.cell m (by omega),r,tP (by omega)])
   have S:wr.frozen? ⟨b,k,none⟩=false:=a.free k (by omega);have R:wr.frozen? ⟨b,m,none⟩=false:=a.free m (by omega)
   have q:k≠m:=(by omega)
   have G:m<n:=(by omega)
   have K:k<m:=(by omega)
   have J:k<n:=(by omega)
   unfold A5 at D C;have p:=Z r;rw[d];have v:=Z d;clear a r d
   have y:(k:Int)<(m:Int):=(by omega)
   go_wp2_with fail
   go_region
   go_wp2_with fail
   go_roundg (gk-1)
   case measure=>omega
   case rel=>
    refine⟨k+1,by omega,by go_num,?_,by omega,⟨?_,?_,?_⟩,?_⟩
    .have:=v.o;congr 1;omega
    .simpa [World.setCell] using c.o.lt
    .intro j h;have N:=c.o.cell j h;show((wr.setCell ⟨b,k,none⟩ _).setCell ⟨b,m,none⟩ _).cell? ⟨b,j,none⟩=_;by_cases B:j=m
     .subst B;have O:(wr.setCell ⟨b,k,none⟩ (.int .u8 (f j).toNat)).cell? ⟨b,j,none⟩=some (.int .u8 (f j).toNat):=by
       rw[World.cell?_setCell_other _ _ _ _ (fun e=>q (congrArg Addr.off e))];exact C
      rw[World.cell?_setCell_same _ _ _ O];unfold Nq A5;rw[if_pos (by have:=p.o;omega),show n-1-j=k by have:=p.o;omega]
     .rw[World.cell?_setCell_other _ _ _ _ (fun e=>B (congrArg Addr.off e).symm)];by_cases A:j=k
      .subst A;rw[World.cell?_setCell_same _ _ _ D];unfold Nq A5;rw[if_pos (by omega),show n-1-j=m by have:=p.o;omega]
      .rw[World.cell?_setCell_other _ _ _ _ (fun e=>A (congrArg Addr.off e).symm),N];have I:=p.o;unfold Nq;by_cases z:j<k∨n-k<=j
       .rw[if_pos z,if_pos (by omega)]
       .rw[if_neg z,if_neg (by omega)]
    .intro j h;show((wr.setCell ⟨b,k,none⟩ _).setCell ⟨b,m,none⟩ _).frozen? ⟨b,j,none⟩=_;rw[World.frozen?_setCell,World.frozen?_setCell];exact c.o.free j h
    .exact(((l.o.setCell' (by simp) _).setCell' (by simp) _).drew')
  .have H:Hid (Je wr b n (fun t=>f (n-1-t))):=by
    refine⟨c.o.lt,fun j h=>?_,c.o.free⟩;rw[c.o.cell j h];unfold Nq;by_cases e:j<k∨n-k<=j
    .rw[if_pos e]
    .rw[if_neg e,show n-1-j=j by omega]
   have M:¬(k:Int)<(n:Int)-1-k:=(by omega)
   clear a s;go_wp2_with fail;go_end0;exact⟨rfl,H.o,l.o⟩
def A4(s:ByteArray)(j:Nat):UInt8:=s.data.toList.getD j 0
theorem tR(w:World)(s:ByteArray):∃cap W,(convert 9 113 (.string s)).run Tryz.prog w=.ok (.slice (some ⟨w.heap.size,0,none⟩) s.size cap) W∧Je W w.heap.size s.size (A4 s)∧Fp [] w W:=by
 have h:=run_bytes_of_string (P:=Tryz.prog) w 9 113 5 s Tryz.underlying9 Tryz.underlying113 Tryz.underlying5;refine⟨_,_,h,?_,(Fp.drew w).alloc' _⟩;have b:=Ai (w:=w.drew) (n:=w.heap.size) rfl (.cells (bytesRow s (grownCap w s.size 0 5)) 5 ((bytesRow s (grownCap w s.size 0 5)).size,(bytesRow s (grownCap w s.size 0 5)).size+1));refine⟨Ae b,fun j a=>?_,fun j a=>?_⟩
 .rw[Ab b,bytesRow_at s _ j a];unfold A5 A4;have:s.data.toList.getD j 0=s.data[j]:=by
   rw[a0w,a0z (by simpa using a)];simp
  rw[this]
 .have c:s.size≤(bytesRow s (grownCap w s.size 0 5)).size:=by
   unfold bytesRow;simp only[Array.size_append,Array.size_map,Array.size_replicate];exact Nat.le_add_right _ _
  simp only[World.frozen?,b]
  have:¬(bytesRow s (grownCap w s.size 0 5)).size<=j:=by omega
  simp[this]
theorem P3{w:World}{b n cap:Nat}{f:Nat→UInt8}(h:Je w b n f):(convert 113 9 (.slice (some ⟨b,0,none⟩) n cap)).run Tryz.prog w=.ok (.string ⟨((a2w n).map f).toArray⟩) w:=by
 have:=run_convert_bytes_back (P:=Tryz.prog) w 113 9 5 ⟨b,0,none⟩ cap ((a2w n).map f) Tryz.underlying113 Tryz.underlying5 Tryz.underlying9 (by
  intro j c
  have a:j<n:=by simpa using c
  have d:(⟨b,0,none⟩:Addr).add j=⟨b,j,none⟩:=by unfold Addr.add;split<;>simp_all
  rw[d,h.cell j a]
  simp[A5])
 simpa using this
theorem tS(s:ByteArray):((a2w s.size).map (fun t=>A4 s (s.size-1-t)))=s.data.toList.reverse:=by
 apply List.ext_getElem
 .simp
 .intro i b g
  have d:i<s.data.toList.length:=by simpa using b
  have c:i<s.size:=by simpa using b
  simp only[List.getElem_map,List.getElem_range,List.getElem_reverse];unfold A4;have a:s.data.toList.length=s.size:=rfl;rw[a0w,a0z (by omega)];simp only[Option.getD_some];congr 1
theorem tT(w:World)(s:ByteArray)(m:s.size≤1000000000):
  Calls Tryz.prog 210 #[.string s] w fun e w'=>e=.returned (.string ⟨s.data.toList.reverse.toArray⟩)/\Fp [] w w':=by
 obtain⟨cap,W,j,b,g⟩:=tR w s;have c:=tQ W w.heap.size s.size cap (A4 s) b m;have i:=Z c;have k:=Z g;clear b g c;go_in;go_wp2_with fail;refine i.o.mono ?_;rintro e w2 ⟨rfl,a,h⟩;have d:=P3 (cap:=cap) a;rw[tS] at d;have l:=Z (k.o.trans h);clear a h;go_wp2_with fail;go_ret;exact⟨rfl,l.o⟩
theorem gY(w:World)(base:Nat)(v:Value)(l:List UInt8)(n:Nat)(g:Bt w base v l)(F:base≤w.heap.size)(L:l.length≤1000000)(C:n<18446744073709551616):
  Calls Tryz.prog 226 #[v,.int .u64 n] w fun e w'=>∃B,e=.returned B/\Bt w' base B (l++Ht n)/\Below base w w':=by
 have m:=tN w w.heap.size (.slice none 0 0) [] n (Bt.nil _ _) (a1v _) (by simp) C;have x:=Z m;have G:=Z g;clear m g C;go_in;go_wp2_with fail;refine x.o.mono ?_;rintro e w2 ⟨K,rfl,j,a⟩;have d:=Wy j;rw[List.nil_append] at d
 have i:Fp [] w w2:=⟨a.os,a.tape,a.output,a.size,fun k E _=>a.block k E⟩
 have u:=Z (G.o.fp i);have y:=Z i;clear j a i;go_wp2_with fail;refine(tT w2 _ (by show(Hg n).toArray.size<=_;simp[Np])).mono ?_;rintro e D ⟨rfl,h⟩;have t:=Z (u.o.fp h);have q:=Z (y.o.trans h)
 have r:base<=D.heap.size:=by have:=q.o.size;omega
 have p:l.length+(⟨(Hg n).reverse.toArray⟩:ByteArray).size<=1000000000:=by
  show l.length+(Hg n).reverse.toArray.size<=_;simp[Np];omega
 have z:=Z p;clear h d p;go_wp2_with (at_builtin;refine Z1 rfl _ _ rfl base _ _ rfl t.o _ rfl z.o r ?_;intro J I b c);have s:=Z b;have A:=Z c;clear b c;go_wp2_with fail;go_ret;exact⟨_,rfl,s.o,(q.o.below F (by simp)).trans A.o⟩
def Hu(w:World)(v:Value)(l:List UInt8):Prop:=
 (v=.slice none 0 0/\l=[])∨∃b off cap,v=.slice (some ⟨b,off,none⟩) l.length cap/\b<w.heap.size/\∀j (h:j<l.length),w.cell? ⟨b,off+j,none⟩=some (A5 l[j])
theorem Hu.fp{w w':World}{v:Value}{l:List UInt8}(h:Hu w v l)(a:Fp [] w w'):Hu w' v l:=by
 rcases h with h|⟨b,off,cap,i,c,g⟩
 .exact Or.inl h
 .exact Or.inr ⟨b,off,cap,i,Nat.lt_of_lt_of_le c a.size,fun j d=>by rw[a.cell c (by simp)];exact g j d⟩
theorem Bt.reads{w:World}{base:Nat}{v:Value}{l:List UInt8}(h:Bt w base v l):Hu w v l:=by
 obtain⟨s,k⟩:=h;rcases k with⟨rfl,m⟩|⟨g,cap,a,rfl,r,b,p,q,n,d⟩
 .exact Or.inl ⟨rfl,a3x m⟩
 .refine Or.inr ⟨g,0,cap,rfl,Ae b,fun j i=>?_⟩;rw[Nat.zero_add,Ab b]
  have c:(a.toList.take (l.length*1))[j]?=(l.map A5)[j]?:=by rw[d]
  rw[List.getElem?_take,if_pos (by omega),a2v,a0z i] at c
  simpa using c
theorem Wz{w:World}{g:Array Oper}{rest:List Oper}{o:Oper}{a:Act}{Q:Exit→Act→World→Prop}(j:o.guard=none)(s x:Operand)
  (r:o.op=.call {callee:=.builtin .append,args:=#[s,x],argTypes:=#[113,113]})(base:Nat)(v:Value)(l:List UInt8)(q:a.eval s=v)(c:Bt w base v l)
  (m:Value)(k:List UInt8)(p:a.eval x=m)(A:Hu w m k)(i:l.length+k.length<=1000000000)(d:base<=w.heap.size)
  (h:∀n w',Bt w' base n (l++k)->Below base w w'->wpList Tryz.prog g Q rest (a.put o.dst n) w'):wpList Tryz.prog g Q (o::rest) a w:=by
 obtain⟨t,C,z,y,u⟩:=info_parts Tryz.info5;rcases A with⟨rfl,rfl⟩|⟨b,off,cap,rfl,_,B⟩
 .refine wpList_append_own_none j s x 113 r base 5 t 1 Tryz.underlying113 C v l.length (l.map A5) q c p ?_;exact h v w (by rw[a4z];exact c) (Below.refl _ _)
 .exact Uy j s x r base v l q c b off k.length cap k p rfl B i d h
theorem Hu.form{w:World}{v:Value}{l:List UInt8}(h:Hu w v l):∃a cap,v=.slice a l.length cap:=by
 rcases h with⟨rfl,rfl⟩|⟨b,off,cap,rfl,_⟩
 .exact⟨_,_,rfl⟩
 .exact⟨_,_,rfl⟩
def Ds:Nat:=18446744073709551615
def B7(c:Ac):List UInt8:=B3 c.row.data.toList++0::1::(B3 c.col.data.toList++0::1::(Ht (Ds-c.ts)++Ht (Ds-c.seq)))
def Nr(c:Ac):ByteArray:=if Bh c=true then⟨(B7 c).toArray⟩ else⟨#[]⟩
def J0(c:Ac):Nat->List UInt8
 |0=>[]
 |1=>B3 c.row.data.toList++[0,1]
 |_=>B3 c.row.data.toList++[0,1]++B3 c.col.data.toList++[0,1]
theorem gZ{c:Ac}(h:Bh c=true):(1<=c.row.size/\c.row.size<=40)/\(1<=c.col.size/\c.col.size<=40)/\c.val.size<=100/\(c.del=true->c.val.size=0):=by
 unfold Bh Jg at h;simp only[Bool.and_eq_true,decide_eq_true_eq,Bool.or_eq_true,Bool.not_eq_true'] at h;obtain⟨⟨⟨i,g⟩,d⟩,a⟩:=h;refine⟨i,g,d,fun b=>?_⟩;rcases a with a|a
 .rw[b] at a;cases a
 .exact a
theorem Z3(w:World)(x y:UInt8):∀j (h:j<[x,y].length),(w.alloc (.cells #[A5 x,A5 y] 5)).cell? ⟨w.heap.size,0+j,none⟩=some (A5 [x,y][j]):=by
 intro j a
 have b:j=0∨j=1:=by have:j<2:=a;omega
 rcases b with rfl|rfl
 .exact Ab (Ai rfl _) 0
 .exact Ab (Ai rfl _) 1
theorem hG(s:ByteArray):(⟨(B3 s.data.toList).toArray⟩:ByteArray).size<=2*s.size:=by
 have h:=Om s.data.toList;rw[<-Lib.size_eq] at h;show(B3 s.data.toList).toArray.size<=_
 simpa using h
theorem R8(c:Ac)(k:Nat)(d:c.row.size<=40)(g:c.col.size<=40):(J0 c k).length<=200:=by
 have b:=Om c.row.data.toList;have a:=Om c.col.data.toList;rw[<-Lib.size_eq] at b a;unfold J0
 split<;>simp only[a0v,a3v,List.length_nil]<;>omega
theorem tU(c:Ac){w:World}{b:Nat}{v:Value}(h:Bt w b v (J0 c 0++(⟨(B3 c.row.data.toList).toArray⟩:ByteArray).data.toList++[0,1])):Bt w b v (J0 c (0+1)):=h
theorem tV(c:Ac){w:World}{b:Nat}{v:Value}(h:Bt w b v (J0 c 1++(⟨(B3 c.col.data.toList).toArray⟩:ByteArray).data.toList++[0,1])):Bt w b v (J0 c (1+1)):=h
theorem hO(a:Nat)(h:a<18446744073709551616):bits .xor .u64 IntKind.u64.max (a:Int)=((Ds-a:Nat):Int):=by
 have c:=BitVec.toNat_not (x:=BitVec.ofNat 64 a);rw[BitVec.not_def,BitVec.toNat_xor,BitVec.toNat_allOnes,BitVec.toNat_ofNat,a1w h] at c;have b:=bits_xor_u64_nat 18446744073709551615 a (by decide) h;have d:(18446744073709551615:Nat) ^^^ a=Ds-a:=c;rw[d] at b;exact b
theorem tW(c:Ac):J0 c 2++Ht (Ds-c.ts)++Ht (Ds-c.seq)=B7 c:=by
 unfold J0 B7;simp
theorem hQ(s:ByteArray)(w:World)(a:M5 w)(g:s.size≤1000):
  Calls Tryz.prog 208 #[.string s,.string ⟨#[0]⟩,.string ⟨#[0,255]⟩] w fun e w'=>e=.returned (.string ⟨(B3 s.data.toList).toArray⟩)/\Fp [] w w':=by
 obtain⟨m,a⟩:=a;have b:Lib.countB s ⟨#[0]⟩<=s.size:=Lib.countB_le ⟨#[0]⟩ (by decide) s.size s (a1v _);have d:(⟨#[0,255]⟩:ByteArray).size=2:=rfl;refine(Tryz.strings_ReplaceAll s ⟨#[0]⟩ ⟨#[0,255]⟩ m w (by omega) a (by decide) (by rw[d];omega)).mono ?_;rintro e w' ⟨rfl,c⟩;exact⟨by rw[<-tK],Below.toFp c⟩
theorem tX(a b:ByteArray)(w:World):(Instr.index 290 (.agg #[.string a,.string b]) (.int .i64 0)).run Tryz.prog w=.ok (.string a) w:=by
 simp[Instr.index,run_underlying Tryz.underlying290,asIntOf,go_sem]
theorem tY(a b:ByteArray)(w:World):(Instr.index 290 (.agg #[.string a,.string b]) (.int .i64 1)).run Tryz.prog w=.ok (.string b) w:=by
 simp[Instr.index,run_underlying Tryz.underlying290,asIntOf,go_sem]
theorem tZ(c:Ac)(w:World)(T:Di c)(m:Bh c=true)(hm:M5 w):Calls Tryz.prog 152 #[A7 c] w fun e w'=>e=.returned (.string ⟨(B7 c).toArray⟩)∧Fp [] w w':=by
 have Q:=fun w=>gK c w T;obtain⟨F,G,_⟩:=gZ m;rw[m] at Q;have ht:=T.ts;have hq:=T.seq;unfold A7 at Q ⊢;have N1:=Z Q;have HM:=Z hm;clear Q m hm;obtain⟨W,S⟩:=Bz (w.alloc (.cells #[.string c.row,.string c.col,.int .u64 c.ts,.int .u64 c.seq,.bool c.del,.string c.val] 80));have hb:W.heap[w.heap.size]?=some (.cells #[.string c.row,.string c.col,.int .u64 c.ts,.int .u64 c.seq,.bool c.del,.string c.val] 80 (0,0)):=by
  rw[S];exact Ai rfl _
 have u:Fp [] w W:=by rw[S];exact Fp.alloc _ _
 have n:∀w',Fp [] W w'->w'.cell? ⟨w.heap.size,0,none⟩=some (.string c.row)/\w'.cell? ⟨w.heap.size,1,none⟩=some (.string c.col)/\w'.cell? ⟨w.heap.size,2,none⟩=some (.int .u64 c.ts)/\w'.cell? ⟨w.heap.size,3,none⟩=some (.int .u64 c.seq)/\w.heap.size<w'.heap.size:=by
  intro w' R;have N:=(R.block _ (Ae hb) (by simp)).trans hb;exact⟨Ab N 0,Ab N 1,Ab N 2,Ab N 3,Ae N⟩
 have l:=Z n;have ab:=Z u;have HW:=Z S;have O:=Z (M5.fp HM.o u (by simp));clear n u hb S;go_in;go_wp2_with fail;rw[<-HW.o];refine(N1.o _).mono ?_;rintro e w1 ⟨rfl,v⟩;have P:=Z v;obtain⟨c0,c1,-,-,t⟩:=l.o _ v;clear v;go_wp2_with fail;have ah:=Z t;have ag:W.heap.size<=w1.heap.size:=P.o.size
 have af:W.heap.size=w.heap.size+1:=by rw[HW.o];simp
 clear c0 c1 t
 go_loopg [3,15] 2 (fun g vb vi wr=>∃k:Nat,g+k=2/\vi=.int .i64 k/\Bt wr W.heap.size vb (J0 c k)/\Fp [] W wr)
 case atStart=>
  refine⟨0,rfl,rfl,?_,P.o.alloc' _⟩;exact Bt.made w1 W.heap.size [] (by omega) (by decide)
 case round=>
  obtain⟨k,hg,rfl,ho,R⟩:=hrel;have HO:=Z ho;have D:=Z R;clear ho R
  have h3:k=0∨k=1∨k=2:=by omega
  rcases h3 with rfl|rfl|rfl
  .rw[show((0:Nat):Int)=0 from rfl];have hx:=fun w=>tX c.row c.col w;go_wp2_with fail;refine(hQ c.row _ (O.o.fp D.o) (by omega)).mono ?_;rintro e w2 ⟨rfl,j⟩;have q:=Z (D.o.trans j);have A:=Z (HO.o.fp j)
   have x:W.heap.size<=w2.heap.size:=by have:=q.o.size;omega
   have a:(J0 c 0).length+(⟨(B3 c.row.data.toList).toArray⟩:ByteArray).size<=1000000000:=by
    have:=R8 c 0 F.2 G.2;have:=hG c.row;omega
   have HL:=Z a;clear j a;have a:(J0 c 0++(⟨(B3 c.row.data.toList).toArray⟩:ByteArray).data.toList).length+2<=1000000000:=by
    have h4:=R8 c 0 F.2 G.2;have h5:=Om c.row.data.toList;rw[<-Lib.size_eq] at h5;show(J0 c 0++B3 c.row.data.toList).length+2<=_;simp only[a0v];omega
   have B:=Z a;clear a
   go_wp2_with (first
    |(at_builtin;refine Z1 rfl _ _ rfl W.heap.size _ _ rfl A.o _ rfl HL.o x ?_;intro v3 s d i;have p:=Z (q.o.belowTrans i);have V:W.heap.size<=s.heap.size:=p.o.size;have z:=Z d;have E:=Z (Z3 s 0 1);clear d i)
    |(at_builtin;refine Uy rfl _ _ rfl W.heap.size _ _ rfl (z.o.alloc _) s.heap.size 0 2 2 [0,1] rfl rfl E.o B.o (by simp;omega) ?_;intro v4 w4 b h))
   have C:=Z ((p.o.alloc' _).belowTrans h);have y:=Z b;clear b h;go_wp2_with fail
   go_roundg (gk-1)
   case measure=>omega
   case rel=>exact⟨1,by omega,by go_num,tU c y.o,C.o⟩
  .rw[show((1:Nat):Int)=1 from rfl];have hx:=fun w=>tY c.row c.col w;go_wp2_with fail;refine(hQ c.col _ (O.o.fp D.o) (by omega)).mono ?_;rintro e w2 ⟨rfl,j⟩;have q:=Z (D.o.trans j);have A:=Z (HO.o.fp j)
   have x:W.heap.size<=w2.heap.size:=by have:=q.o.size;omega
   have a:(J0 c 1).length+(⟨(B3 c.col.data.toList).toArray⟩:ByteArray).size<=1000000000:=by
    have:=R8 c 1 F.2 G.2;have:=hG c.col;omega
   have HL:=Z a;clear j a;have a:(J0 c 1++(⟨(B3 c.col.data.toList).toArray⟩:ByteArray).data.toList).length+2<=1000000000:=by
    have h4:=R8 c 1 F.2 G.2;have h5:=Om c.col.data.toList;rw[<-Lib.size_eq] at h5;show(J0 c 1++B3 c.col.data.toList).length+2<=_;simp only[a0v];omega
   have B:=Z a;clear a
   go_wp2_with (first
    |(at_builtin;refine Z1 rfl _ _ rfl W.heap.size _ _ rfl A.o _ rfl HL.o x ?_;intro v3 s d i;have p:=Z (q.o.belowTrans i);have V:W.heap.size<=s.heap.size:=p.o.size;have z:=Z d;have E:=Z (Z3 s 0 1);clear d i)
    |(at_builtin;refine Uy rfl _ _ rfl W.heap.size _ _ rfl (z.o.alloc _) s.heap.size 0 2 2 [0,1] rfl rfl E.o B.o (by simp;omega) ?_;intro v4 w4 b h))
   have C:=Z ((p.o.alloc' _).belowTrans h);have y:=Z b;clear b h;go_wp2_with fail
   go_roundg (gk-1)
   case measure=>omega
   case rel=>exact⟨2,by omega,by go_num,tV c y.o,C.o⟩
  .obtain⟨-,-,c2,c3,t⟩:=l.o _ D.o;have U:W.heap.size<=wr.heap.size:=D.o.size;have NX:=Z (hO c.ts ht);have NY:=Z (hO c.seq hq);go_wp2_with fail;rw[NX.o];refine(gY wr W.heap.size _ _ (Ds-c.ts) HO.o U (by have:=R8 c 2 F.2 G.2;omega) (by unfold Ds;omega)).mono ?_;rintro e w5 ⟨v5,rfl,J,M⟩;have aa:=Z J;have r:=D.o.belowTrans M;have ad:=Z r;have K:W.heap.size<=w5.heap.size:=r.size;obtain⟨-,-,d2,d3,ae⟩:=l.o _ r;clear J M r c2 c3;go_wp2_with fail;rw[NY.o];refine(gY w5 W.heap.size _ _ (Ds-c.seq) aa.o K (by have:=R8 c 2 F.2 G.2;simp only[a0v,Ht,List.length_reverse,Np];omega) (by unfold Ds;omega)).mono ?_;rintro e w6 ⟨v6,rfl,I,L⟩;have ac:=Z (ad.o.belowTrans L);have hs:=Wy I;clear I L d2 d3;go_wp2_with fail;go_ret;exact⟨yF (by rw[<-tW,List.append_assoc]),ab.o.trans ac.o⟩
end
section
open Go.RowKit
def F9(s:ByteArray):Nat->Nat
 |0=>0
 |k+1=>F9 s k+(A4 s k).toNat*256^k
theorem W4(s:ByteArray):∀k,F9 s k<256^k
 |0=>Nat.one_pos
 |k+1=>by
  have c:=W4 s k;have b:=(A4 s k).toNat_lt;show F9 s k+(A4 s k).toNat*256^k<256^(k+1);have a:(A4 s k).toNat*256^k<=255*256^k:=Nat.mul_le_mul_right _ (by omega);rw[a3u];omega
theorem uA(s:ByteArray)(k:Nat):F9 s k ||| ((A4 s k).toNat*256^k)=F9 s (k+1):=by
 have b:=W4 s k
 have a:(256:Nat)^k=2^(8*k):=by rw[Nat.pow_mul]
 rw[a] at b ⊢;have c:=Nat.two_pow_add_eq_or_of_lt b (A4 s k).toNat;show _ =F9 s k+(A4 s k).toNat*256^k;rw[a,Nat.or_comm,Nat.mul_comm,<-c];omega
theorem uB{s:ByteArray}{k:Nat}(a:k<s.size)(i:k<8):
  bits .or .u64 (F9 s k:Int) (IntKind.u64.wrap (IntKind.u64.wrap (s[k].toNat:Int)*2^(8*k)))=(F9 s (k+1):Int):=by
 have q:s[k].toNat<256:=s[k].toNat_lt;have c:A4 s k=s[k]:=by
  unfold A4;rw[a0w,a0z (by simpa using a)];simp;rfl
 have p:=W4 s k;have n:=W4 s (k+1);have b:=uA s k;rw[c] at b
 have h:(256:Nat)^k=2^(8*k):=by rw[Nat.pow_mul]
 have m:(256:Nat)^(k+1)<=256^8:=Nat.pow_le_pow_right (by decide) (by omega)
 have l:(256:Nat)^8=18446744073709551616:=by decide
 have g:s[k].toNat*256^k<18446744073709551616:=by
  have:F9 s (k+1)=F9 s k+s[k].toNat*256^k:=by rw[<-c];rfl
  omega
 have d:IntKind.u64.wrap (s[k].toNat:Int)=(s[k].toNat:Int):=by rw[IntKind.wrap_u64];omega
 have w2:((s[k].toNat:Int)*2^(8*k))=((s[k].toNat*256^k:Nat):Int):=by
  rw[h];push_cast;rfl
 rw[d,w2,IntKind.wrap_u64,show((s[k].toNat*256^k:Nat):Int)%18446744073709551616=((s[k].toNat*256^k:Nat):Int) by omega];have j:(256:Nat)^k<=256^8:=Nat.pow_le_pow_right (by decide) (by omega);rw[bits_or_u64_nat _ _ (by omega) g,b]
theorem Ku{n:Nat}(h:n<256):A5 (a0x n)=.int .u8 n:=by
 unfold A5;rw[a0u,a1w h]
theorem Hu.one(w:World){n:Nat}(h:n<256):Hu (w.alloc (.cells #[.int .u8 n] 5)) (.slice (some ⟨w.heap.size,0,none⟩) 1 1) [a0x n]:=by
 refine Or.inr ⟨w.heap.size,0,1,rfl,by simp,Z0 ?_⟩;rw[Ku h];exact Ab (Ai rfl _) 0
theorem Bt.one(w:World)(base:Nat)(a:base<=w.heap.size){n:Nat}(h:n<256):Bt (w.alloc (.cells #[.int .u8 n] 5)) base (.slice (some ⟨w.heap.size,0,none⟩) 1 1) [a0x n]:=by
 have:=Bt.made w base [a0x n] a (by simp[maxLen]);simp only[List.map_cons,List.map_nil,Ku h] at this;exact this
theorem Bt.two(w:World)(base:Nat)(a:base<=w.heap.size){n m:Nat}(h:n<256)(b:m<256):Bt (w.alloc (.cells #[.int .u8 n,.int .u8 m] 5)) base (.slice (some ⟨w.heap.size,0,none⟩) 2 2) [a0x n,a0x m]:=by
 have:=Bt.made w base [a0x n,a0x m] a (by simp[maxLen]);simp only[List.map_cons,List.map_nil,Ku h,Ku b] at this;exact this
theorem Bt.drew{w:World}{base:Nat}{v:Value}{l:List UInt8}(h:Bt w base v l):Bt w.drew base v l:=h.fp (Fp.drew w)
theorem Hu.drew{w:World}{v:Value}{l:List UInt8}(h:Hu w v l):Hu w.drew v l:=h.fp (Fp.drew w)
theorem Je.reads{w:World}{b n cap:Nat}{f:Nat→UInt8}(h:Je w b n f):Hu w (.slice (some ⟨b,0,none⟩) n cap) ((a2w n).map f):=
 Or.inr ⟨b,0,cap,by simp,h.lt,fun j c=>by
  have a:j<n:=by simpa using c
  rw[Nat.zero_add,h.cell j a];simp⟩
theorem Bt.slice{w:World}{base:Nat}{v:Value}{l:List UInt8}(h:Bt w base v l):∃a n cap,v=.slice a n cap:=by
 obtain⟨a,cap,rfl⟩:=h.reads.form;exact⟨_,_,_,rfl⟩
theorem wrap_u8{n:Nat}(h:n<256):IntKind.u8.wrap (n:Int)=n:=by rw[IntKind.wrap_u8];omega
end
section
open Go.RowKit
def On(d:Bool):UInt8:=if d then 1 else 0
end
section
open Go.Lib
def bl(l:List UInt8):ByteArray:=⟨l.toArray⟩
theorem Oo(s:ByteArray):bl s.data.toList=s:=mk_data s
theorem Dt(l:List UInt8):(bl l).size=l.length:=by show l.toArray.size=_;simp
theorem Ia(l:List UInt8):(bl l).data.toList=l:=by simp[bl]
theorem Z4(l:List UInt8)(a b:Nat):(bl l).extract a b=bl ((l.drop a).take (b-a)):=by
 rw[<-Oo ((bl l).extract a b)];congr 1;rw[extract_data,Ia]
theorem P4(l:List UInt8)(j:Nat):A4 (bl l) j=l.getD j 0:=by unfold A4;rw[Ia]
theorem toNat_ofNat{n:Nat}(h:n<256):(a0x n).toNat=n:=by rw[a0u,a1w h]
theorem hU(n:Nat)(y:List UInt8):∀k,k≤8→F9 (bl (Hg n++y)) k=n%256^k
 |0,_=>by simp[F9,Nat.mod_one]
 |k+1,h=>by
  show F9 _ k+_ =_;rw[hU n y k (by omega),P4,a0w,List.getElem?_append_left (by rw[Np];omega)];have:(Hg n)[k]?=some (Cj n k):=by
   unfold Hg;rw[a2v,List.getElem?_range (by omega)];rfl
  rw[this];show _ +(Cj n k).toNat*_ =_;unfold Cj;have d:=Nat.mod_mul (x:=n) (a:=256^k) (b:=256);have c:(256:Nat)^(k+1)=256^k*256:=a3u _ _;rw[a0u,show(2:Nat)^8=256 from rfl,c,d,Nat.mul_comm (256^k) (n/256^k%256)]
end
section
open Go.RowKit
def ca:Ac:=⟨⟨#[114]⟩,⟨#[99]⟩,5,0,false,⟨#[118]⟩⟩
def cb:Ac:=⟨⟨#[114]⟩,⟨#[99]⟩,4,0,false,⟨#[]⟩⟩
end
section
open Go.Lib
def Qs(n:Nat):Nat->List UInt8
 |0=>[]
 |k+1=>Cj n k::Qs n k
theorem iA(n:Nat):Ht n=Qs n 8:=rfl
theorem R9(n:Nat):Du n n=0:=R6 (Nat.lt_irrefl _) (Nat.lt_irrefl _)
theorem iB(n m:Nat)(X Y:List UInt8):∀k,compareBytes (Qs n k++X) (Qs m k++Y)=if n%256^k=m%256^k then compareBytes X Y else Du (n%256^k) (m%256^k)
 |0=>by simp[Qs,Nat.mod_one]
 |k+1=>by
  have i:=iB n m X Y k;have l:=Nat.mod_mul (x:=n) (a:=256^k) (b:=256);have p:=Nat.mod_mul (x:=m) (a:=256^k) (b:=256);have j:(256:Nat)^(k+1)=256^k*256:=a3u _ _;have c:0<(256:Nat)^k:=Nat.pow_pos (by decide);have q:=Nat.mod_lt n c;have t:=Nat.mod_lt m c
  have u:(Cj n k).toNat=n/256^k%256:=by unfold Cj;rw[a0u]
  have v:(Cj m k).toNat=m/256^k%256:=by unfold Cj;rw[a0u]
  rw[j,l,p];show compareBytes (Cj n k::(Qs n k++X)) (Cj m k::(Qs m k++Y))=_;generalize n/256^k%256=a at*;generalize m/256^k%256=b at*;generalize n%256^k=r at*;generalize m%256^k=s at*;generalize (256:Nat)^k=P at*;rcases a1x a b with h|h|h
  .have g:P*(a+1)<=P*b:=Nat.mul_le_mul_left _ h;rw[Nat.mul_add,Nat.mul_one] at g;rw[L8 (UInt8.lt_iff_toNat_lt.2 (by omega)),if_neg (by omega),P0 (by omega)]
  .subst h;obtain e:Cj n k=Cj m k:=UInt8.toNat_inj.1 (by omega);rw[e,K3,i];by_cases d:r=s
   .rw[if_pos d,if_pos (by omega)]
   .rw[if_neg d,if_neg (by omega)];rcases Nat.lt_or_gt_of_ne d with h|h
    .rw[P0 h,P0 (by omega)]
    .rw[P1 h,P1 (by omega)]
  .have g:P*(b+1)<=P*a:=Nat.mul_le_mul_left _ h;rw[Nat.mul_add,Nat.mul_one] at g;rw[L9 (UInt8.lt_iff_toNat_lt.2 (by omega)),if_neg (by omega),P1 (by omega)]
theorem iC(n m:Nat)(a:n<18446744073709551616)(b:m<18446744073709551616)(X Y:List UInt8):compareBytes (Ht n++X) (Ht m++Y)=if n=m then compareBytes X Y else Du n m:=by
 have h:=iB n m X Y 8
 have e:(256:Nat)^8=18446744073709551616:=by decide
 rw[e,a1w a,a1w b] at h;rw[iA,iA];exact h
theorem W5{a b:Nat}(h:Du a b=0):a=b:=by
 unfold Du at h;by_cases c:a<b
 .rw[if_pos c] at h;exact absurd h (by decide)
 .by_cases d:b<a
  .rw[if_neg c,if_pos d] at h;exact absurd h (by decide)
  .omega
theorem iD(a b:Nat)(h:a<18446744073709551616)(g:b<18446744073709551616):Du (Ds-a) (Ds-b)=Du b a:=by
 unfold Du Ds;by_cases c:b<a
 .rw[if_pos c,if_pos (by omega)]
 .by_cases d:a<b
  .rw[if_neg c,if_pos d,if_neg (by omega),if_pos (by omega)]
  .rw[if_neg c,if_neg d,if_neg (by omega),if_neg (by omega)]
theorem Qu(a b:Ac)(d:Di a)(c:Di b):compareBytes (B7 a) (B7 b)=Db a b:=by
 unfold B7 Db;rw[gW];unfold E2;by_cases j:a.row.data.toList=b.row.data.toList
 .have z1:Bq a.row b.row=0:=by unfold Bq;rw[j];exact P2 _
  rw[if_pos j,if_neg (by simp[z1]),gW];unfold E2;by_cases i:a.col.data.toList=b.col.data.toList
  .have m:Bq a.col b.col=0:=(by unfold Bq;rw[i];exact P2 _)
   rw[if_pos i,if_neg (by simp[m]),iC _ _ (by unfold Ds;omega) (by unfold Ds;omega),iD _ _ d.ts c.ts];unfold E2;have r:=d.ts;have q:=c.ts;by_cases h:Ds-a.ts=Ds-b.ts
   .have l:Du b.ts a.ts=0:=(by rw[show a.ts=b.ts by unfold Ds at h;omega];exact R9 _)
    have:=iC (Ds-a.seq) (Ds-b.seq) (by unfold Ds;omega) (by unfold Ds;omega) [] [];rw[a4z,a4z] at this;rw[if_pos h,if_neg (by simp[l]),this,iD _ _ d.seq c.seq];unfold E2;have p:=d.seq;have n:=c.seq;by_cases g:Ds-a.seq=Ds-b.seq
    .have k:Du b.seq a.seq=0:=(by rw[show a.seq=b.seq by unfold Ds at g;omega];exact R9 _)
     rw[if_pos g,if_neg (by simp[k])];rfl
    .have k:Du b.seq a.seq≠0:=fun e=>g (by rw[W5 e]);rw[if_neg g,if_pos k]
   .have l:Du b.ts a.ts≠0:=fun e=>h (by rw[W5 e]);rw[if_neg h,if_pos l]
  .have m:Bq a.col b.col≠0:=fun e=>i (Ux e);rw[if_neg i,if_pos m];rfl
 .have z1:Bq a.row b.row≠0:=fun e=>j (Ux e);rw[if_neg j,if_pos z1];rfl
theorem iE(a:Ac)(b:Di a):Db a a=0:=by rw[<-Qu a a b b];exact P2 _
theorem iF(a b:Ac)(d:Di a)(c:Di b):Db b a= -Db a b:=by rw[<-Qu a b d c,<-Qu b a c d];exact gV _ _
theorem iG(a b c:Ac)(h:Di a)(g:Di b)(d:Di c)(j:Db a b<=0)(i:Db b c<=0):Db a c<=0:=by
 rw[<-Qu a b h g] at j;rw[<-Qu b c g d] at i;rw[<-Qu a c h d];exact Zz j i
theorem uC(a b:Ac)(d:Di a)(c:Di b):Db a b= -1∨Db a b=0∨Db a b=1:=by
 rw[<-Qu a b d c];exact Wx _ _
theorem W6:∀(x y:List UInt8),Op.bytesLess x y=decide (compareBytes x y= -1)
 |_,[]=>by
  rename_i x
  cases x<;>simp[Op.bytesLess,compareBytes]
 |[],_ ::_=>by simp[Op.bytesLess,compareBytes]
 |a::x,b::y=>by
  have c:=W6 x y;unfold Op.bytesLess;rcases a1x a.toNat b.toNat with k|k|k
  .have h:=UInt8.lt_iff_toNat_lt.2 k;rw[L8 h];simp[h]
  .obtain rfl:a=b:=UInt8.toNat_inj.1 k;rw[K3,c];simp[a1u]
  .have h:=UInt8.lt_iff_toNat_lt.2 k;rw[L9 h];have g:¬a<b:=UInt8.lt_asymm h
   have d:¬a=b:=fun e=>by rw[e] at k;omega
   simp[g,d]
end
section
open Go.RowKit
theorem iH(c:Ac)(w:World)(p:Di c):Calls Tryz.prog 167 #[A7 c] w fun e w'=>e=.returned (.bool (Bh c))∧Fp [] w w':=by
 obtain⟨B,A,z,y,x⟩:=p;have b:Hid (Bh c=(decide (1<=c.row.size/\c.row.size<=40)&&decide (1<=c.col.size/\c.col.size<=40)&&decide (c.val.size<=100)&&(!c.del||decide (c.val.size=0)))):=rfl;unfold A7;by_cases v:c.row.size<1
 .have a:Hid (Bh c=false):=by unfold Hid;rw[b.o,decide_eq_false (by omega)];rfl
  go_in;go_wp2_with fail;go_ret;exact⟨G9 a.o.symm,Fp.alloc _ _⟩
 by_cases u:c.row.size<=40
 case neg=>
  have m:40<c.row.size:=by omega
  have a:Hid (Bh c=false):=by unfold Hid;rw[b.o,decide_eq_false (by omega)];rfl
  go_in;go_wp2_with fail;go_ret;exact⟨G9 a.o.symm,Fp.alloc _ _⟩
 have d:Hid (decide (1<=c.row.size/\c.row.size<=40)=true):=decide_eq_true (by omega);by_cases t:c.col.size<1
 .have a:Hid (Bh c=false):=by unfold Hid;rw[b.o,d.o,decide_eq_false (by omega)];rfl
  go_in;go_wp2_with fail;go_ret;exact⟨G9 a.o.symm,Fp.alloc _ _⟩
 by_cases s:c.col.size<=40
 case neg=>
  have l:40<c.col.size:=by omega
  have a:Hid (Bh c=false):=by unfold Hid;rw[b.o,d.o,decide_eq_false (by omega)];rfl
  go_in;go_wp2_with fail;go_ret;exact⟨G9 a.o.symm,Fp.alloc _ _⟩
 have i:Hid (decide (1<=c.col.size/\c.col.size<=40)=true):=decide_eq_true (by omega);by_cases r:c.val.size<=100
 case neg=>
  have k:100<c.val.size:=by omega
  have a:Hid (Bh c=false):=by unfold Hid;rw[b.o,d.o,i.o,decide_eq_false (by omega)];rfl
  go_in;go_wp2_with fail;go_ret;exact⟨G9 a.o.symm,Fp.alloc _ _⟩
 have j:Hid (decide (c.val.size<=100)=true):=decide_eq_true (by omega);obtain⟨q,g⟩:=Bz c.del;rw[<-g] at b ⊢;clear g;cases q
 .have a:Hid (Bh c=true):=by unfold Hid;rw[b.o,d.o,i.o,j.o];rfl
  go_in;go_wp2_with fail;go_ret;exact⟨G9 a.o.symm,Fp.alloc _ _⟩
 by_cases h:c.val.size=0
 .have a:Hid (Bh c=true):=by unfold Hid;rw[b.o,d.o,i.o,j.o,decide_eq_true h];rfl
  have n:=Ve h;go_in;go_wp2_with fail;go_ret;exact⟨G9 a.o.symm,Fp.alloc _ _⟩
 .have a:Hid (Bh c=false):=by unfold Hid;rw[b.o,d.o,i.o,j.o,decide_eq_false h];rfl
  have n:=Nw (a3w h);clear h;go_in;go_wp2_with fail;go_ret;exact⟨G9 a.o.symm,Fp.alloc _ _⟩
theorem uD{s:ByteArray}{k:Nat}(h:k<s.size):s[k]=A4 s k:=by
 unfold A4;rw[a0w,a0z (by simpa using h)];simp;rfl
theorem uE(w:World)(n:Nat)(c:n<=1000):∃W,(Instr.makeSlice 113 (.int .i64 n) (.int .i64 n)).run Tryz.prog w=.ok (.slice (some ⟨w.heap.size,0,none⟩) n n) W/\Je W w.heap.size n (fun _=>0)/\Fp [] w W:=by
 have h:=run_makeSlice (P:=Tryz.prog) w 113 5 Tryz.t5 (.int .u8 0) Tryz.underlying113 (by kernel_rfl) (by kernel_rfl) .i64 .i64 n n (by omega) (Int.le_refl _) (by show(n:Int).toNat*1<=_;omega) (by show((1:Nat):Int)*n<=_;omega) (by omega)
 change _ =Result.ok _ (w.alloc (.cells (madeCells (Value.int .u8 0).cells ((n:Int).toNat*1)) 5)) at h
 simp only[Int.toNat_natCast,Nat.mul_one] at h;have a:=Ai (w:=w) (n:=w.heap.size) rfl (.cells (madeCells (Value.int .u8 0).cells n) 5 (0,0));refine⟨_,h,⟨Ae a,fun j b=>?_,fun j _=>Av a j⟩,Fp.alloc _ _⟩;rw[Ab a j];simp[madeCells,Value.cells,b,Nat.mod_one,A5]
def Ns(n:Nat)(high:Bool)(k t:Nat):UInt8:=match high with|true=>if 7-t<k then Cj n (7-t) else 0|false=>if t<k then Cj n t else 0
def W7(n:Nat)(high:Bool):List UInt8:=match high with|true=>Ht n|false=>Hg n
theorem iI(n:Nat)(high:Bool):(a2w 8).map (Ns n high 8)=W7 n high:=by
 cases high<;>rfl
theorem iJ(n:Nat)(a:Bool)(t:Nat):Ns n a 0 t=0:=by
 cases a<;>rfl
theorem iK{w:World}{b n k:Nat}{f:Nat->UInt8}(h:Je w b n f)(d:k<n)(x:UInt8):Je (w.setCell ⟨b,k,none⟩ (A5 x)) b n (fun t=>if t=k then x else f t):=by
 refine⟨by simpa [World.setCell] using h.lt,fun j a=>?_,fun j a=>by rw[World.frozen?_setCell];exact h.free j a⟩;by_cases e:j=k
 .subst e;rw[World.cell?_setCell_same _ _ _ (h.cell j a),if_pos rfl]
 .rw[World.cell?_setCell_other _ _ _ _ (fun c=>e (congrArg Addr.off c).symm),h.cell j a,if_neg e]
theorem Je.congr{w:World}{b n:Nat}{f g:Nat->UInt8}(h:Je w b n f)(a:∀t,t<n->f t=g t):Je w b n g:=
 ⟨h.lt,fun j c=>by rw[h.cell j c,a j c],h.free⟩
theorem iL{n k x:Nat}(h:x=n/256^k):A5 (Cj n k)=.int .u8 ((x:Int)%256):=by
 unfold A5 Cj;rw[<-h,a0u];rfl
theorem iM{n k x:Nat}(h:x=n/256^k):(Value.int .u64 ((x:Int)/256))=.int .u64 ((n/256^(k+1):Nat):Int):=by
 have e:n/256^(k+1)=x/256:=by rw[a3u,<-Nat.div_div_eq_div_mul,<-h]
 rw[e];rfl
theorem Z5(n:Nat)(c:Bool)(w:World)(D:n<18446744073709551616):
  Calls Tryz.prog 60 #[.int .u64 n,.bool c] w fun e w'=>e=.returned (.string (bl (W7 n c)))/\Fp [] w w':=by
 obtain⟨W,z1,C,B⟩:=uE w 8 (by decide);have F:=Z C;have r:=Z B;rw[show((8:Nat):Int)=8 from rfl] at z1;clear C B;cases c
 all_goals
  go_in;go_wp2_with fail
 .go_loopg [0,6] 8 (fun g v y wr=>∃k:Nat,g+k=8∧y=.int .i64 k∧v=.int .u64 ((n/256^k:Nat):Int)∧Je wr w.heap.size 8 (Ns n false k)∧Fp [] w wr)
  case atStart=>exact⟨0,rfl,rfl,by simp,F.o.congr (fun t _=>(iJ n false t).symm),r.o⟩
  case round=>
   obtain⟨k,K,rfl,rfl,a,j⟩:=hrel;have A:=Z a;have s:=Z j;by_cases u:k<8
   .have M:wr.cell? ⟨w.heap.size,k,none⟩=some (.int .u8 0):=(by rw[a.cell k u];simp[Ns,A5])
    have L:=a.free k u;obtain⟨x,h⟩:=Bz (n/256^k);rw[<-h]
    have z:x<18446744073709551616:=(by rw[h];exact Nat.lt_of_le_of_lt (Nat.div_le_self _ _) D)
    have q:=Z h;clear a j h;go_wp2_with fail
    go_roundg (gk-1)
    case measure=>omega
    case rel=>
     refine⟨k+1,by omega,by go_num,iM q.o,?_,s.o.setCell' (p:=⟨w.heap.size,k,none⟩) (Or.inr (a1v _)) _⟩;have d:=iK A.o u (Cj n k);rw[iL q.o] at d;refine d.congr fun t G=>?_;by_cases e:t=k
     .subst e;rw[if_pos rfl];simp only[Ns];rw[if_pos (by omega)]
     .rw[if_neg e];simp only[Ns];by_cases l:t<k
      .rw[if_pos l,if_pos (by omega)]
      .rw[if_neg l,if_neg (by omega)]
   .obtain rfl:k=8:=by omega
    have b:=P3 (cap:=8) a;rw[iI] at b;clear a j;go_wp2_with fail;go_ret;exact⟨rfl,s.o⟩
 .go_loopg [0,6] 8 (fun g v y wr=>∃k:Nat,g+k=8∧y=.int .i64 k∧v=.int .u64 ((n/256^k:Nat):Int)∧Je wr w.heap.size 8 (Ns n true k)∧Fp [] w wr)
  case atStart=>exact⟨0,rfl,rfl,by simp,F.o.congr (fun t _=>(iJ n true t).symm),r.o⟩
  case round=>
   obtain⟨k,K,rfl,rfl,a,j⟩:=hrel;have A:=Z a;have s:=Z j;by_cases u:k<8
   .obtain⟨m,E⟩:=Bz (7-k)
    have J:(7:Int)-(k:Int)=(m:Int):=(by omega)
    have i:m<8:=(by omega)
    have M:wr.cell? ⟨w.heap.size,m,none⟩=some (.int .u8 0):=(by rw[a.cell m i];simp only[Ns,A5];rw[if_neg (by omega)];rfl)
    have L:=a.free m i;obtain⟨x,h⟩:=Bz (n/256^k);rw[<-h]
    have z:x<18446744073709551616:=(by rw[h];exact Nat.lt_of_le_of_lt (Nat.div_le_self _ _) D)
    have q:=Z h;have N:=Z E;clear a j h E;go_wp2_with fail
    go_roundg (gk-1)
    case measure=>omega
    case rel=>
     refine⟨k+1,by omega,by go_num,iM q.o,?_,s.o.setCell' (p:=⟨w.heap.size,m,none⟩) (Or.inr (a1v _)) _⟩;have d:=iK A.o i (Cj n k);rw[iL q.o] at d;refine d.congr fun t G=>?_;have I:=N.o;by_cases e:t=m
     .subst e;rw[if_pos rfl];simp only[Ns];rw[if_pos (by omega),show 7-t=k by omega]
     .rw[if_neg e];simp only[Ns];by_cases l:7-t<k
      .rw[if_pos l,if_pos (by omega)]
      .rw[if_neg l,if_neg (by omega)]
   .obtain rfl:k=8:=by omega
    have b:=P3 (cap:=8) a;rw[iI] at b;clear a j;go_wp2_with fail;go_ret;exact⟨rfl,s.o⟩
theorem uF{w:World}{g n:Nat}(a:w.heap[g]?=some (.cells #[.int .u8 n] 5 (0,0)))(h:n<256):(convert 113 9 (.slice (some ⟨g,0,none⟩) 1 1)).run Tryz.prog w=.ok (.string (bl [a0x n])) w:=by
 refine P3 (cap:=1) (n:=1) (f:=fun _=>a0x n) ⟨Ae a,fun j b=>?_,fun j _=>Av a j⟩
 obtain rfl:j=0:=by omega
 rw[Ab a,Ku h];rfl
theorem P5{w:World}{g n m:Nat}(a:w.heap[g]?=some (.cells #[.int .u8 n,.int .u8 m] 5 (0,0)))(h:n<256)(c:m<256):(convert 113 9 (.slice (some ⟨g,0,none⟩) 2 2)).run Tryz.prog w=.ok (.string (bl [a0x n,a0x m])) w:=by
 refine P3 (cap:=2) (n:=2) (f:=fun j=>if j=0 then a0x n else a0x m) ⟨Ae a,fun j d=>?_,fun j _=>Av a j⟩
 have b:j=0∨j=1:=by omega
 rcases b with rfl|rfl
 .rw[Ab a,if_pos rfl,Ku h];rfl
 .rw[Ab a,if_neg (by decide),Ku c];rfl
theorem Lq(a b:List UInt8):bl a++bl b=bl (a++b):=by
 rw[<-Lib.mk_data (bl a++bl b)];unfold bl;simp
structure J1(w:World)(b o:Nat)(c:Ac):Prop where
 c0:w.cell? ⟨b,o,none⟩=some (.string c.row)
 c1:w.cell? ⟨b,o+1,none⟩=some (.string c.col)
 c2:w.cell? ⟨b,o+2,none⟩=some (.int .u64 c.ts)
 c3:w.cell? ⟨b,o+3,none⟩=some (.int .u64 c.seq)
 c4:w.cell? ⟨b,o+4,none⟩=some (.bool c.del)
 c5:w.cell? ⟨b,o+5,none⟩=some (.string c.val)
theorem J1.fp{w w':World}{b o:Nat}{c:Ac}{S:List Nat}(h:J1 w b o c)(a:Fp S w w')(d:b<w.heap.size)(g:b∉S:=by simp):J1 w' b o c:=
 ⟨(a.cell (by exact d) g).trans h.c0,(a.cell (by exact d) g).trans h.c1,(a.cell (by exact d) g).trans h.c2,(a.cell (by exact d) g).trans h.c3,(a.cell (by exact d) g).trans h.c4,(a.cell (by exact d) g).trans h.c5⟩
structure Ba(w:World)(a:Option Addr)(len:Nat)(l:List Ac):Prop where
 len:len=l.length
 cells:l=[]∨∃b o,a=some ⟨b,o,none⟩/\b<w.heap.size/\∀i (h:i<l.length),J1 w b (o+i*6) l[i]
 ok:∀c∈l,Di c
theorem Ba.fp{w w':World}{a:Option Addr}{len:Nat}{l:List Ac}(h:Ba w a len l)(c:Fp [] w w'):Ba w' a len l:=by
 refine⟨h.len,?_,h.ok⟩;rcases h.cells with k|⟨b,o,rfl,d,j⟩
 .exact Or.inl k
 .exact Or.inr ⟨b,o,rfl,Nat.lt_of_lt_of_le d c.size,fun i g=>(j i g).fp c d (by simp)⟩
theorem J2{w:World}{a:Option Addr}{len k:Nat}{l:List Ac}(h:Ba w a len l)(d:k<l.length):∃b c,a=some ⟨b,c,none⟩/\b<w.heap.size/\∀w2,Fp [] w w2->J1 w2 b (c+k*6) l[k]:=by
 rcases h.cells with n|⟨b,c,m,g,j⟩
 .subst n;exact absurd d (Nat.not_lt_zero _)
 .exact⟨b,c,m,g,fun w2 i=>(j k d).fp i g (by simp)⟩
end
section
open Go.RowKit
theorem uG(a b:List UInt8):(a==b)=decide (Lib.compareBytes a b=0):=by
 by_cases e:a=b
 .rw[e,P2];simp
 .rw[beq_eq_false_iff_ne.2 e]
  symm
  exact decide_eq_false (fun h=>e (Ux h))
theorem iN(a b:ByteArray)(w:World):Calls Tryz.prog 138 #[.string a,.string b] w fun e w'=>e=.returned (.int .i64 (Bq a b))/\w=w':=by
 have less:Op.bytesLess a.toList b.toList=decide (Bq a b= -1):=by rw[W6,ByteArray.toList_eq,ByteArray.toList_eq];rfl
 have same:(a.toList==b.toList)=decide (Bq a b=0):=by rw[uG,ByteArray.toList_eq,ByteArray.toList_eq];rfl
 have d:Bq a b= -1∨Bq a b=0∨Bq a b=1:=Wx _ _;obtain⟨x,c⟩:=Aa (Bq a b);rw[c] at less same d ⊢;clear c;rcases d with rfl|rfl|rfl
 .have less:Op.bytesLess a.toList b.toList=true:=less;have same:(a.toList==b.toList)=false:=same;go_in;go_wp2_with fail;go_ret;exact⟨rfl,rfl⟩
 .have less:Op.bytesLess a.toList b.toList=false:=less;have same:(a.toList==b.toList)=true:=same;go_in;go_wp2_with fail;go_ret;exact⟨rfl,rfl⟩
 .have less:Op.bytesLess a.toList b.toList=false:=less;have same:(a.toList==b.toList)=false:=same;go_in;go_wp2_with fail;go_ret;exact⟨rfl,rfl⟩
theorem iO(a b:Ac)(w:World):Calls Tryz.prog 82 #[A7 a,A7 b] w fun e w'=>e=.returned (.int .i64 (Db a b))∧Fp [] w w':=by
 have n:Hid (Db a b=E2 [Bq a.row b.row,Bq a.col b.col,Du b.ts a.ts,Du b.seq a.seq]):=rfl;have u:=fun w=>iN a.row b.row w;have t:=fun w=>iN a.col b.col w;unfold A7;obtain⟨s,m⟩:=Aa (Bq a.row b.row);obtain⟨r,l⟩:=Aa (Bq a.col b.col);rw[m] at n u;rw[l] at n t;clear m l;have h:=Z u;have k:=Z t;clear u t;have g:=Z ((Fp.alloc w (.cells #[.string a.row,.string a.col,.int .u64 a.ts,.int .u64 a.seq,.bool a.del,.string a.val] 80)).alloc' (.cells #[.string b.row,.string b.col,.int .u64 b.ts,.int .u64 b.seq,.bool b.del,.string b.val] 80));by_cases q:s=0
 case neg=>
  have c:Hid (Db a b=s):=by unfold Hid;rw[n.o];exact if_pos q
  have A:(s !=0)=true:=by simpa using q
  clear q;go_in;go_wp2_with (first|(go_at_call 138;(with_reducible refine(h.o _).mono ?_);rintro e d ⟨rfl,rfl⟩));go_ret;rw[c.o];exact⟨rfl,g.o⟩
 subst q;by_cases p:r=0
 case neg=>
  have c:Hid (Db a b=r):=by unfold Hid;rw[n.o];unfold E2;rw[if_neg (by simp)];exact if_pos p
  have A:(r !=0)=true:=by simpa using p
  clear p;go_in;go_wp2_with (first|(go_at_call 138;(with_reducible refine(h.o _).mono ?_);rintro e d ⟨rfl,rfl⟩)|(go_at_call 138;(with_reducible refine(k.o _).mono ?_);rintro e d ⟨rfl,rfl⟩));go_ret;rw[c.o];exact⟨rfl,g.o⟩
 subst p;have j:Hid (Db a b=E2 [Du b.ts a.ts,Du b.seq a.seq]):=n.o;by_cases z:b.ts<a.ts
 .have c:Hid (Db a b= -1):=by unfold Hid;rw[j.o,P0 z];rfl
  go_in;go_wp2_with (first|(go_at_call 138;(with_reducible refine(h.o _).mono ?_);rintro e d ⟨rfl,rfl⟩)|(go_at_call 138;(with_reducible refine(k.o _).mono ?_);rintro e d ⟨rfl,rfl⟩));go_ret;rw[c.o];exact⟨rfl,g.o⟩
 by_cases y:a.ts<b.ts
 .have c:Hid (Db a b=1):=by unfold Hid;rw[j.o,P1 y];rfl
  go_in;go_wp2_with (first|(go_at_call 138;(with_reducible refine(h.o _).mono ?_);rintro e d ⟨rfl,rfl⟩)|(go_at_call 138;(with_reducible refine(k.o _).mono ?_);rintro e d ⟨rfl,rfl⟩));go_ret;rw[c.o];exact⟨rfl,g.o⟩
 have i:Hid (Db a b=E2 [Du b.seq a.seq]):=by unfold Hid;rw[j.o,R6 z y];rfl
 by_cases x:b.seq<a.seq
 .have c:Hid (Db a b= -1):=by unfold Hid;rw[i.o,P0 x];rfl
  go_in;go_wp2_with (first|(go_at_call 138;(with_reducible refine(h.o _).mono ?_);rintro e d ⟨rfl,rfl⟩)|(go_at_call 138;(with_reducible refine(k.o _).mono ?_);rintro e d ⟨rfl,rfl⟩));go_ret;rw[c.o];exact⟨rfl,g.o⟩
 by_cases v:a.seq<b.seq
 .have c:Hid (Db a b=1):=by unfold Hid;rw[i.o,P1 v];rfl
  go_in;go_wp2_with (first|(go_at_call 138;(with_reducible refine(h.o _).mono ?_);rintro e d ⟨rfl,rfl⟩)|(go_at_call 138;(with_reducible refine(k.o _).mono ?_);rintro e d ⟨rfl,rfl⟩));go_ret;rw[c.o];exact⟨rfl,g.o⟩
 have c:Hid (Db a b=0):=by unfold Hid;rw[i.o,R6 x v];rfl
 go_in;go_wp2_with (first|(go_at_call 138;(with_reducible refine(h.o _).mono ?_);rintro e d ⟨rfl,rfl⟩)|(go_at_call 138;(with_reducible refine(k.o _).mono ?_);rintro e d ⟨rfl,rfl⟩));go_ret;rw[c.o];exact⟨rfl,g.o⟩
theorem Z6(a b:Ac)(w:World):Calls Tryz.prog 81 #[A7 a,A7 b] w fun e w'=>e=.returned (.bool (I2 a b))∧Fp [] w w':=by
 unfold A7;by_cases d:a.row.toList=b.row.toList
 .by_cases c:a.col.toList=b.col.toList
  .go_in;go_wp2_with fail;go_ret;refine⟨G9 ?_,(Fp.alloc _ _).alloc' _⟩;unfold I2;rw[d,c,Bool.eq_iff_iff];simp;omega
  .have g:(a.col.toList==b.col.toList)=false:=(by simpa using c)
   go_in;go_wp2_with fail;go_ret;exact⟨G9 (by unfold I2;rw[g];simp),(Fp.alloc _ _).alloc' _⟩
 .have h:(a.row.toList==b.row.toList)=false:=by simpa using d
  go_in;go_wp2_with fail;go_ret;exact⟨G9 (by unfold I2;rw[h];simp),(Fp.alloc _ _).alloc' _⟩
def Jf(l:List Ac)(i:Nat):Bool:=decide (0<i)&&decide (0<=Db (l.getD (i-1) Aq) (l.getD i Aq))
def risC(l:List Ac):Bool:=!(a2w l.length).any (Jf l)
theorem Z7{l:List Ac}{k:Nat}(a:k<l.length)(h:Jf l k=true):risC l=false:=by
 unfold risC;rw[List.any_eq_true.2 ⟨k,List.mem_range.2 a,h⟩];rfl
theorem Uz{l:List Ac}(h:∀j,j<l.length->Jf l j=false):risC l=true:=by
 unfold risC;rw[List.any_eq_false.2 (fun x a=>by rw[h x (List.mem_range.1 a)];decide)];rfl
theorem Z8{l:List Ac}{k m:Nat}(d:k<l.length)(c:k=m+1)(x y:Ac)(b:l[m]'(by omega)=x)(a:l[k]=y):Jf l k=decide (0<=Db x y):=by
 subst c;unfold Jf;rw[decide_eq_true (by omega),Bool.true_and,Nat.add_sub_cancel];rw[a0w,a0w,a0z (by omega),a0z d];simp only[Option.getD_some,b,a]
theorem uH{l:List Ac}{j:Nat}(h:j<1):Jf l j=false:=by
 obtain rfl:j=0:=by omega
 rfl
theorem W8(w:World)(a:Option Addr)(len cap:Nat)(l:List Ac)(E:Ba w a len l)(hn:len≤9223372036854775807):
  Calls Tryz.prog 93 #[.slice a len cap] w fun e w'=>e=.returned (.bool (risC l))/\Fp [] w w':=by
 have HL:=Z E;have p:=E.len;have s:=Z p;clear E p;go_in;go_wp2_with fail
 go_loopg [6] len (fun g O wr=>∃k:Nat,g+k=len/\O=.int .i64 k/\(∀j,j<k->Jf l j=false)/\Fp [] w wr)
 case atStart=>exact⟨0,rfl,rfl,by intro j F;omega,Fp.refl _ _⟩
 case round=>
  obtain⟨k,hg,rfl,r,q⟩:=hrel;have t:=Z r;have B:=Z q;clear r q;by_cases V:k<len
  .by_cases h0:k=0
   .subst h0
    have U:¬((0:Nat):Int)>0:=(by decide)
    rw[show((0:Nat):Int)=0 from rfl];go_wp2_with fail;refine Bo (by kernel_rfl) (by kernel_rfl) ?_
    iterate 15
     first
     |apply Jq _ _ rfl rfl rfl rfl (by kernel_rfl) rfl rfl
     |apply A1 rfl rfl rfl
      .intro a w h c K z;have:=c.f 3;(try have:=c.e 0 9);(try have:=c.e 1 10);(try have:=c.e 2 11);(try have:=c.e 13 22);simp only[Oper.wp,execOp];go_simp;exact z _ h (Fp.refl _ _)
    refine Bn ?_
    iterate 15 refine Bm ?_
    refine Bl fun w' h=>?_
    .simp only[Aj,Act.put,a1z,a2z,a2x];have n:=Z (B.o.trans h);clear h;go_wp2_with fail
     go_roundg (gk-1)
     case measure=>omega
     case rel=>
      refine⟨1,by omega,rfl,?_,n.o⟩;intro j F
      obtain rfl:j=0:=by omega
      rfl
   .obtain⟨m,N⟩:∃m,k=m+1:=⟨k-1,by omega⟩
    have d:k<l.length:=(by rw[<-s.o];exact V)
    obtain⟨x,D⟩:=Aa (l[m]'(by omega));obtain⟨y,C⟩:=Aa (l[k]);have i:=Z (Z8 d N x y D C);rcases HL.o.cells with W|⟨b,o,rfl,I,G⟩
    .rw[W] at d;exact absurd d (by simp)
    have L:=G m (by omega);have J:=G k d;rw[D] at L;rw[C] at J
    have M:Hid (∀w',Fp [] w w'->J1 w' b (o+m*6) x/\J1 w' b (o+k*6) y):=fun w' q=>⟨L.fp q I (by simp),J.fp q I (by simp)⟩
    have A:=fun w=>gR x y w;unfold A7 at A;obtain⟨v,u⟩:=Aa (Db x y);rw[u] at A i;have C1:=Z A
    have P:IntKind.i64.wrap ((k:Int)-1)=(m:Int):=(by rw[IntWalk.i64_in _ (by omega)];omega)
    have T:0<k:=(by omega)
    have R:(m:Int)<(len:Int):=(by omega)
    have S:(k:Int)<(len:Int):=(by omega)
    have Q:m<len:=(by omega)
    clear D C G L J A u I N;go_wp2_with fail;refine Bo (by kernel_rfl) (by kernel_rfl) ?_
    iterate 15
     first|apply A1 rfl rfl rfl|apply Gw _ _ rfl rfl rfl rfl (by kernel_rfl) rfl rfl
     .intro a w h c K z;have:=c.f 3;have:=c.f 0;(try have:=c.e 0 9);(try have:=c.e 1 10);(try have:=c.e 4 13);(try have:=c.e 3 12);(try have:=c.e 5 14);(try have:=c.e 6 15);(try have:=c.e 8 17);(try have:=c.e 9 18);(try have:=c.e 10 19);(try have:=c.e 7 16);(try have:=c.e 11 20);(try have:=c.e 12 21);(try have:=c.e 2 11);(try have:=c.e 13 22);obtain⟨⟨x0,x1,x2,x3,x4,x5⟩,⟨y0,y1,y2,y3,y4,y5⟩⟩:=M.o _ (B.o.trans h);simp only[Oper.wp,execOp];go_simp
      first
      |exact z _ h (Fp.refl _ _)
      |(with_reducible refine(C1.o _).mono ?_)
       rintro e w2 ⟨rfl,q⟩;exact z _ (h.trans q) q
    refine Bn ?_
    iterate 15 refine Bm ?_
    refine Bl fun w' h=>?_
    .simp only[Aj,Act.put,a1z,a2z,a2x];have n:=Z (B.o.trans h);clear h;by_cases u:0≤v
     .have H:=Z (Z7 d (by rw[i.o];exact decide_eq_true u));go_wp2_with fail;go_ret;rw[H.o];exact⟨rfl,n.o⟩
     .have H:Hid (Jf l k=false):=(by unfold Hid;rw[i.o];exact decide_eq_false u)
      go_wp2_with fail
      go_roundg (gk-1)
      case measure=>omega
      case rel=>exact⟨k+1,by omega,by go_num,fun j F=>by
             by_cases e:j=k
             .rw[e];exact H.o
             .exact t.o j (by omega),n.o⟩
  .have H:=Z (Uz (l:=l) (fun j F=>t.o j (by have:=s.o;omega)));go_wp2_with fail;go_ret;rw[H.o];exact⟨rfl,B.o⟩
theorem W9(w:World)(a:Option Addr)(len cap:Nat)(l:List Ac)(C:Ba w a len l)(hn:len≤9223372036854775807):
  Calls Tryz.prog 43 #[.slice a len cap] w fun e w'=>e=.returned (.bool (risC l))/\Fp [] w w':=by
 have W:=Z C;have i:=C.len;have q:=Z i;clear C i;go_in;go_wp2_with fail
 go_loopg [3] len (fun g O wr=>∃k:Nat,g+k=len+1/\1<=k/\O=.int .i64 k/\(∀j,j<k->Jf l j=false)/\Fp [] w wr)
 case atStart=>exact⟨1,rfl,a1v _,rfl,fun _ D=>uH D,Fp.refl _ _⟩
 case round=>
  obtain⟨k,hg,T,rfl,p,n⟩:=hrel;have r:=Z p;have L:=Z n;clear p n;by_cases U:k<len
  .obtain⟨m,M⟩:∃m,k=m+1:=⟨k-1,by omega⟩
   have d:k<l.length:=(by rw[<-q.o];exact U)
   obtain⟨x,B⟩:=Aa (l[m]'(by omega));obtain⟨y,A⟩:=Aa (l[k]);have h:=Z (Z8 d M x y B A);rcases W.o.cells with V|⟨b,o,rfl,F,E⟩
   .rw[V] at d;exact absurd d (by simp)
   have I:=E m (by omega);have G:=E k d;rw[B] at I;rw[A] at G
   have J:Hid (∀w',Fp [] w w'->J1 w' b (o+m*6) x/\J1 w' b (o+k*6) y):=fun w' n=>⟨I.fp n F (by simp),G.fp n F (by simp)⟩
   have z:=fun w=>iO x y w;unfold A7 at z;obtain⟨v,t⟩:=Aa (Db x y);rw[t] at z h;have C1:=Z z
   have P:IntKind.i64.wrap ((k:Int)-1)=(m:Int):=(by rw[IntWalk.i64_in _ (by omega)];omega)
   have R:(m:Int)<(len:Int):=(by omega)
   have S:(k:Int)<(len:Int):=(by omega)
   have Q:m<len:=(by omega)
   clear B A E I G z t F M;go_wp2_with fail;refine Bo (by kernel_rfl) (by kernel_rfl) ?_
   iterate 11
    apply A1 rfl rfl rfl
    .intro a w s c K N;have:=c.f 0;have:=c.f 3;(try have:=c.e 1 11);(try have:=c.e 0 10);(try have:=c.e 2 12);(try have:=c.e 3 13);(try have:=c.e 5 15);(try have:=c.e 6 16);(try have:=c.e 7 17);(try have:=c.e 4 14);(try have:=c.e 8 18);(try have:=c.e 9 19);obtain⟨⟨x0,x1,x2,x3,x4,x5⟩,⟨y0,y1,y2,y3,y4,y5⟩⟩:=J.o _ (L.o.trans s);simp only[Oper.wp,execOp];go_simp
     first
     |exact N _ s (Fp.refl _ _)
     |(with_reducible refine(C1.o _).mono ?_)
      rintro e w2 ⟨rfl,n⟩;exact N _ (s.trans n) n
   refine Bn ?_
   iterate 11 refine Bm ?_
   refine Bl fun w' s=>?_
   .simp only[Aj,Act.put,a1z,a2z,a2x];have u:=Z (L.o.trans s);clear s;by_cases t:0≤v
    .have H:=Z (Z7 d (by rw[h.o];exact decide_eq_true t));go_wp2_with fail;go_ret;rw[H.o];exact⟨rfl,u.o⟩
    .have H:Hid (Jf l k=false):=(by unfold Hid;rw[h.o];exact decide_eq_false t)
     go_wp2_with fail
     go_roundg (gk-1)
     case measure=>omega
     case rel=>exact⟨k+1,by omega,by omega,by go_num,fun j D=>by
            by_cases e:j=k
            .rw[e];exact H.o
            .exact r.o j (by omega),u.o⟩
  .have H:=Z (Uz (l:=l) (fun j D=>r.o j (by have:=q.o;omega)));go_wp2_with fail;go_ret;rw[H.o];exact⟨rfl,L.o⟩
end
end Go.Proofs.YtkagolpnaicdoaaGreatDoor
