/- Lemmas. -/
import Derived.Test.YtkagolpnaicdoaaGreatDoorQTabRRows
set_option maxRecDepth 100000
set_option maxHeartbeats 8000000
open Go.Lib renaming hid->X
open List renaming length_map->Y,setIfInBounds_toArray->a0x
open Go.IntKind renaming wrap_u64->Z,wrap_i64->a0v
open Nat renaming pow_succ->a0z,mod_eq_of_lt->a0w
namespace Go.Proofs.YtkagolpnaicdoaaGreatDoor
section
open Go.RowKit Go.Lib
def Ik:Nat->Nat->List UInt8
 |0,_=>[]
 |k+1,u=>Ez (u/16^k)::Ik k (u%16^k)
theorem kB:∀(k u:Nat),(Ik k u).length=k
 |0,_=>rfl
 |k+1,u=>by show(Ik k _).length+1=k+1;rw[kB]
theorem wI:∀(k u:Nat),u<16^(k+1)→Ik (k+1) u=Ik k (u/16)++[Ez (u%16)]:=by
 intro k
 induction k with
 |zero=>
  intro u a
  have c:u<16:=by simpa using a
  show[Ez (u/16^0)]=[]++[Ez (u%16)]
  rw[Nat.pow_zero,Nat.div_one,a0w c];rfl
 |succ k ih=>
  intro u a;have b:0<16^(k+1):=Nat.pow_pos (by decide);show Ez (u/16^(k+1))::Ik (k+1) (u%16^(k+1))=Ez (u/16/16^k)::(Ik k (u/16%16^k)++[Ez (u%16)])
  have h:u/16/16^k=u/16^(k+1):=by rw[Nat.div_div_eq_div_mul,a0z,Nat.mul_comm]
  have g:u%16^(k+1)/16=u/16%16^k:=by
   rw[a0z,Nat.mul_comm,Nat.mod_mul_right_div_self]
  have d:u%16^(k+1)%16=u%16:=by
   rw[a0z,Nat.mod_mul_left_mod]
  rw[ih _ (Nat.mod_lt _ b),h,g,d]
theorem kC:∀(k:Nat),Ik k 0=List.replicate k 48
 |0=>rfl
 |k+1=>by
  show Ez (0/16^k)::Ik k (0%16^k)=_;rw[Nat.zero_div,Nat.zero_mod,kC k];rfl
theorem kD:∀(k u:Nat),u<16^k→1≤k→List.replicate (k-(D8 u).length) 48++D8 u=Ik k u
 |0,_,_,h=>absurd h (by decide)
 |k+1,u,hu,_=>by
  rw[wI k u hu];by_cases h:u<16
  .rw[Uk h,Nat.div_eq_of_lt h,kC,a0w h];rfl
  .rw[Y6 h,List.length_append,List.length_singleton,←List.append_assoc];have b:1≤k:=by
    rcases Nat.eq_zero_or_pos k with rfl|c
    .simp at hu;omega
    .exact c
   have a:u/16<16^k:=(by rw[a0z] at hu;omega)
   rw[show k+1-((D8 (u/16)).length+1)=k-(D8 (u/16)).length by omega,kD k (u/16) a b]
theorem wJ{u k:Nat}(a:u<16^k)(b:1<=k):G3 u k=bl (Ik k u):=by
 unfold G3 L5;rw[<-kD k u a b];show _ ++bl (D8 u)=_;rw[<-Lq];congr 1
def kE:List Int:=[0,1,56,2,57,49,28,3,61,58,42,50,38,29,17,4,62,47,59,36,45,43,51,22,53,39,33,30,24,18,12,5,63,55,48,27,60,41,37,16,46,35,44,21,52,32,23,11,54,26,40,15,34,20,31,10,25,14,19,9,13,8,7,6]
theorem wK{W:World}{r:List (String × DataW Unit)}(h:laidMet Tryz.prog (("math/bits.deBruijn64tab",tabData .u8 kE)::r) W.memory):Ja W:=by
 have a:TabIs Tryz.prog W.memory "math/bits.deBruijn64tab" .u8 kE:=tabIs_of_head (show Tryz.prog.globalNamed "math/bits.deBruijn64tab" =some 6 by kernel_rfl) (show(Tryz.prog.globals[6]?).map (·.type)=some 349 by kernel_rfl) Tryz.underlying349 Tryz.underlying5 (by kernel_rfl) (by kernel_rfl) h;exact a.cell (g:=6) (by kernel_rfl) 15 (by decide)
theorem wL(i n:Nat):Ik (i+1) (n%16^(i+1))=Ez (n/16^i%16)::Ik i (n%16^i):=by
 show Ez (n%16^(i+1)/16^i)::Ik i (n%16^(i+1)%16^i)=_;rw[a0z,Nat.mod_mul_right_div_self,Nat.mod_mul_right_mod]
def kF:ByteArray:=⟨#[48,49,50,51,52,53,54,55,56,57,97,98,99,100,101,102]⟩
theorem wM:∀d,d<16->kF.extract d (d+1)=bl [Ez d]:=by
 have a:∀d,d<16->(kF.extract d (d+1)).data.toList=[Ez d]:=by decide+kernel
 intro d b;apply ByteArray.ext;apply Array.ext';exact a d b
theorem aX(n many:Nat)(Q:many≤16)(D:n<18446744073709551616)(w:World):
  Calls Tryz.prog 59 #[.int .u64 n,.int .i64 many] w fun e w'=>e=.returned (.string (bl (Ik many (n%16^many))))/\Fp [] w w':=by
 go_in;go_wp2_with fail
 go_loopg [0,5,6] many (fun I A z B wr=>∃(i q:Nat) (s:ByteArray),I+i=many/\B=.int .i64 i/\A=.int .u64 q/\z=.string s/\q=n/16^i/\s=bl (Ik i (n%16^i))/\Fp [] w wr)
 case atStart=>exact⟨0,n,⟨#[]⟩,by omega,rfl,rfl,rfl,by simp,rfl,Fp.refl _ _⟩
 case round=>
  obtain⟨i,q,s,S,rfl,rfl,rfl,g,b,t⟩:=hrel;have v:=X t;clear t;by_cases R:i<many
  .have x:(i:Int)<(many:Int):=(by omega)
   have O:IntKind.i64.wrap ((i:Int)+1)=((i+1:Nat):Int):=(by rw[a0v];omega)
   have P:s.size<=16:=(by rw[b,Dt,kB];omega)
   have p:q<18446744073709551616:=(by rw[g];exact Nat.lt_of_le_of_lt (Nat.div_le_self _ _) D)
   obtain⟨d,u⟩:=Aa (q%16);obtain⟨a,c⟩:=Aa (q/16)
   have h:d<16:=(by omega)
   have l:Hid (a=n/16^(i+1)/\bl [Ez d]++s=bl (Ik (i+1) (n%16^(i+1)))):=by
    refine⟨by rw[<-c,g,Nat.div_div_eq_div_mul,a0z],?_⟩;rw[wL,<-g,u,b];apply ByteArray.ext;apply Array.ext';simp[bl]
   have k:(⟨#[48,49,50,51,52,53,54,55,56,57,97,98,99,100,101,102]⟩:ByteArray).extract d (d+1)=bl [Ez d]:=wM d h;have j:(bl [Ez d]).size=1:=rfl;obtain⟨r,m⟩:=Aa (bl [Ez d]);rw[m] at k j l;have C:(⟨#[48,49,50,51,52,53,54,55,56,57,97,98,99,100,101,102]⟩:ByteArray).size=16:=rfl
   have U:(q:Int)/16=(a:Int):=(by omega)
   have T:(q:Int)%16=(d:Int):=(by omega)
   have M:(q:Int).tmod 16=(d:Int):=(by rw[Int.tmod_eq_emod_of_nonneg (by omega)];omega)
   have N:(q:Int).tdiv 16=(a:Int):=(by rw[Int.tdiv_eq_ediv_of_nonneg (by omega)];omega)
   have K:IntKind.u64.wrap (a:Int)=(a:Int):=(by rw[Z];omega)
   have y:IntKind.u64.wrap (d:Int)=(d:Int):=(by rw[Z];omega)
   have L:IntKind.u64.wrap ((d:Int)+1)=((d+1:Nat):Int):=(by rw[Z];omega)
   have G:(d:Int)<=((d+1:Nat):Int):=(by omega)
   have F:((d+1:Nat):Int)<=16:=(by omega)
   have E:(d:Int)<=16:=(by omega)
   clear g b u c m;go_wp2_with fail
   go_roundg (gk-1)
   case measure=>omega
   case rel=>exact⟨i+1,a,_,by omega,by simp,rfl,rfl,l.o.1,l.o.2,v.o⟩
  .have x:¬(i:Int)<(many:Int):=(by omega)
   obtain rfl:i=many:=by omega
   have J:=X b;clear g b;go_wp2_with fail;go_ret;exact⟨by rw[J.o];rfl,v.o⟩
theorem wN{n many:Nat}(a:n<16^many)(b:1<=many):bl (Ik many (n%16^many))=G3 n many:=by rw[a0w a,wJ a b]
theorem wO(id a k:Nat)(l:id<18446744073709551616)(m:a<18446744073709551616)(F:k<65536)(w:World):
  Calls Tryz.prog 16 #[.int .u64 id,.int .u64 a,.int .u16 k] w fun e w'=>e=.returned (.string (Ql id a k))/\Fp [] w w':=by
 have j:=X (aX id 16 (Nat.le_refl _) l);have i:=X (aX a 16 (Nat.le_refl _) m);have h:=X (aX k 4 (by decide) (by omega));rw[wN (by omega) (by decide)] at j i h;have g:Hid (Ql id a k=((((⟨#[115]⟩:ByteArray)++G3 id 16)++⟨#[45]⟩)++G3 a 16)++⟨#[45]⟩++G3 k 4):=rfl;have z1:=Ul id 16 (by decide) (by omega);have t:=Ul a 16 (by decide) (by omega);have s:=Ul k 4 (by decide) (by omega);obtain⟨y,d⟩:=Aa (G3 id 16);obtain⟨x,c⟩:=Aa (G3 a 16);obtain⟨v,b⟩:=Aa (G3 k 4);obtain⟨r,u⟩:=Aa (Ql id a k);rw[d] at j g z1;rw[c] at i g t;rw[b] at h g s;rw[u] at g ⊢
 have B:y.size<=16:=by omega
 have A:x.size<=16:=by omega
 have z:v.size<=4:=by omega
 rw[show((16:Nat):Int)=16 from rfl] at j i;rw[show((4:Nat):Int)=4 from rfl] at h;clear d c b u z1 t s
 have C:IntKind.u64.wrap (k:Int)=(k:Int):=by rw[Z];omega
 go_in;go_wp2_with fail;refine(j.o _).nexh fun E q=>?_;go_wp2_with fail;refine(i.o _).next q fun w2 p=>?_;go_wp2_with fail;refine(h.o _).next p fun D n=>?_;go_wp2_with fail;go_ret;exact⟨by rw[g.o];rfl,n.o⟩
theorem An.cells{e:TypeId}{w:World}{base k:Nat}{v:Value}{l:List Value}(h:An e w base v l)(a:k<l.length):∃g cap,v=.slice (some ⟨g,0,none⟩) l.length cap/\∀w',Fp [] w w'->w'.cell? ⟨g,k,none⟩=some l[k]:=by
 rcases h.at.2 with m|⟨g,c,j,-,b,i⟩
 .rw[m] at a;exact absurd a (Nat.not_lt_zero _)
 .exact⟨g,c,j,fun w' d=>(d.cell (p:=⟨g,k,none⟩) b (by simp)).trans (i k a)⟩
theorem wP(w:World)(base base':Nat)(v u:Value)(l:List ByteArray)(h:An 9 w base v (l.map Value.string))(r:An 9 w base' u (l.map Value.string))(I:l.length≤100000):
  Calls Tryz.prog 13 #[v,u] w fun e w'=>e=.returned (.bool true)/\Fp [] w w':=by
 have E:=X h;have D:=X r;obtain⟨⟨a,c,e⟩,-⟩:=h.at;obtain⟨⟨W,c',C⟩,-⟩:=r.at;rw[Y] at e C;subst e C;obtain⟨n,j⟩:=Aa l.length;have g:=X j;rw[j] at E D I;rw[j];clear h r j;go_in;go_wp2_with fail
 go_loopg [5] n (fun L G wr=>∃k:Nat,G=.int .i64 k/\L+k=n/\Fp [] w wr)
 case atStart=>exact⟨0,rfl,by omega,Fp.refl _ _⟩
 case round=>
  obtain⟨k,rfl,R,z⟩:=hrel;have q:=X z;clear z;by_cases y:k<n
  .have F:(k:Int)<(n:Int):=(by omega)
   have Q:IntKind.i64.wrap ((k:Int)+1)=((k+1:Nat):Int):=(by rw[a0v];omega)
   have d:k<(l.map Value.string).length:=(by rw[Y,g.o];exact y)
   obtain⟨T,V,B,p⟩:=E.o.cells d;obtain⟨S,U,A,m⟩:=D.o.cells d;rw[List.getElem_map] at p m;rw[Y,g.o] at B A;cases B;cases A;obtain⟨s,x⟩:=Aa (l[k]'(by rw[g.o];exact y));rw[x] at p m;have N:=X (fun w' (h:Fp [] wr w')=>p w' (q.o.trans h));have M:=X (fun w' (h:Fp [] wr w')=>m w' (q.o.trans h));clear p m x d;go_wp2_with fail;refine Bo (by kernel_rfl) (by kernel_rfl) ?_
   iterate 9
    apply A1 rfl rfl rfl
    .intro a w i b K J;have:=b.f 0;have:=b.f 5;have:=b.f 1;(try have:=b.e 0 17);(try have:=b.e 1 18);(try have:=b.e 2 19);(try have:=b.e 4 21);(try have:=b.e 5 22);(try have:=b.e 6 23);(try have:=b.e 3 20);(try have:=b.e 7 24);have P:=N.o _ i;have O:=M.o _ i;simp only[Oper.wp,execOp];go_simp;exact J _ i (Fp.refl _ _)
   refine Bn ?_
   iterate 9 refine Bm ?_
   refine Bl fun w' i=>?_
   .simp only[Aj,Act.put,a0x,List.set_cons_succ,List.set_cons_zero];have t:=X (q.o.trans i);clear i;go_wp2_with fail
    go_roundg (gk-1)
    case measure=>omega
    case rel=>exact⟨k+1,by simp,by omega,t.o⟩
  .have F:¬(k:Int)<(n:Int):=(by omega)
   go_wp2_with fail;go_ret;exact⟨rfl,q.o⟩
theorem wQ(w:World)(base base':Nat)(v u:Value)(l:List ByteArray)(h:An 26 w base v (l.map H9))(r:An 26 w base' u (l.map H9))(I:l.length≤100000):
  Calls Tryz.prog 14 #[v,u] w fun e w'=>e=.returned (.bool true)/\Fp [] w w':=by
 have E:=X h;have D:=X r;obtain⟨⟨a,c,e⟩,-⟩:=h.at;obtain⟨⟨W,c',C⟩,-⟩:=r.at;rw[Y] at e C;subst e C;obtain⟨n,p⟩:=Aa l.length;have g:=X p;rw[p] at E D I;rw[p];clear h r p;go_in;go_wp2_with fail
 go_loopg [5] n (fun L G wr=>∃k:Nat,G=.int .i64 k/\L+k=n/\Fp [] w wr)
 case atStart=>exact⟨0,rfl,by omega,Fp.refl _ _⟩
 case round=>
  obtain⟨k,rfl,R,z⟩:=hrel;have q:=X z;clear z;by_cases y:k<n
  .have F:(k:Int)<(n:Int):=(by omega)
   have Q:IntKind.i64.wrap ((k:Int)+1)=((k+1:Nat):Int):=(by rw[a0v];omega)
   have d:k<(l.map H9).length:=(by rw[Y,g.o];exact y)
   obtain⟨T,V,B,m⟩:=E.o.cells d;obtain⟨S,U,A,j⟩:=D.o.cells d;rw[List.getElem_map] at m j;rw[Y,g.o] at B A;cases B;cases A;obtain⟨s,x⟩:=Aa (B0 0 (l[k]'(by rw[g.o];exact y)));unfold H9 at m j;rw[x] at m j;have N:=X (fun w' (h:Fp [] wr w')=>m w' (q.o.trans h));have M:=X (fun w' (h:Fp [] wr w')=>j w' (q.o.trans h));clear m j x d;go_wp2_with fail;refine Bo (by kernel_rfl) (by kernel_rfl) ?_
   iterate 9
    apply A1 rfl rfl rfl
    .intro a w i b K J;have:=b.f 0;have:=b.f 5;have:=b.f 1;(try have:=b.e 0 17);(try have:=b.e 1 18);(try have:=b.e 2 19);(try have:=b.e 4 21);(try have:=b.e 5 22);(try have:=b.e 6 23);(try have:=b.e 3 20);(try have:=b.e 7 24);have P:=N.o _ i;have O:=M.o _ i;simp only[Oper.wp,execOp];go_simp;exact J _ i (Fp.refl _ _)
   refine Bn ?_
   iterate 9 refine Bm ?_
   refine Bl fun w' i=>?_
   .simp only[Aj,Act.put,a0x,List.set_cons_succ,List.set_cons_zero];have t:=X (q.o.trans i);clear i;go_wp2_with fail
    go_roundg (gk-1)
    case measure=>omega
    case rel=>exact⟨k+1,by simp,by omega,t.o⟩
  .have F:¬(k:Int)<(n:Int):=(by omega)
   go_wp2_with fail;go_ret;exact⟨rfl,q.o⟩
end
section
open Go.ChangeShapes Go.WideShapes Go.ChangeAt Go.RowKit Go.Lib
theorem wR{w:World}(h:TabIs Tryz.prog w "rickyard/crc.four" .u32 (Jb.map fun(n:Nat)=>(n:Int))):Dp w:=by
 intro i b;have:=h.cell (g:=0) (by kernel_rfl) i (by rw[Y];exact b);rw[this]
 have a:∀r,r<16->(Jb.map fun(n:Nat)=>(n:Int)).getD r 0=((Jb.getD r 0:Nat):Int):=by decide
 rw[a i b]
theorem wS{W:World}{r:List (String × DataW Unit)}(h:laidMet Tryz.prog (("rickyard/crc.four",tabData .u32 (Jb.map fun(n:Nat)=>(n:Int)))::r) W.memory):Dp W:=
 wR (show TabIs Tryz.prog W.memory "rickyard/crc.four" .u32 (Jb.map fun(n:Nat)=>(n:Int)) from tabIs_of_head (show Tryz.prog.globalNamed "rickyard/crc.four" =some 0 by kernel_rfl) (show(Tryz.prog.globals[0]?).map (·.type)=some 237 by kernel_rfl) Tryz.underlying237 Tryz.underlying26 (by kernel_rfl) (by kernel_rfl) h)
end
section
open Go.RowKit Go.Lib
theorem wT{l:List ByteArray}(h:O6 l=true):l.length<=20:=by
 unfold O6 at h;rw[Bool.and_eq_true] at h;exact of_decide_eq_true h.2
structure wU(w:World)(s:ByteArray)(bs:List ByteArray)(m wid mo ep:Int)(S E:Int)(x:Nat)(files:List ByteArray)(vF vS:Value)(W:World):Prop where
 ok:x=0->S=(B0 0 s:Nat)/\E=ep
 no:x≠0->S=0/\E=0
 r:D3 s bs m wid mo x files
 f:An 9 W w.heap.size vF (files.map Value.string)
 s:An 26 W w.heap.size vS (files.map H9)
 fp:Fp [] w W
theorem kG{w W:World}{e:Ending}{s:ByteArray}{i:List ByteArray}{m wid mo g:Int}(h:Yw w s i m wid mo g e W):
  ∃S E x files b a,e=.returned (.tuple #[.agg #[.int .u32 S,.int .u64 E,b,a],.int .i64 (x:Nat)])/\wU w s i m wid mo g S E x files b a W:=by
 obtain⟨d,⟨files,b,a,rfl,c,l,k⟩|⟨x,j,rfl,c⟩⟩:=h
 .exact⟨_,_,0,files,b,a,rfl,fun _=>⟨rfl,rfl⟩,fun h=>absurd rfl h,c,l,k,d⟩
 .exact⟨_,_,x,[],_,_,rfl,fun h=>absurd h j,fun _=>⟨rfl,rfl⟩,c,An.nil _ _ _,An.nil _ _ _,d⟩
theorem wV{s:ByteArray}{j:List ByteArray}{mo:Int}{f:List ByteArray}(k:s.size<=1500)(h:Um s j mo f):f.length<=100000:=by
 obtain⟨r,a,d,b,-,rfl⟩:=h;have c:=(S1 s (by omega)).1;have l:=V9 s;have i:=Sr mo.toNat a a.length (Nat.le_refl _);rw[List.take_length,b.flat,Y] at i;have g:=d.len (Nx c (by omega));rw[S8] at g;show(F8 (Gt mo.toNat a a.length)).length<=_;unfold F8;rw[Y];omega
theorem wW(w:World)(s:ByteArray)(a1:Option Addr)(M l:Nat)(bs:List ByteArray)(C:Nat)(m wid mo:Int)
  (N:D6 w a1 M bs)(ad:M<=maxLen)(ah:C<18446744073709551616)(hm:m<2^63)(F:wid<2^63)(ae:mo<2^63)(O:Kw w)(ht:Dp w)(hz:Ja w):
  Calls Tryz.prog 3 #[.string s,.slice a1 M l,.int .u64 C,.int .i64 m,.int .i64 wid,.int .i64 mo] w fun e w'=>e=.returned (.bool true)/\Fp [] w w':=by
 have hP:=fun W (c:Fp [] w W)=>(⟨O.mx.fp c,O.er.fp c (by simp)⟩:Kw W)
 have D:=X (fun W (c:Fp [] w W)=>Ael W (hP W c) (ht.fp c) (hz.fp c));have V:=X (fun W (c:Fp [] w W)=>And.intro (hP W c) (And.intro (ht.fp c) (hz.fp c:Ja W)));unfold maxLen at ad;have A:=X (Abp w a1 M l bs N ad);have U:=X N;clear hP O ht hz N;by_cases c1:1500<s.size
 .have z1:(s.size:Int)>1500:=by omega
  clear A;go_in;go_wp2_with fail;refine(D.o _ (Fp.refl _ _)).mono ?_;rintro e w1 ⟨rfl,ag⟩;have h:=X ag;clear ag;go_wp2_with fail;go_ret;exact⟨rfl,h.o⟩
 have z1:¬(s.size:Int)>1500:=by omega
 obtain⟨bd,j⟩:=Aa (O6 bs);rw[j] at A;cases bd
 .clear j;go_in;go_wp2_with fail;refine A.o.nexh fun w1 h=>?_;go_wp2_with fail;refine(D.o _ h.o).mono ?_;rintro e w2 ⟨rfl,v⟩;have q:=X (h.o.trans v);clear v;go_wp2_with fail;go_ret;exact⟨rfl,q.o⟩
 have a6:M<=20:=by have:=wT j;have:=U.o.len;omega
 have d:s.size<=1500:=by omega
 clear j c1;go_in;go_wp2_with fail;refine A.o.nexh fun w1 h=>?_;go_wp2_with fail;refine(D.o _ h.o).mono ?_;rintro e w2 ⟨rfl,v⟩;have q:=X (h.o.trans v);have am:=X (qJ w2 s m wid mo C a1 M l bs (by omega) (U.o.of_fp q.o) (by omega) hm F ae (V.o w2 q.o).1 (V.o w2 q.o).2.1);clear v A D;go_wp2_with fail;refine am.o.mono ?_;intro e w3 h3;obtain⟨S,E,x,files,vF,vS,rfl,u⟩:=kG h3;obtain⟨fa,fn,fc,rfl⟩:=u.f.sl;obtain⟨sa,sn,sc,rfl⟩:=u.s.sl;have b:=X u;have a5:=X (q.o.trans u.fp);clear h3 u am;go_wp2_with fail;obtain⟨w4,B⟩:=Aa (w3.alloc (.cells #[.int .u32 S,.int .u64 E,.slice fa fn fc,.slice sa sn sc] 29))
 have n:w4.heap[w3.heap.size]?=some (.cells #[.int .u32 S,.int .u64 E,.slice fa fn fc,.slice sa sn sc] 29 (0,0)):=by rw[<-B];exact Ai rfl _
 have i:Fp [] w3 w4:=by rw[<-B];exact Fp.alloc _ _
 have ab:=X n;have aq:=X i;have HF34':=X i;have ap:=X (a5.o.trans i);obtain⟨p,O⟩:=Aa w3.heap.size;rw[O] at ab;rw[B,O];have aj:=X (Aeg w4 s m wid mo C a1 M l bs d (U.o.of_fp ap.o) (by omega) hm F ae);clear B n i O;go_wp2_with fail;refine aj.o.mono ?_;intro e I h5;obtain⟨S',E',x',av,bb,ba,rfl,a⟩:=kG h5;obtain⟨T,Q,R,rfl⟩:=a.f.sl;obtain⟨L,J,K,rfl⟩:=a.s.sl;obtain⟨aw,ax⟩:=D3.one d b.o.r a.r;subst aw ax;have ay:S'=S/\E'=E:=by
  by_cases y:x=0
  .exact⟨(a.ok y).1.trans (b.o.ok y).1.symm,(a.ok y).2.trans (b.o.ok y).2.symm⟩
  .exact⟨(a.no y).1.trans (b.o.no y).1.symm,(a.no y).2.trans (b.o.no y).2.symm⟩
 obtain⟨rfl,rfl⟩:=ay;have G:files.length<=100000:=by
  by_cases y:x=0
  .exact wV d ((b.o.r.form d).2.2 y)
  .rw[(b.o.r.form d).2.1 y];exact Nat.zero_le _
 have HPL':=X a;have a4:=X (ap.o.trans a.fp);have ao:=X a.fp;clear h5 a aj aq;obtain⟨w6,t⟩:=Aa (I.alloc (.cells #[.int .u32 S',.int .u64 E',.slice T Q R,.slice L J K] 33))
 have P:w6.heap[I.heap.size]?=some (.cells #[.int .u32 S',.int .u64 E',.slice T Q R,.slice L J K] 33 (0,0)):=by rw[<-t];exact Ai rfl _
 have g:Fp [] I w6:=by rw[<-t];exact Fp.alloc _ _
 have z:=X (ao.o.trans g);have a3:=X (a4.o.trans g);have n:=(z.o.block p (Ae ab.o) (by simp)).trans ab.o;have ai:=X (wP w6 w2.heap.size w4.heap.size _ _ files (((b.o.f.fp (HF34'.o)).fp z.o)) (HPL'.o.f.fp g) G);have a0:=X (fun W (c:Fp [] w6 W)=>wQ W w2.heap.size w4.heap.size _ _ files (((b.o.s.fp (HF34'.o)).fp z.o).fp c) ((HPL'.o.s.fp g).fp c) G);obtain⟨k,hk⟩:=Aa (C%65536);have al:=X (fun W (c:Fp [] w W)=>qN C s.size k ah (by omega) (by omega) W (V.o W c).2.2);have ak:=X (fun W=>wO C s.size k ah (by omega) (by omega) W)
 have a8:IntKind.u64.wrap (s.size:Int)=(s.size:Int):=by rw[Z];omega
 have a7:IntKind.u16.wrap (C:Int)=(k:Int):=by rw[IntKind.wrap_u16];omega
 have au:Hid (∀W,Fp [] w6 W->(W.cell? ⟨p,0,none⟩=some (.int .u32 S')/\W.cell? ⟨p,1,none⟩=some (.int .u64 E')/\W.cell? ⟨p,2,none⟩=some (.slice fa fn fc)/\W.cell? ⟨p,3,none⟩=some (.slice sa sn sc))/\W.cell? ⟨I.heap.size,0,none⟩=some (.int .u32 S')/\W.cell? ⟨I.heap.size,1,none⟩=some (.int .u64 E')/\W.cell? ⟨I.heap.size,2,none⟩=some (.slice T Q R)/\W.cell? ⟨I.heap.size,3,none⟩=some (.slice L J K)):=fun W c=>by
  have h1:=(c.block _ (Ae n) (by simp)).trans n;have h2:=(c.block _ (Ae P) (by simp)).trans P;exact⟨⟨Ab h1 0,Ab h1 1,Ab h1 2,Ab h1 3⟩,Ab h2 0,Ab h2 1,Ab h2 2,Ab h2 3⟩
 obtain⟨nm,ac⟩:=Aa (Ql C s.size k);rw[ac] at al ak;obtain⟨⟨c0,c1,c2,c3⟩,d0,d1,d2,d3⟩:=au.o w6 (Fp.refl _ _);rw[<-t] at c0 c1 c2 c3 d0 d1 d2 d3;have az:=X t;clear t P g n hk ac;go_wp2_with fail;rw[az.o];refine ai.o.nexh fun w7 aa=>?_;clear c0 c1 c2 c3 d0 d1 d2 d3;obtain⟨⟨-,-,-,c3⟩,-,-,-,d3⟩:=au.o w7 aa.o;go_wp2_with fail;refine(a0.o _ aa.o).mono ?_;rintro e w8 ⟨rfl,af⟩;have an:=X (a3.o.trans (aa.o.trans af (by simp)));clear c3 d3 af;go_wp2_with fail;refine(al.o _ an.o).next an fun w9 a2=>?_;go_wp2_with fail;refine(ak.o _).next a2 fun a9 ar=>?_;go_wp2_with fail;go_ret;exact⟨by simp,ar.o⟩
theorem wX(w:World)(s:ByteArray)(h:Option Addr)(c a:Nat)(j:List ByteArray)(b m wid mo:Int)
  (_ :s.size<=maxLen)(d:D6 w h c j)(g:c<=maxLen)(v:0<=b)(t:b<=18446744073709551615)(_ : -9223372036854775808<=m)(r:m<=9223372036854775807)(_ : -9223372036854775808<=wid)(i:wid<=9223372036854775807)(_ : -9223372036854775808<=mo)(q:mo<=9223372036854775807)(p:Kw w)(l:Dp w)(k:Ja w):
  Calls Tryz.prog 3 #[.string s,.slice h c a,.int .u64 b,.int .i64 m,.int .i64 wid,.int .i64 mo] w fun e w'=>e=.returned (.bool true)/\Fp [] w w':=by
 obtain⟨u,rfl⟩:∃n:Nat,b=n:=⟨b.toNat,by omega⟩
 exact wW w s h c a j u m wid mo d g (by omega) (by omega) (by omega) (by omega) p l k
end
end Go.Proofs.YtkagolpnaicdoaaGreatDoor
