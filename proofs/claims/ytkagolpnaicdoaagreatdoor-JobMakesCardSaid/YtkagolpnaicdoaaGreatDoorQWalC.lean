/- Lemmas. -/
import Derived.Test.YtkagolpnaicdoaaGreatDoorQVdOps2
set_option maxRecDepth 100000
set_option maxHeartbeats 8000000
open Go.Lib renaming hid->X
open List renaming not_mem_nil->Y,mem_cons->Z,getElem?_cons_zero->a0z,take_succ_eq_append_getElem->a0x,getElem?_toArray->a0w,getElem?_cons_succ->a0v,setIfInBounds_toArray->a1z,set_cons_succ->a1w,set_cons_zero->a1v,reverse_cons->a1u,reverse_nil->a2z,cons_append->a2x,nil_append->a2v,take_of_length_le->a2u
open Nat renaming le_trans->a0u,le_refl->a1x,not_lt_zero->a2w
namespace Go.Proofs.YtkagolpnaicdoaaGreatDoor
section
open Go.RowKit Go.Lib Go.Maps Go.MapKept Go.ChangeMaps
theorem Afq{w:World}{b bm L k j t:Nat}{lg:Lg}{I:Dk}{other s:ByteArray}(h:Am w b bm I)(c:other.size≤maxLen)(u:lg.name.size≤maxLen)(D:s.size≤1000000000)(n:Df w L b lg)
  (z:w.heap[k]?=some (.cells #[.pointer (some ⟨L,0,none⟩)] 119 (0,0)))(y:w.heap[j]?=some (.cells #[.string other] 9 (0,0)))(x:w.heap[t]?=some (.cells #[.string s] 9 (0,0))):
  dR w b bm [(177,#[.pointer (some ⟨k,0,none⟩),.pointer (some ⟨j,0,none⟩)]),(179,#[.pointer (some ⟨k,0,none⟩),.pointer (some ⟨j,0,none⟩)]),(181,#[.pointer (some ⟨k,0,none⟩),.pointer (some ⟨j,0,none⟩),.pointer (some ⟨t,0,none⟩)]),(183,#[.pointer (some ⟨k,0,none⟩),.pointer (some ⟨j,0,none⟩)]),(184,#[.pointer (some ⟨k,0,none⟩),.pointer (some ⟨j,0,none⟩)])] (Rq lg.name other s):=by
 have p:=n.ne h;have C:=G2 z (by decide) h;have B:=G2 y (by decide) h;have A:=G2 x (by decide) h;have r:∀W,Fp [b,bm] w W->W.heap[k]?=some (.cells #[.pointer (some ⟨L,0,none⟩)] 119 (0,0)):=fun W a=>(a.block _ (Ae z) C).trans z;have q:∀W,Fp [b,bm] w W->W.heap[j]?=some (.cells #[.string other] 9 (0,0)):=fun W a=>(a.block _ (Ae y) B).trans y;have G:∀W,Fp [b,bm] w W->W.heap[t]?=some (.cells #[.string s] 9 (0,0)):=fun W a=>(a.block _ (Ae x) A).trans x;refine⟨rfl,fun i F E=>?_,Ae5 _ _ _⟩
 have m:i=0∨i=1∨i=2∨i=3∨i=4:=by simp at F;omega
 rcases m with rfl|rfl|rfl|rfl|rfl
 .exact⟨fun w=>by kernel_rfl,fun d W h g a=>Afj W b bm L k j lg d other h g c (n.fp a p) (r W a) (q W a)⟩
 .exact⟨fun w=>by kernel_rfl,fun d W h g a=>Afk W b bm L k j lg d other h g c (n.fp a p) (r W a) (q W a)⟩
 .exact⟨fun w=>by kernel_rfl,fun d W h g a=>Afl W b bm L k j t lg d other s h g c D (n.fp a p) (r W a) (q W a) (G W a)⟩
 .exact⟨fun w=>by kernel_rfl,fun d W h g a=>Afm W b bm L k j lg d other h g c (n.fp a p) (r W a) (q W a)⟩
 .exact⟨fun w=>by kernel_rfl,fun d W h g a=>Afn W b bm L k j lg d other h g c u (n.fp a p) (r W a) (q W a)⟩
theorem Afr(w:World)(b bm L:Nat)(lg:Lg)(d:Dk)(s:ByteArray)(E:Am w b bm d)(z:Au d)(F:lg.name.size≤1000)(G:s.size≤1000000000)(y:Df w L b lg):
  Calls Tryz.prog 114 #[.pointer (some ⟨L,0,none⟩),.string s] w fun e w'=>e=.returned (.int .i64 (d.wWrite lg.name s).2)/\Am w' b bm (d.wWrite lg.name s).1/\Fp [b,bm] w w':=by
 obtain⟨W,g⟩:=Bz (((((w.alloc (.cells #[.pointer (some ⟨L,0,none⟩)] 119)).alloc (.cells #[.string s] 9)).alloc (.cells #[.string (lg.name++Kz)] 9)).alloc (.cells #[.func (.func 177) #[] #[.pointer (some ⟨w.heap.size,0,none⟩),.pointer (some ⟨w.heap.size+1+1,0,none⟩)],.func (.func 179) #[] #[.pointer (some ⟨w.heap.size,0,none⟩),.pointer (some ⟨w.heap.size+1+1,0,none⟩)],.func (.func 181) #[] #[.pointer (some ⟨w.heap.size,0,none⟩),.pointer (some ⟨w.heap.size+1+1,0,none⟩),.pointer (some ⟨w.heap.size+1,0,none⟩)],.func (.func 183) #[] #[.pointer (some ⟨w.heap.size,0,none⟩),.pointer (some ⟨w.heap.size+1+1,0,none⟩)],.func (.func 184) #[] #[.pointer (some ⟨w.heap.size,0,none⟩),.pointer (some ⟨w.heap.size+1+1,0,none⟩)]] 254)))
 have a:Fp [] w W:=by rw[g];exact(((Fp.alloc _ _).alloc' _).alloc' _).alloc' _
 have u:W.heap[w.heap.size]?=some (.cells #[.pointer (some ⟨L,0,none⟩)] 119 (0,0)):=by
  rw[g,Below.heap_alloc _ _ _ (by simp<;>omega),Below.heap_alloc _ _ _ (by simp<;>omega),Below.heap_alloc _ _ _ (by simp<;>omega)];exact Ai rfl _
 have t:W.heap[w.heap.size+1]?=some (.cells #[.string s] 9 (0,0)):=by
  rw[g,Below.heap_alloc _ _ _ (by simp<;>omega),Below.heap_alloc _ _ _ (by simp<;>omega)];exact Ai (by simp) _
 have q:W.heap[w.heap.size+1+1]?=some (.cells #[.string (lg.name++Kz)] 9 (0,0)):=by
  rw[g,Below.heap_alloc _ _ _ (by simp<;>omega)];exact Ai (by simp) _
 have k:(lg.name++Kz).size<=maxLen:=by rw[ByteArray.size_append];show lg.name.size+1<=maxLen;unfold maxLen;omega
 have c:=E.of_fp a (by simp) (by simp);have m:=Afq c k (by unfold maxLen;omega) G (y.fp a) u q t;have j:Calls Tryz.prog 176 #[.slice (some ⟨w.heap.size+1+1+1,0,none⟩) 5 5] W fun e w'=>e=.returned (.int .i64 (d.wWrite lg.name s).2)/\Am w' b bm (d.wWrite lg.name s).1/\Fp [b,bm] W w':=by
  have h:=pD W b bm (w.heap.size+1+1+1) d _ _ c z (by rw[g];exact Ai (by simp) _) (by simp) m;rw[show Iw (Rq lg.name (lg.name++Kz) s) d=d.wWrite lg.name s from rfl] at h;exact h
 have N:w.cell? ⟨L,1,none⟩=some (.string lg.name):=Ab y 1;have I:=Ae y;have j:=X j;have B:=X a;rw[g] at j B
 obtain⟨⟨M,x⟩,D⟩:∃r,d.wWrite lg.name s=r:=⟨_,rfl⟩
 rw[D] at j ⊢
 have K:¬lg.name.size+1>9223372036854775807:=by omega
 clear D g m c u t q a E y k;unfold Kz at j B;go_in;go_wp2_with fail;refine j.o.mono ?_;rintro e w2 ⟨rfl,p,n⟩;have C:=X p;have A:=X ((B.o.mono (S':=[b,bm]) (by simp)).trans n (by intro i J;exact Or.inl J));clear p n;go_wp2_with fail;go_ret;exact⟨rfl,C.o,A.o⟩
theorem Afs{l:List ByteArray}{k:Nat}(a:k<l.length)(h:65535<(l[k]).size):Kq l=(⟨#[]⟩,71):=by
 unfold Kq dL;rw[if_neg];intro c;have:=List.all_eq_true.1 c l[k] (List.getElem_mem a);simp only[decide_eq_true_eq] at this;omega
theorem pE{l:List ByteArray}(h:∀t∈l,t.size<=65535):Kq l=(bl (B4 l),0):=by
 unfold Kq dL;rw[if_pos]
 exact List.all_eq_true.2 fun t a=>by simpa using h t a
theorem Aft{l:List ByteArray}(k:Nat):Ci (l.take k)<=Ci l:=by
 have h:=Yz (l.take k) (l.drop k);rw[List.take_append_drop] at h;omega
theorem Afu{l:List ByteArray}{k:Nat}(a:k<l.length):Ci (l.take (k+1))=Ci (l.take k)+(6+(l[k]).size):=by
 rw[a0x a,Yz];rfl
theorem dS:∀(l:List ByteArray),6*l.length<=Ci l
 |[]=>Nat.zero_le _
 |t::r=>by have:=dS r;simp only[List.length_cons,Ci];omega
theorem Afv{w:World}{a:Option Addr}{n k:Nat}{l:List ByteArray}(h:D6 w a n l)(c:k<l.length):∃b o,a=some ⟨b,o,none⟩/\∀w',Fp [] w w'->w'.cell? ⟨b,o+k,none⟩=some (.string l[k]):=by
 rcases h.cells with j|⟨b,o,e,g⟩
 .rw[j] at c;exact absurd c (a2w _)
 .exact⟨b,o,e,fun w' i=>by rw[i.cell (World.block_lt_of_cell? _ _ (g k c)) (by simp)];exact g k c⟩
theorem Afw(w:World)(a:Option Addr)(n cap:Nat)(l:List ByteArray)(E:D6 w a n l)(z:Dp w)(N:Ci l≤100000000):
  Calls Tryz.prog 242 #[.slice a n cap] w fun e w'=>e=.returned (.tuple #[.string (Kq l).1,.int .i64 (Kq l).2])/\Fp [] w w':=by
 have ai:=X E;have U:=X E.len;have HT:=X z;have T:=X (fun s w h z=>eU s w h z);have ae:=X (fun l s w h1 h2=>Wv Zm (show 131≠5 by decide) w.heap.size w.heap.size l s w h1 h2);have ad:=dS l
 have ak:l.length<=100000000:=by omega
 have S:=X N;clear E z N ae ad;go_in;go_wp2_with fail
 go_loopg [11] n (fun g vi W=>∃(k:Nat),g+k=n/\vi=.int .i64 k/\(∀t∈l.take k,t.size<=65535)/\D5 131 w.heap.size w.heap.size (B4 (l.take k)) W/\Fp [] w W)
 case atStart=>exact⟨0,by omega,rfl,by simp,D5.fresh _ _,Fp.alloc _ _⟩
 case round=>
  obtain⟨k,hg,rfl,u,hb,hf⟩:=hrel;have x:=X u;have HB:=X hb;have HF:=X hf;clear u hb hf;by_cases hk:k<n
  .have zk:(k:Int)<(n:Int):=(by omega)
   have m:k<l.length:=(by rw[<-U.o];exact hk)
   obtain⟨b1,o1,rfl,c⟩:=Afv ai.o m;have B:=c wr HF.o;have O:=Afu m;have ac:=Aft (l:=l) (k+1);have P:=Nb (l.take k);have A:B4 (l.take (k+1))=B4 (l.take k)++Et l[k]:=by
    rw[a0x m,oZ];show _ ++(Et l[k]++[])=_;rw[List.append_nil]
   have q:65535<(l[k]).size->Kq l=(⟨#[]⟩,71):=Afs m;have F:∀t∈l.take (k+1),t=l[k]∨t∈l.take k:=by
    intro t z;rw[a0x m] at z;rcases List.mem_append.1 z with h|h
    .exact Or.inr h
    .exact Or.inl (List.mem_singleton.1 h)
   obtain⟨t,M⟩:=Aa (l[k]);rw[M] at B O A q F
   have y:t.size<=100000000:=by have:=S.o;omega
   have Q:(B4 (l.take k)).length+(Jc t).size<=1000000000:=by rw[P,eS];have:=S.o;omega
   have af:=X A;have aa:=X q;have aj:=X F;have ag:=X Q;have al:=X y;have HP:=X (T.o t wr y (HT.o.fp HF.o));clear c O ac P A q F M Q y;by_cases K:65535<t.size
   .have r:=X (aa.o K);have j:I1 t=(⟨#[]⟩,71):=if_pos K;rw[j] at HP;clear K j;go_wp2_with fail;refine HP.o.mono ?_;rintro e w2 ⟨rfl,i⟩;have J:=X (HF.o.trans i);clear i;go_wp2_with fail;go_ret2;rw[r.o];exact⟨rfl,J.o⟩
   .have j:I1 t=(Jc t,0):=if_neg K;have HW:=X K;rw[j] at HP;clear K j;go_wp2_with fail;refine HP.o.mono ?_;rintro e w2 ⟨rfl,i⟩;have r:=X (HB.o.fp i);have J:=X (HF.o.trans i);clear i;go_wp2_with fail;refine(Wv Zm (by decide) w.heap.size w.heap.size (B4 (l.take k)) (Jc t) w2 r.o ag.o).mono ?_;rintro e w3 ⟨rfl,C,p⟩;have ah:Hid (D5 131 w.heap.size w.heap.size (B4 (l.take (k+1))) w3):=by
     rw[af.o];rw[show(Jc t).data.toList=Et t from by rw[Wn];exact Ia _] at C;exact X C
    have I:=X (J.o.bfp p (a1x _));clear C p;go_wp2_with fail
    go_roundg (gk-1)
    case measure=>omega
    case rel=>exact⟨k+1,by omega,by go_num,fun t' ab=>by
     rcases aj.o t' ab with rfl|h
     .have:=HW.o;omega
     .exact x.o t' h,ah.o,I.o⟩
  .have zk:¬(k:Int)<(n:Int):=(by omega)
   have R:l.take k=l:=(by rw[a2u (by rw[<-U.o];omega)])
   have D:=HB.o;have G:=x.o;rw[R] at D G;have r:=X D;have HG:=X (pE G);clear R D G;go_wp2_with fail;refine(gA w.heap.size w.heap.size (B4 l) _ r.o).mono ?_;rintro e w3 ⟨rfl,p⟩;have I:=X (HF.o.belowTrans p);clear p;go_wp2_with fail;go_ret2;rw[HG.o];exact⟨rfl,I.o⟩
theorem Afx{w:World}{b bm L j m:Nat}{lg:Lg}{C:Dk}{s:ByteArray}(g:Am w b bm C)(k:lg.name.size≤maxLen)(y:s.size≤1000000000)(n:Df w L b lg)
  (q:w.heap[j]?=some (.cells #[.pointer (some ⟨L,0,none⟩)] 119 (0,0)))(p:w.heap[m]?=some (.cells #[.string s] 9 (0,0))):
  dR w b bm [(191,#[.pointer (some ⟨j,0,none⟩),.pointer (some ⟨m,0,none⟩)]),(192,#[.pointer (some ⟨j,0,none⟩)])] (Ug lg.name s):=by
 have r:=n.ne g;have x:=G2 q (by decide) g;have u:=G2 p (by decide) g;have t:∀W,Fp [b,bm] w W->W.heap[j]?=some (.cells #[.pointer (some ⟨L,0,none⟩)] 119 (0,0)):=fun W a=>(a.block _ (Ae q) x).trans q;have B:∀W,Fp [b,bm] w W->W.heap[m]?=some (.cells #[.string s] 9 (0,0)):=fun W a=>(a.block _ (Ae p) u).trans p;refine⟨rfl,fun i A z=>?_,Ae6 _ _⟩
 have h:i=0∨i=1:=by simp at A;omega
 rcases h with rfl|rfl
 .exact⟨fun w=>by kernel_rfl,fun d W g c a=>Afo W b bm L j m lg d s g c k y (n.fp a r) (t W a) (B W a)⟩
 .exact⟨fun w=>by kernel_rfl,fun d W g c a=>Afp W b bm L j lg d g c k (n.fp a r) (t W a)⟩
theorem Afy(w:World)(b bm L q:Nat)(lg:Lg)(d:Dk)(s:ByteArray)(C:Am w b bm d)(t:Au d)(E:lg.name.size≤1000)(F:s.size≤1000000000)(B:Df w L b lg)
  (u:w.heap[q]?=some (.cells #[.pointer (some ⟨L,0,none⟩)] 119 (0,0))):
  Calls Tryz.prog 190 #[.string s,.pointer (some ⟨q,0,none⟩)] w fun e w'=>e=.returned (.int .i64 (d.wAppend lg.name s).2)/\Am w' b bm (d.wAppend lg.name s).1/\Fp [b,bm] w w':=by
 obtain⟨W,n⟩:=Bz (((w.alloc (.cells #[.string s] 9)).alloc (.cells #[.func (.func 191) #[] #[.pointer (some ⟨q,0,none⟩),.pointer (some ⟨w.heap.size,0,none⟩)],.func (.func 192) #[] #[.pointer (some ⟨q,0,none⟩)]] 254)))
 have a:Fp [] w W:=by rw[n];exact(Fp.alloc _ _).alloc' _
 have m:W.heap[w.heap.size]?=some (.cells #[.string s] 9 (0,0)):=by
  rw[n,Below.heap_alloc _ _ _ (by simp<;>omega)];exact Ai (by simp) _
 have c:=C.of_fp a (by simp) (by simp);have g:=Afx c (by unfold maxLen;omega) F (B.fp a) ((a.block _ (Ae u) (by simp)).trans u) m;have p:Calls Tryz.prog 176 #[.slice (some ⟨w.heap.size+1,0,none⟩) 2 2] W fun e w'=>e=.returned (.int .i64 (d.wAppend lg.name s).2)/\Am w' b bm (d.wAppend lg.name s).1/\Fp [b,bm] W w':=by
  have h:=pD W b bm (w.heap.size+1) d _ _ c t (by rw[n];exact Ai (by simp) _) (by simp) g;rw[show Iw (Ug lg.name s) d=d.wAppend lg.name s from rfl] at h;exact h
 have p:=X p;have D:=X a;rw[n] at p D
 obtain⟨⟨I,x⟩,A⟩:∃r,d.wAppend lg.name s=r:=⟨_,rfl⟩
 rw[A] at p ⊢;clear A n g c m a C B u;go_in;go_wp2_with fail;refine p.o.mono ?_;rintro e w2 ⟨rfl,k,j⟩;have z:=X k;have y:=X ((D.o.mono (S':=[b,bm]) (by simp)).trans j (by intro i G;exact Or.inl G));clear k j;go_wp2_with fail;go_ret;exact⟨rfl,z.o,y.o⟩
theorem Afz{lg:Lg}{d:Dk}{l:List ByteArray}{m:Nat}{g:ByteArray->Dk->Dk × Int}(h:lg.off=true):Lh lg d l m g=(lg,d,6):=by
 unfold Lh;rw[h];rfl
theorem Af0{lg:Lg}{d:Dk}{l:List ByteArray}{m:Nat}{g:ByteArray->Dk->Dk × Int}{s:ByteArray}{x:Int}(h:lg.off=false)(c:Kq l=(s,x))(a:x≠0):Lh lg d l m g=(lg,d,x):=by
 unfold Lh;rw[h,c,if_neg (by decide),if_pos a]
theorem Af1{lg:Lg}{d a:Dk}{l:List ByteArray}{m:Nat}{g:ByteArray->Dk->Dk × Int}{s:ByteArray}{x:Int}(h:lg.off=false)(i:Kq l=(s,0))(c:g s d=(a,x)):Lh lg d l m g=(if x=0 then{lg with many:=m} else if x=2 then lg else{lg with off:=true},a,x):=by
 unfold Lh;rw[h,i,if_neg (by decide),if_neg (by simp)];simp only[c]
theorem Df.put{w:World}{L b:Nat}{lg:Lg}(h:Df w L b lg):Df (w.setCell ⟨L,3,none⟩ (.bool true)) L b {lg with off:=true}:=(Cf h _).trans rfl
theorem Df.putMany{w:World}{L b m:Nat}{lg:Lg}(h:Df w L b lg):Df (w.setCell ⟨L,2,none⟩ (.int .i64 m)) L b {lg with many:=m}:=(Cf h _).trans rfl
theorem Af2(w:World)(b bm L:Nat)(lg:Lg)(d:Dk)(a:Option Addr)(n cap:Nat)(l:List ByteArray)(m F:Nat)(c:Array Value)(g:ByteArray→Dk→Dk × Int)
  (hd:Am w b bm d)(J:Df w L b lg)(O:D6 w a n l)(ht:Dp w)(I:Ci l<=100000000)
  (C:∀s w,(callFunc F (#[.string s]++c)).run Tryz.prog w=.ok (.enter F (#[.string s]++c)) w)
  (M:∀s W,(B4 l).length=s.size->Fp [] w W->Am W b bm d->Calls Tryz.prog F (#[.string s]++c) W fun e w'=>e=.returned (.int .i64 (g s d).2)/\Am w' b bm (g s d).1/\Fp [b,bm] W w'):
  Calls Tryz.prog 189 #[.pointer (some ⟨L,0,none⟩),.slice a n cap,.int .i64 m,.func (.func F) #[] c] w fun e w'=>e=.returned (.int .i64 (Lh lg d l m g).2.2)/\Am w' b bm (Lh lg d l m g).2.1/\Df w' L b (Lh lg d l m g).1/\Fp [b,bm,L] w w':=by
 have n0:=J.ne hd;have af:=Ae J;have c3:w.cell? ⟨L,3,none⟩=some (.bool lg.off):=Ab J 3;have G:=X (Afw w a n cap l O ht I);have HD:=X hd;have HL:=X J;have ac:=X M;have Q:=X n0;clear hd J O ht I M n0;cases ho:lg.off
 case true=>
  rw[ho] at c3;have D:=X (Afz (d:=d) (l:=l) (m:=m) (g:=g) ho);clear ho;go_in;go_wp2_with fail;go_ret;rw[D.o];exact⟨rfl,HD.o,HL.o,Fp.refl _ _⟩
 case false=>
  rw[ho] at c3
  obtain⟨⟨s,x⟩,t⟩:∃r,Kq l=r:=⟨_,rfl⟩
  rw[t] at G;by_cases U:x=0
  .subst U;have q:(B4 l).length=s.size:=by
    unfold Kq at t;split at t
    .cases t;rw[Dt]
    .cases t
   obtain⟨⟨d2,y⟩,hy⟩:∃r,g s d=r:=⟨_,rfl⟩
   have aa:Hid (∀W,Fp [] w W->Calls Tryz.prog F (#[.string s]++c) W fun e w'=>e=.returned (.int .i64 y)/\Am w' b bm d2/\Fp [b,bm] W w'):=X (fun W hf=>by
    have h:=ac.o s W q hf (HD.o.of_fp hf (by simp) (by simp));rw[hy] at h
    exact h)
   have D:=X (Af1 (m:=m) ho t hy);have ae:=C s;clear ho t hy q C;go_in;go_wp2_with fail;refine G.o.nexh fun w1 k=>?_;go_wp2_with fail;refine(aa.o _ k.o).mono ?_;rintro e w2 ⟨rfl,N,K⟩;have E:=X N;have A:Hid (Fp [b,bm] w w2):=X ((k.o.mono (by simp)).trans K (by intro i B;exact Or.inl B));have j:=X (HL.o.fp A.o Q.o);have ad:=Ae j.o;have e2:w2.cell? ⟨L,2,none⟩=some (.int .i64 lg.many):=Ab j.o 2;have e3:w2.cell? ⟨L,3,none⟩=some (.bool lg.off):=Ab j.o 3;have f2:w2.frozen? ⟨L,2,none⟩=false:=Av j.o 2;have f3:w2.frozen? ⟨L,3,none⟩=false:=Av j.o 3;have z:Hid (b≠L/\bm≠L):=X (by have:=Q.o;simp only[Z,Y,or_false,not_or] at this;exact⟨Ne.symm this.1,Ne.symm this.2⟩);have P:Hid (∀p u,p=L->Fp [b,bm,L] w (w2.setCell ⟨p,3,none⟩ u)/\Fp [b,bm,L] w (w2.setCell ⟨p,2,none⟩ u)):=X (fun p u hp=>by
    subst hp
    exact⟨(A.o.mono (S':=[b,bm,p]) (by intro i B;simp only[Z,Y,or_false] at B ⊢;omega)).setCell' (Or.inl (by simp)) u,(A.o.mono (S':=[b,bm,p]) (by intro i B;simp only[Z,Y,or_false] at B ⊢;omega)).setCell' (Or.inl (by simp)) u⟩)
   clear N K;by_cases T:y=0
   .subst T;go_wp2_with fail;go_ret;rw[D.o];refine⟨rfl,E.o.of_fp (S:=[L]) (Fp.setCell _ ⟨L,2,none⟩ _) (by simpa using z.o.1) (by simpa using z.o.2),j.o.putMany,(P.o L _ rfl).2⟩
   .by_cases R:y=2
    .subst R;go_wp2_with fail;go_ret;rw[D.o];exact⟨rfl,E.o,j.o,A.o.mono (by intro i B;simp only[Z,Y,or_false] at B ⊢;omega)⟩
    .have b0:((y:Int)==0)=false:=(by simpa using T)
     have b2:((y:Int)==2)=false:=(by simpa using R)
     have ab:Hid (Lh lg d l m g=({lg with off:=true},d2,y)):=by
      have:=D.o;rw[if_neg T,if_neg R] at this;exact this
     clear T R;go_wp2_with fail;go_ret;rw[ab.o];exact⟨rfl,E.o.of_fp (S:=[L]) (Fp.setCell _ ⟨L,3,none⟩ _) (by simpa using z.o.1) (by simpa using z.o.2),j.o.put,(P.o L _ rfl).1⟩
  .have hb:((x:Int)!=0)=true:=(by simpa using U)
   have D:=X (Af0 (d:=d) (m:=m) (g:=g) ho t U);clear ho t U C;go_in;go_wp2_with fail;refine G.o.nexh fun w1 k=>?_;go_wp2_with fail;go_ret;rw[D.o];exact⟨rfl,HD.o.of_fp k.o (by simp) (by simp),HL.o.fp k.o,k.o.mono (by simp)⟩
structure Ru(S:List Nat)(w0:World)(Post:World->Prop)(done:Bool)(w:World):Prop where
 pre:done=false->Fp [] w0 w
 post:done=true->Post w
 fp:Fp S w0 w
theorem Ru.start{S:List Nat}{a:World}{Post:World->Prop}:Ru S a Post false a.drew:=⟨fun _=>Fp.drew a,(fun h=>by cases h),(Fp.drew a).mono (by simp)⟩
theorem Ru.did{S S':List Nat}{a w w2:World}{Post:World->Prop}(h:Fp [] a w)(g:Fp S' w w2)(j:∀i∈S',i∈S∨a.heap.size<=i)(c:Post w2):Ru S a Post true w2:=⟨(fun h=>by cases h),fun _=>c,(h.mono (S':=S) (by simp)).trans g j⟩
theorem pF{a c:Bool}(h:a=true->c=true)(g:c=false):a=false:=by cases a<;>cases c<;>simp_all
structure V3(S:List Nat)(w0:World)(Post:World->Prop)(b5 b8 done:Bool)(w:World):Prop where
 t:Ru S w0 Post done w
 o1:b8=true->b5=true
 o2:done=true->b8=true
theorem V3.early{S:List Nat}{a:World}{Post:World->Prop}{c i done:Bool}{w:World}(h:V3 S a Post c i done w)(g:c=false):Fp [] a w:=h.t.pre (pF h.o2 (pF h.o1 g))
theorem Af3(w:World)(g bm L:Nat)(lg:Lg)(d:Dk)(a:Option Addr)(n cap:Nat)(l:List ByteArray)
  (hd:Am w g bm d)(O:Au d)(M:lg.name.size<=1000)(hl:Df w L g lg)(F:D6 w a n l)(ht:Dp w)(ab:Ci l<=100000000)(hm:lg.many<=1000000000):
  Calls Tryz.prog 117 #[.pointer (some ⟨L,0,none⟩),.slice a n cap] w fun e w'=>e=.returned (.int .i64 (H7 lg d l).2.2)/\Am w' g bm (H7 lg d l).2.1/\Df w' L g (H7 lg d l).1/\Fp [g,bm,L] w w':=by
 have ac:=dS l;have P:=F.len;have m:=Fp.alloc w (.cells #[.pointer (some ⟨L,0,none⟩)] 119);obtain⟨G,J⟩:=Aa (w.alloc (.cells #[.pointer (some ⟨L,0,none⟩)] 119))
 have E:G.heap[w.heap.size]?=some (.cells #[.pointer (some ⟨L,0,none⟩)] 119 (0,0)):=by rw[<-J];exact Ai rfl _
 rw[J] at m;have D:=hd.of_fp m (by simp) (by simp);have Q:=hl.fp m;have z:=F.of_fp m;have N:=ht.fp m;have T:=G2 E (by decide) D
 have aa:w.heap.size≠L:=by have:=Ae hl;omega
 obtain⟨mn,C⟩:=Aa (lg.many+n);have HC:Hid (∀W,Am W g bm d→Df W L g lg→Fp [g,bm,L] G W→D6 W a n l→Dp W→W.heap[w.heap.size]?=some (.cells #[.pointer (some ⟨L,0,none⟩)] 119 (0,0))→Calls Tryz.prog 189 #[.pointer (some ⟨L,0,none⟩),.slice a n cap,.int .i64 ((mn:Nat):Int),.func (.func 190) #[] #[.pointer (some ⟨w.heap.size,0,none⟩)]] W fun e w'=>e=.returned (.int .i64 (H7 lg d l).2.2)∧Am w' g bm (H7 lg d l).2.1∧Df w' L g (H7 lg d l).1∧Fp [g,bm,L] W w'):=X (fun W h1 h2 h3 h4 U h6=>by
  have h:=Af2 W g bm L lg d a n cap l (lg.many+n) 190 #[.pointer (some ⟨w.heap.size,0,none⟩)] (fun s d=>d.wAppend lg.name s) h1 h2 h4 U ab (fun s w=>by kernel_rfl)
   (fun s W' hs hf ae=>Afy W' g bm L w.heap.size lg d s ae O M (by rw[<-hs,Nb];omega) (h2.fp hf) ((hf.block _ (Ae h6) (by simp)).trans h6))
  have e1:H7 lg d l=Lh lg d l (lg.many+n) (fun s d=>d.wAppend lg.name s):=by unfold H7;rw[P]
  rw[e1,C];rw[C] at h
  exact h)
 obtain⟨⟨A,d2,x⟩,hx⟩:∃r,H7 lg d l=r:=⟨_,rfl⟩
 rw[hx] at HC ⊢;have aj:=X D;have S:=X Q;have ak:=X z;have HT:=X N;have q:=X E;have ah:=X m;have I:w.heap.size∉[g,bm,L]:=by
  intro hm;simp only[Z,Y,or_false] at hm T;rcases hm with h|h|h
  .exact T (Or.inl h)
  .exact T (Or.inr h)
  .exact aa h
 have am:∀(fn:Fn) (first cap:Array Value) (w:World),(Instr.makeFunc fn first cap).run Tryz.prog w=.ok (.func fn first cap) w:=fun _ _ _ _=>rfl
 have zn:IntKind.i64.wrap ((lg.many:Int)+(n:Int))=(mn:Int):=by rw[IntKind.wrap_i64];omega
 clear hx hd hl F ht D Q z N E m P ac O M T C;go_in;go_wp2_with fail;refine E3 (fun bb w'=>V3 [g,bm,L] G (fun W=>Am W g bm d2/\Df W L g A) (bb 5) (bb 8) (bb 10) w') (fun _ _=>True) (by kernel_rfl) (by kernel_rfl) ⟨Ru.start,(fun h=>by cases h),(fun h=>by cases h)⟩ ?_
 iterate 5
  apply A3 (fun _ _ h=>h) rfl rfl rfl
  .intro b a w j c K p;have:=c.f 2;have:=c.f 1;(try have:=c.e 2 7);(try have:=c.e 3 8);have q0:=Ab ((j.t.fp.block _ (Ae q.o) I).trans q.o) 0;simp only[a0w,a0z] at q0;simp only[Oper.wp,execOp];go_simp;exact p _ j trivial
 apply Hi (Cc (.int .i64 lg.many)) rfl rfl rfl
 .intro b a w j c K p;have h9:=c.e 4 9;have q0:=Ab ((j.t.fp.block _ (Ae q.o) I).trans q.o) 0;simp only[a0w,a0z] at q0;have k:=j.early c.self;have q1:=Ab (S.o.fp k) 2;simp only[Gq,a0w,a0v,a0z] at q1
  have B:V3 [g,bm,L] G (fun W=>Am W g bm d2/\Df W L g A) true (b 8) (b 10) w:=⟨j.t,(fun _=>rfl),j.o2⟩
  simp only[Oper.wp,execOp];go_simp;exact p _ _ B trivial rfl
 iterate 2
  apply A3 (fun _ _ h=>h) rfl rfl rfl
  .intro b a w j c K p;have:=c.f 1;(try have:=c.e 6 11);simp only[Oper.wp,execOp];go_simp;exact p _ j trivial
 apply Hi (Cc (.int .i64 mn)) rfl rfl rfl
 .intro b a w j c K p;have ar:=c.e 5 10;have aq:=c.e 7 12;have U:=c.pre 5 (by kernel_rfl)
  have B:V3 [g,bm,L] G (fun W=>Am W g bm d2/\Df W L g A) (b 5) true (b 10) w:=⟨j.t,(fun _=>U),(fun _=>rfl)⟩
  simp only[Oper.wp,execOp];go_simp;exact p _ _ B trivial rfl
 apply A3 (fun _ _ h=>h) rfl rfl rfl
 .intro b a w j c K p;have h2:=c.f 2;simp only[Oper.wp,execOp];go_simp;exact p _ j trivial
 apply Hi (Cc (.int .i64 x)) rfl rfl rfl
 .intro b a w j c K p;have U:=c.e 0 5;have h6:=c.e 1 6;have ap:=c.e 8 13;have ao:=c.e 9 14;have h8:=c.pre 8 (by kernel_rfl);have k:=j.t.pre c.self;simp only[Oper.wp,execOp];go_simp;refine(HC.o _ (aj.o.of_fp k (by simp) (by simp)) (S.o.fp k) (k.mono (by simp)) (ak.o.of_fp k) (HT.o.fp k) ((k.block _ (Ae q.o) (by simp)).trans q.o)).mono ?_;rintro e w2 ⟨rfl,y,u,ad⟩;exact p _ _ ⟨Ru.did k ad (by intro i hi;exact Or.inl hi) ⟨y,u⟩,j.o1,(fun _=>h8)⟩ trivial rfl
 apply A3 (fun _ _ h=>h) rfl rfl rfl
 .intro b a w j c K p;have an:=c.e 10 15;simp only[Oper.wp,execOp];go_simp;exact p _ j trivial
 refine⟨?_,?_⟩
 .refine Cb _ ?_;refine⟨fun _ _ _ _ h=>h,?_⟩;refine Cb _ ?_;refine⟨fun _ _ _ _ h=>h,?_⟩;refine Cb _ ?_;refine Cb _ ?_;refine⟨fun _ _ _ _ h=>h,?_⟩
  iterate 5 refine Cb _ ?_
  exact trivial
 .intro w' bb j R;simp only[a1u,a2z,a2v,a2x]
  iterate 5 (refine A2 ?_)
  refine As ?_;intro v5 u5;obtain rfl:=u5
  iterate 2 (refine A2 ?_)
  refine As ?_;intro v8 u8;obtain rfl:=u8
  iterate 1 (refine A2 ?_)
  refine As ?_;intro al u10;obtain rfl:=u10
  iterate 1 (refine A2 ?_)
  refine C7 ?_;simp only[Aj,Act.put,a1z,a1w,a1v];obtain⟨y,u⟩:=j.t.post (R 10 (by decide));have ai:=X y;have af:=X u;have ag:Hid (Fp [g,bm,L] w w'):=X ((ah.o.mono (S':=[g,bm,L]) (by simp)).trans j.t.fp (by intro i hi;exact Or.inl hi));clear j R y u;go_wp2_with fail;go_ret;exact⟨rfl,ai.o,af.o,ag.o⟩
theorem pG:∀(n a:Nat) (s:ByteArray),∀x∈L2 n a s,x.1≤s.size
 |0,_,_,x,h=>by cases h
 |n+1,a,s,x,h=>by
  obtain⟨⟨t,k,e⟩,c⟩:∃x,Dq (s.extract a s.size)=x:=⟨_,rfl⟩
  by_cases g:e=0
  .subst g;have i:=cY c;rw[Ub c] at h;rcases List.mem_cons.1 h with rfl|h
   .exact i.2.1
   .exact pG n _ s x h
  .rw[Uc c g] at h;cases h
theorem Af4(s:ByteArray):Gy (Ey s)<=s.size:=by
 unfold Gy
 cases h:(Ey s).getLast? with
 |none=>exact Nat.zero_le _
 |some x=>exact pG _ _ s x (List.mem_of_getLast? h)
theorem pH{d:Dk}{name:ByteArray}(h:name.size=0∨59<name.size):d.wOpen name=(d,1,[]):=if_pos h
theorem Af5{d:Dk}{name s:ByteArray}{x:Int}(h:¬(name.size=0∨59<name.size))(a:d.read name=(s,x))(g:x≠0)(c:x≠3):d.wOpen name=(d,x,[]):=by
 unfold Dk.wOpen;rw[if_neg h,a,if_pos ⟨g,c⟩]
theorem Af6{d a:Dk}{name s:ByteArray}{x y:Int}(h:¬(name.size=0∨59<name.size))(g:d.read name=(s,x))(c:¬(x≠0∧x≠3))
  (i:(if x=3∨Gy (Ey s)<s.size then d.wWrite name (s.extract 0 (Gy (Ey s))) else(d.sync name,d.thereE name))=(a,y)):d.wOpen name=(a,y,if y=0 then(Ey s).map (·.2) else[]):=by
 unfold Dk.wOpen;rw[if_neg h,g,if_neg c];simp only[i]
def V4(w:World)(b bm:Nat)(name:ByteArray)(r:Dk × Int × List ByteArray)(e:Ending)(w':World):Prop:=
 Am w' b bm r.1/\Fp [b,bm] w w'/\((r.2.1≠0/\e=.returned (.tuple #[.pointer none,.slice none 0 0,.int .i64 r.2.1]))∨
  (r.2.1=0/\∃L v,e=.returned (.tuple #[.pointer (some ⟨L,0,none⟩),v,.int .i64 0])/\w.heap.size<=L/\Df w' L b ⟨name,r.2.2.length,false⟩/\Ce w' w.heap.size v r.2.2))
theorem Af7(w:World)(b bm:Nat)(d:Dk)(name:ByteArray)(hd:Am w b bm d)(ab:Au d)(ac:name.size≤1000)(ht:Dp w)(aa:(d.read name).1.size≤100000000):
  Calls Tryz.prog 61 #[.pointer (some ⟨b,0,none⟩),.string name] w fun e w'=>V4 w b bm name (d.wOpen name) e w':=by
 have av:=Ae hd.cells;have au:=hd.files.lt;have HD:=X hd;have HT:=X ht;clear hd ht;by_cases h0:name.size=0
 .rw[pH (Or.inl h0)];obtain rfl:name=⟨#[]⟩:=ByteArray.ext (Array.eq_empty_of_size_eq_zero h0);go_in;go_wp2_with fail;refine bodyPost_ret (v:=.tuple #[.pointer none,.slice none 0 0,.int .i64 1]) (by simp[results,Tryz.results61,go_sem]) rfl ?_;exact⟨HD.o,Fp.refl _ _,Or.inl ⟨(show(1:Int)≠0 by decide),rfl⟩⟩
 by_cases af:59<name.size
 .rw[pH (Or.inr af)];have he:=Nw (Nat.pos_of_ne_zero h0);have al:(name.toList==([]:List UInt8))=false:=by
   rw[beq_eq_false_iff_ne];intro e;rw[e] at he;cases he
  have z:(59:Int)<(name.size:Int):=by omega
  clear h0;go_in;go_wp2_with fail;refine bodyPost_ret (v:=.tuple #[.pointer none,.slice none 0 0,.int .i64 1]) (by simp[results,Tryz.results61,go_sem]) rfl ?_;exact⟨HD.o,Fp.refl _ _,Or.inl ⟨(show(1:Int)≠0 by decide),rfl⟩⟩
 have A:¬(name.size=0∨59<name.size):=by omega
 have he:=Nw (Nat.pos_of_ne_zero h0);have al:(name.toList==([]:List UInt8))=false:=by
  rw[beq_eq_false_iff_ne];intro e;rw[e] at he;cases he
 have ar:¬(59:Int)<(name.size:Int):=by omega
 have HR:=X (xM w b bm d name HD.o (by unfold maxLen;omega))
 obtain⟨⟨s,x⟩,hr⟩:∃r,d.read name=r:=⟨_,rfl⟩
 rw[hr] at HR aa;simp only at aa;by_cases R:x≠0/\x≠3
 .rw[Af5 A hr R.1 R.2]
  have b0:((x:Int)!=0)=true:=by simpa using R.1
  have b3:((x:Int)!=3)=true:=by simpa using R.2
  have HX:=X R.1;clear R A hr h0 af he;go_in;go_wp2_with fail;refine HR.o.nexh fun w1 q=>?_;go_wp2_with fail;refine bodyPost_ret (v:=.tuple #[.pointer none,.slice none 0 0,.int .i64 x]) (by simp[results,Tryz.results61,go_sem]) rfl ?_;exact⟨HD.o.of_fp q.o (by simp) (by simp),q.o.mono (by simp),Or.inl ⟨HX.o,rfl⟩⟩
 .obtain⟨⟨d2,y⟩,hg⟩:∃r,(if x=3∨Gy (Ey s)<s.size then d.wWrite name (s.extract 0 (Gy (Ey s))) else(d.sync name,d.thereE name))=r:=⟨_,rfl⟩
  rw[Af6 A hr R hg];have D:Hid (∀w,Dp w->_):=X (fun w ht=>Ada w s aa ht);have am:=Af4 s
  have ah:x=0∨x=3:=by omega
  have K:(s.extract 0 (Gy (Ey s))).size=Gy (Ey s):=by rw[ByteArray.size_extract];omega
  obtain⟨S,ai⟩:=Aa (Gy (Ey s));obtain⟨l,hl⟩:=Aa ((Ey s).map (·.2));rw[ai] at hg am D K;rw[hl] at D ⊢;obtain⟨tx,U⟩:=Aa ((if y=0 then l else[]));rw[U];have ao:=X U;have HG:=X hg;have ap:=X A;have T:=X K;clear R A hr h0 af he hg ai hl K U
  have ag:Hid (∀W L,Fp [] w W→Df W L b ⟨name,l.length,false⟩→
    ((x=3∨S<s.size)->Calls Tryz.prog 114 #[.pointer (some ⟨L,0,none⟩),.string (s.extract 0 S)] W fun e w'=>e=.returned (.int .i64 y)/\Am w' b bm d2/\Fp [b,bm] W w')/\
    (¬(x=3∨S<s.size)->Calls Tryz.prog 115 #[.pointer (some ⟨b,0,none⟩),.string name] W fun e w'=>e=.returned (.int .i64 y)/\Am w' b bm d2/\Fp [b,bm] W w')):=X (fun W L hf ae=>by
   have aj:=HD.o.of_fp hf (by simp) (by simp);refine⟨fun hc=>?_,fun hc=>?_⟩
   .have h:=Afr W b bm L ⟨name,l.length,false⟩ d (s.extract 0 S) aj ab ac (by rw[T.o];omega) ae;have J:=HG.o;rw[if_pos hc] at J;simp only[J] at h;exact h
   .have h:=dJ W b bm d name aj ab (by unfold maxLen;omega);have J:=HG.o;rw[if_neg hc] at J
    injection J with g1 g2
    rw[g1,g2] at h
    exact h)
  have E:Hid (∀W w' L v,Fp [] w W→w.heap.size≤L→Df W L b ⟨name,l.length,false⟩→Ce W w.heap.size v l→Am w' b bm d2→Fp [b,bm] W w'→
    V4 w b bm name (d2,y,tx) (if y=0 then .returned (.tuple #[.pointer (some ⟨L,0,none⟩),v,.int .i64 0]) else .returned (.tuple #[.pointer none,.slice none 0 0,.int .i64 y])) w'):=X (fun W w' L v hf hL ae ho an a=>by
   refine⟨an,(hf.mono (S':=[b,bm]) (by simp)).trans a (by intro i hi;exact Or.inl hi),?_⟩;by_cases t:y=0
   .right;rw[if_pos t,<-ao.o,if_pos t];exact⟨t,L,v,rfl,hL,ae.fp a (by simp;omega),ho.fp a (by simp;omega)⟩
   .left;rw[if_neg t]
    exact⟨t,rfl⟩)
  clear HG HD T ab;rcases ah with rfl|rfl
  .by_cases ad:S<s.size
   .have z:(S:Int)<(s.size:Int):=(by omega)
    go_in;go_wp2_with fail;refine HR.o.mono ?_;rintro e w1 ⟨rfl,p⟩;have q:=X p;have M:=X (HT.o.fp p);clear p;go_wp2_with fail;refine(D.o _ M.o).mono ?_;rintro e w2 ⟨v,rfl,j,a⟩;obtain⟨⟨I,G,rfl⟩,-⟩:=j.at;have n:Fp [] w (w2.alloc (.cells (Gq b ⟨name,l.length,false⟩) 185)):=(q.o.trans a).alloc' _;have m:Df (w2.alloc (.cells (Gq b ⟨name,l.length,false⟩) 185)) w2.heap.size b ⟨name,l.length,false⟩:=Ai rfl _;have k:w.heap.size<=w1.heap.size:=q.o.size;have c:w.heap.size<=w2.heap.size:=a0u k a.size;have u:Ce (w2.alloc (.cells (Gq b ⟨name,l.length,false⟩) 185)) w.heap.size (.slice I l.length G) l:=(j.mono k).fp (Fp.alloc _ _);have F:=ag.o _ w2.heap.size n m;have N:=X (fun w' h1 h2=>E.o _ w' w2.heap.size (.slice I l.length G) n c m u h1 h2);unfold Gq at F;simp only at F;clear j a n m u k c;have P:=X (F.1 (Or.inr ad));clear F ad;go_wp2_with fail;refine P.o.mono ?_;rintro e Q ⟨rfl,C,B⟩;have g:=X (N.o Q C (by unfold Gq;exact B));clear C B;by_cases t:y=0
    .subst t;go_wp2_with fail;refine bodyPost_ret (v:=.tuple #[.pointer (some ⟨w2.heap.size,0,none⟩),.slice I l.length G,.int .i64 0]) (by simp[results,Tryz.results61,go_sem]) rfl ?_;exact g.o
    .have ak:((y:Int)!=0)=true:=(by simpa using t)
     have O:Hid (V4 w b bm name (d2,y,tx) (.returned (.tuple #[.pointer none,.slice none 0 0,.int .i64 y])) Q):=X (by
      have h:=g.o;rw[if_neg t] at h
      exact h)
     clear t;go_wp2_with fail;refine bodyPost_ret (v:=.tuple #[.pointer none,.slice none 0 0,.int .i64 y]) (by simp[results,Tryz.results61,go_sem]) rfl ?_;exact O.o
   .have z:¬(S:Int)<(s.size:Int):=(by omega)
    go_in;go_wp2_with fail;refine HR.o.mono ?_;rintro e w1 ⟨rfl,p⟩;have q:=X p;have M:=X (HT.o.fp p);clear p;go_wp2_with fail;refine(D.o _ M.o).mono ?_;rintro e w2 ⟨v,rfl,j,a⟩;obtain⟨⟨I,G,rfl⟩,-⟩:=j.at;have n:Fp [] w (w2.alloc (.cells (Gq b ⟨name,l.length,false⟩) 185)):=(q.o.trans a).alloc' _;have m:Df (w2.alloc (.cells (Gq b ⟨name,l.length,false⟩) 185)) w2.heap.size b ⟨name,l.length,false⟩:=Ai rfl _;have k:w.heap.size<=w1.heap.size:=q.o.size;have c:w.heap.size<=w2.heap.size:=a0u k a.size;have u:Ce (w2.alloc (.cells (Gq b ⟨name,l.length,false⟩) 185)) w.heap.size (.slice I l.length G) l:=(j.mono k).fp (Fp.alloc _ _);have F:=ag.o _ w2.heap.size n m;have N:=X (fun w' h1 h2=>E.o _ w' w2.heap.size (.slice I l.length G) n c m u h1 h2);unfold Gq at F;simp only at F;clear j a n m u k c;have P:=X (F.2 (by omega));clear F ad;go_wp2_with fail;refine P.o.mono ?_;rintro e Q ⟨rfl,C,B⟩;have g:=X (N.o Q C (by unfold Gq;exact B));clear C B;by_cases t:y=0
    .subst t;go_wp2_with fail;refine bodyPost_ret (v:=.tuple #[.pointer (some ⟨w2.heap.size,0,none⟩),.slice I l.length G,.int .i64 0]) (by simp[results,Tryz.results61,go_sem]) rfl ?_;exact g.o
    .have ak:((y:Int)!=0)=true:=(by simpa using t)
     have O:Hid (V4 w b bm name (d2,y,tx) (.returned (.tuple #[.pointer none,.slice none 0 0,.int .i64 y])) Q):=X (by
      have h:=g.o;rw[if_neg t] at h
      exact h)
     clear t;go_wp2_with fail;refine bodyPost_ret (v:=.tuple #[.pointer none,.slice none 0 0,.int .i64 y]) (by simp[results,Tryz.results61,go_sem]) rfl ?_;exact O.o
  .have aq:(S:Int)≤(s.size:Int):=(by omega)
   go_in;go_wp2_with fail;refine HR.o.mono ?_;rintro e w1 ⟨rfl,p⟩;have q:=X p;have M:=X (HT.o.fp p);clear p;go_wp2_with fail;refine(D.o _ M.o).mono ?_;rintro e w2 ⟨v,rfl,j,a⟩;obtain⟨⟨I,G,rfl⟩,-⟩:=j.at;have n:Fp [] w (w2.alloc (.cells (Gq b ⟨name,l.length,false⟩) 185)):=(q.o.trans a).alloc' _;have m:Df (w2.alloc (.cells (Gq b ⟨name,l.length,false⟩) 185)) w2.heap.size b ⟨name,l.length,false⟩:=Ai rfl _;have k:w.heap.size<=w1.heap.size:=q.o.size;have c:w.heap.size<=w2.heap.size:=a0u k a.size;have u:Ce (w2.alloc (.cells (Gq b ⟨name,l.length,false⟩) 185)) w.heap.size (.slice I l.length G) l:=(j.mono k).fp (Fp.alloc _ _);have F:=ag.o _ w2.heap.size n m;have N:=X (fun w' h1 h2=>E.o _ w' w2.heap.size (.slice I l.length G) n c m u h1 h2);unfold Gq at F;simp only at F;clear j a n m u k c;have P:=X (F.1 (by simp));clear F;go_wp2_with fail;refine P.o.mono ?_;rintro e Q ⟨rfl,C,B⟩;have g:=X (N.o Q C (by unfold Gq;exact B));clear C B;by_cases t:y=0
   .subst t;go_wp2_with fail;refine bodyPost_ret (v:=.tuple #[.pointer (some ⟨w2.heap.size,0,none⟩),.slice I l.length G,.int .i64 0]) (by simp[results,Tryz.results61,go_sem]) rfl ?_;exact g.o
   .have ak:((y:Int)!=0)=true:=(by simpa using t)
    have O:Hid (V4 w b bm name (d2,y,tx) (.returned (.tuple #[.pointer none,.slice none 0 0,.int .i64 y])) Q):=X (by
     have h:=g.o;rw[if_neg t] at h
     exact h)
    clear t;go_wp2_with fail;refine bodyPost_ret (v:=.tuple #[.pointer none,.slice none 0 0,.int .i64 y]) (by simp[results,Tryz.results61,go_sem]) rfl ?_;exact O.o
def Rw(l:List A0)(id:Nat):Int:=match G1 l id with
 |some i=>i
 |none=>-1
theorem dT{l:List A0}{id i:Nat}(h:G1 l id=some i):Rw l id=i:=by unfold Rw;rw[h]
theorem dU{l:List A0}{id:Nat}(h:G1 l id=none):Rw l id= -1:=by unfold Rw;rw[h]
structure pI(w:World)(b o:Nat)(j:A0):Prop where
 c0:w.cell? ⟨b,o,none⟩=some (.int .u64 j.id)
 c1:w.cell? ⟨b,o+1,none⟩=some (.int .i64 j.phase)
 c2:w.cell? ⟨b,o+2,none⟩=some (.int .i64 j.e)
 c3:w.cell? ⟨b,o+3,none⟩=some (.string j.input)
theorem pJ{w:World}{b o:Nat}{j:A0}(h:Oy Fe w b o j):pI w b o j:=⟨h 0 _ rfl,h 1 _ rfl,h 2 _ rfl,h 3 _ rfl⟩
theorem V5{w:World}{base:Nat}{v:Value}{l:List A0}{i:Nat}(h:Ag Fe w base v l)(a:i<l.length):∃g cap,v=.slice (some ⟨g,0,none⟩) l.length cap/\g<w.heap.size/\base<=g/\∀w',Fp [] w w'->pI w' g (i*4) l[i]:=by
 obtain⟨g,cap,m,e,j,c,_⟩:=h.open (by omega);subst e;refine⟨g,cap,rfl,Ae c,j,fun w' k=>?_⟩;exact pJ ((h.fp k).elem a).1
theorem Af8(w:World)(q id:Nat)(j:A0)(c:w.heap[q]?=some (.cells #[.int .u64 id] 23 (0,0))):
  Calls Tryz.prog 119 #[H8 j,.pointer (some ⟨q,0,none⟩)] w fun e w'=>e=.returned (.bool (decide (j.id=id)))/\Fp [] w w':=by
 obtain⟨i,p,x,a⟩:=j;have g:=Ae c;have q0:w.cell? ⟨q,0,none⟩=some (.int .u64 id):=Ab c 0;have k:=X (Fp.alloc w (.cells #[.int .u64 i,.int .i64 p,.int .i64 x,.string a] 42));have m:Hid (((i:Int)==(id:Int))=decide (i=id)):=by
  unfold Hid;by_cases h:i=id
  .subst h;simp
  .rw[decide_eq_false h];exact beq_eq_false_iff_ne.2 (by omega)
 unfold H8 F5;simp only;clear c;go_in;go_wp2_with fail;go_ret;exact⟨by rw[<-m.o];rfl,k.o⟩
theorem Af9(w:World)(base q id:Nat)(v:Value)(l:List A0)(A:Ag Fe w base v l)(hn:l.length≤1000000)(K:w.heap[q]?=some (.cells #[.int .u64 id] 23 (0,0))):
  Calls Tryz.prog 118 #[v,.func (.func 119) #[] #[.pointer (some ⟨q,0,none⟩)]] w fun e w'=>e=.returned (.int .i64 (Rw l id))/\Fp [] w w':=by
 obtain⟨a,cap,rfl,-,-⟩:=A.len;have HO:=X A;have R:=X K;have D:=X (fun w j (h:w.heap[q]?=some (.cells #[.int .u64 id] 23 (0,0)))=>Af8 w q id j h);clear A K;go_in;go_wp2_with fail
 go_loopg [8] l.length (fun g T W=>∃k:Nat,g+k=l.length/\T=.int .i64 k/\(∀i (h:i<l.length),i<k->¬(l[i]).id=id)/\Fp [] w W)
 case atStart=>exact⟨0,by omega,rfl,fun i _ h=>absurd h (a2w _),Fp.refl _ _⟩
 case round=>
  obtain⟨k,hg,rfl,y,O⟩:=hrel;have s:=X y;have z:=X O;clear y O;by_cases M:k<l.length
  .have S:(k:Int)<(l.length:Int):=(by omega)
   obtain⟨g,Q,hv,-,-,m⟩:=V5 HO.o M;cases hv;obtain⟨J,I,G,F⟩:=m wr z.o;have r:∀i (h:i<l.length),i<k+1->¬(l[k]).id=id->¬(l[i]).id=id:=by
    intro i h P h2;by_cases e:i=k
    .subst e;exact h2
    .exact s.o i h (by omega)
   have c:(l[k]).id=id->Rw l id=(k:Int):=fun h=>dT (pA M (fun i B=>s.o i (by omega) B) h);obtain⟨j,N⟩:=Aa (l[k]);rw[N] at J I G F r c;have E:=X r;have t:=X c;have x:=X (D.o wr j ((z.o.block _ (Ae R.o) (by simp)).trans R.o));obtain⟨U,jp,jx,jn⟩:=j;unfold H8 F5 at x;simp only at x J I G F;clear m r c N;by_cases n:U=id
   .rw[decide_eq_true n] at x;have C:=X (t.o n);clear t n;go_wp2_with fail;refine x.o.mono ?_;rintro e w2 ⟨rfl,p⟩;have u:=X (z.o.trans p);clear p;go_wp2_with fail;go_ret;rw[C.o];exact⟨rfl,u.o⟩
   .rw[decide_eq_false n] at x;have HN:=X n;clear t n;go_wp2_with fail;refine x.o.mono ?_;rintro e w2 ⟨rfl,p⟩;have u:=X (z.o.trans p);clear p;go_wp2_with fail
    go_roundg (gk-1)
    case measure=>omega
    case rel=>exact⟨k+1,by omega,by go_num,fun i h P=>E.o i h P HN.o,u.o⟩
  .have S:¬(k:Int)<(l.length:Int):=(by omega)
   have HE:=X (dU (pB (fun i B=>s.o i B (by omega)):G1 l id=none));go_wp2_with fail;go_ret;rw[HE.o];exact⟨rfl,z.o⟩
def L4(w:World)(V L:Nat)(v:Value):Prop:=w.heap[V]?=some (.cells #[.pointer (some ⟨L,0,none⟩),v] 123 (0,0))
theorem L4.fp{w w':World}{S:List Nat}{V L:Nat}{v:Value}(h:L4 w V L v)(a:Fp S w w')(c:V∉S:=by simp):L4 w' V L v:=(a.block V (Ae h) c).trans h
theorem pK(w:World)(base V L id:Nat)(v:Value)(l:List A0)(h:L4 w V L v)(g:Ag Fe w base v l)(j:l.length≤1000000):
  Calls Tryz.prog 64 #[.pointer (some ⟨V,0,none⟩),.int .u64 id] w fun e w'=>e=.returned (.int .i64 (Rw l id))/\Fp [] w w':=by
 have c:=Fp.alloc w (.cells #[.int .u64 id] 23);have n:=X (Af9 (w.alloc (.cells #[.int .u64 id] 23)) base w.heap.size id v l (g.fp c) j (Ai rfl _));have m:=X c;have k:=Ae h;obtain⟨a,cap,rfl,-,-⟩:=g.len;have p:w.cell? ⟨V,1,none⟩=some (.slice a l.length cap):=Ab h 1;clear c h g;go_in;go_wp2_with fail;refine n.o.next m fun w2 i=>?_;go_wp2_with fail;go_ret;exact⟨rfl,i.o⟩
def Pj(l:List A0)(id:Nat):A0:=(Lj l id).getD Nc
def Pl(l:List A0)(id:Nat):Bool:=(Lj l id).isSome
theorem pL(w:World)(base V L id:Nat)(v:Value)(l:List A0)(A:L4 w V L v)(y:Ag Fe w base v l)(U:l.length≤1000000):
  Calls Tryz.prog 25 #[.pointer (some ⟨V,0,none⟩),.int .u64 id] w fun e w'=>e=.returned (.tuple #[H8 (Pj l id),.bool (Pl l id)])/\Fp [] w w':=by
 have n:=Fp.alloc w (.cells #[.int .u64 0,.int .i64 0,.int .i64 0,.string ⟨#[]⟩] 42);have t:(w.alloc (.cells #[.int .u64 0,.int .i64 0,.int .i64 0,.string ⟨#[]⟩] 42)).heap[w.heap.size]?=some (.cells #[.int .u64 0,.int .i64 0,.int .i64 0,.string ⟨#[]⟩] 42 (0,0)):=Ai rfl _;have x:=X (pK (w.alloc (.cells #[.int .u64 0,.int .i64 0,.int .i64 0,.string ⟨#[]⟩] 42)) base V L id v l (A.fp n) (y.fp n) U);have F:=X n;have p:=X t;have HO:=X (y.fp n);have E:=X (A.fp n);clear n A y t;have q:∀W:World,Fp [] w W->∀o u,Fp [] w (W.setCell ⟨w.heap.size,o,none⟩ u):=fun W h o u=>h.trans (Fp.setCell W ⟨w.heap.size,o,none⟩ u) (by intro i z;right;simp at z;omega);have c:=X q;clear q
 cases hat:G1 l id with
 |none=>
  have s:Hid (Pj l id=Nc/\Pl l id=false):=by unfold Hid Pj Pl;rw[Ae8 hat];exact⟨rfl,rfl⟩
  rw[dU hat] at x;clear hat;go_in;go_wp2_with fail;refine x.o.mono ?_;rintro e w2 ⟨rfl,k⟩;have a:=(k.block _ (Ae p.o) (by simp)).trans p.o;have K:w2.cell? ⟨w.heap.size,0,none⟩=some (.int .u64 0):=Ab a 0;have J:w2.cell? ⟨w.heap.size,1,none⟩=some (.int .i64 0):=Ab a 1;have I:w2.cell? ⟨w.heap.size,2,none⟩=some (.int .i64 0):=Ab a 2;have G:w2.cell? ⟨w.heap.size,3,none⟩=some (.string ⟨#[]⟩):=Ab a 3;have f0:w2.frozen? ⟨w.heap.size,0,none⟩=false:=Av a 0;have f1:w2.frozen? ⟨w.heap.size,1,none⟩=false:=Av a 1;have f2:w2.frozen? ⟨w.heap.size,2,none⟩=false:=Av a 2;have f3:w2.frozen? ⟨w.heap.size,3,none⟩=false:=Av a 3;have r:=X (F.o.trans k);clear k a;go_wp2_with fail;refine bodyPost_ret (v:=.tuple #[.agg #[.int .u64 0,.int .i64 0,.int .i64 0,.string ⟨#[]⟩],.bool false]) (by simp[results,Tryz.results25,go_sem, *]) rfl ?_;rw[s.o.1,s.o.2];exact⟨rfl,c.o _ (c.o _ (c.o _ (c.o _ r.o _ _) _ _) _ _) _ _⟩
 |some i=>
  have z:=Y2 hat
  have s:Hid (Pj l id=l[i]/\Pl l id=true):=by unfold Hid Pj Pl;rw[Ae7 hat];exact⟨rfl,rfl⟩
  rw[dT hat] at x;obtain⟨g,cap,rfl,aa,-,m⟩:=V5 HO.o z;obtain⟨j,D⟩:=Aa (l[i]);rw[D] at s m;obtain⟨T,R,Q,S⟩:=j;have B:=X m
  have zi:(i:Int)<(l.length:Int):=by omega
  clear hat m D;go_in;go_wp2_with fail;refine x.o.mono ?_;rintro e w2 ⟨rfl,k⟩;obtain⟨P,O,N,M⟩:=B.o _ k;simp only at P O N M;have q1:w2.cell? ⟨V,1,none⟩=some (.slice (some ⟨g,0,none⟩) l.length cap):=Ab (E.o.fp k) 1;have C:=Ae (E.o.fp k);have a:=(k.block _ (Ae p.o) (by simp)).trans p.o;have K:w2.cell? ⟨w.heap.size,0,none⟩=some (.int .u64 0):=Ab a 0;have J:w2.cell? ⟨w.heap.size,1,none⟩=some (.int .i64 0):=Ab a 1;have I:w2.cell? ⟨w.heap.size,2,none⟩=some (.int .i64 0):=Ab a 2;have G:w2.cell? ⟨w.heap.size,3,none⟩=some (.string ⟨#[]⟩):=Ab a 3;have f0:w2.frozen? ⟨w.heap.size,0,none⟩=false:=Av a 0;have f1:w2.frozen? ⟨w.heap.size,1,none⟩=false:=Av a 1;have f2:w2.frozen? ⟨w.heap.size,2,none⟩=false:=Av a 2;have f3:w2.frozen? ⟨w.heap.size,3,none⟩=false:=Av a 3;have r:=X (F.o.trans k);clear k a;go_wp2_with fail;refine bodyPost_ret (v:=.tuple #[.agg #[.int .u64 T,.int .i64 R,.int .i64 Q,.string S],.bool true]) (by simp[results,Tryz.results25,go_sem, *]) rfl ?_;rw[s.o.1,s.o.2];exact⟨rfl,c.o _ (c.o _ (c.o _ (c.o _ r.o _ _) _ _) _ _) _ _⟩
theorem Tryz.infoJob:(Tryz.prog.info? 42).map (fun i=>(i.zero,i.size,i.bytes))=some (some (.agg #[.int .u64 0,.int .i64 0,.int .i64 0,.string ⟨#[]⟩]),4,40):=by kernel_rfl
theorem Aga{w:World}{j:Array Oper}{rest:List Oper}{o:Oper}{a:Act}{Q:Exit→Act→World→Prop}(r:o.guard=none)(s x:Operand)
  (z:o.op=.call {callee:=.builtin .append,args:=#[s,x],argTypes:=#[75,75]})(base:Nat)(v:Value)(l:List A0)(y:a.eval s=v)(k:Ag Fe w base v l)
  (q:Option Addr)(m c:Nat)(p:List A0)(u:a.eval x=.slice q m c)(A:Bj Fe w q m p)(g:q=none->c=0)(n:l.length+p.length<=1000000000)(i:base<=w.heap.size)
  (h:∀t w',Ag Fe w' base t (l++p)->Below base w w'->w.grownBy w' v.ownBlock->wpList Tryz.prog j Q rest (a.put o.dst t) w'):wpList Tryz.prog j Q (o::rest) a w:=
 Va (R:=Fe) 75 Tryz.underlying75 Tryz.infoJob rfl (by decide) r s x z base v l y k q m c p u A g n i h
theorem Agb(w:World)(a:Option Addr)(n cap:Nat)(l:List A0)(k:Bj Fe w a n l)(g:a=none→cap=0)(A:n≤1000000):
  Calls Tryz.prog 66 #[.slice a n cap] w fun e w'=>∃x,e=.returned x/\Ag Fe w' w.heap.size x l/\Fp [] w w':=by
 have u:=X k;have s:=X k.len;have y:∀(w:World) (a:Option Addr) (n c m c':Nat),(binOp .eql 75 (.slice a n c) (.slice none m c')).run Tryz.prog w=.ok (.bool a.isNone) w:=fun w a n c m c'=>Lib.run_eql_slice_nil w _ _ a n c m c' Tryz.underlying75
 cases a with
 |none=>
  obtain rfl:=g rfl;have q:l=[]:=by
   rcases k.cells with h|⟨b,o,h,_⟩
   .exact h
   .cases h
  subst q;have p:n=0:=k.len;subst p;clear k g;go_in;go_wp2_with fail;go_ret;exact⟨_,rfl,Ag.nil _ _,Fp.refl _ _⟩
 |some ad=>
  clear k g;go_in;go_wp2_with (at_builtin;refine Aga rfl _ _ rfl w.heap.size _ [] rfl (Ag.made w _ (a1x _)) _ _ _ l rfl (u.o.fp (Fp.alloc _ _)) (by intro h;cases h) (by have:=s.o;simp;omega) (by simp) ?_;intro z w2 i j _;have r:=X i;have t:=X j;clear i j);go_ret;exact⟨_,rfl,r.o,(Fp.alloc w _).belowTrans (t.o.mono (by simp))⟩
theorem Agc(w:World)(base V L:Nat)(v:Value)(l:List A0)(j:L4 w V L v)(p:Ag Fe w base v l)(q:l.length≤1000000):
  Calls Tryz.prog 32 #[.pointer (some ⟨V,0,none⟩)] w fun e w'=>∃n,e=.returned n/\Ag Fe w' w.heap.size n l/\Fp [] w w':=by
 obtain⟨a,cap,rfl,c,-,i⟩:=p.at;have s:=X (Agb w a l.length cap l i c q);have r:=Ae j;have u:w.cell? ⟨V,1,none⟩=some (.slice a l.length cap):=Ab j 1;clear j p i c;go_in;go_wp2_with fail;refine s.o.mono ?_;rintro e w2 ⟨t,rfl,g,h⟩;have k:=X g;have m:=X h;clear g h;go_wp2_with fail;go_ret;exact⟨_,rfl,k.o,m.o⟩
structure Uh(w0:World)(base g n cap:Nat)(l:List A0)(i:Nat)(j:A0)(V L q:Nat)(done:Bool)(w:World):Prop where
 own:Ag Fe w base (.slice (some ⟨g,0,none⟩) n cap) (if done then l.set i j else l)
 drv:L4 w V L (.slice (some ⟨g,0,none⟩) n cap)
 box:w.heap[q]?=some (.cells (F5 j).toArray 42 (0,0))
 fp:Fp [g] w0 w
theorem Uh.set{p w:World}{base g n cap i V L q:Nat}{l:List A0}{j:A0}(h:Uh p base g n cap l i j V L q false w)(s:i<l.length)(a:q≠g)(c:V≠g):
  Uh p base g n cap l i j V L q true (w.setCells g (i*4) (F5 j)):=by
 have x:=h.own;have u:Ag Fe w base (.slice (some ⟨g,0,none⟩) n cap) l:=x;obtain⟨t,m⟩:=u.setQ j s;exact⟨t,h.drv.fp m (by simpa using c),(m.block _ (Ae h.box) (by simpa using a)).trans h.box,h.fp.trans m (by intro k r;exact Or.inl r)⟩
def Nh(v:Value):List Nat:=v.ownBlock.toList
theorem dV{w:World}{base:Nat}{v:Value}{l:List A0}(h:Ag Fe w base v l):∀k,v.ownBlock=some k→∃c,w.heap[k]?=some (.cells c 42 (0,0)):=by
 intro k a;rcases h.2 with⟨rfl,_⟩|⟨g,cap,j,rfl,_,i,_⟩
 .cases a
 .obtain rfl:g=k:=by simpa [Value.ownBlock] using a
  exact⟨_,i⟩
theorem own_off{w:World}{base k:Nat}{v:Value}{l:List A0}{c:Array Value}{T:TypeId}{fr:Nat × Nat}(h:Ag Fe w base v l)(j:w.heap[k]?=some (.cells c T fr))(m:T≠42):k∉Nh v:=by
 intro a;unfold Nh at a
 have i:v.ownBlock=some k:=by simpa using a
 obtain⟨n,g⟩:=dV h k i;rw[j] at g
 injection Option.some.inj g with _ h3
 exact m h3
theorem pM(w:World)(base V L:Nat)(v:Value)(l:List A0)(j:A0)(W:L4 w V L v)(U:Ag Fe w base v l)(hb:base≤w.heap.size)(hn:l.length≤100000):
  Calls Tryz.prog 62 #[.pointer (some ⟨V,0,none⟩),H8 j] w fun e w'=>e=.returned (.tuple #[])/\(∃v',L4 w' V L v'/\Ag Fe w' base v' (Hr l j))/\Tf base [42] [V] w w':=by
 obtain⟨n,x,u,y⟩:=j;have p:=Fp.alloc w (.cells #[.int .u64 n,.int .i64 x,.int .i64 u,.string y] 42);have S:(w.alloc (.cells #[.int .u64 n,.int .i64 x,.int .i64 u,.string y] 42)).heap[w.heap.size]?=some (.cells #[.int .u64 n,.int .i64 x,.int .i64 u,.string y] 42 (0,0)):=Ai rfl _;have HC:=X (pK (w.alloc (.cells #[.int .u64 n,.int .i64 x,.int .i64 u,.string y] 42)) base V L n v l (W.fp p) (U.fp p) (by omega));have aq:=Ae W;have E:=X S;have HF:=X p;have M:=X (U.fp p);have HV:=X (W.fp p);have F:∀k,v.ownBlock=some k->k<w.heap.size:=fun k hk=>(U.lt k hk).2;have T:=X F;unfold H8 F5;simp only;clear W U p S F
 cases hat:G1 l n with
 |some i=>
  have Q:=Y2 hat;have HP:Hid (Hr l ⟨n,x,u,y⟩=l.set i ⟨n,x,u,y⟩):=dO hat;rw[dT hat] at HC;obtain⟨g,cap,rfl,-,ae,-⟩:=V5 M.o Q;have ar:=T.o g rfl
  have zi:(i:Int)<(l.length:Int):=by omega
  have ag:V≠g:=by
   intro e;have:=own_off M.o HV.o (by decide);exact this (by rw[e];simp[Nh,Value.ownBlock])
  clear hat;go_in;go_wp2_with fail;refine HC.o.mono ?_;rintro e w2 ⟨rfl,q⟩;have D:Hid (Uh w2 base g l.length cap l i ⟨n,x,u,y⟩ V L w.heap.size false w2):=X ⟨M.o.fp q,HV.o.fp q,(q.block _ (Ae E.o) (by simp)).trans E.o,Fp.refl _ _⟩;have C:=X (HF.o.trans q)
  have aa:w.heap.size≠g:=by omega
  clear q;go_wp2_with fail;refine E3 (fun J w'=>Uh w2 base g l.length cap l i ⟨n,x,u,y⟩ V L w.heap.size (J 7) w') (fun _ _=>True) (by kernel_rfl) (by kernel_rfl) ⟨D.o.own.fp (Fp.drew w2),D.o.drv.fp (Fp.drew w2),((Fp.drew w2).block _ (Ae D.o.box) (by simp)).trans D.o.box,(Fp.drew w2).mono (by simp)⟩ ?_
  iterate 7
   apply A3 (fun _ _ h=>h) rfl rfl rfl
   .intro b a w m c K r;have:=c.f 0;have:=c.f 4;have:=c.f 3;(try have:=c.e 0 11);(try have:=c.e 1 12);(try have:=c.e 2 13);(try have:=c.e 3 14);(try have:=c.e 4 15);have q1:=Ab m.drv 1;have b0:=Ab m.box 0;have b1:=Ab m.box 1;have b2:=Ab m.box 2;have b3:=Ab m.box 3;have an:=Ae m.drv;simp only[F5,a0w,a0v,a0z] at q1 b0 b1 b2 b3;simp only[Oper.wp,execOp];go_simp;exact r _ m trivial
  apply F3 (fun _=>True) rfl rfl
  .intro b a w m c K r;have az:=c.e 6 17;have a0:=c.e 5 16;have h7:=c.self;rw[h7] at m;have s:=Uh.set m Q aa ag;have P:Ag Fe w base (.slice (some ⟨g,0,none⟩) l.length cap) l:=m.own;obtain⟨O,N,-,-,-,-⟩:=P.elem Q;obtain⟨k0,k1,k2,k3⟩:=pJ O;have z0:=N (i*4);have z1:=N (i*4+1);have z2:=N (i*4+2);have z3:=N (i*4+3);clear N O;unfold F5 at s;simp only[show Fe.k=4 from rfl] at k0 k1 k2 k3;simp only[Oper.wp,execOp];go_simp;exact r undef _ s trivial trivial
  refine⟨?_,?_⟩
  .refine⟨fun _ _ _ _ _=>trivial,?_⟩
   iterate 7 refine Cb _ ?_
   exact trivial
  .intro wa J m z;simp only[a1u,a2z,a2v,a2x]
   iterate 7 (refine A2 ?_)
   refine As ?_;intro v7 u7;refine C7 ?_;simp only[Aj,Act.put,a1z,a1w,a1v];have I:=m;rw[z 7 (by decide)] at I;have HD:=X I;clear m z I;go_wp2_with fail;refine bodyPost_ret (v:=.tuple #[]) (results_none rfl _ _ _) rfl ?_;refine⟨rfl,⟨.slice (some ⟨g,0,none⟩) l.length cap,HD.o.drv,?_⟩,?_⟩
   .rw[HP.o];exact HD.o.own
   .have p:Fp [g] w wa:=(C.o.mono (S':=[g]) (by simp)).trans HD.o.fp (by intro k hk;exact Or.inl hk);refine⟨p.os,p.tape,p.output,p.size,fun k h1 _ h3=>p.block k h1 fun hm=>?_⟩;obtain rfl:=List.mem_singleton.1 hm;obtain⟨c2,h2⟩:=dV M.o k rfl;rw[Below.heap_alloc _ _ _ h1] at h2;exact h3 ae _ _ _ h2 (by simp)
 |none=>
  have HP:Hid (Hr l ⟨n,x,u,y⟩=l++[⟨n,x,u,y⟩]):=dP hat;rw[dU hat] at HC;obtain⟨va,vc,hv,-,-⟩:=M.o.len;clear hat;go_in;go_wp2_with fail;refine HC.o.mono ?_;rintro e w2 ⟨rfl,q⟩;have aj:=X (M.o.fp q);have ai:=X (HV.o.fp q);have G:=X ((q.block _ (Ae E.o) (by simp)).trans E.o);have C:=X (HF.o.trans q);have af:base<=w2.heap.size:=a0u hb C.o.size;clear q;go_wp2_with fail;refine Qb (fun J vs w'=>Gg Fe [42] 123 (fun v=>#[.pointer (some ⟨L,0,none⟩),v]) base V v l ⟨n,x,u,y⟩ 6 7 10 w2 J vs w'/\(J 7=false->Fp [] w2 w')) (fun _ _=>True) (by kernel_rfl) (by kernel_rfl) (fun _=>⟨Gg.start aj.o ai.o af,fun _=>Fp.drew w2⟩) ?_
  iterate 4
   apply Cm (fun _ _ _ h _=>⟨h.1.plain (by decide),h.2⟩) rfl rfl rfl
   .intro b a w m c K r;have:=c.f 0;(try have:=c.e 1 19);(try have:=c.e 2 20);simp only[Oper.wp,execOp];go_simp;exact r _ m trivial
  apply Cm (fun _ _ _ h _=>⟨h.1.plain (by decide),h.2⟩) rfl rfl rfl
  .intro b a w m c K r;have ay:=c.e 3 21;have q0:=Ab (m.1.first (c.post 7 (by kernel_rfl))) 1;simp only[a0w,a0v,a0z] at q0;rw[hv] at q0;simp only[Oper.wp,execOp];go_simp;rw[<-hv];exact r _ m trivial
  apply Cm (fun _ _ _ h _=>⟨h.1.plain (by decide),h.2⟩) rfl rfl rfl
  .intro b a w m c K r;have h3:=c.f 3;have ad:=m.2 (Ye m.1.ob (c.post 6 (by kernel_rfl)));have t:=(ad.block _ (Ae G.o) (by simp)).trans G.o;have b0:=Ab t 0;have b1:=Ab t 1;have b2:=Ab t 2;have b3:=Ab t 3;simp only[a0w,a0v,a0z] at b0 b1 b2 b3;simp only[Oper.wp,execOp];go_simp;exact r _ m trivial
  apply Dw (fun _ _=>True) rfl rfl rfl
  .intro b a w m c K r;have ax:=c.e 5 23;have s:=m.1.build c.self (by decide);have A:Ak b 6 7=false->Fp [] w2 (w.alloc (.cells (Fe.enc ⟨n,x,u,y⟩).toArray Fe.e)):=fun e=>(m.2 e).alloc' _;simp only[Oper.wp,execOp];go_simp;exact r _ _ ⟨s,A⟩ trivial trivial
  apply Dw (fun _ _=>True) rfl rfl rfl
  .intro b a w m c K r;have ah:=c.e 4 22;have aw:=c.dep 6 24 _ (by kernel_rfl) rfl;obtain⟨g,ac,ab⟩:=m.1.bld (c.pre 6 (by kernel_rfl)) c.self;refine Vt (R:=Fe) 75 Tryz.underlying75 Tryz.infoJob rfl (by decide) (.tmp 22) (.tmp 24) rfl base v l (Ei ah) (m.1.own0 c.self) _ _ _ [⟨n,x,u,y⟩] (Ei ((c.val 6 24 (by kernel_rfl)).trans ac)) ab (by simp;omega) m.1.sz ?_;intro v' w' h1 h2 h3;exact r _ _ ⟨m.1.append (c.pre 6 (by kernel_rfl)) c.self h1 h3 (by simp[Fe]) (by decide) (by decide),fun e=>by simp[Ak] at e⟩ trivial trivial
  iterate 2
   apply Cm (fun _ _ _ h _=>⟨h.1.plain (by decide),h.2⟩) rfl rfl rfl
   .intro b a w m c K r;(try have:=c.e 0 18);(try have:=c.e 8 26);simp only[Oper.wp,execOp];go_simp;exact r _ m trivial
  apply J3 (fun _=>True) rfl rfl rfl
  .intro b a w m c K r;have au:=c.e 9 27;have av:=c.dep 7 25 _ (by kernel_rfl) rfl;obtain⟨a2,n2,c2,e2⟩:=m.1.slice (c.pre 7 (by kernel_rfl));have ap:=(c.val 7 25 (by kernel_rfl)).trans e2;have s:=m.1.store (off:=1) (c.pre 7 (by kernel_rfl)) c.self (by simp) (by decide) (by decide);rw[e2] at s;have A:Ak b 10 7=false->Fp [] w2 (w.setCell ⟨V,1,none⟩ (.slice a2 n2 c2)):=fun e=>absurd ((c.pre 7 (by kernel_rfl)).symm.trans e) (by decide);have f0:=Av m.1.cel 1;have q0:=Ab m.1.cel 1;simp only[Oper.wp,execOp];go_simp;exact r undef _ ⟨s,A⟩ trivial trivial
  refine⟨?_,?_⟩
  .refine⟨fun _ _ _ _ _=>trivial,?_⟩;refine E4 _ ?_;refine E4 _ ?_;refine⟨fun _ _ _ _ _=>trivial,?_⟩;refine⟨fun _ _ _ _ _=>trivial,?_⟩
   iterate 6 refine E4 _ ?_
   exact trivial
  .intro wa J z;simp only[a1u,a2z,a2v,a2x]
   iterate 6 (refine A2 ?_)
   refine As ?_;intro v6 u6;refine As ?_;intro v7 u7
   iterate 2 (refine A2 ?_)
   refine As ?_;intro ao u10;refine C7 ?_;intro m;simp only[Aj,Act.put,a1z,a1w,a1v];have B:=m.1.cel;rw[z 10 (by simp)] at B;have am:=X B;have al:=X (m.1.own1 (z 7 (by simp)));have ak:Hid (Tf base [42] [V] w wa):=X (((Tf.of C.o:Tf base [42] [] w w2).mono (by simp)).trans m.1.tf (by intro i Q;exact Or.inl Q));clear m z B;go_wp2_with fail;go_end0;exact⟨rfl,⟨_,am.o,by rw[HP.o];exact al.o⟩,ak.o⟩
end
section
open Go.RowKit Go.Lib Go.Maps Go.MapKept Go.ChangeMaps
structure Ff(w:World)(base b bm L V:Nat)(v:Value)(d:Dk)(lg:Lg)(l:List A0):Prop where
 disk:Am w b bm d
 log:Df w L b lg
 drv:L4 w V L v
 own:Ag Fe w base v l
 base:base<=w.heap.size
variable {w w' : World} {base b bm L V : Nat} {v : Value} {d : Dk} {lg : Lg} {l : List A0}
theorem Ff.V_off(h:Ff w base b bm L V v d lg l):V∉[b,bm,L]:=by
 have g:=G2 h.drv (by decide) h.disk;intro i;simp only[Z,Y,or_false] at i g;rcases i with a|a|a
 .exact g (Or.inl a)
 .exact g (Or.inr a)
 .have c:=h.drv;unfold L4 at c;rw[a,h.log] at c
  injection Option.some.inj c with _ h4
  exact absurd h4 (by decide)
theorem Ff.own_off(h:Ff w base b bm L V v d lg l):∀k∈[b,bm,L,V],k∉Nh v:=by
 intro k c;simp only[Z,Y,or_false] at c;rcases c with rfl|rfl|rfl|rfl
 .exact Go.Proofs.YtkagolpnaicdoaaGreatDoor.own_off h.own h.disk.cells (by decide)
 .intro j
  have i:v.ownBlock=some k:=by simpa [Nh] using j
  obtain⟨p,m⟩:=dV h.own k i;obtain⟨n,a,g,_⟩:=h.disk.files;rw[m] at g;cases g
 .exact Go.Proofs.YtkagolpnaicdoaaGreatDoor.own_off h.own h.log (by decide)
 .exact Go.Proofs.YtkagolpnaicdoaaGreatDoor.own_off h.own h.drv (by decide)
theorem Ff.of_fp{S:List Nat}(h:Ff w base b bm L V v d lg l)(a:Fp S w w')(c:∀k∈[b,bm,L,V]++Nh v,k∉S):Ff w' base b bm L V v d lg l:=
 ⟨h.disk.of_fp a (c b (by simp)) (c bm (by simp)),h.log.fp a (c L (by simp)),h.drv.fp a (c V (by simp)),h.own.kept fun k g=>a.block k (h.own.lt k g).2 (c k (by simp[Nh,g])),a0u h.base a.size⟩
theorem Ff.calm(h:Ff w base b bm L V v d lg l)(a:Fp [] w w'):Ff w' base b bm L V v d lg l:=h.of_fp a (by simp)
theorem Ff.turned{j:Dk}{a:Lg}(h:Ff w base b bm L V v d lg l)(g:Fp [b,bm,L] w w')(p:Am w' b bm j)(n:Df w' L b a):Ff w' base b bm L V v j a l:=
 ⟨p,n,h.drv.fp g h.V_off,h.own.kept fun k i=>g.block k (h.own.lt k i).2 (fun m=>by
  have c:k∈Nh v:=by simp[Nh,i]
  exact h.own_off k (by simp only[Z,Y,or_false] at m ⊢;omega) c),a0u h.base g.size⟩
theorem Ff.putted{g:Value}{l':List A0}(h:Ff w base b bm L V v d lg l)(a:Tf base [42] [V] w w')(m:L4 w' V L g)(n:Ag Fe w' base g l'):Ff w' base b bm L V g d lg l':=by
 have j:=h.V_off;simp only[Z,Y,or_false,not_or] at j;obtain⟨t,s,r⟩:=j;have q:=a.cells h.disk.cells (by simp;omega) (by decide);refine⟨⟨q,h.disk.files.of_block ?_⟩,a.cells h.log (by simp;omega) (by decide),m,n,a0u h.base a.size⟩;exact a.block bm h.disk.files.lt (by simp;omega) (fun _ c T u p=>by
  obtain⟨x,i,k,_⟩:=h.disk.files
  rw[p] at k;cases k)
structure Ui where
 d:Dk
 lg:Lg
 l:List A0
 e:Int
def Ek(d:Dk)(lg:Lg)(l:List A0)(j:A0):Ui:=
 if(Eq j).2≠0 then⟨d,lg,l,(Eq j).2⟩
 else if(H7 lg d [(Eq j).1]).2.2≠0 then⟨(H7 lg d [(Eq j).1]).2.1,(H7 lg d [(Eq j).1]).1,l,(H7 lg d [(Eq j).1]).2.2⟩
 else⟨(H7 lg d [(Eq j).1]).2.1,(H7 lg d [(Eq j).1]).1,Hr l j,0⟩
theorem Agd{j:A0}{s:ByteArray}{x:Int}(h:Eq j=(s,x))(a:x≠0):Ek d lg l j=⟨d,lg,l,x⟩:=by
 unfold Ek;rw[h,if_pos a]
theorem Age{j:A0}{s:ByteArray}{x:Int}{c:Dk}{a:Lg}(h:Eq j=(s,0))(i:H7 lg d [s]=(a,c,x))(g:x≠0):Ek d lg l j=⟨c,a,l,x⟩:=by
 unfold Ek;rw[h,if_neg (by simp)];simp only[i];rw[if_pos g]
theorem pN{j:A0}{s:ByteArray}{c:Dk}{a:Lg}(h:Eq j=(s,0))(g:H7 lg d [s]=(a,c,0)):Ek d lg l j=⟨c,a,Hr l j,0⟩:=by
 unfold Ek;rw[h,if_neg (by simp)];simp only[g];rw[if_neg (by simp)]
theorem Agf{j:A0}{s:ByteArray}(h:Eq j=(s,0)):s.size≤60011:=by
 unfold Eq at h;split at h
 .cases h
 .split at h
  .cases h
  .rename_i a;obtain rfl:Bi j=s:=(Prod.mk.inj h).1;rw[Y1];omega
def Oe(base b bm L V:Nat)(r:Ui)(w w':World):Prop:=(∃v',Ff w' base b bm L V v' r.d r.lg r.l)/\Tf base [42] [b,bm,L,V] w w'
theorem Agg(w:World)(base b bm L V q Q:Nat)(v:Value)(d:Dk)(lg:Lg)(l:List A0)(j:A0)(O:Ff w base b bm L V v d lg l)(ai:Au d)(hj:Ph j)(ht:Dp w)
  (ah:lg.name.size<=1000)(R:lg.many<=100000)(hn:l.length<=100000)
  (p:w.heap[q]?=some (.cells (F5 j).toArray 42 (0,0)))(S:w.heap[Q]?=some (.cells #[.pointer (some ⟨V,0,none⟩)] 54 (0,0))):
  Calls Tryz.prog 116 #[.pointer (some ⟨q,0,none⟩),.pointer (some ⟨Q,0,none⟩)] w fun e w'=>Oe base b bm L V (Ek d lg l j) w w'/\(((Ek d lg l j).e=0/\∃u,e=.returned u)∨((Ek d lg l j).e≠0/\e=.panicked (Tj (Ek d lg l j).e))):=by
 have n1:=G2 p (by decide) O.disk;have n2:=G2 S (by decide) O.disk;have ap:=O.V_off;have m1:q∉[b,bm,L]:=by
  intro R;simp only[Z,Y,or_false] at R n1;rcases R with D|D|D
  .exact n1 (Or.inl D)
  .exact n1 (Or.inr D)
  .rw[D,O.log] at p
   injection Option.some.inj p with _ h4
   exact absurd h4 (by decide)
 have m2:Q∉[b,bm,L]:=by
  intro R;simp only[Z,Y,or_false] at R n2;rcases R with D|D|D
  .exact n2 (Or.inl D)
  .exact n2 (Or.inr D)
  .rw[D,O.log] at S
   injection Option.some.inj S with _ h4
   exact absurd h4 (by decide)
 have ao:=Ae p;have an:=Ae S;have c:=X (fun w=>Afe w j hj);obtain⟨G,jp,jx,jn⟩:=j;unfold F5 at p;simp only at p;unfold H8 F5 at c;simp only at c;have p0:w.cell? ⟨q,0,none⟩=some (.int .u64 G):=Ab p 0;have p1:w.cell? ⟨q,1,none⟩=some (.int .i64 jp):=Ab p 1;have p2:w.cell? ⟨q,2,none⟩=some (.int .i64 jx):=Ab p 2;have p3:w.cell? ⟨q,3,none⟩=some (.string jn):=Ab p 3;have J:=X O;have HT:=X ht;have H1:=X p;have T:=X S;have P:=X mU;have ae:=X mV;have al:=X m1;have ak:=X m2;clear O ht p S n1 n2 m1 m2
 obtain⟨⟨s,x⟩,M⟩:∃r,Eq ⟨G,jp,jx,jn⟩=r:=⟨_,rfl⟩
 rw[M] at c;by_cases hx:x=0
 .subst hx;have ab:=Agf M
  obtain⟨⟨ag,d2,y⟩,U⟩:∃r,H7 lg d [s]=r:=⟨_,rfl⟩
  have af:Hid (∀W g,Fp [] w W→W.heap[g]?=some (.cells #[.string s] 9 (0,0))→Calls Tryz.prog 117 #[.pointer (some ⟨L,0,none⟩),.slice (some ⟨g,0,none⟩) 1 1] W fun e w'=>e=.returned (.int .i64 y)∧Am w' b bm d2∧Df w' L b ag∧Fp [b,bm,L] W w'):=X (fun W g hf hg=>by
   have h:=Af3 W b bm L lg d (some ⟨g,0,none⟩) 1 1 [s] (J.o.disk.of_fp hf (by simp) (by simp)) ai ah (J.o.log.fp hf)
    ⟨rfl,Or.inr ⟨g,0,rfl,fun i B=>by have:i=0:=by simpa using B
                                     subst this;rw[Ab hg];rfl⟩,fun t ht=>by rw[List.mem_singleton.1 ht];unfold maxLen;omega⟩
    (HT.o.fp hf) (by show 6+s.size+0<=_;omega) (by omega)
   rw[U] at h
   exact h)
  by_cases I:y=0
  .subst I;have HE:=X (pN (l:=l) M U);clear M U ab;go_in;go_wp2_with fail;refine(c.o _).nexh fun w1 a=>?_;go_wp2_with fail;refine(P.o _).mono ?_;rintro e w2 ⟨⟨u2,rfl⟩,rfl⟩;have q0:w2.cell? ⟨Q,0,none⟩=some (.pointer (some ⟨V,0,none⟩)):=Ab ((a.o.block _ (Ae T.o) (by simp)).trans T.o) 0;have q1:w2.cell? ⟨V,0,none⟩=some (.pointer (some ⟨L,0,none⟩)):=Ab (J.o.drv.fp a.o) 0;have ad:=Ae (J.o.drv.fp a.o);have m:=X (a.o.alloc' (.cells #[.string s] 9));go_wp2_with fail;refine(af.o _ w2.heap.size m.o (Ai rfl _)).mono ?_;rintro e w3 ⟨rfl,C,z,k⟩;have n:=X ((J.o.calm m.o).turned k C z);have F:Hid (Fp [b,bm,L] w w3):=X ((m.o.mono (by simp)).trans k (by intro i B;exact Or.inl B));clear C z k;go_wp2_with fail;refine(P.o _).mono ?_;rintro e K ⟨⟨u4,rfl⟩,rfl⟩;have A:=(F.o.block _ (Ae H1.o) al.o).trans H1.o;have r0:K.cell? ⟨Q,0,none⟩=some (.pointer (some ⟨V,0,none⟩)):=Ab ((F.o.block _ (Ae T.o) ak.o).trans T.o) 0;have s0:K.cell? ⟨q,0,none⟩=some (.int .u64 G):=Ab A 0;have s1:K.cell? ⟨q,1,none⟩=some (.int .i64 jp):=Ab A 1;have s2:K.cell? ⟨q,2,none⟩=some (.int .i64 jx):=Ab A 2;have s3:K.cell? ⟨q,3,none⟩=some (.string jn):=Ab A 3;have E:=X (pM K base V L v l ⟨G,jp,jx,jn⟩ n.o.drv n.o.own n.o.base hn);unfold H8 F5 at E;simp only at E;clear A;go_wp2_with fail;refine E.o.mono ?_;rintro e w5 ⟨rfl,⟨v5,aa,ac⟩,N⟩;have am:=X (n.o.putted N aa ac);have aj:Hid (Tf base [42] [b,bm,L,V] w w5):=X (((Tf.of F.o).mono (by intro i B;simp only[Z,Y,or_false] at B ⊢;omega)).trans N (by intro i B;left;simp only[Z,Y,or_false] at B ⊢;omega));clear aa ac N;go_wp2_with fail;go_end0;rw[HE.o];exact⟨⟨⟨v5,am.o⟩,aj.o⟩,Or.inl ⟨rfl,_,rfl⟩⟩
  .have HE:=X (Age (l:=l) M U I);have HY:=X I;clear M U ab I;go_in;go_wp2_with fail;refine(c.o _).nexh fun w1 a=>?_;go_wp2_with fail;refine(P.o _).mono ?_;rintro e w2 ⟨⟨u2,rfl⟩,rfl⟩;have q0:w2.cell? ⟨Q,0,none⟩=some (.pointer (some ⟨V,0,none⟩)):=Ab ((a.o.block _ (Ae T.o) (by simp)).trans T.o) 0;have q1:w2.cell? ⟨V,0,none⟩=some (.pointer (some ⟨L,0,none⟩)):=Ab (J.o.drv.fp a.o) 0;have ad:=Ae (J.o.drv.fp a.o);have m:=X (a.o.alloc' (.cells #[.string s] 9));go_wp2_with fail;refine(af.o _ w2.heap.size m.o (Ai rfl _)).mono ?_;rintro e w3 ⟨rfl,C,z,k⟩;have n:=X ((J.o.calm m.o).turned k C z);have F:Hid (Fp [b,bm,L] w w3):=X ((m.o.mono (by simp)).trans k (by intro i B;exact Or.inl B));clear C z k;go_wp2_with fail;refine(ae.o _ y HY.o).mono ?_;rintro e K ⟨rfl,rfl⟩;go_wp2_with fail;refine⟨rfl,?_⟩;rw[HE.o];exact⟨⟨⟨v,n.o⟩,(Tf.of F.o).mono (by intro i B;simp only[Z,Y,or_false] at B ⊢;omega)⟩,Or.inr ⟨HY.o,rfl⟩⟩
 .have HE:=X (Agd (d:=d) (lg:=lg) (l:=l) M hx);have HX:=X hx;clear M hx;go_in;go_wp2_with fail;refine(c.o _).nexh fun w1 a=>?_;go_wp2_with fail;refine(ae.o _ x HX.o).mono ?_;rintro e K ⟨rfl,rfl⟩;go_wp2_with fail;refine⟨rfl,?_⟩;rw[HE.o];exact⟨⟨⟨v,J.o.calm a.o⟩,(Tf.of a.o).mono (by simp)⟩,Or.inr ⟨HX.o,rfl⟩⟩
end
section
open Go.RowKit Go.Lib Go.Maps Go.MapKept Go.ChangeMaps
variable {w w' : World} {base b bm L V : Nat} {v : Value} {d : Dk} {lg : Lg} {l : List A0}
theorem Oe.ahead{r:Ui}{A B:World}(h:Oe base b bm L V r A B)(c:Fp [] w A):Oe base b bm L V r w B:=⟨h.1,((Tf.of c:Tf base [42] [] w A).mono (by simp)).trans h.2 (by intro i a;exact Or.inl a)⟩
theorem pO(w:World)(base b bm L V:Nat)(v:Value)(d:Dk)(lg:Lg)(l:List A0)(j:A0)(hD:Ff w base b bm L V v d lg l)(I:Au d)(hj:Ph j)(ht:Dp w)
  (Q:lg.name.size<=1000)(J:lg.many<=100000)(hn:l.length<=100000):
  Calls Tryz.prog 63 #[.pointer (some ⟨V,0,none⟩),H8 j] w fun e w'=>e=.returned (.int .i64 (Ek d lg l j).e)/\Oe base b bm L V (Ek d lg l j) w w':=by
 obtain⟨W,N⟩:=Bz ((w.alloc (.cells #[.pointer (some ⟨V,0,none⟩)] 54)).alloc (.cells (F5 j).toArray 42))
 have p:Fp [] w W:=by rw[N];exact(Fp.alloc _ _).alloc' _
 have y:W.heap[w.heap.size]?=some (.cells #[.pointer (some ⟨V,0,none⟩)] 54 (0,0)):=by rw[N];exact Dy (Ai rfl _)
 have t:W.heap[w.heap.size+1]?=some (.cells (F5 j).toArray 42 (0,0)):=by rw[N];exact Ai (by simp) _
 have a:=hD.calm p
 have n:Hid (Calls Tryz.prog 45 #[.func (.func 116) #[] #[.pointer (some ⟨w.heap.size+1,0,none⟩),.pointer (some ⟨w.heap.size,0,none⟩)]] W fun e w'=>e=.returned (.int .i64 (Ek d lg l j).e)∧Oe base b bm L V (Ek d lg l j) W w'):=X (by
  refine(mW W 116 _ (enters_of Tryz.func116 (by kernel_rfl) rfl)
   (fun A=>(Ek d lg l j).e=0/\(∃c,Ff A base b bm L V c (Ek d lg l j).d (Ek d lg l j).lg (Ek d lg l j).l/\W.heap.size∉Nh c)/\Tf base [42] [b,bm,L,V] W A)
   (fun x A=>(Ek d lg l j).e=x/\(∃c,Ff A base b bm L V c (Ek d lg l j).d (Ek d lg l j).lg (Ek d lg l j).l/\W.heap.size∉Nh c)/\Tf base [42] [b,bm,L,V] W A) ?_ ?_ ?_).mono ?_
  .intro W2 g ab s;have T:=p.trans g;have U:=a.calm g;refine(Agg W2 base b bm L V (w.heap.size+1) w.heap.size v d lg l j U I hj (ht.fp T) Q J hn ((g.block _ (Ae t) (by simp)).trans t) ((g.block _ (Ae y) (by simp)).trans y)).mono ?_;rintro e W3 ⟨⟨⟨c,z⟩,E⟩,he⟩;have R:W.heap.size∉[b,bm,L,V]:=by
    have l1:=Ae a.disk.cells;have l2:=a.disk.files.lt;have l3:=Ae a.log;have l4:=Ae a.drv;simp only[Z,Y,or_false];omega
   have M:=E.cells s R (by decide);have F:Tf base [42] [b,bm,L,V] W W3:=((Tf.of g:Tf base [42] [] W W2).mono (by simp)).trans E (by intro i K;exact Or.inl K);have q:=own_off z.own M (by decide);refine⟨M,?_⟩;rcases he with⟨m,u,rfl⟩|⟨m,rfl⟩
   .exact Or.inl ⟨⟨u,rfl⟩,m,⟨c,z,q⟩,F⟩
   .exact Or.inr ⟨_,m,rfl,rfl,⟨c,z,q⟩,F⟩
  .rintro A B ⟨m,⟨c,D,O⟩,C⟩ g;refine⟨m,⟨c,D.of_fp g ?_,O⟩,C.trans (Tf.of g) (by intro i K;right;rw[List.mem_singleton.1 K];exact a1x _)⟩;intro k S J;obtain rfl:=List.mem_singleton.1 J;rcases List.mem_append.1 S with h|h
   .have l1:=Ae a.disk.cells;have l2:=a.disk.files.lt;have l3:=Ae a.log;have l4:=Ae a.drv;simp only[Z,Y,or_false] at h;omega
   .exact O h
  .rintro x A B ⟨m,⟨c,D,O⟩,C⟩ g;refine⟨m,⟨c,D.of_fp g ?_,O⟩,C.trans (Tf.of g) (by intro i K;right;rw[List.mem_singleton.1 K];exact a1x _)⟩;intro k S J;obtain rfl:=List.mem_singleton.1 J;rcases List.mem_append.1 S with h|h
   .have l1:=Ae a.disk.cells;have l2:=a.disk.files.lt;have l3:=Ae a.log;have l4:=Ae a.drv;simp only[Z,Y,or_false] at h;omega
   .exact O h
  .rintro e A (⟨rfl,m,⟨c,D,_⟩,C⟩|⟨x,_,rfl,m,⟨c,D,_⟩,C⟩)
   .exact⟨by rw[m],⟨c,D⟩,C⟩
   .exact⟨by rw[m],⟨c,D⟩,C⟩)
 have P:=X p;rw[N] at n P;obtain⟨r,hr⟩:=Aa (Ek d lg l j);rw[hr] at n ⊢;obtain⟨ji,jp,jx,jn⟩:=j;unfold F5 at n P;unfold H8 F5;simp only at n P ⊢;have ac:∀(fn:Fn) (first cap:Array Value) (w:World),(Instr.makeFunc fn first cap).run Tryz.prog w=.ok (.func fn first cap) w:=fun _ _ _ _=>rfl;clear hr N a y t p hD ht hj I;go_in;go_wp2_with fail;refine n.o.mono ?_;rintro e w2 ⟨rfl,G⟩;have aa:=X (G.ahead P.o);clear G;go_wp2_with fail;go_ret;exact⟨rfl,aa.o⟩
def Pm(d:Dk)(lg:Lg)(l:List A0)(id:Nat)(input:ByteArray):Ui:=match Y3 l id input with
 |.inl j=>Ek d lg l j
 |.inr e=>⟨d,lg,l,e⟩
def Pn(d:Dk)(lg:Lg)(l:List A0)(id:Nat)(phase e:Int):Ui:=match Y4 l id phase e with
 |.inl j=>Ek d lg l j
 |.inr e=>⟨d,lg,l,e⟩
theorem pP{id:Nat}{j:A0}(h:Lj l id=some j):Pj l id=j/\Pl l id=true/\j∈l/\j.id=id:=by
 unfold Pj Pl;rw[h];unfold Lj at h;exact⟨rfl,rfl,List.mem_of_find?_eq_some h,by simpa using List.find?_some h⟩
theorem pQ{id:Nat}(h:Lj l id=none):Pj l id=Nc/\Pl l id=false:=by
 unfold Pj Pl;rw[h];exact⟨rfl,rfl⟩
theorem Agh{s t:ByteArray}(h:s≠t):(s.toList==t.toList)=false:=by
 rw[beq_eq_false_iff_ne];exact fun e=>h (tB e)
theorem Agi(w:World)(base b bm L V:Nat)(v:Value)(d:Dk)(lg:Lg)(l:List A0)(id:Nat)(a:ByteArray)(s:Ff w base b bm L V v d lg l)(y:Au d)(A:id<18446744073709551616)(z:a.size≤1000000000)(G:Dp w)
  (x:lg.name.size<=1000)(N:lg.many<=100000)(M:l.length<=100000):
  Calls Tryz.prog 23 #[.pointer (some ⟨V,0,none⟩),.int .u64 id,.string a] w fun e w'=>e=.returned (.int .i64 (Pm d lg l id a).e)/\Oe base b bm L V (Pm d lg l id a) w w':=by
 have c:=X (pL w base V L id v l s.drv s.own (by omega));have J:=X s;have i:=X (fun W (k:Fp [] w W)=>pO W base b bm L V v d lg l ⟨id,1,0,a⟩ (s.calm k) y ⟨A,(show(-9223372036854775808:Int)<=1 by decide),(show(1:Int)<=9223372036854775807 by decide),(show(-9223372036854775808:Int)<=0 by decide),(show(0:Int)<=9223372036854775807 by decide),z⟩ (G.fp k) x N M);clear s G
 cases k:Lj l id with
 |none=>
  obtain⟨p,n⟩:=pQ k;rw[p,n] at c;unfold Nc H8 F5 at c;simp only at c
  have m:Hid (Pm d lg l id a=Ek d lg l ⟨id,1,0,a⟩):=by unfold Hid Pm Y3;rw[k]
  rw[m.o];obtain⟨r,I⟩:=Aa (Ek d lg l ⟨id,1,0,a⟩);rw[I] at i ⊢;unfold H8 F5 at i;simp only at i;clear k p n I m;go_in;go_wp2_with fail;refine c.o.mono ?_;rintro e C ⟨rfl,g⟩;have h:=X (g.alloc' (.cells #[.int .u64 0,.int .i64 0,.int .i64 0,.string ⟨#[]⟩] 42));clear g;go_wp2_with fail;refine(i.o _ h.o).mono ?_;rintro e w2 ⟨rfl,q⟩;have B:=X (q.ahead h.o);clear q;go_wp2_with fail;go_ret;exact⟨rfl,B.o⟩
 |some j=>
  obtain⟨p,n,-,-⟩:=pP k;rw[p,n] at c;obtain⟨F,E,D,t⟩:=j;unfold H8 F5 at c;simp only at c;by_cases u:t=a
  .subst u
   have m:Hid (Pm d lg l id t=⟨d,lg,l,0⟩):=(by unfold Hid Pm Y3;rw[k];simp)
   rw[m.o];clear k p n m i;go_in;go_wp2_with fail;refine c.o.mono ?_;rintro e C ⟨rfl,g⟩;have h:=X (g.alloc' (.cells #[.int .u64 F,.int .i64 E,.int .i64 D,.string t] 42));clear g;go_wp2_with fail;go_ret;exact⟨rfl,⟨v,J.o.calm h.o⟩,(Tf.of h.o).mono (by simp)⟩
  .have K:=Agh u
   have m:Hid (Pm d lg l id a=⟨d,lg,l,191⟩):=(by unfold Hid Pm Y3;rw[k];simp[u])
   rw[m.o];clear k p n m i u;go_in;go_wp2_with fail;refine c.o.mono ?_;rintro e C ⟨rfl,g⟩;have h:=X (g.alloc' (.cells #[.int .u64 F,.int .i64 E,.int .i64 D,.string t] 42));clear g;go_wp2_with fail;go_ret;exact⟨rfl,⟨v,J.o.calm h.o⟩,(Tf.of h.o).mono (by simp)⟩
theorem Agj(w:World)(base b bm L V:Nat)(v:Value)(d:Dk)(lg:Lg)(l:List A0)(id:Nat)(phase x:Int)(z:Ff w base b bm L V v d lg l)(D:Au d)(E:∀j∈l,Ph j)
  (N: -9223372036854775808<=phase)(M:phase<=9223372036854775807)(T: -9223372036854775808<=x)(S:x<=9223372036854775807)(Q:Dp w)
  (C:lg.name.size<=1000)(hm:lg.many<=100000)(hn:l.length<=100000):
  Calls Tryz.prog 24 #[.pointer (some ⟨V,0,none⟩),.int .u64 id,.int .i64 phase,.int .i64 x] w fun e w'=>e=.returned (.int .i64 (Pn d lg l id phase x).e)/\Oe base b bm L V (Pn d lg l id phase x) w w':=by
 have a:=X (pL w base V L id v l z.drv z.own (by omega));have HD:=X z;have m:=X (fun j (hj:Ph j) W (k:Fp [] w W)=>pO W base b bm L V v d lg l j (z.calm k) D hj (Q.fp k) C hm hn);clear z Q
 cases k:Lj l id with
 |none=>
  obtain⟨q,p⟩:=pQ k;rw[q,p] at a;unfold Nc H8 F5 at a;simp only at a
  have n:Hid (Pn d lg l id phase x=⟨d,lg,l,3⟩):=by unfold Hid Pn Y4;rw[k]
  rw[n.o];clear k q p n m;go_in;go_wp2_with fail;refine a.o.mono ?_;rintro e K ⟨rfl,c⟩;have g:=X (c.alloc' (.cells #[.int .u64 0,.int .i64 0,.int .i64 0,.string ⟨#[]⟩] 42));clear c;go_wp2_with fail;go_ret;exact⟨rfl,⟨v,HD.o.calm g.o⟩,(Tf.of g.o).mono (by simp)⟩
 |some j=>
  obtain⟨q,p,y,-⟩:=pP k;have F:=E j y;rw[q,p] at a;obtain⟨t,jp,jx,s⟩:=j;obtain⟨B,P,O,o4,o5,A⟩:=F;simp only at B P O A;unfold H8 F5 at a;simp only at a;by_cases h:4<=jp∨phase<1∨5<phase
  .have n:Hid (Pn d lg l id phase x=⟨d,lg,l,5⟩):=(by unfold Hid Pn Y4;rw[k];simp only[h,if_true])
   rw[n.o]
   have G:4<=jp∨(¬4<=jp/\phase<1)∨(¬4<=jp/\¬phase<1/\5<phase):=(by omega)
   clear k q p n m h;rcases G with I|⟨I,U⟩|⟨I,U,c3⟩
   all_goals
    go_in;go_wp2_with fail;refine a.o.mono ?_;rintro e K ⟨rfl,c⟩;have g:=X (c.alloc' (.cells #[.int .u64 t,.int .i64 jp,.int .i64 jx,.string s] 42));clear c;go_wp2_with fail;go_ret;exact⟨rfl,⟨v,HD.o.calm g.o⟩,(Tf.of g.o).mono (by simp)⟩
  .have n:Hid (Pn d lg l id phase x=Ek d lg l ⟨t,phase,x,s⟩):=(by unfold Hid Pn Y4;rw[k];simp only[h,if_false])
   rw[n.o];have i:=X (m.o ⟨t,phase,x,s⟩ ⟨B,N,M,T,S,A⟩);obtain⟨r,R⟩:=Aa (Ek d lg l ⟨t,phase,x,s⟩);rw[R] at i ⊢;unfold H8 F5 at i;simp only at i
   have I:¬4<=jp:=(by omega)
   have U:¬phase<1:=(by omega)
   have c3:¬5<phase:=(by omega)
   clear k q p n m h R B P O A N M T S;go_in;go_wp2_with fail;refine a.o.mono ?_;rintro e K ⟨rfl,c⟩;have g:=X (c.alloc' (.cells #[.int .u64 t,.int .i64 phase,.int .i64 x,.string s] 42));clear c;go_wp2_with fail;refine(i.o _ g.o).mono ?_;rintro e w2 ⟨rfl,u⟩;have J:=X (u.ahead g.o);clear u;go_wp2_with fail;go_ret;exact⟨rfl,J.o⟩
end
section
open Go.RowKit Go.Lib Go.Maps Go.MapKept Go.ChangeMaps
def Iz:ByteArray:=⟨#[74,79,66,83]⟩
def Agk(w:World)(b bm:Nat)(d2:Dk)(n:Nat)(l:List A0)(e:Ending)(w':World):Prop:=
 ∃L V v,e=.returned (.tuple #[.pointer (some ⟨V,0,none⟩),.int .i64 0])/\Ff w' w.heap.size b bm L V v d2 ⟨⟨#[74,79,66,83]⟩,n,false⟩ l/\w.heap.size<=L/\w.heap.size<=V/\Fp [b,bm] w w'
theorem pR(w:World)(b bm:Nat)(d d2:Dk)(texts:List ByteArray)(hd:Am w b bm d)(T:Au d)(ht:Dp w)(al:(d.read Iz).1.size≤100000000)
  (ho:d.wOpen Iz=(d2,0,texts))(D:∀t∈texts,(Hq t).2=0/\t.size<=1000000000)(hn:texts.length<=90000):
  Calls Tryz.prog 22 #[.pointer (some ⟨b,0,none⟩)] w fun e w'=>Agk w b bm d2 texts.length (Ej texts) e w':=by
 have HC:=X (Af7 w b bm d Iz hd T (by decide) ht al);rw[ho] at HC;have aw:=Ae hd.cells;have av:=hd.files.lt;have ah:=X D;clear hd T ht ho D;rw[show Iz=⟨#[74,79,66,83]⟩ from rfl] at HC;go_in;go_wp2_with fail;refine HC.o.mono ?_;rintro e m ⟨I,G,h2⟩;have h2:∃L v,e=.returned (.tuple #[.pointer (some ⟨L,0,none⟩),v,.int .i64 0])/\w.heap.size<=L/\Df m L b ⟨⟨#[74,79,66,83]⟩,texts.length,false⟩/\Ce m w.heap.size v texts:=by
  rcases h2 with⟨P,_⟩|⟨_,P⟩
  .exact absurd rfl P
  .exact P
 obtain⟨L,v,rfl,hL,ab,aa⟩:=h2;simp only at I;have ak:∃a cap,v=.slice a texts.length cap/\(texts=[]∨∃g c,a=some ⟨g,0,none⟩/\m.heap[g]?=some (.cells c 9 (0,0))/\∀i (B:i<texts.length),c[i]?=some (.string texts[i])):=by
  rcases aa.2 with⟨rfl,h0⟩|⟨g,cap,c,rfl,_,C,_,_,_,s⟩
  .exact⟨none,0,by rw[h0],Or.inl (List.eq_nil_of_length_eq_zero h0)⟩
  .refine⟨_,_,rfl,Or.inr ⟨g,c,rfl,C,fun i B=>?_⟩⟩;have P:=congrArg (fun l=>l[i]?) s;simp only[Nat.mul_one,List.getElem?_take,B,if_true,Array.getElem?_toList,List.getElem?_map,List.getElem?_eq_getElem B,Option.map_some] at P;exact P
 obtain⟨a,cap,rfl,n⟩:=ak;have aj:w.heap.size<=m.heap.size:=G.size
 have af:Ff (m.alloc (.cells #[.pointer (some ⟨L,0,none⟩),.slice none 0 0] 123)) w.heap.size b bm L m.heap.size (.slice none 0 0) d2 ⟨⟨#[74,79,66,83]⟩,texts.length,false⟩ []:=
  ⟨I.of_fp (Fp.alloc _ _) (by simp) (by simp),ab.fp (Fp.alloc _ _),Ai rfl _,Ag.nil _ _,by simp;omega⟩
 have A:texts=[]∨∃g c,a=some ⟨g,0,none⟩/\g≠m.heap.size/\(m.alloc (.cells #[.pointer (some ⟨L,0,none⟩),.slice none 0 0] 123)).heap[g]?=some (.cells c 9 (0,0))/\∀i (B:i<texts.length),c[i]?=some (.string texts[i]):=by
  rcases n with h|⟨g,c,e,C,hc⟩
  .exact Or.inl h
  .exact Or.inr ⟨g,c,e,by have:=Ae C;omega,Dy C,hc⟩
 have ad:Fp [b,bm] w (m.alloc (.cells #[.pointer (some ⟨L,0,none⟩),.slice none 0 0] 123)):=G.alloc' _;obtain⟨V,hV⟩:=Aa m.heap.size
 have Q:w.heap.size<=V:=by omega
 have O:=X af;have p:=X A;have ag:=X ad;have HL:=X hL;clear I G ab aa n af A ad hL;go_wp2_with fail;rw[hV] at O p
 try rw[hV]
 obtain⟨w2,E⟩:=Aa (m.alloc (.cells #[.pointer (some ⟨L,0,none⟩),.slice none 0 0] 123));rw[E] at O p ag
 try rw[E]
 clear E hV aj
 go_loopg [26] texts.length (fun g vi W=>∃(k:Nat) (v:Value),g+k=texts.length/\vi=.int .i64 k/\Ff W w.heap.size b bm L V v d2 ⟨⟨#[74,79,66,83]⟩,texts.length,false⟩ (Ej (texts.take k))/\Fp [b,bm] w W/\
  (texts=[]∨∃g c,a=some ⟨g,0,none⟩/\g≠V/\W.heap[g]?=some (.cells c 9 (0,0))/\∀i (B:i<texts.length),c[i]?=some (.string texts[i])))
 case atStart=>exact⟨0,_,by omega,rfl,O.o,ag.o,p.o⟩
 case round=>
  obtain⟨k,v,hg,rfl,hD,hf,n⟩:=hrel;have HD:=X hD;have HF:=X hf;clear hD hf;by_cases hk:k<texts.length
  .have zk:(k:Int)<(texts.length:Int):=(by omega)
   obtain⟨g,c,rfl,ac,C,hc⟩:∃g c,a=some ⟨g,0,none⟩/\g≠V/\wr.heap[g]?=some (.cells c 9 (0,0))/\∀i (B:i<texts.length),c[i]?=some (.string texts[i]):=by
    rcases n with h|h
    .rw[h] at hk;exact absurd hk (a2w _)
    .exact h
   have K:wr.cell? ⟨g,k,none⟩=some (.string texts[k]):=(Ab C k).trans (hc k hk);obtain⟨J,F⟩:=ah.o texts[k] (List.getElem_mem hk)
   have y:Ej (texts.take (k+1))=Hr (Ej (texts.take k)) (Hq texts[k]).1:=(by rw[a0x hk,pC])
   have am:(Ej (texts.take k)).length<=100000:=by
    have h1:=Afa (texts.take k);rw[List.length_take] at h1;omega
   obtain⟨t,S⟩:=Aa (texts[k]);rw[S] at K J F y;have z:=X (fun w=>Afg w t F)
   obtain⟨⟨j,x⟩,hj⟩:∃r,Hq t=r:=⟨_,rfl⟩
   rw[hj] at z J y;obtain rfl:x=0:=J;have HH:=X C;have au:=X hc;have an:=X y;have q:=X (fun W v l (h1:Ff W w.heap.size b bm L V v d2 ⟨⟨#[74,79,66,83]⟩,texts.length,false⟩ l) (h2:l.length<=100000)=>pM W w.heap.size V L v l j h1.drv h1.own h1.base h2);obtain⟨ji,jp,jx,jn⟩:=j;unfold H8 F5 at z q;simp only at z q;clear C hc y S hj F n;go_wp2_with fail;refine(z.o _).mono ?_;rintro e w3 ⟨rfl,ae⟩;have N:=X (ae.alloc' (.cells #[.int .u64 ji,.int .i64 jp,.int .i64 jx,.string jn] 42));clear ae;have ai:=X (HD.o.calm N.o);go_wp2_with fail;refine(q.o _ _ _ ai.o am).mono ?_;rintro e w4 ⟨rfl,⟨v4,R,U⟩,u⟩;have aq:=X (ai.o.putted u R U);have ap:Hid (Fp [b,bm] w w4):=X (u.onto (HF.o.trans N.o) (a1x _) (by intro i B;right;rw[List.mem_singleton.1 B];exact Q));have ao:=X (u.cells ((N.o.block _ (Ae HH.o) (by simp)).trans HH.o) (by simpa using ac) (by decide));clear R U u;go_wp2_with fail
   go_roundg (gk-1)
   case measure=>omega
   case rel=>exact⟨k+1,v4,by omega,by go_num,by rw[an.o];exact aq.o,ap.o,Or.inr ⟨g,c,rfl,ac,ao.o,au.o⟩⟩
  .have zk:¬(k:Int)<(texts.length:Int):=(by omega)
   have s:texts.take k=texts:=(by rw[a2u (by omega)])
   have M:=HD.o;rw[s] at M;have ar:=X M;clear s M;go_wp2_with fail;go_ret2;exact⟨L,V,v,rfl,ar.o,HL.o,Q,HF.o⟩
end
end Go.Proofs.YtkagolpnaicdoaaGreatDoor
