/- Lemmas. -/
import Derived.Test.YtkagolpnaicdoaaGreatDoorQMrgD
import Derived.WalkSmall
set_option maxRecDepth 100000
set_option maxHeartbeats 8000000
open Go.Lib renaming hid->Y
open List renaming getElem?_cons_zero->Z,setIfInBounds_toArray->a0z,mem_cons_self->a0x,length_cons->a0w,getElem?_toArray->a0v,not_mem_nil->a1z,set_cons_succ->a1x,set_cons_zero->a1w,getElem?_eq_getElem->a1v,eq_nil_of_length_eq_zero->a1u,mem_cons_of_mem->a2z,cons_append->a2x,map_cons->a2w,nil_append->a2v,reverse_cons->a2u,reverse_nil->a3x,sum_append->a3w,nodup_cons->a3v,getElem_mem->a3u,take_append_drop->a4z,mem_of_getElem?->a4x
open Nat renaming le_refl->a0u
open Go.IntKind renaming wrap_i64->a3z
namespace Go.Proofs.YtkagolpnaicdoaaGreatDoor
section
open Go.RowKit Go.Lib
def I7(t:ByteArray):Bool:=t.size==0||t.data.toList.head?==some 35
def Gn(i:Nat)(acc:List Ac):List ByteArray→List Ac × Nat × Nat
 |[]=>(acc,0,0)
 |t::r=>if I7 t=true then Gn (i+1) acc r else match Dc t with
  |none=>([],i+1,70)
  |some c=>Gn (i+1) (acc++[c]) r
def C0(s:ByteArray):List Ac × Nat × Nat:=if s.size>4000 then([],0,71) else Gn 0 [] (Dh 10 s)
theorem Aan(s:ByteArray):(Hk s).size<=s.size:=by
 unfold Hk;show(Lib.trimPrefix s.data.toList [61]).toArray.size<=_;rw[size_eq];simp only[List.size_toArray];unfold Lib.trimPrefix
 split<;>simp
theorem Aao{s:ByteArray}{u:Nat}(h:Fq s=some u):u<18446744073709551616:=by
 unfold Fq at h;split at h
 .rename_i b a;have:=parseUintB_le a;split at h
  .obtain rfl:=Option.some.inj h;omega
  .cases h
 .cases h
theorem X8{s:ByteArray}(j:s.size≤100000000){c:Ac}(h:Dc s=some c):Di c:=by
 unfold Dc at h;split at h
 .rename_i a b n d g;have p:=O2 (c:=32) (s:=s) (x:=a) (by rw[g];simp);have m:=O2 (c:=32) (s:=s) (x:=b) (by rw[g];simp);have l:=O2 (c:=32) (s:=s) (x:=d) (by rw[g];simp);have k:=Aan d;unfold Io at h;split at h
  .obtain⟨u,i,rfl⟩:=Option.map_eq_some_iff.1 h;refine⟨Aao i,by show 0<_;decide,?_,?_,?_⟩
   .show a.size<=_;omega
   .show b.size<=_;omega
   .show ByteArray.size (if Ha d=true then⟨#[]⟩ else Hk d)<=_;split
    .exact Nat.zero_le _
    .omega
  .cases h
 .cases h
theorem Qe{i:Nat}{a:List Ac}{t:ByteArray}{r:List ByteArray}(h:I7 t=true):Gn i a (t::r)=Gn (i+1) a r:=by
 conv=>lhs;unfold Gn
 rw[if_pos h]
theorem Vj{i:Nat}{a:List Ac}{t:ByteArray}{r:List ByteArray}(h:I7 t=false)(b:Dc t=none):Gn i a (t::r)=([],i+1,70):=by
 conv=>lhs;unfold Gn
 rw[if_neg (by simp[h]),b]
theorem Vk{i:Nat}{a:List Ac}{t:ByteArray}{r:List ByteArray}{c:Ac}(h:I7 t=false)(b:Dc t=some c):Gn i a (t::r)=Gn (i+1) (a++[c]) r:=by
 conv=>lhs;unfold Gn
 rw[if_neg (by simp[h]),b]
theorem cD{t:ByteArray}(h:t.size=0):I7 t=true:=by unfold I7;rw[h];rfl
theorem Aap{t:ByteArray}(h:0<t.size):t.data.toList.head?=some t[0]:=by
 rw[List.head?_eq_getElem?];exact Lib.data_getElem? t 0 h
theorem Aaq{t:ByteArray}(h:0<t.size):I7 t=(t[0]==35):=by
 unfold I7;rw[Aap h,(beq_eq_false_iff_ne.2 (by omega):(t.size==0)=false),Bool.false_or];rfl
theorem cE{t:ByteArray}(h:0<t.size):I7 t=((t[0].toNat:Int)==35):=by
 rw[Aaq h,Bool.eq_iff_iff,beq_iff_eq,beq_iff_eq];constructor
 .intro e;rw[e];rfl
 .intro e;exact UInt8.toNat_inj.1 (by have:(t[0].toNat:Int)=35:=e;show t[0].toNat=35;omega)
def mN(w w':World)(e:Ending)(r:List Ac × Nat × Nat):Prop:=∃v,e=.returned (.tuple #[v,.int .i64 r.2.1,.int .i64 r.2.2])/\Ap w' w.heap.size v r.1
theorem Aar(s:ByteArray)(w:World)(hs:s.size≤100000000)(hp:Kw w):
  Calls Tryz.prog 47 #[.string s] w fun e w'=>mN w w' e (C0 s)/\Fp [] w w':=by
 have HP:=Y hp;have hS:=Y (fun w=>lU 10 s w hs);clear hp;by_cases h4:s.size>4000
 .have G:Hid (C0 s=([],0,71)):=if_pos h4;go_in;go_wp2_with fail;rw[G.o];refine bodyPost_ret (v:=.tuple #[.slice none 0 0,.int .i64 0,.int .i64 71]) (by simp[results,Tryz.results47,go_sem, *]) rfl ⟨⟨_,rfl,Ap.nil _ _⟩,?_⟩;exact Fp.refl _ _
 .have G:Hid (C0 s=Gn 0 [] (Dh 10 s)):=if_neg h4
  have ae:¬((s.size:Nat):Int)>4000:=by omega
  have F:=Y (fun x=>O2 (c:=10) (s:=s) (x:=x));obtain⟨P,U⟩:=Aa (Dh 10 s)
  have ad:P.length<=100000001:=by rw[<-U];have:=X2 10 s;omega
  rw[U] at hS G F;go_in;go_wp2_with fail;refine(hS.o _ HP.o.mx).mono ?_;rintro e J ⟨B,rfl,hB,j,b⟩;have m:=Y b;have V:=Y j
  have I:Hid (Kw J):=⟨HP.o.mx.fp b a1z,HP.o.er.fp b a1z a1z⟩
  clear b j hB U;go_wp2_with fail
  go_loopg [2,15] P.length (fun g va vi wr=>∃k:Nat,g+k=P.length/\vi=.int .i64 k/\Fp [] J wr/\∃a:List Ac,Ap wr J.heap.size va a/\a.length<=k/\Gn 0 [] P=Gn k a (P.drop k))
  case atStart=>exact⟨0,rfl,rfl,Fp.refl _ _,[],Ap.nil _ _,Nat.zero_le _,rfl⟩
  case round=>
   obtain⟨k,hg,rfl,b,a,ho,ac,u⟩:=hrel;have n:=Y b;have L:=Y ho;have i:=Y u;have W:=Y (V.o.fp b a1z);clear b ho u;by_cases R:k<P.length
   .obtain⟨t,K⟩:=Aa (P[k]);have q:=W.o.at k R;rw[K] at q
    have p:Hid (P.drop k=t::P.drop (k+1)):=(by unfold Hid;rw[<-K];exact List.drop_eq_getElem_cons R)
    have r:t.size<=100000000:=by have:=F.o t (by rw[<-K];exact a3u R);omega
    clear K;by_cases h0:t.size=0
    .have S:=Ve h0;have d:Hid (I7 t=true):=cD h0;go_wp2_with fail
     go_roundg (gk-1)
     case measure=>omega
     case rel=>exact⟨k+1,by omega,by simp,n.o,a,L.o,by omega,by rw[i.o,p.o,Qe d.o]⟩
    .have S:=Nw (s:=t) (by omega)
     have N:0<t.size:=(by omega)
     obtain⟨sk,O⟩:=Aa (((t[0].toNat:Int)==35));have d:Hid (I7 t=sk):=(cE N).trans O;cases sk
     .go_wp2_with fail;refine(zK t _ r (Kw.mk (I.o.mx.fp n.o a1z) (I.o.er.fp n.o a1z a1z))).mono ?_;rintro e w2 ⟨rfl,b⟩;have l:=Y (n.o.trans b);have aa:=Y (L.o.fp b);clear b
      cases hl:Dc t with
      |none=>
       have M:=Y hl;clear hl;rw[show A7 ((Option.none:Option Ac).getD Aq)=.agg #[.string ⟨#[]⟩,.string ⟨#[]⟩,.int .u64 0,.int .u64 0,.bool false,.string ⟨#[]⟩] from rfl,show(Option.none:Option Ac).isSome=false from rfl];go_wp2_with fail;rw[G.o,i.o,p.o,Vj d.o M.o];refine bodyPost_ret (v:=.tuple #[.slice none 0 0,.int .i64 ((k:Nat)+1:Nat),.int .i64 70]) (by simp[results,Tryz.results47,go_sem, *]) rfl ⟨⟨_,rfl,Ap.nil _ _⟩,?_⟩;exact m.o.trans (l.o.alloc' _)
      |some c=>
       have M:=Y hl;clear hl;have ab:=Y (X8 r M.o);obtain⟨A,E,z,C,D,y⟩:=c;rw[show A7 ((Option.some (⟨A,E,z,C,D,y⟩:Ac)).getD Aq)=.agg #[.string A,.string E,.int .u64 z,.int .u64 C,.bool D,.string y] from rfl,show(Option.some (⟨A,E,z,C,D,y⟩:Ac)).isSome=true from rfl];go_wp2_with (at_builtin;(refine Ua rfl _ _ rfl J.heap.size _ a rfl ((aa.o.fp (Fp.alloc _ _)).fp (Fp.alloc _ _)) _ _ _ [⟨A,E,z,C,D,y⟩] rfl (C3.one (Ai (by simp) _) ab.o) (fun h=>by cases h) (by simp;omega) (by have:=l.o.size;simp;omega) ?_);intro v3 w3 Q T)
       go_roundg (gk-1)
       case measure=>omega
       case rel=>exact⟨k+1,by omega,by simp,((l.o.alloc' _).alloc' _).belowTrans T,a++[⟨A,E,z,C,D,y⟩],Q,by simp;omega,by rw[i.o,p.o,Vk d.o M.o]⟩
     .go_wp2_with fail
      go_roundg (gk-1)
      case measure=>omega
      case rel=>exact⟨k+1,by omega,by simp,n.o,a,L.o,by omega,by rw[i.o,p.o,Qe d.o]⟩
   .have p:Hid (P.drop k=[]):=List.drop_eq_nil_of_le (by omega);go_wp2_with fail;rw[G.o,i.o,p.o];refine bodyPost_ret (v:=.tuple #[_,.int .i64 0,.int .i64 0]) (by simp[results,Tryz.results47,go_sem, *]) rfl ⟨⟨_,rfl,L.o.mono m.o.size⟩,?_⟩;exact m.o.trans n.o
end
section
open Go.Lib
theorem toList_inj{a b:ByteArray}(h:a.toList=b.toList):a=b:=by
 rw[ByteArray.toList_eq,ByteArray.toList_eq] at h;obtain⟨⟨a⟩⟩:=a;obtain⟨⟨b⟩⟩:=b
 simpa using h
end
section
open Go.RowKit Go.Lib
theorem Aas(s:ByteArray)(h:∀j (b:j<s.size),I6 s[j]=true):s.data.toList.all I6=true:=by
 rw[List.all_eq_true];intro x c;obtain⟨j,b,rfl⟩:=List.getElem_of_mem c
 have a:j<s.size:=by rw[size_eq];exact b
 have e:=Lu a;rw[a1v b] at e;rw[Option.some.inj e];exact h j a
theorem mO(s:ByteArray)(k:Nat)(a:k<s.size)(h:I6 s[k]=false):Fo s=false:=by
 unfold Fo;rw[Bool.and_eq_false_iff];right;rw[List.all_eq_false];exact⟨s[k],a4x (Lu a),by simp[h]⟩
theorem Aat{b:UInt8}(h:b.toNat<=32):I6 b=false:=by unfold I6 Hw;simp[h]
theorem Aau{b:UInt8}(h:127<=b.toNat):I6 b=false:=by unfold I6 Hw;simp;omega
theorem Aav{b:UInt8}(c:¬b.toNat<=32)(a:¬127<=b.toNat):I6 b=true:=by unfold I6 Hw;simp;omega
theorem cF(s:ByteArray)(w:World)(u:s.size≤100000000):
  Calls Tryz.prog 161 #[.string s] w fun e w'=>e=.returned (.bool (Fo s))/\Fp [] w w':=by
 go_in;go_wp2_with fail
 go_loopg [3] s.size (fun g r wr=>∃k:Nat,g+k=s.size/\r=.int .i64 k/\Fp [] w wr/\∀j (d:j<s.size),j<k->I6 s[j]=true)
 case atStart=>exact⟨0,by simp,rfl,Fp.refl _ _,by intro j _ h;omega⟩
 case round=>
  obtain⟨k,v,rfl,m,a⟩:=hrel;have i:=Y m;have b:=Y a;clear m a;by_cases l:k<s.size
  .by_cases p:s[k].toNat≤32
   .have c:=Y (mO s k l (Aat p))
    have z1:(s[k].toNat:Int)<=32:=(by omega)
    go_wp2_with fail;go_ret;rw[c.o];exact⟨rfl,i.o⟩
   .have z1:¬(s[k].toNat:Int)≤32:=(by omega)
    by_cases n:127<=s[k].toNat
    .have c:=Y (mO s k l (Aau n))
     have q:(s[k].toNat:Int)≥127:=(by omega)
     go_wp2_with fail;go_ret;rw[c.o];exact⟨rfl,i.o⟩
    .have q:¬(s[k].toNat:Int)≥127:=(by omega)
     have c:Hid (∀j (d:j<s.size),j<k+1->I6 s[j]=true):=fun j d t=>by
      by_cases e:j=k
      .subst e;exact Aav p n
      .exact b.o j d (by omega)
     go_wp2_with fail
     go_roundg (gk-1)
     case measure=>omega
     case rel=>exact⟨k+1,by omega,by simp,i.o,c.o⟩
  .have c:Hid (Fo s=decide (s.size≠0)):=by
    unfold Hid Fo;rw[Aas s (fun j d=>b.o j d (by omega)),Bool.and_true]
   go_wp2_with fail;go_ret;rw[c.o];exact⟨G9 (decide_eq_decide.2 (by omega)),i.o⟩
def O4(b:UInt8):Bool:=decide (48<=b.toNat/\b.toNat<=57)
def Vl(acc:Nat)(l:List UInt8):Nat:=l.foldl (fun a b=>a*10+(b.toNat-48)) acc
theorem mP:∀(l:List UInt8) (a j:Nat),a<10^j→j+l.length≤18→(∀b∈l,O4 b=true)→parseUintM (2^64-1) a l=.ok (Vl a l)
 |[],_,_,_,_,_=>rfl
 |c::r,a,j,ha,hj,h=>by
  have i:48<=c.toNat/\c.toNat<=57:=of_decide_eq_true (h c (by simp));rw[a0w] at hj;have n:10^(j+1)<=10^18:=Nat.pow_le_pow_right (by decide) (by omega);have d:10^(j+1)=10^j*10:=Nat.pow_succ ..
  have m:(10:Nat)^18=1000000000000000000:=by decide
  have g:a*10+(c.toNat-48)<10^(j+1):=by omega
  unfold parseUintM;rw[if_pos i,if_neg (by omega),if_neg (by omega)];exact mP r _ (j+1) g (by omega) (fun b k=>h b (by simp[k]))
theorem mQ(M:Nat):∀(l:List UInt8) (d:Nat),(∃b∈l,O4 b=false)→∀n,parseUintM M d l≠.ok n
 |[],_,h,_=>by obtain⟨b,a,_⟩:=h;simp at a
 |c::r,d,h,n=>by
  unfold parseUintM;by_cases g:48<=c.toNat/\c.toNat<=57
  .rw[if_pos g];split
   .intro e;cases e
   .split
    .intro e;cases e
    .refine mQ M r _ ?_ n;obtain⟨b,a,i⟩:=h;rcases List.mem_cons.1 a with rfl|a
     .exact absurd g (of_decide_eq_false i)
     .exact⟨b,a,i⟩
  .rw[if_neg g];intro e;cases e
theorem mR(s:ByteArray)(k:Nat)(b:k<s.size)(h:O4 s[k]=false):Fq s=none:=by
 have d:=mQ (2^64-1) s.data.toList 0 ⟨_,a4x (Lu b),h⟩;unfold Fq parseUintB
 have a:s.data.toList≠[]:=fun e=>by have:=Lu b;rw[e] at this;simp at this
 rw[if_neg a];split
 .rename_i u c;exact absurd c (d u)
 .rfl
theorem Aaw(s:ByteArray)(h:¬s.size<=18):Fq s=none:=by
 unfold Fq;split
 .rw[if_neg h]
 .rfl
theorem Aax(s:ByteArray)(h:s.size=0):Fq s=none:=by
 have:s.data.toList=[]:=by rw[size_eq] at h;exact a1u h
 unfold Fq parseUintB;rw[this];rfl
theorem Aay(s:ByteArray)(l:s.size≠0)(h:s.size≤18)(k:∀j (g:j<s.size),O4 s[j]=true):Fq s=some (Vl 0 s.data.toList):=by
 have d:s.data.toList≠[]:=fun e=>l (by rw[size_eq,e];rfl);have c:∀b∈s.data.toList,O4 b=true:=by
  intro x i;obtain⟨j,g,rfl⟩:=List.getElem_of_mem i
  have a:j<s.size:=by rw[size_eq];exact g
  have e:=Lu a;rw[a1v g] at e;rw[Option.some.inj e];exact k j a
 unfold Fq parseUintB;rw[if_neg d,mP s.data.toList 0 0 (by decide) (by rw[<-size_eq];omega) c];exact if_pos h
def Q7(s:ByteArray)(k:Nat):Nat:=Vl 0 (s.data.toList.take k)
theorem mS(s:ByteArray)(k:Nat)(b:k<s.size):Q7 s (k+1)=Q7 s k*10+(s[k].toNat-48):=by
 have a:k<s.data.toList.length:=by rw[<-size_eq];exact b
 have e:=Lu b;rw[a1v a] at e;unfold Q7 Vl;rw[List.take_succ_eq_append_getElem a,List.foldl_append,Option.some.inj e];rfl
theorem mT(s:ByteArray):∀(k:Nat),k≤s.size→(∀j (a:j<s.size),j<k→O4 s[j]=true)→Q7 s k<10^k
 |0,_,_=>by unfold Q7;rw[List.take_zero];decide
 |k+1,hk,hd=>by
  have c:=mT s k (by omega) (fun j a b=>hd j a (by omega));have d:48<=s[k].toNat/\s[k].toNat<=57:=of_decide_eq_true (hd k hk (by omega));rw[mS s k hk,Nat.pow_succ];omega
theorem Aaz(s:ByteArray)(w:World)(F:s.size≤100000000):
  Calls Tryz.prog 162 #[.string s] w fun e w'=>(∃u:Nat,e=.returned (.tuple #[.int .u64 u,.bool (Fq s).isSome])/\(Fq s=none∨Fq s=some u))/\Fp [] w w':=by
 go_in;go_wp2_with fail
 go_loopg [4,5] s.size (fun g A B wr=>∃k u:Nat,g+k=s.size/\B=.int .i64 k/\A=.int .u64 u/\Fp [] w wr/\(∀j (m:j<s.size),j<k->O4 s[j]=true)/\(s.size<=18->u=Q7 s k)/\u<1000000000000000000)
 case atStart=>exact⟨0,0,by simp,rfl,rfl,Fp.refl _ _,(by intro j _ h;omega),(fun _=>rfl),by decide⟩
 case round=>
  obtain⟨k,u,J,rfl,rfl,v,c,t,p⟩:=hrel;have i:=Y v;have d:=Y c;have r:=Y t;clear v c t;by_cases q:k<s.size
  .by_cases n:s[k].toNat<48
   .have a:=Y (mR s k q (decide_eq_false (by omega)))
    have z1:(s[k].toNat:Int)<48:=(by omega)
    go_wp2_with fail;go_ret2;refine⟨⟨0,?_,Or.inl a.o⟩,i.o⟩;rw[a.o];rfl
   .have z1:¬(s[k].toNat:Int)<48:=(by omega)
    by_cases K:57<s[k].toNat
    .have a:=Y (mR s k q (decide_eq_false (by omega)))
     have z:(s[k].toNat:Int)>57:=(by omega)
     go_wp2_with fail;go_ret2;refine⟨⟨0,?_,Or.inl a.o⟩,i.o⟩;rw[a.o];rfl
    .have z:¬(s[k].toNat:Int)>57:=(by omega)
     have D:O4 s[k]=true:=decide_eq_true (by omega);have a:Hid (∀j (m:j<s.size),j<k+1->O4 s[j]=true):=fun j m C=>by
      by_cases e:j=k
      .subst e;exact D
      .exact d.o j m (by omega)
     by_cases b:s.size<=18
     .have I:=mT s (k+1) (by omega) a.o;have G:10^(k+1)≤10^18:=Nat.pow_le_pow_right (by decide) (by omega);have y:=Y (mS s k q);have l:u*10+(s[k].toNat-48)<1000000000000000000:=by
       have:=r.o b;have:=y.o
       have:(10:Nat)^18=1000000000000000000:=(by decide)
       omega
      go_wp2_with fail
      go_roundg (gk-1)
      case measure=>omega
      case rel=>exact⟨k+1,u*10+(s[k].toNat-48),by omega,by simp,congrArg (Value.int .u64) (by omega),i.o,a.o,(fun h=>by rw[y.o,<-r.o h]),l⟩
     .go_wp2_with fail
      go_roundg (gk-1)
      case measure=>omega
      case rel=>exact⟨k+1,u,by omega,by simp,rfl,i.o,a.o,(fun h=>absurd h b),p⟩
  .by_cases x:s.size=0
   .have a:=Y (Aax s x);go_wp2_with fail;go_ret2;refine⟨⟨u,?_,Or.inl a.o⟩,i.o⟩;rw[a.o];rfl
   .by_cases b:s.size≤18
    .have a:=Y (Aay s x b (fun j m=>d.o j m (by omega)));have E:Hid (u=Vl 0 s.data.toList):=by
      have n:=r.o b;unfold Q7 at n;rw[List.take_of_length_le (by rw[<-size_eq];omega)] at n;exact n
     go_wp2_with fail;go_ret2;refine⟨⟨u,?_,Or.inr (by rw[a.o,E.o])⟩,i.o⟩;rw[a.o];simp;omega
    .have a:=Y (Aaw s b);go_wp2_with fail;go_ret2;refine⟨⟨u,?_,Or.inl a.o⟩,i.o⟩;rw[a.o];simp;omega
end
section
open Go.RowKit Go.Lib
def Tj(e:Int):List PanicEntry:=[{v:=.iface 30 (.int .i64 e),recovered:=false}]
theorem mU(w:World):Calls Tryz.prog 48 #[.int .i64 0] w fun e w'=>(∃v,e=.returned v)/\w'=w:=by
 go_in;go_wp2_with fail;go_end0;exact⟨⟨_,rfl⟩,rfl⟩
theorem mV(w:World)(x:Int)(a:¬x=0):Calls Tryz.prog 48 #[.int .i64 x] w fun e w'=>e=.panicked (Tj x)/\w'=w:=by
 have b:(x !=0)=true:=by simpa using a
 go_in;go_wp2_with fail;exact⟨rfl,rfl,rfl⟩
attribute [local go_sem] wpOpsS recoverD
theorem Aa0(p:Addr)(w:World):CallsD Tryz.prog 83 #[.pointer (some p)] .returning w fun e b w'=>(∃v,e=.returned v)/\b=.returning/\w'=w:=by
 refine callsD_of_wpS Tryz.func83 rfl fun c d a=>?_;apply wpS_seq;apply wpS_region;simp[wpOpsS,go_sem,recoverD,a,Tryz.ntmps83,Exit.thenS];refine wpS_of_wp ?_;go_wp2_with fail;cases c;simp only at a;subst a;exact⟨rfl,_,rfl,_,results_none rfl _ _ _,⟨_,rfl⟩,rfl,rfl⟩
theorem Aa1(p:Addr)(x:Int)(w:World)(b:Value)(i:w.cell? p=some b)(h:w.frozen? p=false)(a:List PanicEntry):CallsD Tryz.prog 83 #[.pointer (some p)] (.panicking (Tj x++a)) w fun e d w'=>
  (∃v,e=.returned v)/\d=.panicking ({v:=.iface 30 (.int .i64 x),recovered:=true}::a)/\w'=w.setCell p (.int .i64 x):=by
 refine callsD_of_wpS Tryz.func83 rfl fun j k c=>?_;unfold Tj at c
 have g:∀w,(Instr.typeAssert (.iface 30 (.int .i64 x)) 20 30 true).run Tryz.prog w=.ok (.tuple #[.int .i64 x,.bool true]) w:=fun _=>by kernel_rfl
 apply wpS_seq;apply wpS_region;simp[wpOpsS,go_sem,recoverD,c,Tryz.ntmps83,Exit.thenS];refine wpS_of_wp ?_;go_wp2_with fail;exact⟨rfl,_,rfl,_,results_none rfl _ _ _,⟨_,rfl⟩,rfl,rfl⟩
theorem mW(w:World)(F:Nat)(cap:Array Value)(p:∀args w,(callFunc F args).run Tryz.prog w=.ok (.enter F args) w)(Post:World→Prop)(PostE:Int→World→Prop)
  (b:∀W,Fp [] w W->w.heap.size+1<=W.heap.size->W.heap[w.heap.size]?=some (.cells #[.int .i64 0] 30 (0,0))->Calls Tryz.prog F cap W fun e W'=>W'.heap[w.heap.size]?=some (.cells #[.int .i64 0] 30 (0,0))/\(((∃v,e=.returned v)/\Post W')∨∃x,¬x=0/\e=.panicked (Tj x)/\PostE x W'))
  (q:∀A B,Post A->Fp [w.heap.size] A B->Post B)(h:∀x A B,PostE x A->Fp [w.heap.size] A B->PostE x B):
  Calls Tryz.prog 45 #[.func (.func F) #[] cap] w fun e w'=>(e=.returned (.int .i64 0)/\Post w')∨∃x,¬x=0/\e=.returned (.int .i64 x)/\PostE x w':=by
 have n:∀(k:Fn) (first cap:Array Value) (w:World),(Instr.makeFunc k first cap).run Tryz.prog w=.ok (.func k first cap) w:=fun _ _ _ _=>rfl;have j:=Y b;clear b
 go_enter_defers Tryz.func45,Tryz.ntmps45
 go_wp2_with fail;refine(j.o _ (Fp.alloc _ _) (by simp) (Ai rfl _)).mono ?_;rintro e d ⟨a,(⟨⟨v,rfl⟩,hp⟩|⟨x,hx,rfl,hp⟩)⟩
 .have q0:d.cell? ⟨w.heap.size,0,none⟩=some (.int .i64 0):=Ab a 0;have r:d.frozen? ⟨w.heap.size,0,none⟩=false:=Av a 0;have c:=Y a;have i:=Y hp;clear a hp;go_wp2_with fail;refine leaves_cons (f:=83) (args:=#[.pointer (some ⟨w.heap.size,0,none⟩)]) (by simp) (by simp[go_sem]) ?_;refine(Aa0 ⟨w.heap.size,0,none⟩ _).mono ?_;rintro e m g ⟨⟨l,rfl⟩,rfl,rfl⟩;have q1:(d.setCell ⟨w.heap.size,0,none⟩ (.int .i64 0)).cell? ⟨w.heap.size,0,none⟩=some (.int .i64 0):=Ab ((Cf c.o _).trans rfl) 0;exact⟨.int .i64 0,by simp[results,Tryz.results45,go_sem,q1],Or.inl ⟨rfl,q _ _ i.o (Fp.setCell _ ⟨w.heap.size,0,none⟩ _)⟩⟩
 .have c:=Y a;have i:=Y hp;clear a hp;go_wp2_with fail;refine leaves_cons (f:=83) (args:=#[.pointer (some ⟨w.heap.size,0,none⟩)]) (by simp) (by simp[go_sem]) ?_;refine(Aa1 ⟨w.heap.size,0,none⟩ x _ (.int .i64 0) (Ab c.o 0) (Av c.o 0) []).mono ?_;rintro e m g ⟨⟨l,rfl⟩,rfl,rfl⟩;have q1:(d.setCell ⟨w.heap.size,0,none⟩ (.int .i64 x)).cell? ⟨w.heap.size,0,none⟩=some (.int .i64 x):=Ab ((Cf c.o _).trans rfl) 0;exact⟨.int .i64 x,by simp[results,Tryz.results45,go_sem,q1],Or.inr ⟨x,hx,rfl,h x _ _ i.o (Fp.setCell _ ⟨w.heap.size,0,none⟩ _)⟩⟩
end
section
open Go.RowKit Go.Lib
def Gv:List Fb->Nat
 |[]=>0
 |x::l=>x.2.length+Gv l
theorem O5{l m:List Fb}(h:l.Perm m):Gv l=Gv m:=by
 induction h with
 |nil=>rfl
 |cons x _ ih=>simp only[Gv,ih]
 |swap x y l=>simp only[Gv];omega
 |trans _ _ h1 h2=>exact h1.trans h2
structure Tm(all:List Ad)(es:List Fb)(done out:List Ad):Prop where
 ris:∀x∈es,Dv x.2
 mrg:L1 done out
 ok:Be done
 le:∀y∈done,∀x∈es,Aw y (Gi x)
 mem:∀z,z∈all↔z∈done∨∃x∈es,z∈x.2
theorem Tm.none{all done out:List Ad}(h:Tm all [] done out):Bf all out:=
 h.mrg.res.perm fun z=>by rw[h.mem z];simp
theorem Tm.step{all done u out' r:List Ad}{es g d:List Fb}{s:Ko}{y:Ad}(h:Tm all es done u)(w:((s,y::r)::g).Perm es)(k:∀x∈es,Be x.2)(n:∀x∈es,Aw y (Gi x))
  (G:L1 (done++[y]) out')(I:(r=[]/\d=g)∨(r≠[]/\d.Perm ((s,r)::g))):Tm all d (done++[y]) out':=by
 have i:(s,y::r)∈es:=w.mem_iff.1 a0x;have q:∀x∈g,x∈es:=fun x i=>w.mem_iff.1 (a2z _ i);have t:B9 y:=k _ i y a0x;have m:=h.ris _ i;have F:Dv r:=(List.pairwise_cons.1 m).2;have c:∀x,x∈d↔x∈g∨(r≠[]/\x=(s,r)):=fun x=>by
  rcases I with⟨C,B⟩|⟨C,B⟩
  .rw[B];simp[C]
  .rw[B.mem_iff];simp[C,or_comm]
 have A:∀z,(∃x∈es,z∈x.2)↔z=y∨∃x∈d,z∈x.2:=fun z=>by
  constructor
  .rintro⟨x,i,a⟩;rcases List.mem_cons.1 (w.mem_iff.2 i) with e|e
   .subst e;rcases List.mem_cons.1 a with e|e
    .exact Or.inl e
    .exact Or.inr ⟨(s,r),(c _).2 (Or.inr ⟨List.ne_nil_of_mem e,rfl⟩),e⟩
   .exact Or.inr ⟨x,(c _).2 (Or.inl e),a⟩
  .rintro(e|⟨x,b,a⟩)
   .exact⟨_,i,by rw[e];exact a0x⟩
   .rcases(c _).1 b with e|⟨_,e⟩
    .exact⟨x,q x e,a⟩
    .subst e;exact⟨_,i,a2z _ a⟩
 refine⟨fun x b=>?_,G,fun z a=>?_,fun z a x b=>?_,fun z=>?_⟩
 .rcases(c _).1 b with e|⟨_,e⟩
  .exact h.ris x (q x e)
  .subst e;exact F
 .rcases List.mem_append.1 a with a|a
  .exact h.ok z a
  .rw[List.mem_singleton.1 a];exact t
 .have l:Aw y (Gi x):=by
   rcases(c _).1 b with e|⟨D,e⟩
   .exact n x (q x e)
   .subst e;obtain⟨j,r0,rfl⟩:∃j r0,r=j::r0:=by
     cases r with
     |nil=>exact absurd rfl D
     |cons j r0=>exact⟨j,r0,rfl⟩
    exact m.first t j (by simp)
  rcases List.mem_append.1 a with a|a
  .have v:Aw z y:=h.le z a _ i;have E:B9 (Gi x):=by
    rcases(c _).1 b with e|⟨D,e⟩
    .have p:=k x (q x e);unfold Gi
     cases hx3:x.2 with
     |nil=>exact aH
     |cons j r0=>rw[hx3] at p;exact p j a0x
    .subst e;have p:=k _ i;unfold Gi
     cases r with
     |nil=>exact aH
     |cons j r0=>exact p j (by simp)
   exact Aw.trans (h.ok z a) t E v l
  .rw[List.mem_singleton.1 a];exact l
 .rw[h.mem z,A z,List.mem_append,List.mem_singleton,or_assoc]
theorem Aa2(w:World)(x y:Value):(Instr.typeAssert (.iface 331 (.agg #[x,y])) 20 331 false).run Tryz.prog w=.ok (.agg #[x,y]) w:=by kernel_rfl
structure I8(wB:World)(xq:Nat)(nv:Value)(b:Nat->Bool)(w:World):Prop where
 pre:b 10=false->Fp [] wB w
 post:b 10=true->Fp [xq] wB w/\w.heap[xq]?=some (.cells #[nv] 329 (0,0))
 o1:b 10=true->b 7=true
 o2:b 7=true->b 6=true
theorem I8.any{c w:World}{a:Nat}{d:Value}{b:Nat->Bool}(h:I8 c a d b w):Fp [a] c w:=by
 cases e:b 10 with
 |false=>exact(h.pre e).mono (by simp)
 |true=>exact(h.post e).1
theorem I8.plain{d w:World}{c k:Nat}{g:Value}{b:Nat→Bool}(h:I8 d c g b w)(a:k≠10∧(k=7→b 6=true)):I8 d c g (Ak b k) w:=by
 refine⟨fun e=>?_,fun e=>?_,fun e=>?_,fun e=>?_⟩
 .rw[Ah a.1.symm] at e;exact h.pre e
 .rw[Ah a.1.symm] at e;exact h.post e
 .rw[Ah a.1.symm] at e;exact J5 (h.o1 e)
 .by_cases i:k=7
  .exact J5 (a.2 i)
  .rw[Ah (Ne.symm i)] at e;exact J5 (h.o2 e)
theorem I8.store{d w:World}{a:Nat}{c g:Value}{b:Nat->Bool}(h:I8 d a c b w)(l:b 10=false)(k:b 7=true)(j:d.heap[a]?=some (.cells #[g] 329 (0,0))):I8 d a c (Ak b 10) (w.setCell ⟨a,0,none⟩ c):=by
 have i:=h.pre l;have m:w.heap[a]?=some (.cells #[g] 329 (0,0)):=(i.block _ (Ae j) (by simp)).trans j;refine⟨fun e=>?_,fun _=>⟨(i.mono (by simp)).trans (Fp.setCell w ⟨a,0,none⟩ c),(Cf m _).trans rfl⟩,fun _=>?_,fun e=>?_⟩
 .rw[Eg] at e;cases e
 .exact J5 k
 .exact J5 (h.o2 k)
structure mX(W0:World)(B:Nat)(all:List Ad)(v:Value)(g:Nat)(W:World):Prop where
 ex:∃es done out,g=Gv es/\Ea W W0.heap.size B es/\Hm (C5 es) es.length/\Ag A8 W W0.heap.size v out/\Tm all es done out/\out.length<=done.length/\done.length+Gv es<=1000000/\es.length<=1000000
 fp:Fp [] W0 W
structure Aa3(W0:World)(B:Nat)(rs:List (List Ad))(k:Nat)(W:World):Prop where
 ex:∃es,Ea W W0.heap.size B es/\Hm (C5 es) es.length/\(∀x∈es,x.2∈rs)/\(∀i (h:i<rs.length),i<k->rs[i]≠[]->∃x∈es,x.2=rs[i])/\es.length<=k/\Gv es=((rs.take k).map (·.length)).sum
 fp:Fp [] W0 W
theorem Aa4(u:World)(a:Option Addr)(n cap:Nat)(rs:List (List Ad))(h:Eu u a n rs)(hr:∀r∈rs,Dv r∧Be r∧r.length≤1000000)(hn:n≤900000)(bv:(rs.map (·.length)).sum≤1000000):
  Calls Tryz.prog 222 #[.slice a n cap] u fun e W'=>∃v l,e=.returned v/\Bf rs.flatten l/\Ag A8 W' u.heap.size v l/\Fp [] u W':=by
 have e5:=Y (lI u a n cap rs h hr (by omega));have HR:=Y h;have d8:=Y hr;have ec:=Y h.len;have e4:=Y bv;clear h hr bv;go_in;go_wp2_with fail;refine e5.o.mono ?_;rintro e w1 ⟨rfl,ds⟩;have bq:=Y ds;clear ds;have d0:Ea ((w1.alloc (.cells #[] 331)).alloc (.cells #[.slice (some ⟨w1.heap.size,0,none⟩) 0 0] 325)) u.heap.size (w1.heap.size+1) []:=by
  refine⟨⟨_,Ai (by simp) _,?_⟩,(fun x F=>by cases F),(fun x F=>by cases F),?_,List.nodup_nil⟩
  .exact Ag.fp (S:=[]) (Ag.made (R:=Is) w1 _ bq.o.size) (Fp.alloc _ _) (by simp)
  .have:=bq.o.size;omega
 have br:=Y d0;have dz:Fp [] u ((w1.alloc (.cells #[] 331)).alloc (.cells #[.slice (some ⟨w1.heap.size,0,none⟩) 0 0] 325)):=(bq.o.alloc' _).alloc' _;have ef:=Y dz;obtain⟨W2,dy⟩:=Aa ((w1.alloc (.cells #[] 331)).alloc (.cells #[.slice (some ⟨w1.heap.size,0,none⟩) 0 0] 325));rw[dy] at br ef;obtain⟨B,hB⟩:=Aa (w1.heap.size+1);rw[hB] at br
 have fs:u.heap.size<B:=by have:=bq.o.size;omega
 clear d0 dz;go_wp2_with fail;clear dy hB
 go_loopg [16] n (fun gg vi wr=>∃k:Nat,vi=.int .i64 k/\gg+k=n/\Aa3 u B rs k wr)
 case atStart=>exact⟨0,rfl,by omega,⟨[],br.o,(fun i m h2=>by cases h2),(fun x F=>by cases F),(fun i _ h=>by omega),a0u _,by simp[Gv]⟩,ef.o⟩
 case round=>
  obtain⟨k,rfl,hg,dp⟩:=hrel;have af:=Y dp;clear dp;by_cases G:k<n
  .have zk:(k:Int)<(n:Int):=(by omega)
   have n1:IntKind.i64.wrap ((k:Int)+1)=((k+1:Nat):Int):=(by rw[a3z];omega)
   have a7:k<rs.length:=by have:=ec.o;omega
   obtain⟨b,o,v,e,hc⟩:=HR.o.get a7;subst e;obtain⟨q,hv⟩:=hc wr af.o.fp;obtain⟨-,c4⟩:=hc u (Fp.refl _ _);obtain⟨av,nv,cv,rfl,dh,cf,hq⟩:=hv;have dg:nv=rs[k].length:=hq.len;have cs:=Y dg;have HQ:=Y hq;have e3:=Y c4;have dv:nv<=cv:=dh;clear hc dg hq c4 dh cf;by_cases h0:0<nv
   .have z0:(nv:Int)>0:=(by omega)
    obtain⟨es,V,ho,ag,am,hl,ht⟩:=af.o.ex;obtain⟨a2,n2,c2,e2,fh,-,be⟩:=e3.o;cases e2;have ak:∃J N,av=some ⟨J,N,none⟩/\J<u.heap.size:=by
     rcases be.cells with m|⟨J,N,m,h2,_⟩
     .have:=be.len;rw[m] at this;simp at this;omega
     .exact⟨J,N,m,h2⟩
    obtain⟨J,N,rfl,an⟩:=ak;have eo:u.heap.size<=wr.heap.size:=af.o.fp.size;have ab:wr.heap.size∉es.map (·.1.q):=by
     intro hm;obtain⟨x,F,e⟩:=List.mem_map.1 hm;obtain⟨_,_,_,_,m,_⟩:=(V.qs x F).1.ex;have:=Ae m;omega
    have da:Jt (wr.alloc (.cells #[.slice (some ⟨J,N,none⟩) nv cv] 329)) u.heap.size wr.heap.size rs[k]:=
     ⟨eo,J,N,nv,cv,Ai rfl _,dv,an,HQ.o.fp (Fp.alloc _ _)⟩
    have ah:=Y (lD (wr.alloc (.cells #[.slice (some ⟨J,N,none⟩) nv cv] 329)) u.heap.size B es (⟨wr.heap.size,k⟩,rs[k]) (V.fp (Fp.alloc _ _)) ho da (by have:=cs.o;show 0<rs[k].length;omega) (d8.o _ (a3u a7)).2.1 ab (by simp;omega) (by omega));unfold S5 at ah;simp only at ah;have fb:=Y ag;have fa:=Y am;have HL:=Y hl;have HT:=Y ht;clear V ho ag am hl ht be da ab;go_wp2_with fail;refine ah.o.mono ?_;rintro e w3 ⟨rfl,ey,hp,dc,dj,c6⟩;have cd:=hp.length_eq;have bi:=Y hp;have e1:=Y dc;have e0:=Y dj;have ez:=Y (c6.onto (af.o.fp.alloc' _) (a0u _) (by intro i hi;right;simp at hi;omega));clear hp dc dj c6;go_wp2_with fail
    go_roundg (gk-1)
    case measure=>omega
    case rel=>
     refine⟨k+1,by simp,by omega,⟨ey,e0.o,e1.o,fun x F=>?_,fun i hi eu bf=>?_,?_,?_⟩,ez.o⟩
     .rcases List.mem_cons.1 (bi.o.mem_iff.1 F) with e|e
      .rw[e];exact a3u a7
      .exact fb.o x e
     .by_cases e:i=k
      .subst e;exact⟨_,bi.o.mem_iff.2 a0x,rfl⟩
      .obtain⟨x,F,e2⟩:=fa.o i hi (by omega) bf;exact⟨x,bi.o.mem_iff.2 (a2z _ F),e2⟩
     .rw[cd,a0w];have:=HL.o;omega
     .rw[O5 bi.o,Gv,HT.o,List.take_add_one,a1v a7];simp only[Option.toList,List.map_append,a2w,List.map_nil,a3w,List.sum_cons,List.sum_nil];omega
   .have z0:¬(nv:Int)>0:=(by omega)
    go_wp2_with fail
    go_roundg (gk-1)
    case measure=>omega
    case rel=>
     obtain⟨es,V,ho,ag,am,hl,ht⟩:=af.o.ex;refine⟨k+1,by simp,by omega,⟨es,V,ho,ag,fun i hi eu bf=>?_,by omega,?_⟩,af.o.fp⟩
     .by_cases e:i=k
      .subst e;exfalso;have:=cs.o;exact bf (a1u (by omega))
      .exact am i hi (by omega) bf
     .rw[ht,List.take_add_one,a1v a7];have:=cs.o;simp only[Option.toList,List.map_append,a2w,List.map_nil,a3w,List.sum_cons,List.sum_nil];omega
  .have zk:¬(k:Int)<(n:Int):=(by omega)
   have t:∃es,mX u B rs.flatten (.slice none 0 0) (Gv es) wr:=by
    obtain⟨es,V,ho,ag,am,hl,ht⟩:=af.o.ex
    have et:k=rs.length:=by have:=ec.o;omega
    rw[et,List.take_length] at ht;refine⟨es,⟨es,[],[],rfl,V,ho,Ag.nil _ _,⟨fun x F=>(d8.o _ (ag x F)).1,L1.nil,(fun x F=>by cases F),(fun y hy=>by cases hy),fun z=>?_⟩,a0u _,by have:=e4.o;simp;omega,by omega⟩,af.o.fp⟩;rw[List.mem_flatten];constructor
    .rintro⟨r,hr,hz⟩;obtain⟨i,hi,e⟩:=List.mem_iff_getElem.1 hr;obtain⟨x,F,e2⟩:=am i hi (by omega) (by rw[e];exact List.ne_nil_of_mem hz);exact Or.inr ⟨x,F,by rw[e2,e];exact hz⟩
    .rintro(h|⟨x,F,hz⟩)
     .cases h
     .exact⟨_,ag x F,hz⟩
   obtain⟨ew,t⟩:=t;have d7:=Y t;clear t;go_wp2_with fail
   go_loopg [2] (Gv ew) (fun gg v wr=>mX u B rs.flatten v gg wr)
   case atStart=>exact d7.o
   case round=>
    obtain⟨es,done,l,dn,V,ho,az,dm,fk,fi,dt⟩:=hrel.ex;have cx:=Y hrel.fp;have HH:=Y V;have HO:=Y ho;have bn:=Y az;have ae:=Y dm;have au:=Y dn;obtain⟨ao,co,e,fl,fo⟩:=az.len;subst e;obtain⟨vb,aw,bt⟩:=V.box;obtain⟨sb,cb,rfl,-,-⟩:=bt.len;rw[List.length_map] at aw;have q0:wr.cell? ⟨B,0,none⟩=some (.slice sb es.length cb):=Ab aw 0;have bc:=Y (dB wr sb es.length cb);clear aw bt hrel V ho az dm dn;by_cases he:es.length=0
    .have ze:¬(es.length:Int)>0:=(by omega)
     have HE:Hid (es=[]):=a1u he;clear he;go_wp2_with fail;refine bc.o.mono ?_;rintro e w4 ⟨rfl,rfl⟩;go_wp2_with fail;go_ret;have hg:=ae.o;rw[HE.o] at hg;exact⟨_,l,rfl,hg.none,bn.o,cx.o⟩
    .have ze:(es.length:Int)>0:=(by omega)
     have b7:=Y (yM wr u.heap.size B es HH.o HO.o (by omega) dt);clear he;go_wp2_with fail;refine bc.o.mono ?_;rintro e w4 ⟨rfl,rfl⟩;go_wp2_with fail;refine b7.o.mono ?_;rintro e wp ⟨⟨⟨M,xa⟩,xr⟩,es1,rfl,ce,df,dl,c8,bx,c7⟩;have F:(⟨⟨M,xa⟩,xr⟩:Fb)∈es:=ce.mem_iff.1 a0x;obtain⟨r,hr⟩:=Ud (HH.o.qs _ F).2;obtain⟨y,hy⟩:=Aa (xr.headD Jk);simp only at hr;rw[hy] at hr;clear hy;subst hr;have A:=Y ce;have cr:=Y df;have fd:=Y dl;have d9:=Y c8;have ba:Hid (∀x∈es,Aw y (Gi x)):=bx;have cm:=Y c7;clear ce df dl c8 bx c7 F q0;have en:=Aa2 wp (.pointer (some ⟨M,0,none⟩)) (.int .i64 xa);obtain⟨⟨Q,U,P,ys,T,O⟩,yp⟩:=y;have ee:Hid (∀W',Fp [] wp W'→Calls Tryz.prog 273 #[.pointer (some ⟨M,0,none⟩)] W' fun e W''=>e=.returned (.agg #[.string Q,.string U,.int .u64 P,.int .u64 ys,.bool T,.string O,.int .i64 yp])∧Fp [] W' W''):=fun W' hf=>dA W' u.heap.size M _ r (d9.o.fp hf);have q1:(wp.alloc (.cells #[.pointer (some ⟨M,0,none⟩),.int .i64 xa] 331)).cell? ⟨wp.heap.size,0,none⟩=some (.pointer (some ⟨M,0,none⟩)):=Ab (Ai rfl _) 0;unfold S5;simp only;go_wp2_with fail;refine(ee.o _ (Fp.alloc _ _)).mono ?_;rintro e w5 ⟨rfl,cj⟩;have hS:w5.heap[wp.heap.size]?=some (.cells #[.pointer (some ⟨M,0,none⟩),.int .i64 xa] 331 (0,0)):=(cj.block _ (by simp) (by simp)).trans (Ai rfl _);have HS:=Y hS;have c0:Hid (Fp [] wp w5):=(Fp.alloc _ _).trans cj;obtain⟨S,cl⟩:=Aa wp.heap.size;have ft:=Y cl;have ea:Hid (Ag A8 w5 u.heap.size (.slice ao l.length co) l):=(bn.o.tf cm.o (by decide) (fun k G hm=>by
      obtain rfl:=List.mem_singleton.1 hm;obtain⟨v1,m,_⟩:=HH.o.box;rcases bn.o.2 with⟨e,_⟩|⟨g,ad,a9,e,_,V,_⟩
      .rw[e] at G;cases G
      .rw[e] at G
       obtain rfl:g=k:=by simpa [Value.ownBlock] using G
       rw[V] at m
       cases m)).fp c0.o
     rw[cl] at HS ⊢;clear cj en q1 hS cl
     go_upto_region 14 with(fail)
     obtain⟨w6,bd⟩:=Aa (w5.alloc (.cells #[.string Q,.string U,.int .u64 P,.int .u64 ys,.bool T,.string O,.int .i64 yp] 221))
     have hX:w6.heap[w5.heap.size]?=some (.cells #[.string Q,.string U,.int .u64 P,.int .u64 ys,.bool T,.string O,.int .i64 yp] 221 (0,0)):=(by rw[<-bd];exact Ai rfl _)
     have ci:Fp [] w5 w6:=(by rw[<-bd];exact Fp.alloc _ _)
     rw[bd];obtain⟨X,dx⟩:=Aa w5.heap.size;rw[dx] at hX ⊢;have HX:=Y hX;have cz:=Y ci;have bo:=Y (ea.o.fp ci);have d6:Hid (∀w',Fp [] w6 w'->w'.cell? ⟨X,0,none⟩=some (.string Q)/\w'.cell? ⟨X,1,none⟩=some (.string U)/\w'.cell? ⟨X,2,none⟩=some (.int .u64 P)/\w'.cell? ⟨X,3,none⟩=some (.int .u64 ys)/\w'.cell? ⟨X,4,none⟩=some (.bool T)/\w'.cell? ⟨X,5,none⟩=some (.string O)/\w'.cell? ⟨X,6,none⟩=some (.int .i64 yp)):=fun w' hf=>by
      have m:=(hf.block _ (Ae hX) (by simp)).trans hX;exact⟨Ab m 0,Ab m 1,Ab m 2,Ab m 3,Ab m 4,Ab m 5,Ab m 6⟩
     clear bd hX ci dx
     go_cut [61] from 34 to 87 (fun v wx=>∃bb:Bool,v=.bool bb/\(bb=true->l.length=0∨Bc (Af l (l.length-1)) ⟨⟨Q,U,P,ys,T,O⟩,yp⟩=false)/\(bb=false->0<l.length/\Bc (Af l (l.length-1)) ⟨⟨Q,U,P,ys,T,O⟩,yp⟩=true)/\Fp [] w6 wx)
     case first=>
      by_cases hz:l.length=0
      .have ej:((l.length:Int)==0)=true:=(by rw[hz];rfl)
       have HZ:=Y hz;clear hz;go_wp2_with fail;refine Bo (by kernel_rfl) (by kernel_rfl) ?_
       iterate 14
        first
        |apply Jq _ _ rfl rfl rfl rfl (by kernel_rfl) rfl rfl
        |apply A1 rfl rfl rfl
         .intro a w j d K E;have:=d.f 8;(try have:=d.e 0 48);(try have:=d.e 1 49);(try have:=d.e 2 50);(try have:=d.e 12 60);simp only[Oper.wp,execOp];go_simp;exact E _ j (Fp.refl _ _)
       refine Bn ?_
       iterate 14 refine Bm ?_
       refine Bl fun w' j=>?_
       .simp only[Aj,Act.put,a0z,a1x,a1w];have HC:=Y j;clear j;go_wp2_with fail
        go_meet
        case rel=>exact⟨true,rfl,fun _=>Or.inl HZ.o,(fun h=>by cases h),HC.o⟩
      .have ej:((l.length:Int)==0)=false:=(by simpa using hz)
       have n2:IntKind.i64.wrap ((l.length:Int)-1)=((l.length-1:Nat):Int):=(by rw[a3z];omega)
       obtain⟨p,hp⟩:=Aa (l.length-1);rw[hp] at n2
       have zp:(p:Int)<(l.length:Int):=(by omega)
       have cd:p<l.length:=(by omega)
       obtain⟨g,ad,a9,e,-⟩:=bo.o.open (by omega);cases e;have eb:Hid (∀w',Fp [] w6 w'->Ie w' g (p*7) (Af l p)):=fun w' hf=>Gx (bo.o.fp hf) cd;have bh:=fun w=>gU (Af l p).c ⟨Q,U,P,ys,T,O⟩ w;obtain⟨x,F⟩:=Aa (Af l p);obtain⟨bs,ck⟩:=Aa (Bc x ⟨⟨Q,U,P,ys,T,O⟩,yp⟩);have bz:I2 x.c ⟨Q,U,P,ys,T,O⟩=bs:=ck;rw[F] at eb bh;rw[bz] at bh
       have eg:Hid (Bc (Af l (l.length-1)) ⟨⟨Q,U,P,ys,T,O⟩,yp⟩=bs):=(by rw[hp,F];exact ck)
       obtain⟨⟨lr,lc,lt,ls,ld,lv⟩,lp⟩:=x;have fg:Hid (∀w,Calls Tryz.prog 265 #[.agg #[.string lr,.string lc,.int .u64 lt,.int .u64 ls,.bool ld,.string lv],.agg #[.string Q,.string U,.int .u64 P,.int .u64 ys,.bool T,.string O]] w fun e w'=>e=.returned (.bool bs)/\Fp [] w w'):=bh;clear hz hp bh F ck bz;go_wp2_with fail;refine Bo (by kernel_rfl) (by kernel_rfl) ?_
       iterate 14
        first|apply A1 rfl rfl rfl|apply Gw _ _ rfl rfl rfl rfl (by kernel_rfl) rfl rfl
        .intro a w j d K E;have:=d.f 8;have:=d.f 2;have:=d.f 7;(try have:=d.e 0 48);(try have:=d.e 1 49);(try have:=d.e 4 52);(try have:=d.e 3 51);(try have:=d.e 5 53);(try have:=d.e 6 54);(try have:=d.e 7 55);(try have:=d.e 9 57);(try have:=d.e 8 56);(try have:=d.e 10 58);(try have:=d.e 11 59);(try have:=d.e 2 50);(try have:=d.e 12 60);obtain⟨a0,a1,a2,a3,a4,a5,a6⟩:=eb.o _ j;obtain⟨b0,b1,J,b3,b4,b5,b6⟩:=d6.o _ j;simp only at a0 a1 a2 a3 a4 a5 a6;simp only[Oper.wp,execOp];go_simp
         first
         |exact E _ j (Fp.refl _ _)
         |(with_reducible refine(fg.o _).mono ?_);rintro e w2 ⟨rfl,hf⟩;exact E _ (j.trans hf) hf
       refine Bn ?_
       iterate 14 refine Bm ?_
       refine Bl fun w' j=>?_
       .simp only[Aj,Act.put,a0z,a1x,a1w];have HC:=Y j;clear j;go_wp2_with fail
        go_meet
        case rel=>exact⟨!bs,rfl,fun h=>Or.inr (eg.o.trans (by cases bs<;>simp_all)),fun h=>⟨by omega,eg.o.trans (by cases bs<;>simp_all)⟩,HC.o⟩
     case rest=>
      obtain⟨bb,rfl,dw,an,ch⟩:=hcut;have ei:=Y dw;have eh:=Y an;have bp:=Y ch;have cp:=Y (bo.o.fp ch);clear dw an ch bo ea bn br d7 d6 bc b7 ee;have oy:B9 ⟨⟨Q,U,P,ys,T,O⟩,yp⟩:=HH.o.ok _ (A.o.mem_iff.1 a0x) _ a0x;have ed:Hid (∀z∈done,Aw z ⟨⟨Q,U,P,ys,T,O⟩,yp⟩):=fun z hz=>ae.o.le z hz _ (A.o.mem_iff.1 a0x);have e7:=Y oy;have fq:u.heap.size<=wc.heap.size:=by
       have m:=cx.o.size;have h2:=cm.o.size;have h3:=c0.o.size;have h4:=cz.o.size;have h5:=bp.o.size;omega
      have q2:wc.cell? ⟨X,0,none⟩=some (.string Q)/\wc.cell? ⟨X,1,none⟩=some (.string U)/\wc.cell? ⟨X,2,none⟩=some (.int .u64 P)/\wc.cell? ⟨X,3,none⟩=some (.int .u64 ys)/\wc.cell? ⟨X,4,none⟩=some (.bool T)/\wc.cell? ⟨X,5,none⟩=some (.string O)/\wc.cell? ⟨X,6,none⟩=some (.int .i64 yp):=by
       have m:=(bp.o.block _ (Ae HX.o) (by simp)).trans HX.o;exact⟨Ab m 0,Ab m 1,Ab m 2,Ab m 3,Ab m 4,Ab m 5,Ab m 6⟩
      obtain⟨x0,x1,x2,x3,x4,x5,x6⟩:=q2;obtain⟨wA,em⟩:=Bz wc;subst em;clear oy
      go_upto_if 61 with(fail)
      go_cut [2] from 34 to 87 (fun v wx=>∃C,Ag A8 wx u.heap.size v C/\L1 (done++[⟨⟨Q,U,P,ys,T,O⟩,yp⟩]) C/\C.length<=done.length+1/\Tf u.heap.size [221] [] wA wx)
      case first=>
       cases bb
       .have hb:=(by first|exact eh.o rfl|exact eh.o trivial:0<l.length/\Bc (Af l (l.length-1)) ⟨⟨Q,U,P,ys,T,O⟩,yp⟩=true)
        have HM:=Y (ae.o.mrg.skip ed.o hb.1 hb.2);clear hb;go_wp2_with fail
        go_meet
        case rel=>exact⟨l,cp.o,HM.o,by omega,Tf.refl _⟩
       .have hb:=(by first|exact ei.o rfl|exact ei.o trivial:l.length=0∨Bc (Af l (l.length-1)) ⟨⟨Q,U,P,ys,T,O⟩,yp⟩=false)
        have HM:=Y (ae.o.mrg.take ae.o.ok e7.o ed.o hb);clear hb;go_wp2_with (at_builtin;(refine cU rfl _ _ rfl u.heap.size _ l rfl (cp.o.fp (Fp.alloc _ _)) _ _ _ [⟨⟨Q,U,P,ys,T,O⟩,yp⟩] rfl (Bj.one (Ai rfl _)) (fun h=>by cases h) (by simp;omega) (by simp;omega) ?_);intro v2 w2 de an dq;have cq:=Y de;have fe:=Y dq;clear de an dq)
        go_meet
        case rel=>exact⟨_,cq.o,HM.o,by simp;omega,(Tf.of (Fp.alloc _ _)).trans (Tf.grown (S:=[]) (cp.o.fp (Fp.alloc _ _) (by simp)) fe.o (by simp[A8]))⟩
      case rest=>
       obtain⟨C,dd,di,fn,c5⟩:=hcut;have aq:=Y dd;have ct:=Y di;have bj:=Y c5;clear dd di c5 x0 x1 x2 x3 x4 x5 x6;obtain⟨wB,el⟩:=Bz wc;subst el;have bg:Fp [] wp wA:=(c0.o.trans cz.o).trans bp.o;have ak:Jt wB u.heap.size M (⟨⟨Q,U,P,ys,T,O⟩,yp⟩::r):=(d9.o.fp bg).tf bj.o (a0u _) (by decide) (by simp);have cg:Ea wB u.heap.size B es1:=(fd.o.fp bg).tf bj.o (a0u _) (by decide) (by decide) (by decide) (by simp);have ax:wB.heap[S]?=some (.cells #[.pointer (some ⟨M,0,none⟩),.int .i64 xa] 331 (0,0)):=bj.o.cells (((cz.o.trans bp.o).block _ (Ae HS.o) (by simp)).trans HS.o) (by simp) (by decide)
       have dr:Fp [] u wB:=(bj.o.onto ((cm.o.onto cx.o (a0u _) (by intro i hi;right;simp at hi;omega)).trans bg) (a0u _) (by simp))
       obtain⟨J,N,n2,c2,ay,be,ep,cc⟩:=ak.ex;have al:n2=r.length+1:=cc.len;have ek:M≠S:=by
        intro e;rw[e,ax] at ay;cases ay
       have b9:M≠B:=cg.noB ak;have fu:=Y ax;have cu:=Y cg;have I:=Y ay;have e6:=Y cc;have cy:=Y dr;have L:=Y ak;have s0:∀w',Fp [M] wB w'->w'.cell? ⟨S,0,none⟩=some (.pointer (some ⟨M,0,none⟩))/\w'.cell? ⟨S,1,none⟩=some (.int .i64 xa):=fun w' hf=>by
        have m:=(hf.block _ (Ae ax) (by simpa using Ne.symm ek)).trans ax;exact⟨Ab m 0,Ab m 1⟩
       have aa:=Y s0;have ai:=Ae ay
       have z2:(1:Int)<=(n2:Int):=(by omega)
       have z3:(n2:Int)<=(c2:Int):=(by omega)
       obtain⟨n3,fm⟩:=Aa (n2-1);obtain⟨c3,ev⟩:=Aa (c2-1);clear ax cg ay cc dr ak s0 bg
       by_cases aj:r=[]
       .have bk:=Y aj
        have er:n3=0:=(by rw[aj] at al;simp at al;omega)
        have z4:¬(n3:Int)>0:=(by omega)
        clear aj al er;by_cases du:c2=1
        .subst du
         obtain rfl:c3=0:=by omega
         have z5:(n2:Int)<=1:=(by omega)
         clear ev
         go_upto_region 16 with(fail)
         refine E3 (fun bb w'=>I8 wB M (.slice (some ⟨J,N,none⟩) n3 0) bb w') (fun _ _=>True) (by kernel_rfl) (by kernel_rfl) ⟨fun _=>Fp.drew _,(fun e=>by cases e),(fun e=>by cases e),(fun e=>by cases e)⟩ ?_
         iterate 6
          apply A3 (fun _ _ h=>h.plain ⟨by decide,fun e=>absurd e (by decide)⟩) rfl rfl rfl
          .intro b a w j d K E;have:=d.f 6;(try have:=d.e 0 66);(try have:=d.e 2 68);(try have:=d.e 3 69);(try have:=d.e 4 70);obtain⟨p0,p1⟩:=aa.o _ j.any;simp only[Oper.wp,execOp];go_simp;exact E _ j trivial
         apply Hi (Cc (.slice (some ⟨J,N,none⟩) n2 1)) rfl rfl rfl
         .intro b a w j d K E;have d4:=d.e 5 71;obtain⟨p0,p1⟩:=aa.o _ j.any;have a8:=E6 j.o1 (E6 j.o2 d.self);have p2:=Ab (((j.pre a8).block _ ai (by simp)).trans I.o) 0;simp only[a0v,Z] at p2;have t:I8 wB M (.slice (some ⟨J,N,none⟩) n3 0) (Ak b 6) w:=j.plain ⟨by decide,fun e=>absurd e (by decide)⟩;simp only[Oper.wp,execOp];go_simp;exact E _ _ t trivial rfl
         apply Hi (Cc (.slice (some ⟨J,N,none⟩) n3 0)) rfl rfl rfl
         .intro b a w j d K E;have d3:=d.e 6 72;have t:I8 wB M (.slice (some ⟨J,N,none⟩) n3 0) (Ak b 7) w:=j.plain ⟨by decide,fun _=>d.pre 6 (by kernel_rfl)⟩;simp only[Oper.wp,execOp];go_simp;exact E _ _ t trivial rfl
         iterate 2
          apply A3 (fun _ _ h=>h.plain ⟨by decide,fun e=>absurd e (by decide)⟩) rfl rfl rfl
          .intro b a w j d K E;(try have:=d.e 1 67);(try have:=d.e 8 74);simp only[Oper.wp,execOp];go_simp;exact E _ j trivial
         apply F3 (fun _=>True) rfl rfl
         .intro b a w j d K E;have d1:=d.e 9 75;have d2:=d.e 7 73;have m:=((j.pre d.self).block _ ai (by simp)).trans I.o;have p2:=Ab m 0;have f2:=Av m 0;have t:=j.store d.self (d.pre 7 (by kernel_rfl)) I.o;simp only[Oper.wp,execOp];go_simp;exact E undef _ t trivial trivial
         refine⟨?_,?_⟩
         .refine⟨fun _ _ _ _ _=>trivial,?_⟩
          iterate 10 refine Cb _ ?_
          exact trivial
         .intro w' bb j ac;simp only[a2u,a3x,a2v,a2x]
          iterate 6 (refine A2 ?_)
          refine As ?_;intro v6 u6;obtain rfl:=u6;refine As ?_;intro v7 u7;obtain rfl:=u7
          iterate 2 (refine A2 ?_)
          refine As ?_;intro c1 u10;refine C7 ?_;simp only[Aj,Act.put,a0z,a1x,a1w];have s:=j.post (ac 10 (by simp));have cw:=Y s.1;have cn:=Y s.2;obtain⟨p0,p1⟩:=aa.o _ s.1;have p2:=Ab s.2 0;simp only[a0v,Z] at p2;have ar:Hid (Ea w' u.heap.size B es1):=cu.o.tf (Tf.of (base:=u.heap.size) (D:=[]) s.1) (a0u _) (by simp) (by simp) (by simp) (fun k G=>by
           obtain rfl:=List.mem_singleton.1 G;refine⟨L.o.ge,b9,fun x F e=>?_,fun c fz e=>?_⟩
           .have m:=(A.o.map (·.1.q)).nodup_iff.2 HH.o.nd;rw[a2w,a3v] at m;exact m.1 (List.mem_map.2 ⟨x,F,e.symm⟩)
           .rw[I.o] at e
            cases e)
          have ap:Hid (Ag A8 w' u.heap.size u2 C):=aq.o.tf (Tf.of (base:=u.heap.size) (D:=[]) s.1) (by simp) (fun k G hm=>by
           obtain rfl:=List.mem_singleton.1 hm;rcases aq.o.2 with⟨e,_⟩|⟨g,ad,a9,e,_,V,_⟩
           .rw[e] at G;cases G
           .rw[e] at G
            obtain rfl:g=k:=by simpa [Value.ownBlock] using G
            have:=I.o;rw[V] at this
            cases this)
          have W:Hid (Fp [] u w'):=cy.o.trans s.1 (by intro i hi;right;rw[List.mem_singleton.1 hi];exact L.o.ge);clear j ac s u10;go_wp2_with fail
          go_roundg (Gv es1)
          case measure=>have m:=au.o;have h2:=O5 A.o;simp only[Gv,a0w] at h2;omega
          case rel=>
           have m:=au.o;have h2:=O5 A.o;simp only[Gv,a0w] at h2;exact⟨⟨es1,done++[⟨⟨Q,U,P,ys,T,O⟩,yp⟩],C,rfl,ar.o,cr.o,ap.o,ae.o.step A.o HH.o.ok ba.o ct.o (Or.inl ⟨bk.o,rfl⟩),by simp;omega,by simp;omega,by have:=A.o.length_eq;simp at this;omega⟩,W.o⟩
        .go_upto_region 16 with(fail)
         refine E3 (fun bb w'=>I8 wB M (.slice (some ⟨J,N+7,none⟩) n3 c3) bb w') (fun _ _=>True) (by kernel_rfl) (by kernel_rfl) ⟨fun _=>Fp.drew _,(fun e=>by cases e),(fun e=>by cases e),(fun e=>by cases e)⟩ ?_
         iterate 6
          apply A3 (fun _ _ h=>h.plain ⟨by decide,fun e=>absurd e (by decide)⟩) rfl rfl rfl
          .intro b a w j d K E;have:=d.f 6;(try have:=d.e 0 66);(try have:=d.e 2 68);(try have:=d.e 3 69);(try have:=d.e 4 70);obtain⟨p0,p1⟩:=aa.o _ j.any;simp only[Oper.wp,execOp];go_simp;exact E _ j trivial
         apply Hi (Cc (.slice (some ⟨J,N,none⟩) n2 c2)) rfl rfl rfl
         .intro b a w j d K E;have d4:=d.e 5 71;obtain⟨p0,p1⟩:=aa.o _ j.any;have a8:=E6 j.o1 (E6 j.o2 d.self);have p2:=Ab (((j.pre a8).block _ ai (by simp)).trans I.o) 0;simp only[a0v,Z] at p2;have t:I8 wB M (.slice (some ⟨J,N+7,none⟩) n3 c3) (Ak b 6) w:=j.plain ⟨by decide,fun e=>absurd e (by decide)⟩;simp only[Oper.wp,execOp];go_simp;exact E _ _ t trivial rfl
         apply Hi (Cc (.slice (some ⟨J,N+7,none⟩) n3 c3)) rfl rfl rfl
         .intro b a w j d K E;have d3:=d.e 6 72;have t:I8 wB M (.slice (some ⟨J,N+7,none⟩) n3 c3) (Ak b 7) w:=j.plain ⟨by decide,fun _=>d.pre 6 (by kernel_rfl)⟩;simp only[Oper.wp,execOp];go_simp;exact E _ _ t trivial rfl
         iterate 2
          apply A3 (fun _ _ h=>h.plain ⟨by decide,fun e=>absurd e (by decide)⟩) rfl rfl rfl
          .intro b a w j d K E;(try have:=d.e 1 67);(try have:=d.e 8 74);simp only[Oper.wp,execOp];go_simp;exact E _ j trivial
         apply F3 (fun _=>True) rfl rfl
         .intro b a w j d K E;have d1:=d.e 9 75;have d2:=d.e 7 73;have m:=((j.pre d.self).block _ ai (by simp)).trans I.o;have p2:=Ab m 0;have f2:=Av m 0;have t:=j.store d.self (d.pre 7 (by kernel_rfl)) I.o;simp only[Oper.wp,execOp];go_simp;exact E undef _ t trivial trivial
         refine⟨?_,?_⟩
         .refine⟨fun _ _ _ _ _=>trivial,?_⟩
          iterate 10 refine Cb _ ?_
          exact trivial
         .intro w' bb j ac;simp only[a2u,a3x,a2v,a2x]
          iterate 6 (refine A2 ?_)
          refine As ?_;intro v6 u6;obtain rfl:=u6;refine As ?_;intro v7 u7;obtain rfl:=u7
          iterate 2 (refine A2 ?_)
          refine As ?_;intro c1 u10;refine C7 ?_;simp only[Aj,Act.put,a0z,a1x,a1w];have s:=j.post (ac 10 (by simp));have cw:=Y s.1;have cn:=Y s.2;obtain⟨p0,p1⟩:=aa.o _ s.1;have p2:=Ab s.2 0;simp only[a0v,Z] at p2;have ar:Hid (Ea w' u.heap.size B es1):=cu.o.tf (Tf.of (base:=u.heap.size) (D:=[]) s.1) (a0u _) (by simp) (by simp) (by simp) (fun k G=>by
           obtain rfl:=List.mem_singleton.1 G;refine⟨L.o.ge,b9,fun x F e=>?_,fun c fz e=>?_⟩
           .have m:=(A.o.map (·.1.q)).nodup_iff.2 HH.o.nd;rw[a2w,a3v] at m;exact m.1 (List.mem_map.2 ⟨x,F,e.symm⟩)
           .rw[I.o] at e
            cases e)
          have ap:Hid (Ag A8 w' u.heap.size u2 C):=aq.o.tf (Tf.of (base:=u.heap.size) (D:=[]) s.1) (by simp) (fun k G hm=>by
           obtain rfl:=List.mem_singleton.1 hm;rcases aq.o.2 with⟨e,_⟩|⟨g,ad,a9,e,_,V,_⟩
           .rw[e] at G;cases G
           .rw[e] at G
            obtain rfl:g=k:=by simpa [Value.ownBlock] using G
            have:=I.o;rw[V] at this
            cases this)
          have W:Hid (Fp [] u w'):=cy.o.trans s.1 (by intro i hi;right;rw[List.mem_singleton.1 hi];exact L.o.ge);clear j ac s u10;go_wp2_with fail
          go_roundg (Gv es1)
          case measure=>have m:=au.o;have h2:=O5 A.o;simp only[Gv,a0w] at h2;omega
          case rel=>
           have m:=au.o;have h2:=O5 A.o;simp only[Gv,a0w] at h2;exact⟨⟨es1,done++[⟨⟨Q,U,P,ys,T,O⟩,yp⟩],C,rfl,ar.o,cr.o,ap.o,ae.o.step A.o HH.o.ok ba.o ct.o (Or.inl ⟨bk.o,rfl⟩),by simp;omega,by simp;omega,by have:=A.o.length_eq;simp at this;omega⟩,W.o⟩
       .have bk:=Y aj;have fj:0<r.length:=List.length_pos_iff.2 aj
        have du:¬c2=1:=(by omega)
        have z4:(n3:Int)>0:=(by omega)
        have e9:=Y al;clear aj al
        go_upto_region 16 with(fail)
        refine E3 (fun bb w'=>I8 wB M (.slice (some ⟨J,N+7,none⟩) n3 c3) bb w') (fun _ _=>True) (by kernel_rfl) (by kernel_rfl) ⟨fun _=>Fp.drew _,(fun e=>by cases e),(fun e=>by cases e),(fun e=>by cases e)⟩ ?_
        iterate 6
         apply A3 (fun _ _ h=>h.plain ⟨by decide,fun e=>absurd e (by decide)⟩) rfl rfl rfl
         .intro b a w j d K E;have:=d.f 6;(try have:=d.e 0 66);(try have:=d.e 2 68);(try have:=d.e 3 69);(try have:=d.e 4 70);obtain⟨p0,p1⟩:=aa.o _ j.any;simp only[Oper.wp,execOp];go_simp;exact E _ j trivial
        apply Hi (Cc (.slice (some ⟨J,N,none⟩) n2 c2)) rfl rfl rfl
        .intro b a w j d K E;have d4:=d.e 5 71;obtain⟨p0,p1⟩:=aa.o _ j.any;have a8:=E6 j.o1 (E6 j.o2 d.self);have p2:=Ab (((j.pre a8).block _ ai (by simp)).trans I.o) 0;simp only[a0v,Z] at p2;have t:I8 wB M (.slice (some ⟨J,N+7,none⟩) n3 c3) (Ak b 6) w:=j.plain ⟨by decide,fun e=>absurd e (by decide)⟩;simp only[Oper.wp,execOp];go_simp;exact E _ _ t trivial rfl
        apply Hi (Cc (.slice (some ⟨J,N+7,none⟩) n3 c3)) rfl rfl rfl
        .intro b a w j d K E;have d3:=d.e 6 72;have t:I8 wB M (.slice (some ⟨J,N+7,none⟩) n3 c3) (Ak b 7) w:=j.plain ⟨by decide,fun _=>d.pre 6 (by kernel_rfl)⟩;simp only[Oper.wp,execOp];go_simp;exact E _ _ t trivial rfl
        iterate 2
         apply A3 (fun _ _ h=>h.plain ⟨by decide,fun e=>absurd e (by decide)⟩) rfl rfl rfl
         .intro b a w j d K E;(try have:=d.e 1 67);(try have:=d.e 8 74);simp only[Oper.wp,execOp];go_simp;exact E _ j trivial
        apply F3 (fun _=>True) rfl rfl
        .intro b a w j d K E;have d1:=d.e 9 75;have d2:=d.e 7 73;have m:=((j.pre d.self).block _ ai (by simp)).trans I.o;have p2:=Ab m 0;have f2:=Av m 0;have t:=j.store d.self (d.pre 7 (by kernel_rfl)) I.o;simp only[Oper.wp,execOp];go_simp;exact E undef _ t trivial trivial
        refine⟨?_,?_⟩
        .refine⟨fun _ _ _ _ _=>trivial,?_⟩
         iterate 10 refine Cb _ ?_
         exact trivial
        .intro w' bb j ac;simp only[a2u,a3x,a2v,a2x]
         iterate 6 (refine A2 ?_)
         refine As ?_;intro v6 u6;obtain rfl:=u6;refine As ?_;intro v7 u7;obtain rfl:=u7
         iterate 2 (refine A2 ?_)
         refine As ?_;intro c1 u10;refine C7 ?_;simp only[Aj,Act.put,a0z,a1x,a1w];have s:=j.post (ac 10 (by simp));have cw:=Y s.1;have cn:=Y s.2;obtain⟨p0,p1⟩:=aa.o _ s.1;have p2:=Ab s.2 0;simp only[a0v,Z] at p2;have ar:Hid (Ea w' u.heap.size B es1):=cu.o.tf (Tf.of (base:=u.heap.size) (D:=[]) s.1) (a0u _) (by simp) (by simp) (by simp) (fun k G=>by
          obtain rfl:=List.mem_singleton.1 G;refine⟨L.o.ge,b9,fun x F e=>?_,fun c fz e=>?_⟩
          .have m:=(A.o.map (·.1.q)).nodup_iff.2 HH.o.nd;rw[a2w,a3v] at m;exact m.1 (List.mem_map.2 ⟨x,F,e.symm⟩)
          .rw[I.o] at e
           cases e)
         have ap:Hid (Ag A8 w' u.heap.size u2 C):=aq.o.tf (Tf.of (base:=u.heap.size) (D:=[]) s.1) (by simp) (fun k G hm=>by
          obtain rfl:=List.mem_singleton.1 hm;rcases aq.o.2 with⟨e,_⟩|⟨g,ad,a9,e,_,V,_⟩
          .rw[e] at G;cases G
          .rw[e] at G
           obtain rfl:g=k:=by simpa [Value.ownBlock] using G
           have:=I.o;rw[V] at this
           cases this)
         have W:Hid (Fp [] u w'):=cy.o.trans s.1 (by intro i hi;right;rw[List.mem_singleton.1 hi];exact L.o.ge);clear j ac s u10;have c9:Jt w' u.heap.size M r:=by
          have al:=e9.o;refine⟨L.o.ge,J,N+7,n3,c3,cn.o,by omega,ep,?_⟩
          have m:=(e6.o.drop 1 n3 (by omega))
          rw[List.drop_one,List.tail_cons] at m;exact m.fpS cw.o (by have:=L.o.ge;simp;omega)
         have ab:M∉es1.map (·.1.q):=by
          have m:=(A.o.map (·.1.q)).nodup_iff.2 HH.o.nd;rw[a2w,a3v] at m;exact m.1
         have ah:=Y (lD w' u.heap.size B es1 (⟨M,xa⟩,r) ar.o cr.o c9 (by show 0<r.length;omega) (fun z hz=>HH.o.ok _ (A.o.mem_iff.1 a0x) z (a2z _ hz)) ab W.o.size (by have:=A.o.length_eq;simp at this;omega));unfold S5 at ah;simp only at ah;clear c9 ab;go_wp2_with fail;refine ah.o.mono ?_;rintro e wD ⟨rfl,d5,db,bw,dk,b8⟩;have bm:=Y db;have cq:=Y bw;have fc:=Y dk;have ff:=Y (b8.onto W.o (a0u _) (by intro i hi;right;simp at hi;omega));have e8:Hid (Ag A8 wD u.heap.size u2 C):=ap.o.tf b8 (by decide) (fun k G hm=>by
          obtain rfl:=List.mem_singleton.1 hm;obtain⟨v1,m,_⟩:=ar.o.box;rcases ap.o.2 with⟨e,_⟩|⟨g,ad,a9,e,_,V,_⟩
          .rw[e] at G;cases G
          .rw[e] at G
           obtain rfl:g=k:=by simpa [Value.ownBlock] using G
           rw[V] at m
           cases m)
         clear db bw dk b8;go_wp2_with fail
         go_roundg (Gv d5)
         case measure=>
          have m:=au.o;have h2:=O5 A.o;simp only[Gv,a0w] at h2;have h3:=O5 bm.o;simp only[Gv] at h3;omega
         case rel=>
          have m:=au.o;have h2:=O5 A.o;simp only[Gv,a0w] at h2;have h3:=O5 bm.o;simp only[Gv] at h3;have h4:=A.o.length_eq;have h5:=bm.o.length_eq;simp only[a0w] at h4 h5;exact⟨⟨d5,done++[⟨⟨Q,U,P,ys,T,O⟩,yp⟩],C,rfl,fc.o,cq.o,e8.o,ae.o.step A.o HH.o.ok ba.o ct.o (Or.inr ⟨bk.o,bm.o⟩),by simp;omega,by simp;omega,by omega⟩,ff.o⟩
def Vm(b o:Nat)(x:Nat × Nat):Value:=.slice (some ⟨b,o+x.1,none⟩) x.2 x.2
def X9(b o:Nat)(x:Nat × Nat):Array Value:=#[Vm b o x]
theorem Aa5(base L n F M p:Nat)(S:0<p)(aq:p<2^63)(w:World)(b o len cap:Nat)(hn:1≤n)(ae:w.heap[F]?=some (.cells #[.slice (some ⟨b,o,none⟩) len cap] 159 (0,0)))(af:w.heap[M]?=some (.cells #[.int .i64 p] 3 (0,0)))
  (av:len<=cap)(ay:len<=1000000000)(ad:F<base)(D:M<base)(ak:F≠L)(U:M≠L)
  (S0:List Nat)(ag:∀k∈S0,k<base/\k≠F/\k≠M)(J Jx:List (Nat × Nat)->World->Prop)
  (hJ:∀s A B,J s A->Fp [] A B->J s B)
  (hy:∀c x W,(∃Q,D1 p len 0=c++x::Q)->J c W->YieldAt Fence.wide (n-1) Tryz.prog L (X9 b o x) W fun e W'=>(e=.returned (.bool true)/\J (c++[x]) W'/\Ao 221 base (L::S0) W W')∨(e=.returned (.bool false)/\Jx (c++[x]) W'))
  (h0:J [] w):
  CallsIn Fence.wide n Tryz.prog 269 #[.func (.yield L) #[] #[],.pointer (some ⟨F,0,none⟩),.pointer (some ⟨M,0,none⟩)] w fun e w'=>(∃v,e=.returned v)/\((∃xs,xs=D1 p len 0/\J xs w')∨∃c,Jx c w'):=by
 rw[callsIn_wide];have HY:=Y hy;have HJ:=Y hJ;have N:=Y ag;have aj:=Y ae;have z:=Y af;clear hy hJ ag ae af;go_in;go_wp2_with fail
 go_loopg [4] len (fun g vi wr=>∃(i:Nat) (c:List (Nat × Nat)),g=len-i/\(i=0∨p<=i)/\vi=.int .i64 i/\D1 p len 0=c++D1 p len i/\J c wr/\Ao 221 base (L::S0) w wr)
 case atStart=>exact⟨0,[],rfl,.inl rfl,rfl,rfl,h0,Ao.of (Fp.refl [] _) (by simp) |>.mono (by simp)⟩
 case round=>
  obtain⟨i,c,hg,ab,rfl,l,hj,hf⟩:=hrel;have P:=Y hf;have ai:=Y hj;clear hf hj;have t:wr.heap[F]?=some (.cells #[.slice (some ⟨b,o,none⟩) len cap] 159 (0,0)):=(P.o.low _ ad (Ae aj.o) (by intro h;rcases List.mem_cons.1 h with h|h;exact ak h;exact(N.o _ h).2.1 rfl)).trans aj.o;have E:wr.heap[M]?=some (.cells #[.int .i64 p] 3 (0,0)):=(P.o.low _ D (Ae z.o) (by intro h;rcases List.mem_cons.1 h with h|h;exact U h;exact(N.o _ h).2.2 rfl)).trans z.o;have q0:wr.cell? ⟨F,0,none⟩=some (.slice (some ⟨b,o,none⟩) len cap):=Ab t 0;have q:=Y t;have r:=Y E;clear t E;by_cases aa:i<len
  .have z0:(i:Int)<(len:Int):=(by omega)
   have z1:(i:Int)<=(len:Int):=(by omega)
   have z2:(len:Int)<=(cap:Int):=(by omega)
   have az:¬cap=i:=(by omega)
   rw[Po aa S] at l;obtain⟨m,hm⟩:=Aa (min p (len-i))
   have V:min (p:Int) ((len-i:Nat):Int)=(m:Int):=(by omega)
   have au:0<m:=(by omega)
   rw[hm] at l;have ah:=Y l;obtain⟨d,hd⟩:=Aa (len-i);rw[hd] at V;obtain⟨e2,ac⟩:=Aa (i+m)
   have n1:IntKind.i64.wrap ((i:Int)+(m:Int))=(e2:Int):=(by rw[a3z];omega)
   have z3:(e2:Int)<=(cap:Int):=(by omega)
   have z4:(i:Int)<=(e2:Int):=(by omega)
   have ax:e2-i=m:=(by omega)
   have aw:¬e2=i:=(by omega)
   have n2:IntKind.i64.wrap ((i:Int)+(p:Int))=((i+p:Nat):Int):=(by rw[a3z];omega)
   obtain⟨j,I⟩:=Aa (i+p);rw[I] at n2;have HG:=Y hg;have a1:=Y ac;have O:=Y I;clear hg ab l hm ac I;go_wp2_with fail;refine Bo (by kernel_rfl) (by kernel_rfl) ?_
   iterate 7
    apply A1 rfl rfl rfl
    .intro a w u y K hK;have:=y.f 2;have:=y.f 1;have:=y.f 4;(try have:=y.e 1 14);(try have:=y.e 2 15);(try have:=y.e 3 16);(try have:=y.e 0 13);(try have:=y.e 4 17);(try have:=y.e 5 18);have r0:=Ab ((u.block _ (Ae q.o) (by simp)).trans q.o) 0;have r1:=Ab ((u.block _ (Ae r.o) (by simp)).trans r.o) 0;simp only[a0v,Z] at r0 r1;simp only[Oper.wp,execOp];go_simp;exact hK _ u (Fp.refl _ _)
   refine Bn ?_
   iterate 7 refine Bm ?_
   refine Bl fun w' u=>?_
   .simp only[Aj,Act.put,a0z,a1x,a1w];have ap:=Y (P.o.trans (Ao.of (u.mono (by simp):Fp [] wr w') (by simp)));have ao:=Y (HJ.o _ _ _ ai.o u);have C:=(u.block _ (Ae q.o) (by simp)).trans q.o;have q1:w'.cell? ⟨F,0,none⟩=some (.slice (some ⟨b,o,none⟩) len cap):=Ab C 0;have ar:=Y ((u.block _ (Ae r.o) (by simp)).trans r.o);clear u C;obtain⟨fn,tm,a0,bd,R,T⟩:=HY.o c (i,m) w' ⟨_,ah.o⟩ ao.o;have al:=Y T;clear T;unfold X9 Vm at R;simp only at R
    go_upto_region 4 with(fail)
    refine(wpIn_wide (n:=n)).1 ?_
    gi_wp2_with fail
    refine al.o.mono ?_;rintro e W1 (⟨rfl,hj1,hf1⟩|⟨rfl,hjx⟩)
    .have an:=Y hj1;have G:=Y (ap.o.trans hf1 (by intro i hi;exact hi));have r2:W1.cell? ⟨M,0,none⟩=some (.int .i64 p):=Ab ((G.o.low _ D (Ae z.o) (by intro h;rcases List.mem_cons.1 h with h|h;exact U h;exact(N.o _ h).2.2 rfl)).trans z.o) 0;clear hj1 hf1
     gi_wp2_with fail
     go_wp2_with fail
     go_roundg (len-j)
     case measure=>have:=HG.o;have:=O.o;omega
     case rel=>
      refine⟨j,c++[(i,m)],rfl,.inr (by have:=O.o;omega),rfl,?_,an.o,G.o⟩;have h2:=ah.o;rw[O.o] at h2;rw[h2,List.append_assoc];rfl
    .have am:=Y hjx;clear hjx
     gi_wp2_with fail
     go_wp2_with fail;refine bodyPost_ret (results_none rfl _ _ _) rfl ?_;exact⟨⟨_,rfl⟩,Or.inr ⟨_,am.o⟩⟩
  .have z0:¬(i:Int)<(len:Int):=(by omega)
   rw[Wb aa,List.append_nil] at l;have HP:=Y l;have HG:=Y hg;clear l hg ab;go_wp2_with fail;go_end0;refine⟨⟨_,rfl⟩,Or.inl ?_⟩;rw[HP.o];exact ai.o
theorem Aa6(w:World)(b:Nat)(c:0<b)(v:Value)(a:Option Addr)(len cap:Nat)(d:v=.slice a len cap):Calls Tryz.prog 221 #[v,.int .i64 b] w fun e w'=>e=.returned (.func (.func 269) #[] #[.pointer (some ⟨w.heap.size,0,none⟩),.pointer (some ⟨w.heap.size+1,0,none⟩)])∧
  w'.heap[w.heap.size]?=some (.cells #[v] 159 (0,0))/\w'.heap[w.heap.size+1]?=some (.cells #[.int .i64 b] 3 (0,0))/\Fp [] w w':=by
 subst d
 have z1:¬(b:Int)<1:=by omega
 have q:((w.alloc (.cells #[.slice a len cap] 159)).alloc (.cells #[.int .i64 b] 3)).cell? ⟨w.heap.size+1,0,none⟩=some (.int .i64 b):=Ab (Ai (by simp) _) 0;go_in;go_wp2_with fail;go_ret;exact⟨rfl,Dy (Ai rfl _),Ai (by simp) _,(Fp.alloc _ _).alloc' _⟩
end
section
open Go.RowKit Go.Lib
def J4(rs:List (List Ad))(x:Nat × Nat):List (List Ad):=(rs.drop x.1).take x.2
structure Ya(w:World)(base:Nat)(rs:List (List Ad))(pre:List (Nat × Nat))(W:World):Prop where
 ex:∃v out,W.heap[w.heap.size]?=some (.cells #[v] 159 (0,0))/\Gp W base v out/\Dn (fun x r=>Bf (J4 rs x).flatten r) pre out
 fp:Fp [] w W
theorem Ya.on{w A B:World}{base:Nat}{i:List (List Ad)}{a:List (Nat × Nat)}{S:List Nat}(h:Ya w base i a A)(d:Fp S A B)(g:∀k∈S,w.heap.size<k/\k<base):Ya w base i a B:=by
 obtain⟨v,b,j,l,n⟩:=h.ex;exact⟨⟨v,b,(d.block _ (Ae j) fun m=>by have:=g _ m;omega).trans j,l.fp d fun k c=>(g k c).2,n⟩,h.fp.trans d fun k c=>Or.inr (by have:=g k c;omega)⟩
theorem Aa7(l:List Nat)(k:Nat):(l.take k).sum<=l.sum:=by
 have h:(l.take k++l.drop k).sum=l.sum:=by rw[a4z]
 rw[a3w] at h;omega
theorem Aa8(l:List Nat)(k:Nat):(l.drop k).sum<=l.sum:=by
 have h:(l.take k++l.drop k).sum=l.sum:=by rw[a4z]
 rw[a3w] at h;omega
theorem Aa9(a:List (List Ad))(x:Nat × Nat):((J4 a x).map (·.length)).sum<=(a.map (·.length)).sum:=by
 unfold J4;rw[List.map_take,List.map_drop];exact Nat.le_trans (Aa7 _ _) (Aa8 _ _)
theorem mY{rs:List (List Ad)}{x:Nat × Nat}{r:List Ad}(h:r∈J4 rs x):r∈rs:=List.mem_of_mem_drop (List.mem_of_mem_take h)
def mZ(a:Option Addr)(b o n cap m c1 c2:Nat)(x:Nat × Nat):Act:={tmps:=#[.slice a n cap,.int .i64 m,undef,undef,.pointer (some ⟨c1,0,none⟩),.int .i64 0,Vm b o x,.bool false,.int .i64 m,.bool false,.bool false,.slice a n cap,.bool true,.bool false,.slice a n cap,.int .i64 m,.func (.func 269) #[] #[.pointer (some ⟨c2,0,none⟩),.pointer (some ⟨c2+1,0,none⟩)],Vm b o x,undef,undef,undef,undef,undef,undef],defers:=[]}
attribute [local go_sem] Oper.semAt_some
theorem Aba(w:World)(a:Option Addr)(n cap m:Nat)(j:List (List Ad))(h:Eu w a n j)(t:∀r∈j,Dv r∧Be r∧r.length≤1000000)(hn:n≤900000)(O:(j.map (·.length)).sum≤1000000)(ab:n≤cap)(be:2≤m)(hm:m<2^63)(h0:0<n):
  Calls Tryz.prog 143 #[.slice a n cap,.int .i64 m] w fun e w'=>∃v M,e=.returned (.tuple #[v,.int .i64 0])/\Gp w' w.heap.size v M/\Dn (fun x r=>Bf (J4 j x).flatten r) (D1 m n 0) M/\Fp [] w w':=by
 have a6:=Y (fun w v a len cap (y:v=.slice a len cap)=>Aa6 w m (by omega) v a len cap y);have a1:=Y (fun w (h:Eu w a n j)=>lI w a n cap j h t (by omega));have HL:=Y h;have a3:=Y t;have a0:=Y O;have G:n=j.length:=h.len;obtain⟨b,o,rfl,bf,ax⟩:∃b o,a=some ⟨b,o,none⟩/\b<w.heap.size/\True:=by
  rcases h.cells with h|⟨b,o,h1,h2,_⟩
  .rw[h] at G;simp at G;omega
  .exact⟨b,o,h1,h2,trivial⟩
 have bk:=Y G;have a5:=Y ab;clear h t O G ab ax
 have z1:¬(m:Int)<2:=by omega
 rw[<-callsIn_wide (n:=5)];refine callsIn_of_wp_marks Tryz.func143 rfl trivial ?_ rfl;simp only[Tryz.ntmps143,List.size_toArray,a0w,List.length_nil,Nat.reduceAdd,Nat.reduceSub,Array.replicate_succ,Array.replicate_zero,List.push_toArray,List.append_toArray,a2v,a2x]
 gi_wp2_with fail
 refine⟨trivial,?_⟩;refine((callsIn_wide (n:=4)).2 (a1.o _ (HL.o.fp (Fp.alloc _ _)))).mono ?_;rintro e L ⟨rfl,u⟩;have ag:=Y ((u.block _ (by simp) (by simp)).trans (Ai rfl _):L.heap[w.heap.size]?=some (.cells #[.slice none 0 0] 159 (0,0)));have a7:Hid (Fp [] w L):=(Fp.alloc _ _).trans u;clear u
 gi_wp2_with fail
 refine⟨trivial,?_⟩;refine((callsIn_wide (n:=4)).2 (a6.o _ _ _ _ _ rfl)).mono ?_;rintro e w2 ⟨rfl,ad,ae,ac⟩;have a8:=Y ad;have ai:=Y ae;have ah:=Y ac;clear ad ae ac
 gi_wp2_with fail
 have aj:w.heap.size<L.heap.size:=Ae ag.o;have ba:L.heap.size+1<w2.heap.size:=Ae ai.o
 refine Vw (α:=Nat × Nat) (encs:=X9 b o) rfl (enters_of Tryz.func269 (by kernel_rfl) rfl) (fun _=>rfl) 221 [w.heap.size] [] (by simp;omega) (by simp) (L.heap.size) (by omega) 0
  (fun F x=>∃N,D1 m n 0=F++x::N) (Ya w (w2.heap.size+2) j) (fun _ _=>False) (fun xs _=>xs=D1 m n 0)
  (fun _=>True) (fun s A B k h hf hk=>h.on hf (by simp;omega)) (fun s A B h hf _=>h.on hf (by simp;omega)) (fun _ _ _ h _=>h) (fun _ _ _ h _=>h) ?_ ?_ (fun x a' _=>a'=mZ (some ⟨b,o,none⟩) b o n cap m w.heap.size L.heap.size x) (fun _ _ _ _ h _=>h) ?_ ?_ ?_ (fun _ _ h=>h.elim)
 .intro J Jx W1 u a9 hJ hY ay;exact Aa5 (w2.heap.size+2) (w2.heap.size+1) (5-1) L.heap.size (L.heap.size+1) m (by omega) hm W1 b o n cap (by decide) ((u.block _ (by omega) (by simp)).trans a8.o) ((u.block _ (by omega) (by simp)).trans ai.o) a5.o (by omega) (by omega) (by omega) (by omega) (by omega) [w.heap.size] (by intro k hk;simp only[List.mem_cons,a1z,or_false] at hk;omega) J Jx (fun s A B h hf=>hJ s A B h (hf.mono (by simp)) trivial) hY ay
 .exact⟨⟨.slice none 0 0,[],(ah.o.block _ aj (by simp)).trans ag.o,Gp.nil _ _,.nil⟩,a7.o.trans ah.o⟩
 .intro l x W K hW p;simp only[X9]
  gi_wp2_with fail
  exact p _ _ (Fp.refl _ _) rfl
 .rintro l' F ⟨T,S⟩ a' W ⟨N,q⟩ Q hW rfl;have hx:=bS m n 0 (T,S) (by rw[q];simp);obtain⟨am,al,ak⟩:=hx;simp only at am al ak;obtain⟨v,M,y,U,V⟩:=Q.ex;have bc:M.length=F.length:=V.length_eq.symm;have bd:F.length+1≤1000000000:=by
   have h1:=Wc m n 0;rw[q,List.length_append,a0w] at h1;omega
  have a4:=Y (fun aa (h:Fp [] w aa)=>Aa4 aa (some ⟨b,o+T,none⟩) S S (J4 j (T,S)) (((HL.o.fp h).drop T (n-T) (by omega)).take S (by omega)) (fun r t=>a3.o r (mY t)) (by omega) (Nat.le_trans (Aa9 _ _) a0.o));have HI:=Y Q;have HV:=Y y;have HO:=Y U;have HA:=Y V;have hW:w2.heap.size+2<=W.heap.size:=hW;clear Q y U V q;unfold mZ Vm;simp only
  gi_wp2_with fail
  refine U8 (Ge (fun r=>Bf (J4 j (T,S)).flatten r) w W (w2.heap.size+2) w.heap.size v M) (fun _ _=>True) (by kernel_rfl) (by kernel_rfl) (by kernel_rfl) (fun _=>Ge.start HO.o HV.o HI.o.fp hW (by omega)) ?_;apply Cm (fun _ _ _ h _=>h.plain (by decide)) rfl rfl rfl
  .intro b a w d c K p;have h4:=c.f 4;have q0:=Ab (d.first (c.post 4 (by kernel_rfl))) 0;simp only[a0v,Z] at q0;simp only[Oper.wp,execOp];go_simp;exact p _ d trivial
  apply Cm (fun _ _ _ h _=>h.plain (by decide)) rfl rfl rfl
  .intro b a w d c K p;have h6:=c.f 6;simp only[Oper.wp,execOp];go_simp;exact p _ d trivial
  apply Dw (fun _ _=>True) rfl rfl rfl
  .intro b a w d c K p;have bj:=c.e 1 19;simp only[Oper.wp,execOp];go_simp;refine(a4.o _ d.fp).mono ?_;rintro e w3 ⟨vr,r,rfl,t,aq,aw⟩;exact p _ _ (d.call c.self aw t aq) trivial trivial
  apply Dw (fun _ _=>True) rfl rfl rfl
  .intro b a w d c K p;have bi:=c.dep 2 20 _ (by kernel_rfl) rfl;obtain⟨r,hg,t⟩:=d.res (c.pre 2 (by kernel_rfl)) (c.post 4 (by kernel_rfl));obtain⟨a2,c2,R,-,-⟩:=t.len;have y:=c.val 2 20 (by kernel_rfl);rw[R] at y;have z:=d.build (c.pre 2 (by kernel_rfl)) c.self;rw[R] at z;simp only[Oper.wp,execOp];go_simp;exact p _ _ z trivial trivial
  apply Dw (fun _ _=>True) rfl rfl rfl
  .intro b a w d c K p;have az:=c.e 0 18;have bh:=c.dep 3 21 _ (by kernel_rfl) rfl;obtain⟨g,av,au⟩:=d.bld (c.pre 3 (by kernel_rfl)) c.self;obtain⟨r,hg,t⟩:=d.res (d.o32 (c.pre 3 (by kernel_rfl))) c.self;obtain⟨a2,c2,R,-,-⟩:=t.len;refine lE (.tmp 18) (.tmp 21) rfl _ v M (Ei az) (d.own0 c.self) g _ r (by rw[R];rfl) t (Ei ((c.val 3 21 (by kernel_rfl)).trans av)) au (by omega) d.sz ?_;intro v' w' h1 h2 h3;exact p _ _ (d.append (c.pre 3 (by kernel_rfl)) c.self hg h1 h2 h3 (by omega) (by omega)) trivial trivial
  apply J3 (fun _=>True) rfl rfl rfl
  .intro b a w d c K p;have h4:=c.f 4;have bg:=c.dep 4 22 _ (by kernel_rfl) rfl;obtain⟨a2,n2,c2,R⟩:=d.slice (c.pre 4 (by kernel_rfl));have y:=(c.val 4 22 (by kernel_rfl)).trans R;have z:=d.store (c.pre 4 (by kernel_rfl)) (by omega) (a0u _);rw[R] at z;have f0:=Av d.cel 0;have q0:=Ab d.cel 0;simp only[Oper.wp,execOp];go_simp;exact p undef _ z trivial trivial
  refine⟨?_,?_⟩
  .refine⟨fun _ _ _ _ _=>trivial,?_⟩;refine⟨fun _ _ _ _ _=>trivial,?_⟩;refine⟨fun _ _ _ _ _=>trivial,?_⟩;refine⟨fun _ _ _ _ _=>trivial,?_⟩;refine E4 _ ?_;refine E4 _ ?_;exact trivial
  .intro w' bb af;simp only[a2u,a3x,a2v,a2x]
   iterate 2 (refine A2 ?_)
   refine As ?_;intro v2 u2;refine As ?_;intro v3 u3;refine As ?_;intro v4 u4;refine As ?_;intro v5 u5;refine C7 ?_;intro d;simp only[Aj,Act.put,a0z,a1x,a1w]
   gi_wp2_with fail
   have P:=d.cel;rw[af 5 (by simp)] at P;obtain⟨r,t,ap⟩:=d.own1 (af 4 (by simp));exact⟨d.kept,⟨⟨_,_,P,ap,Ro HA.o t⟩,d.fp⟩⟩
 .rintro xs W rfl Q p;obtain⟨v,M,y,U,V⟩:=Q.ex;obtain⟨E,C,D,rfl⟩:=U.slice;have HI:=Y Q;have HK:=Y p;have HA:=Y V;have q0:W.cell? ⟨w.heap.size,0,none⟩=some (.slice E C D):=Ab y 0;have f0:W.frozen? ⟨w.heap.size,0,none⟩=false:=Av y 0;have HV:=Y y;have HO:=Y U;clear Q p y U V
  gi_wp2_with fail
  have I:Fp [w.heap.size] W (W.setCell ⟨w.heap.size,0,none⟩ (.slice E C D)):=Fp.setCell W ⟨w.heap.size,0,none⟩ (.slice E C D);have h4:(W.setCell ⟨w.heap.size,0,none⟩ (.slice E C D)).heap[w.heap.size]?=some (.cells #[.slice E C D] 159 (0,0)):=(Cf HV.o _).trans rfl;obtain⟨wa,an⟩:=Aa (W.setCell ⟨w.heap.size,0,none⟩ (.slice E C D));rw[an] at I h4 ⊢;have ar:wa.heap[w2.heap.size]?=some (.deferred (some [])):=(I.block _ (Ae HK.o) (by simp;omega)).trans HK.o;have hp:=Fp.putObj wa w2.heap.size (.deferred none);refine⟨by simp,.inl ⟨_,_,rfl,run_takeDeferred ar,?_⟩⟩;have c0:(wa.putObj w2.heap.size (.deferred none)).cell? ⟨w.heap.size,0,none⟩=some (.slice E C D):=Ab ((hp.block _ (Ae h4) (by simp;omega)).trans h4) 0;have ao:=(HO.o.fp I (by simp;omega)).fp hp;refine⟨.tuple #[.slice E C D,.int .i64 0],by simp[results,Tryz.results143,go_sem,c0],.slice E C D,M,rfl,?_,HA.o,((HI.o.fp.trans I (by intro i hi;right;simp at hi;omega)).trans hp (by intro i hi;right;simp at hi;omega))⟩;exact ao.mono (by omega)
end
end Go.Proofs.YtkagolpnaicdoaaGreatDoor
