/- Lemmas. -/
import Derived.Test.YtkagolpnaicdoaaGreatDoorQJobB
set_option maxRecDepth 100000
set_option maxHeartbeats 8000000
open Go.Lib renaming hid->X
open List renaming getD_eq_getElem?_getD->Y,getElem?_eq_getElem->a0x,append_assoc->a0w,getElem_mem->a0v,cons_append->a0u,nil_append->a1z,setIfInBounds_toArray->a1x,length_append->a1w,set_cons_succ->a1v,set_cons_zero->a1u,eq_nil_of_length_eq_zero->a2z,reverse_cons->a2x,reverse_nil->a2w,length_drop->a2v,length_cons->a3v,all_eq_true->a4x,length_take->a4w,getElem_map->a4v,length_map->a4u,take_of_length_le->a5x,mem_of_getElem?->a5w
open ByteArray renaming size_append->Z,size_extract->a5z
open UInt8 renaming ofNat->a0z,toNat_ofNat'->a2u
open Nat renaming le_refl->a3z,zero_le->a4z
open Go.IntKind renaming wrap_i64->a3x,wrap_u8->a3u
open Bool renaming and_eq_true->a3w
namespace Go.Proofs.YtkagolpnaicdoaaGreatDoor
section
open Go.RowKit Go.Lib
theorem rS(n:Nat):a0z (n%256)=a0z n:=by
 apply UInt8.toNat_inj.1;rw[a2u,a2u];omega
theorem Pv(n:Nat)(w:World)(s:n<=65535):Calls Tryz.prog 170 #[.int .i64 n] w fun e w'=>e=.returned (.string (bl (two n)))/\Fp [] w w':=by
 have d:Hid (two n=[a0z (n%256),a0z (n/256)]):=by unfold Hid two;rw[rS]
 obtain⟨p,c⟩:=Aa (n%256);obtain⟨q,b⟩:=Aa (n/256)
 have u:(n:Int)%256=(p:Int):=by omega
 have t:(n:Int)/256=(q:Int):=by omega
 have i:p<256:=by omega
 have h:q<256:=by omega
 have l:IntKind.u8.wrap (p:Int)=(p:Int):=by rw[a3u];omega
 have w2:IntKind.u8.wrap (q:Int)=(q:Int):=by rw[a3u];omega
 have j:=P5 (w:=w.alloc (.cells #[.int .u8 p,.int .u8 q] 5)) (g:=w.heap.size) (n:=p) (m:=q) (Ai rfl _) i h;rw[c,b] at d;obtain⟨r,a⟩:=Aa (bl [a0z p,a0z q]);rw[a] at j;have k:=X a;clear c b a;go_in;go_wp2_with fail;go_ret;exact⟨by rw[d.o,k.o];rfl,Fp.alloc _ _⟩
theorem Oi(a b:ByteArray):(a++b).data.toList=a.data.toList++b.data.toList:=by simp
theorem Ut{a b:ByteArray}(h:a.data.toList=b.data.toList):a=b:=by
 obtain⟨⟨a⟩⟩:=a;obtain⟨⟨b⟩⟩:=b
 simpa using h
def E0(l:List Ac)(k:Nat):List UInt8:=B7 (l.getD (k-1) Aq)
theorem rT(l:List Ac)(x:List UInt8):Ef 0 x l=Ef 0 [] l:=by
 cases l with
 |nil=>rfl
 |cons c r=>rfl
theorem rU(w:World)(a:Option Addr)(len cap:Nat)(l:List Ac)(hl:Ba w a len l)(hn:len≤9223372036854775807):
  Calls Tryz.prog 107 #[.slice a len cap] w fun e w'=>e=.returned (.tuple #[.string (Ec l).1,.int .i64 ((Ec l).2:Nat)])/\Fp [] w w':=by
 have HL:=X hl;have O:=X hl.len;have cd:=X (fun w hl=>W9 w a len cap l hl hn);clear hl;by_cases ba:len>255
 .have z:(len:Int)>255:=by omega
  have HR:=X (eG (l:=l) (by rw[<-O.o];exact ba));go_in;go_wp2_with fail;go_ret2;rw[HR.o];exact⟨rfl,Fp.refl _ _⟩
 have z:¬(len:Int)>255:=by omega
 have ak:¬l.length>255:=by rw[<-O.o];exact ba
 go_in;go_wp2_with fail
 go_loopg [4] len (fun g vi wr=>∃k:Nat,g+k=len/\vi=.int .i64 k/\Fp [] w wr/\∀i (hi:i<l.length),i<k->Bh l[i]=true)
 case atStart=>exact⟨0,rfl,rfl,Fp.refl _ _,by intro i _ h;omega⟩
 case round=>
  obtain⟨k,W,rfl,s,a9⟩:=hrel;have HF:=X s;have a4:=X a9;clear s a9;by_cases hk:k<len
  .have ag:k<l.length:=(by rw[←O.o];exact hk)
   obtain⟨b1,o1,rfl,E,B⟩:=J2 HL.o ag;obtain⟨c,hc⟩:=Aa (l[k])
   have am:c∈l:=(by rw[<-hc];exact a0v ag)
   have bn:=X (HL.o.ok c am);have V:=X (fun w=>iH c w bn.o)
   have bz:Hid (Bh c=false->Ec l=(⟨#[]⟩,1)):=fun h=>eH ak (by
    rw[List.all_eq_false]
    exact⟨c,am,by simp[h]⟩)
   have bc:Hid (Bh c=true->∀i (hi:i<l.length),i<k+1->Bh l[i]=true):=fun h i hi ck=>by
    by_cases e:i=k
    .subst e;rw[hc];exact h
    .exact a4.o i hi (by omega)
   rw[hc] at B;obtain⟨q0,q1,q2,q3,q4,q5⟩:=B wr HF.o;clear B hc am;obtain⟨m,hm⟩:=Aa (Bh c);rw[hm] at bz bc V;clear hm;obtain⟨t,u,L,seq,aw,q⟩:=c;rw[show A7 (⟨t,u,L,seq,aw,q⟩:Ac)=.agg #[.string t,.string u,.int .u64 L,.int .u64 seq,.bool aw,.string q] from rfl] at V;go_wp2_with fail;refine(V.o _).next HF fun w2 a3=>?_;cases m
   .have HA:=X (bz.o rfl);go_wp2_with fail;go_ret2;rw[HA.o];exact⟨rfl,a3.o⟩
   .have HA:=X (bc.o rfl);go_wp2_with fail
    go_roundg (gk-1)
    case measure=>omega
    case rel=>exact⟨k+1,by omega,by simp,a3.o,HA.o⟩
  .have b6:¬(k:Int)<(len:Int):=(by omega)
   have V:Hid (l.all Bh=true):=by
    unfold Hid;rw[a4x];intro x hx;obtain⟨i,hi,rfl⟩:=List.getElem_of_mem hx;exact a4.o i hi (by have:=O.o;omega)
   clear a4;go_wp2_with fail;refine(cd.o _ (HL.o.fp HF.o)).next HF fun w2 a3=>?_;clear HF;cases hri:risC l
   .have HR:=X (eI ak V.o hri);go_wp2_with fail;go_ret2;rw[HR.o];exact⟨rfl,a3.o⟩
   have HR:=X (Y9 ak V.o hri);clear hri
   have z8:IntKind.u8.wrap (len:Int)=(len:Int):=(by rw[a3u];omega)
   have cv:=uF (w:=w2.alloc (.cells #[.int .u8 len] 5)) (g:=w2.heap.size) (n:=len) (Ai rfl _) (by omega);obtain⟨s0,a5⟩:=Aa (bl [a0z len]);rw[a5] at cv;have cc:=X a5
   have cg:s0.size=1:=(by rw[<-a5];rfl)
   clear a5;have ce:=X (a3.o.alloc' (.cells #[.int .u8 len] 5));go_wp2_with fail
   go_loopg [5,6] len (fun g vs vi wr=>∃(k:Nat) (acc:ByteArray),g+k=len/\vi=.int .i64 k/\vs=.string acc/\Fp [] w wr/\bl (a0z l.length::Ef 0 [] l)=acc++bl (Ef k (E0 l k) (l.drop k))/\acc.size<=1+k*400)
   case atStart=>exact⟨0,s0,rfl,rfl,rfl,ce.o,by rw[<-cc.o,O.o,Lq];show bl (_ ::Ef 0 [] l)=bl (_ ::Ef 0 (E0 l 0) l);rw[rT l (E0 l 0)],by omega⟩
   case round=>
    clear hk b6 W;obtain⟨k,acc,W,rfl,rfl,s,bw,ch⟩:=hrel;have HF:=X s;have a1:=X bw;clear s bw;by_cases hk:k<len
    .have ag:k<l.length:=(by rw[←O.o];exact hk)
     obtain⟨b1,o1,rfl,E,B⟩:=J2 HL.o ag;obtain⟨c,hc⟩:=Aa (l[k])
     have HD:Hid (l.drop k=c::l.drop (k+1)):=(by unfold Hid;rw[<-hc];exact List.drop_eq_getElem_cons ag)
     have am:c∈l:=(by rw[<-hc];exact a0v ag)
     have bn:=X (HL.o.ok c am);have av:Bh c=true:=List.all_eq_true.1 V.o c am;have bs:=Un av;have bq:=(Rz av).2.2
     have a7:Hid (E0 l (k+1)=B7 c):=(by unfold Hid E0;rw[Nat.add_sub_cancel,Y,a0x ag,hc];rfl)
     rw[hc] at B;have M:=X B;obtain⟨q0,q1,q2,q3,q4,q5⟩:=B wr HF.o
     have bv:Nr c=bl (B7 c):=(by unfold Nr;rw[if_pos av];rfl)
     have aq:=X (fun w=>Zx c w bn.o);rw[bv] at aq
     obtain⟨ky,a6⟩:∃ky:ByteArray,bl (B7 c)=ky:=⟨_,rfl⟩
     have a8:Hid (ky.data.toList=B7 c):=(by unfold Hid;rw[<-a6,Ia])
     have cj:ky.size<=180:=(by rw[<-a6,Dt];exact bs)
     rw[a6] at aq;have bx:=X (fun(x:ByteArray) w h1=>sU x ky w h1 (by omega));clear B hc am bs a6 av bv;obtain⟨t,u,L,seq,aw,q⟩:=c;have ci:q.size<=100:=bq;rw[show A7 (⟨t,u,L,seq,aw,q⟩:Ac)=.agg #[.string t,.string u,.int .u64 L,.int .u64 seq,.bool aw,.string q] from rfl] at aq
     have cf:IntKind.u8.wrap (q.size:Int)=(q.size:Int):=(by rw[a3u];omega)
     clear bq;cases aw
     .by_cases h4:k%4=0
      .have e4:(k:Int)%4=0:=(by omega)
       have ap:Hid (D9 k (E0 l k)=[]):=(by unfold Hid D9;rw[if_pos h4])
       go_wp2_with fail;refine(aq.o _).mono ?_;rintro e w4 ⟨rfl,s⟩;have D:=X (HF.o.trans s);clear s;have P:Hid (Fg (D9 k (E0 l k)) ⟨t,u,L,seq,false,q⟩=two 0++two ky.size++ky.data.toList++[On false,a0z q.size]++q.data.toList):=by
        unfold Hid Fg;rw[ap.o,show B7 ⟨t,u,L,seq,false,q⟩=ky.data.toList from a8.o.symm];rfl
       have bh:ky.extract 0 ky.size=ky:=ByteArray.extract_zero_size
       have be:IntKind.i64.wrap (ky.size:Int)=(ky.size:Int):=(by rw[a3x];omega)
       have M1:Hid (∀w,Calls Tryz.prog 170 #[.int .i64 0] w fun e w'=>e=.returned (.string (bl (two 0)))/\Fp [] w w'):=fun w=>Pv 0 w (by decide);have M2:=X (fun w=>Pv ky.size w (by omega));have ao:(bl (two 0)).size=2:=rfl;have an:(bl (two ky.size)).size=2:=rfl;obtain⟨b1,E⟩:=Aa (bl (two 0));obtain⟨b2,G⟩:=Aa (bl (two ky.size));rw[E] at M1 ao;rw[G] at M2 an
       have Q:Hid (b1++b2=bl (two 0++two ky.size)):=(by unfold Hid;rw[<-E,<-G,Lq])
       have b9:Hid (ky.data.toList=ky.data.toList):=rfl;clear E G;have cv:=fun(w:World) (g:Nat) W=>P5 (w:=w) (g:=g) (n:=0) (m:=q.size) W (by decide) (by omega);obtain⟨b3,C⟩:=Aa (bl [a0z 0,a0z q.size])
       have bm:b3.size=2:=(by rw[<-C];rfl)
       rw[C] at cv;have CV:=X cv;have au:=X C;clear cv C q0 q1 q2 q3 q4 q5;obtain⟨q0,q1,q2,q3,q4,q5⟩:=M.o _ D.o;go_wp2_with fail;refine E3 (fun _ w'=>Fp [] w4 w') (Fp []) (by kernel_rfl) (by kernel_rfl) (Fp.drew _) ?_
       iterate 22
        apply A3 (fun _ _ h=>h) rfl rfl rfl
        .intro b a w r d K A;have:=d.f 5;have:=d.f 8;have:=d.f 7;have:=d.f 9;have:=d.f 0;have:=d.f 6;(try have:=d.e 1 61);(try have:=d.e 0 60);(try have:=d.e 2 62);(try have:=d.e 4 64);(try have:=d.e 5 65);(try have:=d.e 6 66);(try have:=d.e 7 67);(try have:=d.e 3 63);(try have:=d.e 8 68);(try have:=d.e 10 70);(try have:=d.e 11 71);(try have:=d.e 9 69);(try have:=d.e 12 72);(try have:=d.e 15 75);(try have:=d.e 16 76);(try have:=d.e 17 77);(try have:=d.e 18 78);(try have:=d.e 19 79);(try have:=d.e 20 80);obtain⟨k0,k1,k2,k3,k4,k5⟩:=M.o _ (D.o.trans r);simp only[Oper.wp,execOp];go_simp
         first
         |exact A _ r (Fp.refl _ _)
         |rw[if_neg (by first|omega|(simp only[Z];omega))]
          exact A _ r (Fp.refl _ _)
         |first
           |((with_reducible refine(M1.o _).mono ?_);rintro e w2 ⟨rfl,s⟩;exact A _ (r.trans s) s)
           |((with_reducible refine(M2.o _).mono ?_);rintro e w2 ⟨rfl,s⟩;exact A _ (r.trans s) s)
       apply Hi (fun w' v=>∃g,v=.slice (some ⟨g,0,none⟩) 2 2/\w'.heap[g]?=some (.cells #[.int .u8 0,.int .u8 q.size] 5 (0,0))) rfl rfl rfl
       .intro b a w r d K A;have bk:=d.e 14 74;have bj:=d.e 21 81;simp only[Oper.wp,execOp];go_simp;exact A _ _ (r.alloc' _) (Fp.alloc _ _) ⟨_,rfl,Ai rfl _⟩
       apply A3 (fun _ _ h=>h) rfl rfl rfl
       .intro b a w r d K A;have N:=d.dep 22 82 _ (by kernel_rfl) rfl;obtain⟨g,N,W⟩:=N;have bi:=CV.o _ _ W;simp only[Oper.wp,execOp];go_simp;exact A _ r (Fp.refl _ _)
       iterate 8
        apply A3 (fun _ _ h=>h) rfl rfl rfl
        .intro b a w r d K A;(try have:=d.e 13 73);(try have:=d.e 23 83);have:=d.f 0;have:=d.f 6;(try have:=d.e 25 85);(try have:=d.e 26 86);(try have:=d.e 27 87);(try have:=d.e 28 88);(try have:=d.e 24 84);(try have:=d.e 29 89);(try have:=d.e 30 90);obtain⟨k0,k1,k2,k3,k4,k5⟩:=M.o _ (D.o.trans r);simp only[Oper.wp,execOp];go_simp
         first
         |exact A _ r (Fp.refl _ _)
         |rw[if_neg (by first|omega|(simp only[Z];omega))]
          exact A _ r (Fp.refl _ _)
       refine⟨?_,?_⟩
       .repeat(first|exact trivial|refine Cb _ ?_ |refine⟨fun w1 w2 v s ⟨g,h1,h2⟩=>⟨g,h1,(s.block g (Ae h2) (by simp)).trans h2⟩,?_⟩)
       .intro w' bb r U;simp only[a2x,a2w,a1z,a0u]
        iterate 22 (refine A2 ?_)
        refine As ?_;intro bd u22
        iterate 9 (refine A2 ?_)
        refine C7 ?_;simp only[Aj,Act.put,a1x,a1v,a1u];have ar:=X (D.o.trans r);clear r;go_wp2_with fail
        go_roundg (len-(k+1))
        case measure=>omega
        case rel=>
         refine⟨k+1,_,by omega,by simp,rfl,ar.o,?_,?_⟩
         .rw[a1.o,HD.o,show Ef k (E0 l k) (⟨t,u,L,seq,false,q⟩::l.drop (k+1))=Fg (D9 k (E0 l k)) ⟨t,u,L,seq,false,q⟩++Ef (k+1) (B7 ⟨t,u,L,seq,false,q⟩) (l.drop (k+1)) from rfl,P.o,a7.o];have I:=congrArg (fun x=>x.data.toList) Q.o;simp only[Ia] at I;rw[Oi] at I;have h3:=congrArg (fun x=>x.data.toList) au.o;simp only[Ia] at h3;apply Ut;simp only[Oi,Ia,a0w];rw[<-h3,<-a0w b1.data.toList,I];simp only[a0w,a0u,a1z];rfl
         .simp only[Z];omega
      .have e4:¬(k:Int)%4=0:=(by omega)
       have ap:Hid (D9 k (E0 l k)=E0 l k):=(by unfold Hid D9;rw[if_neg h4])
       obtain⟨j,hj⟩:∃j,k=j+1:=⟨k-1,by omega⟩
       have al:j<l.length:=(by omega)
       have b7:(k:Int)-1=(j:Int):=(by omega)
       have b8:(j:Int)<(len:Int):=(by omega)
       obtain⟨p,S⟩:=Aa (l[j])
       have aj:p∈l:=(by rw[<-S];exact a0v al)
       have az:Hid (E0 l k=B7 p):=(by unfold Hid E0;rw[hj,Nat.add_sub_cancel,Y,a0x al,S];rfl)
       have a0:=X (HL.o.ok p aj);have F:Bh p=true:=List.all_eq_true.1 V.o p aj;have af:=Un F
       have ah:Nr p=bl (B7 p):=(by unfold Nr;rw[if_pos F];rfl)
       have J:=X (fun w=>Zx p w a0.o);rw[ah] at J
       obtain⟨kp,T⟩:∃kp:ByteArray,bl (B7 p)=kp:=⟨_,rfl⟩
       have bo:Hid (kp.data.toList=B7 p):=(by unfold Hid;rw[<-T,Ia])
       have bt:kp.size<=180:=(by rw[<-T,Dt];exact af)
       rw[T] at J;obtain⟨b3,o3,U,C,y⟩:=J2 HL.o al
       obtain⟨rfl,rfl⟩:b3=b1/\o3=o1:=by simpa [eq_comm] using U
       rw[S] at y;have bp:=X y;clear y S aj af T F ah U hj;obtain⟨ac,ae,ax,ab,ad,aa⟩:=p;rw[show A7 (⟨ac,ae,ax,ab,ad,aa⟩:Ac)=.agg #[.string ac,.string ae,.int .u64 ax,.int .u64 ab,.bool ad,.string aa] from rfl] at J;go_wp2_with fail;refine(aq.o _).mono ?_;rintro e b4 ⟨rfl,s⟩;have ai:=X (HF.o.trans s);clear s;obtain⟨p0,p1,p2,p3,p4,p5⟩:=bp.o _ ai.o;go_wp2_with fail;refine(J.o _).mono ?_;rintro e b0 ⟨rfl,s⟩;have a2:=X (ai.o.trans s);clear s p0 p1 p2 p3 p4 p5;go_wp2_with fail;refine(bx.o kp _ (by omega)).next a2 fun w4 D=>?_;have bf:=Qr kp.data.toList ky.data.toList;have P:Hid (Fg (D9 k (E0 l k)) ⟨t,u,L,seq,false,q⟩=two (Da kp ky)++two (ky.size-Da kp ky)++(ky.extract (Da kp ky) ky.size).data.toList++[On false,a0z q.size]++q.data.toList):=by
        unfold Hid Fg;rw[ap.o,az.o,<-bo.o,show B7 ⟨t,u,L,seq,false,q⟩=ky.data.toList from a8.o.symm,extract_to_end];rfl
       have bg:ky.data.toList.length=ky.size:=rfl
       have ay:Da kp ky<=ky.size:=(by unfold Da;omega)
       obtain⟨n,hn⟩:=Aa (Da kp ky);rw[hn] at ay P;rw[hn];obtain⟨m,hm⟩:=Aa (ky.size-n)
       have em:(ky.size:Int)-(n:Int)=(m:Int):=(by omega)
       obtain⟨tl,R⟩:=Aa (ky.extract n ky.size)
       have b5:tl.size<=180:=(by rw[<-R,a5z];omega)
       rw[hm,R] at P
       have br:(n:Int)<=(ky.size:Int):=(by omega)
       have be:IntKind.i64.wrap (m:Int)=(m:Int):=(by rw[a3x];omega)
       have M1:=X (fun w=>Pv n w (by omega));have M2:=X (fun w=>Pv m w (by omega));have ao:(bl (two n)).size=2:=rfl;have an:(bl (two m)).size=2:=rfl;obtain⟨b1,E⟩:=Aa (bl (two n));obtain⟨b2,G⟩:=Aa (bl (two m));rw[E] at M1 ao;rw[G] at M2 an
       have Q:Hid (b1++b2=bl (two n++two m)):=(by unfold Hid;rw[<-E,<-G,Lq])
       have bh:=R;clear hn bf bg hm R E G;have cv:=fun(w:World) (g:Nat) W=>P5 (w:=w) (g:=g) (n:=0) (m:=q.size) W (by decide) (by omega);obtain⟨b3,C⟩:=Aa (bl [a0z 0,a0z q.size])
       have bm:b3.size=2:=(by rw[<-C];rfl)
       rw[C] at cv;have CV:=X cv;have au:=X C;clear cv C q0 q1 q2 q3 q4 q5;obtain⟨q0,q1,q2,q3,q4,q5⟩:=M.o _ D.o;go_wp2_with fail;refine E3 (fun _ w'=>Fp [] w4 w') (Fp []) (by kernel_rfl) (by kernel_rfl) (Fp.drew _) ?_
       iterate 22
        apply A3 (fun _ _ h=>h) rfl rfl rfl
        .intro b a w r d K A;have:=d.f 5;have:=d.f 8;have:=d.f 7;have:=d.f 9;have:=d.f 0;have:=d.f 6;(try have:=d.e 1 61);(try have:=d.e 0 60);(try have:=d.e 2 62);(try have:=d.e 4 64);(try have:=d.e 5 65);(try have:=d.e 6 66);(try have:=d.e 7 67);(try have:=d.e 3 63);(try have:=d.e 8 68);(try have:=d.e 10 70);(try have:=d.e 11 71);(try have:=d.e 9 69);(try have:=d.e 12 72);(try have:=d.e 15 75);(try have:=d.e 16 76);(try have:=d.e 17 77);(try have:=d.e 18 78);(try have:=d.e 19 79);(try have:=d.e 20 80);obtain⟨k0,k1,k2,k3,k4,k5⟩:=M.o _ (D.o.trans r);simp only[Oper.wp,execOp];go_simp
         first
         |exact A _ r (Fp.refl _ _)
         |rw[if_neg (by first|omega|(simp only[Z];omega))]
          exact A _ r (Fp.refl _ _)
         |first
           |((with_reducible refine(M1.o _).mono ?_);rintro e w2 ⟨rfl,s⟩;exact A _ (r.trans s) s)
           |((with_reducible refine(M2.o _).mono ?_);rintro e w2 ⟨rfl,s⟩;exact A _ (r.trans s) s)
       apply Hi (fun w' v=>∃g,v=.slice (some ⟨g,0,none⟩) 2 2/\w'.heap[g]?=some (.cells #[.int .u8 0,.int .u8 q.size] 5 (0,0))) rfl rfl rfl
       .intro b a w r d K A;have bk:=d.e 14 74;have bj:=d.e 21 81;simp only[Oper.wp,execOp];go_simp;exact A _ _ (r.alloc' _) (Fp.alloc _ _) ⟨_,rfl,Ai rfl _⟩
       apply A3 (fun _ _ h=>h) rfl rfl rfl
       .intro b a w r d K A;have N:=d.dep 22 82 _ (by kernel_rfl) rfl;obtain⟨g,N,W⟩:=N;have bi:=CV.o _ _ W;simp only[Oper.wp,execOp];go_simp;exact A _ r (Fp.refl _ _)
       iterate 8
        apply A3 (fun _ _ h=>h) rfl rfl rfl
        .intro b a w r d K A;(try have:=d.e 13 73);(try have:=d.e 23 83);have:=d.f 0;have:=d.f 6;(try have:=d.e 25 85);(try have:=d.e 26 86);(try have:=d.e 27 87);(try have:=d.e 28 88);(try have:=d.e 24 84);(try have:=d.e 29 89);(try have:=d.e 30 90);obtain⟨k0,k1,k2,k3,k4,k5⟩:=M.o _ (D.o.trans r);simp only[Oper.wp,execOp];go_simp
         first
         |exact A _ r (Fp.refl _ _)
         |rw[if_neg (by first|omega|(simp only[Z];omega))]
          exact A _ r (Fp.refl _ _)
       refine⟨?_,?_⟩
       .repeat(first|exact trivial|refine Cb _ ?_ |refine⟨fun w1 w2 v s ⟨g,h1,h2⟩=>⟨g,h1,(s.block g (Ae h2) (by simp)).trans h2⟩,?_⟩)
       .intro w' bb r U;simp only[a2x,a2w,a1z,a0u]
        iterate 22 (refine A2 ?_)
        refine As ?_;intro bd u22
        iterate 9 (refine A2 ?_)
        refine C7 ?_;simp only[Aj,Act.put,a1x,a1v,a1u];have ar:=X (D.o.trans r);clear r;go_wp2_with fail
        go_roundg (len-(k+1))
        case measure=>omega
        case rel=>
         refine⟨k+1,_,by omega,by simp,rfl,ar.o,?_,?_⟩
         .rw[a1.o,HD.o,show Ef k (E0 l k) (⟨t,u,L,seq,false,q⟩::l.drop (k+1))=Fg (D9 k (E0 l k)) ⟨t,u,L,seq,false,q⟩++Ef (k+1) (B7 ⟨t,u,L,seq,false,q⟩) (l.drop (k+1)) from rfl,P.o,a7.o];have I:=congrArg (fun x=>x.data.toList) Q.o;simp only[Ia] at I;rw[Oi] at I;have h3:=congrArg (fun x=>x.data.toList) au.o;simp only[Ia] at h3;apply Ut;simp only[Oi,Ia,a0w];rw[<-h3,<-a0w b1.data.toList,I];simp only[a0w,a0u,a1z];rfl
         .simp only[Z];omega
     .by_cases h4:k%4=0
      .have e4:(k:Int)%4=0:=(by omega)
       have ap:Hid (D9 k (E0 l k)=[]):=(by unfold Hid D9;rw[if_pos h4])
       go_wp2_with fail;refine(aq.o _).mono ?_;rintro e w4 ⟨rfl,s⟩;have D:=X (HF.o.trans s);clear s;have P:Hid (Fg (D9 k (E0 l k)) ⟨t,u,L,seq,true,q⟩=two 0++two ky.size++ky.data.toList++[On true,a0z q.size]++q.data.toList):=by
        unfold Hid Fg;rw[ap.o,show B7 ⟨t,u,L,seq,true,q⟩=ky.data.toList from a8.o.symm];rfl
       have bh:ky.extract 0 ky.size=ky:=ByteArray.extract_zero_size
       have be:IntKind.i64.wrap (ky.size:Int)=(ky.size:Int):=(by rw[a3x];omega)
       have M1:Hid (∀w,Calls Tryz.prog 170 #[.int .i64 0] w fun e w'=>e=.returned (.string (bl (two 0)))/\Fp [] w w'):=fun w=>Pv 0 w (by decide);have M2:=X (fun w=>Pv ky.size w (by omega));have ao:(bl (two 0)).size=2:=rfl;have an:(bl (two ky.size)).size=2:=rfl;obtain⟨b1,E⟩:=Aa (bl (two 0));obtain⟨b2,G⟩:=Aa (bl (two ky.size));rw[E] at M1 ao;rw[G] at M2 an
       have Q:Hid (b1++b2=bl (two 0++two ky.size)):=(by unfold Hid;rw[<-E,<-G,Lq])
       have b9:Hid (ky.data.toList=ky.data.toList):=rfl;clear E G;have cv:=fun(w:World) (g:Nat) W=>P5 (w:=w) (g:=g) (n:=1) (m:=q.size) W (by decide) (by omega);obtain⟨b3,C⟩:=Aa (bl [a0z 1,a0z q.size])
       have bm:b3.size=2:=(by rw[<-C];rfl)
       rw[C] at cv;have CV:=X cv;have au:=X C;clear cv C q0 q1 q2 q3 q4 q5;obtain⟨q0,q1,q2,q3,q4,q5⟩:=M.o _ D.o;go_wp2_with fail;refine E3 (fun _ w'=>Fp [] w4 w') (Fp []) (by kernel_rfl) (by kernel_rfl) (Fp.drew _) ?_
       iterate 22
        apply A3 (fun _ _ h=>h) rfl rfl rfl
        .intro b a w r d K A;have:=d.f 5;have:=d.f 8;have:=d.f 7;have:=d.f 9;have:=d.f 0;have:=d.f 6;(try have:=d.e 1 61);(try have:=d.e 0 60);(try have:=d.e 2 62);(try have:=d.e 4 64);(try have:=d.e 5 65);(try have:=d.e 6 66);(try have:=d.e 7 67);(try have:=d.e 3 63);(try have:=d.e 8 68);(try have:=d.e 10 70);(try have:=d.e 11 71);(try have:=d.e 9 69);(try have:=d.e 12 72);(try have:=d.e 15 75);(try have:=d.e 16 76);(try have:=d.e 17 77);(try have:=d.e 18 78);(try have:=d.e 19 79);(try have:=d.e 20 80);obtain⟨k0,k1,k2,k3,k4,k5⟩:=M.o _ (D.o.trans r);simp only[Oper.wp,execOp];go_simp
         first
         |exact A _ r (Fp.refl _ _)
         |rw[if_neg (by first|omega|(simp only[Z];omega))]
          exact A _ r (Fp.refl _ _)
         |first
           |((with_reducible refine(M1.o _).mono ?_);rintro e w2 ⟨rfl,s⟩;exact A _ (r.trans s) s)
           |((with_reducible refine(M2.o _).mono ?_);rintro e w2 ⟨rfl,s⟩;exact A _ (r.trans s) s)
       apply Hi (fun w' v=>∃g,v=.slice (some ⟨g,0,none⟩) 2 2/\w'.heap[g]?=some (.cells #[.int .u8 1,.int .u8 q.size] 5 (0,0))) rfl rfl rfl
       .intro b a w r d K A;have bk:=d.e 14 74;have bj:=d.e 21 81;simp only[Oper.wp,execOp];go_simp;exact A _ _ (r.alloc' _) (Fp.alloc _ _) ⟨_,rfl,Ai rfl _⟩
       apply A3 (fun _ _ h=>h) rfl rfl rfl
       .intro b a w r d K A;have N:=d.dep 22 82 _ (by kernel_rfl) rfl;obtain⟨g,N,W⟩:=N;have bi:=CV.o _ _ W;simp only[Oper.wp,execOp];go_simp;exact A _ r (Fp.refl _ _)
       iterate 8
        apply A3 (fun _ _ h=>h) rfl rfl rfl
        .intro b a w r d K A;(try have:=d.e 13 73);(try have:=d.e 23 83);have:=d.f 0;have:=d.f 6;(try have:=d.e 25 85);(try have:=d.e 26 86);(try have:=d.e 27 87);(try have:=d.e 28 88);(try have:=d.e 24 84);(try have:=d.e 29 89);(try have:=d.e 30 90);obtain⟨k0,k1,k2,k3,k4,k5⟩:=M.o _ (D.o.trans r);simp only[Oper.wp,execOp];go_simp
         first
         |exact A _ r (Fp.refl _ _)
         |rw[if_neg (by first|omega|(simp only[Z];omega))]
          exact A _ r (Fp.refl _ _)
       refine⟨?_,?_⟩
       .repeat(first|exact trivial|refine Cb _ ?_ |refine⟨fun w1 w2 v s ⟨g,h1,h2⟩=>⟨g,h1,(s.block g (Ae h2) (by simp)).trans h2⟩,?_⟩)
       .intro w' bb r U;simp only[a2x,a2w,a1z,a0u]
        iterate 22 (refine A2 ?_)
        refine As ?_;intro bd u22
        iterate 9 (refine A2 ?_)
        refine C7 ?_;simp only[Aj,Act.put,a1x,a1v,a1u];have ar:=X (D.o.trans r);clear r;go_wp2_with fail
        go_roundg (len-(k+1))
        case measure=>omega
        case rel=>
         refine⟨k+1,_,by omega,by simp,rfl,ar.o,?_,?_⟩
         .rw[a1.o,HD.o,show Ef k (E0 l k) (⟨t,u,L,seq,true,q⟩::l.drop (k+1))=Fg (D9 k (E0 l k)) ⟨t,u,L,seq,true,q⟩++Ef (k+1) (B7 ⟨t,u,L,seq,true,q⟩) (l.drop (k+1)) from rfl,P.o,a7.o];have I:=congrArg (fun x=>x.data.toList) Q.o;simp only[Ia] at I;rw[Oi] at I;have h3:=congrArg (fun x=>x.data.toList) au.o;simp only[Ia] at h3;apply Ut;simp only[Oi,Ia,a0w];rw[<-h3,<-a0w b1.data.toList,I];simp only[a0w,a0u,a1z];rfl
         .simp only[Z];omega
      .have e4:¬(k:Int)%4=0:=(by omega)
       have ap:Hid (D9 k (E0 l k)=E0 l k):=(by unfold Hid D9;rw[if_neg h4])
       obtain⟨j,hj⟩:∃j,k=j+1:=⟨k-1,by omega⟩
       have al:j<l.length:=(by omega)
       have b7:(k:Int)-1=(j:Int):=(by omega)
       have b8:(j:Int)<(len:Int):=(by omega)
       obtain⟨p,S⟩:=Aa (l[j])
       have aj:p∈l:=(by rw[<-S];exact a0v al)
       have az:Hid (E0 l k=B7 p):=(by unfold Hid E0;rw[hj,Nat.add_sub_cancel,Y,a0x al,S];rfl)
       have a0:=X (HL.o.ok p aj);have F:Bh p=true:=List.all_eq_true.1 V.o p aj;have af:=Un F
       have ah:Nr p=bl (B7 p):=(by unfold Nr;rw[if_pos F];rfl)
       have J:=X (fun w=>Zx p w a0.o);rw[ah] at J
       obtain⟨kp,T⟩:∃kp:ByteArray,bl (B7 p)=kp:=⟨_,rfl⟩
       have bo:Hid (kp.data.toList=B7 p):=(by unfold Hid;rw[<-T,Ia])
       have bt:kp.size<=180:=(by rw[<-T,Dt];exact af)
       rw[T] at J;obtain⟨b3,o3,U,C,y⟩:=J2 HL.o al
       obtain⟨rfl,rfl⟩:b3=b1/\o3=o1:=by simpa [eq_comm] using U
       rw[S] at y;have bp:=X y;clear y S aj af T F ah U hj;obtain⟨ac,ae,ax,ab,ad,aa⟩:=p;rw[show A7 (⟨ac,ae,ax,ab,ad,aa⟩:Ac)=.agg #[.string ac,.string ae,.int .u64 ax,.int .u64 ab,.bool ad,.string aa] from rfl] at J;go_wp2_with fail;refine(aq.o _).mono ?_;rintro e b4 ⟨rfl,s⟩;have ai:=X (HF.o.trans s);clear s;obtain⟨p0,p1,p2,p3,p4,p5⟩:=bp.o _ ai.o;go_wp2_with fail;refine(J.o _).mono ?_;rintro e b0 ⟨rfl,s⟩;have a2:=X (ai.o.trans s);clear s p0 p1 p2 p3 p4 p5;go_wp2_with fail;refine(bx.o kp _ (by omega)).mono ?_;rintro e w4 ⟨rfl,s⟩;have D:=X (a2.o.trans s);clear s;have bf:=Qr kp.data.toList ky.data.toList;have P:Hid (Fg (D9 k (E0 l k)) ⟨t,u,L,seq,true,q⟩=two (Da kp ky)++two (ky.size-Da kp ky)++(ky.extract (Da kp ky) ky.size).data.toList++[On true,a0z q.size]++q.data.toList):=by
        unfold Hid Fg;rw[ap.o,az.o,<-bo.o,show B7 ⟨t,u,L,seq,true,q⟩=ky.data.toList from a8.o.symm,extract_to_end];rfl
       have bg:ky.data.toList.length=ky.size:=rfl
       have ay:Da kp ky<=ky.size:=(by unfold Da;omega)
       obtain⟨n,hn⟩:=Aa (Da kp ky);rw[hn] at ay P;rw[hn];obtain⟨m,hm⟩:=Aa (ky.size-n)
       have em:(ky.size:Int)-(n:Int)=(m:Int):=(by omega)
       obtain⟨tl,R⟩:=Aa (ky.extract n ky.size)
       have b5:tl.size<=180:=(by rw[<-R,a5z];omega)
       rw[hm,R] at P
       have br:(n:Int)<=(ky.size:Int):=(by omega)
       have be:IntKind.i64.wrap (m:Int)=(m:Int):=(by rw[a3x];omega)
       have M1:=X (fun w=>Pv n w (by omega));have M2:=X (fun w=>Pv m w (by omega));have ao:(bl (two n)).size=2:=rfl;have an:(bl (two m)).size=2:=rfl;obtain⟨b1,E⟩:=Aa (bl (two n));obtain⟨b2,G⟩:=Aa (bl (two m));rw[E] at M1 ao;rw[G] at M2 an
       have Q:Hid (b1++b2=bl (two n++two m)):=(by unfold Hid;rw[<-E,<-G,Lq])
       have bh:=R;clear hn bf bg hm R E G;have cv:=fun(w:World) (g:Nat) W=>P5 (w:=w) (g:=g) (n:=1) (m:=q.size) W (by decide) (by omega);obtain⟨b3,C⟩:=Aa (bl [a0z 1,a0z q.size])
       have bm:b3.size=2:=(by rw[<-C];rfl)
       rw[C] at cv;have CV:=X cv;have au:=X C;clear cv C q0 q1 q2 q3 q4 q5;obtain⟨q0,q1,q2,q3,q4,q5⟩:=M.o _ D.o;go_wp2_with fail;refine E3 (fun _ w'=>Fp [] w4 w') (Fp []) (by kernel_rfl) (by kernel_rfl) (Fp.drew _) ?_
       iterate 22
        apply A3 (fun _ _ h=>h) rfl rfl rfl
        .intro b a w r d K A;have:=d.f 5;have:=d.f 8;have:=d.f 7;have:=d.f 9;have:=d.f 0;have:=d.f 6;(try have:=d.e 1 61);(try have:=d.e 0 60);(try have:=d.e 2 62);(try have:=d.e 4 64);(try have:=d.e 5 65);(try have:=d.e 6 66);(try have:=d.e 7 67);(try have:=d.e 3 63);(try have:=d.e 8 68);(try have:=d.e 10 70);(try have:=d.e 11 71);(try have:=d.e 9 69);(try have:=d.e 12 72);(try have:=d.e 15 75);(try have:=d.e 16 76);(try have:=d.e 17 77);(try have:=d.e 18 78);(try have:=d.e 19 79);(try have:=d.e 20 80);obtain⟨k0,k1,k2,k3,k4,k5⟩:=M.o _ (D.o.trans r);simp only[Oper.wp,execOp];go_simp
         first
         |exact A _ r (Fp.refl _ _)
         |rw[if_neg (by first|omega|(simp only[Z];omega))]
          exact A _ r (Fp.refl _ _)
         |first
           |((with_reducible refine(M1.o _).mono ?_);rintro e w2 ⟨rfl,s⟩;exact A _ (r.trans s) s)
           |((with_reducible refine(M2.o _).mono ?_);rintro e w2 ⟨rfl,s⟩;exact A _ (r.trans s) s)
       apply Hi (fun w' v=>∃g,v=.slice (some ⟨g,0,none⟩) 2 2/\w'.heap[g]?=some (.cells #[.int .u8 1,.int .u8 q.size] 5 (0,0))) rfl rfl rfl
       .intro b a w r d K A;have bk:=d.e 14 74;have bj:=d.e 21 81;simp only[Oper.wp,execOp];go_simp;exact A _ _ (r.alloc' _) (Fp.alloc _ _) ⟨_,rfl,Ai rfl _⟩
       apply A3 (fun _ _ h=>h) rfl rfl rfl
       .intro b a w r d K A;have N:=d.dep 22 82 _ (by kernel_rfl) rfl;obtain⟨g,N,W⟩:=N;have bi:=CV.o _ _ W;simp only[Oper.wp,execOp];go_simp;exact A _ r (Fp.refl _ _)
       iterate 8
        apply A3 (fun _ _ h=>h) rfl rfl rfl
        .intro b a w r d K A;(try have:=d.e 13 73);(try have:=d.e 23 83);have:=d.f 0;have:=d.f 6;(try have:=d.e 25 85);(try have:=d.e 26 86);(try have:=d.e 27 87);(try have:=d.e 28 88);(try have:=d.e 24 84);(try have:=d.e 29 89);(try have:=d.e 30 90);obtain⟨k0,k1,k2,k3,k4,k5⟩:=M.o _ (D.o.trans r);simp only[Oper.wp,execOp];go_simp
         first
         |exact A _ r (Fp.refl _ _)
         |rw[if_neg (by first|omega|(simp only[Z];omega))]
          exact A _ r (Fp.refl _ _)
       refine⟨?_,?_⟩
       .repeat(first|exact trivial|refine Cb _ ?_ |refine⟨fun w1 w2 v s ⟨g,h1,h2⟩=>⟨g,h1,(s.block g (Ae h2) (by simp)).trans h2⟩,?_⟩)
       .intro w' bb r U;simp only[a2x,a2w,a1z,a0u]
        iterate 22 (refine A2 ?_)
        refine As ?_;intro bd u22
        iterate 9 (refine A2 ?_)
        refine C7 ?_;simp only[Aj,Act.put,a1x,a1v,a1u];have ar:=X (D.o.trans r);clear r;go_wp2_with fail
        go_roundg (len-(k+1))
        case measure=>omega
        case rel=>
         refine⟨k+1,_,by omega,by simp,rfl,ar.o,?_,?_⟩
         .rw[a1.o,HD.o,show Ef k (E0 l k) (⟨t,u,L,seq,true,q⟩::l.drop (k+1))=Fg (D9 k (E0 l k)) ⟨t,u,L,seq,true,q⟩++Ef (k+1) (B7 ⟨t,u,L,seq,true,q⟩) (l.drop (k+1)) from rfl,P.o,a7.o];have I:=congrArg (fun x=>x.data.toList) Q.o;simp only[Ia] at I;rw[Oi] at I;have h3:=congrArg (fun x=>x.data.toList) au.o;simp only[Ia] at h3;apply Ut;simp only[Oi,Ia,a0w];rw[<-h3,<-a0w b1.data.toList,I];simp only[a0w,a0u,a1z];rfl
         .simp only[Z];omega
    .have ag:¬(k:Int)<(len:Int):=(by omega)
     have HD:Hid (l.drop k=[]):=List.drop_eq_nil_of_le (by rw[<-O.o];omega);go_wp2_with fail;go_ret2;rw[HR.o,a1.o,HD.o];refine⟨?_,HF.o⟩;have e:acc++bl (Ef k (E0 l k) [])=acc:=by
      apply Ut;rw[Oi];show acc.data.toList++[]=_;rw[List.append_nil]
     rw[e];rfl
end
section
open Go.RowKit Go.Lib
theorem eY(x y:List UInt8)(n:Nat)(h:n=x.length):(bl (x++y)).extract 0 n=bl x:=by
 rw[Z4,List.drop_zero,Nat.sub_zero,h,List.take_left]
theorem Zg(x y:List UInt8)(n:Nat)(h:n=x.length):(bl (x++y)).extract n (bl (x++y)).size=bl y:=by
 rw[tD,h,List.drop_left]
theorem rV(x y z:List UInt8)(n m:Nat)(h:n=x.length)(a:m=x.length+y.length):(bl (x++(y++z))).extract n m=bl y:=by
 rw[Z4,h,List.drop_left,a,Nat.add_sub_cancel_left,List.take_left]
theorem eZ{l:List Ac}(h:(Ec l).2=0):l.length≤255∧l.all Bh=true∧risC l=true∧(Ec l).1=bl (a0z l.length::Ef 0 [] l):=by
 unfold Ec at h ⊢;split at h
 .cases h
 .split at h
  .cases h
  .split at h
   .cases h
   .rename_i c b a;rw[if_neg c,if_neg b,if_neg a];exact⟨by omega,by simpa using b,by simpa using a,rfl⟩
end
section
open Go.RowKit Go.Lib
theorem fA:∀(l:List Ac) (i:Nat) (last:List UInt8),l.all Bh=true→(Ef i last l).length≤286*l.length
 |[],_,_,_=>a3z _
 |c::r,i,last,h=>by
  rw[List.all_cons,a3w] at h;unfold Ef;have k:=fA r (i+1) (B7 c) h.2;have j:=Un h.1;have g:=(Rz h.1).2.2;have d:(Fg (D9 i last) c).length<=286:=by
   unfold Fg;simp only[a1w,a2v,a3v,List.length_nil];have a:∀n,(two n).length=2:=fun _=>rfl;have b:c.val.data.toList.length=c.val.size:=rfl;rw[a,a,b];omega
  rw[a1w,a3v];omega
theorem Zh{l:List Ac}:(Ec l).1.size≤80000:=by
 by_cases a:(Ec l).2=0
 .obtain⟨c,b,_,d⟩:=eZ a;rw[d,Dt,a3v];have:=fA l 0 [] b;omega
 .unfold Ec at a ⊢;split
  .exact a4z _
  .split
   .exact a4z _
   .split
    .exact a4z _
    .rename_i c b g;rw[if_neg c,if_neg b,if_neg g] at a;exact absurd rfl a
end
section
open Go.RowKit
def Px(w w':World):Prop:=∀(k:Nat) (cs:Array Value) (T:TypeId),T≠5->w.heap[k]?=some (Obj.cells cs T (0,0))->w'.heap[k]?=some (Obj.cells cs T (0,0))
theorem Px.refl(w:World):Px w w:=fun _ _ _ _ h=>h
theorem Px.alloc(w:World)(o:Obj):Px w (w.alloc o):=fun _ _ _ _ h=>Dy h
theorem Px.freeze{w:World}{g:Nat}{c:Array Value}{i:Nat × Nat}(d:w.heap[g]?=some (.cells c 5 i))(n:Nat):Px w (w.freeze ⟨g,0,none⟩ n):=by
 intro k j T h b;have a:g≠k:=fun e=>by
  subst e;rw[d] at b;cases b;exact h rfl
 rw[<-b];unfold World.freeze;split
 .rfl
 .simp[Array.getElem?_modify,a]
theorem rW{T:TypeId}(B b:Nat)(l:List UInt8)(w:World)(h:D5 T B b l w):
  Calls Tryz.prog 72 #[.pointer (some ⟨b,0,none⟩)] w fun e w'=>e=.returned (.string ⟨l.toArray⟩)/\Below B w w'/\Px w w':=by
 obtain⟨p,P,v,a,c,E⟩:=h.at;have A:=h.le;rw[Lib.byteCells_length] at c;have s:=Ae a;rcases c.2 with⟨rfl,L⟩|⟨g,cap,d,rfl,z,u,F,y,J,r⟩
 .have:l=[]:=a2z L;subst this;have q:=Ww
  have C:w.drew.cell? ⟨b,1,none⟩=some (.slice none 0 0):=by rw[Lib.cell_of_heap (w:=w.drew) a];rfl
  have n:(Builtin.unsafeSliceData_ #[113] 197 #[.slice none 0 0]).run Tryz.prog w.drew=.ok (.pointer none) w.drew:=rfl;go_in;go_wp2
  go_region
  all_goals(go_wp2;go_ret;exact⟨rfl,Below.drew (Below.refl B w),fun _ _ _ _ h=>h⟩)
 .by_cases t:l=[]
  .subst t;have q:=Ww;by_cases m:cap=0
   .subst m
    have O:w.cell? ⟨b,1,none⟩=some (.slice (some ⟨g,0,none⟩) 0 0):=(by rw[Lib.cell_of_heap a];rfl)
    have C:w.drew.cell? ⟨b,1,none⟩=some (.slice (some ⟨g,0,none⟩) 0 0):=O
    have n:(Builtin.unsafeSliceData_ #[113] 197 #[.slice (some ⟨g,0,none⟩) 0 0]).run Tryz.prog w.drew=.ok (.pointer (some ⟨w.drew.heap.size,0,none⟩)) (w.drew.alloc (.view ⟨g,0,none⟩ 5)):=
     Lib.run_unsafeSliceData_zero w.drew _ _ 5 Tryz.underlying197 ⟨g,0,none⟩ 0 (5,d.size) (by have i:w.drew.heap[g]?=some (.cells d 5 (0,0)):=u;simp[World.shape?,i])
    have N:(w.drew.alloc (.view ⟨g,0,none⟩ 5)).cell? ⟨b,1,none⟩=some (.slice (some ⟨g,0,none⟩) 0 0):=by
     rw[Lib.cell_of_heap ((Lib.alloc_old w.drew _ b s).trans a)];rfl
    have Q:(w.alloc (.view ⟨g,0,none⟩ 5)).drew.cell? ⟨b,1,none⟩=some (.slice (some ⟨g,0,none⟩) 0 0):=N;go_in;go_wp2
    go_region
    all_goals(go_wp2;go_ret;exact⟨rfl,(Below.drew (Below.refl B w)).alloc A _,fun _ _ _ _ h=>Dy (w:=w) h⟩)
   .have C:w.drew.cell? ⟨b,1,none⟩=some (.slice (some ⟨g,0,none⟩) 0 cap):=(by rw[Lib.cell_of_heap (w:=w.drew) a];rfl)
    have n:(Builtin.unsafeSliceData_ #[113] 197 #[.slice (some ⟨g,0,none⟩) 0 cap]).run Tryz.prog w.drew=.ok (.pointer (some ⟨g,0,none⟩)) w.drew:=
     Lib.run_unsafeSliceData_row _ _ _ _ _ _ m
    clear m;go_in;go_wp2
    go_region
    all_goals(go_wp2;go_ret;exact⟨rfl,Below.drew (Below.refl B w),fun _ _ _ _ h=>h⟩)
  .have G:l.length≠0:=fun e=>t (a2z e)
   have C:w.drew.cell? ⟨b,1,none⟩=some (.slice (some ⟨g,0,none⟩) l.length cap):=(by rw[Lib.cell_of_heap (w:=w.drew) a];rfl)
   have n:(Builtin.unsafeSliceData_ #[113] 197 #[.slice (some ⟨g,0,none⟩) l.length cap]).run Tryz.prog w.drew=.ok (.pointer (some ⟨g,0,none⟩)) w.drew:=
    Lib.run_unsafeSliceData_row _ _ _ _ _ _ (by omega)
   have q:(Builtin.unsafeString_ #[197,3] 9 #[.pointer (some ⟨g,0,none⟩),.int .i64 l.length]).run Tryz.prog w.drew=.ok (.string ⟨l.toArray⟩) (w.drew.freeze ⟨g,0,none⟩ l.length):=by
    refine Lib.run_unsafeString_row w.drew 197 3 9 5 Tryz.underlying197 Tryz.cellsB g d.size (by have i:w.drew.heap[g]?=some (.cells d 5 (0,0)):=u;simp[World.shape?,i]) l t (by omega) (by unfold maxLen at y;omega) ?_;intro j x D;exact c.cells (g:=g) rfl j (.int .u8 x.toNat) (by simp[Lib.byteCells,D])
   go_in;go_wp2
   go_region
   all_goals(go_wp2;go_ret;exact⟨rfl,Lib.below_freeze (Below.drew (Below.refl B w)) (p:=⟨g,0,none⟩) z _,fun k M T K I=>Px.freeze (w:=w.drew) u _ k M T K I⟩)
end
section
open Go.RowKit
def Em(l:List Ac):Nat:=(l.length+7)/8
def Es(l:List Ac)(k:Nat):List Ac:=(l.drop (8*k)).take 8
def K1(l:List Ac)(k:Nat):ByteArray:=Gz (Ec (Es l k)).1
def D2(l:List Ac):Nat->Nat
 |0=>0
 |k+1=>if D2 l k≠0 then D2 l k else(Ec (Es l k)).2
def G5(l:List Ac)(k:Nat):List UInt8:=(List.range k).flatMap fun j=>(K1 l j).data.toList
def Fh(l:List Ac):Nat->ByteArray
 |0=>C6 (Em l) 2
 |k+1=>Fh l k++C6 (K1 l k).size 4
def Wm(l:List Ac):ByteArray:=bl (G5 l (Em l))
def Jd(l:List Ac):ByteArray:=Gz (Fh l (Em l))
def Kt(l:List Ac):ByteArray:=Gz (Hy (En l))
def Jw(l:List Ac)(seq:Nat):Hn:=⟨(G5 l (Em l)).length,(Jd l).size,(Kt l).size,seq⟩
def Jy(l:List Ac)(seq:Nat):ByteArray:=Wm l++Jd l++Kt l++Gz (Jw l seq).text
def F7(l:List Ac)(seq:Nat):ByteArray × Nat:=
 if l.length>2000 then(⟨#[]⟩,71) else if l.length=0 then(⟨#[]⟩,1) else if D2 l (Em l)≠0 then(⟨#[]⟩,D2 l (Em l)) else if risC l=false then(⟨#[]⟩,40) else(Jy l seq,0)
theorem fB{l:List Ac}{k:Nat}(h:D2 l k≠0):∀m,k≤m→D2 l m=D2 l k
 |0,hm=>by obtain rfl:k=0:=by omega
           rfl
 |m+1,hm=>by
  by_cases e:k=m+1
  .rw[e]
  .have a:=fB h m (by omega);show(if D2 l m≠0 then D2 l m else _)=_;rw[a,if_pos h]
theorem fC{l:List Ac}{k m:Nat}(c:D2 l k=0)(h:(Ec (Es l k)).2≠0)(b:k<m):D2 l m=(Ec (Es l k)).2:=by
 have a:D2 l (k+1)=(Ec (Es l k)).2:=by show(if D2 l k≠0 then D2 l k else _)=_;rw[if_neg (by simp[c])]
 rw[fB (k:=k+1) (by rw[a];exact h) m b,a]
theorem Zi{l:List Ac}{k:Nat}(a:D2 l k=0)(h:(Ec (Es l k)).2=0):D2 l (k+1)=0:=by
 show(if D2 l k≠0 then D2 l k else _)=_;rw[if_neg (by simp[a]),h]
theorem Zj(l:List Ac)(k:Nat):G5 l (k+1)=G5 l k++(K1 l k).data.toList:=by
 unfold G5;rw[List.range_succ,List.flatMap_append];simp
theorem rX(l:List Ac)(k:Nat):(Es l k).length=min 8 (l.length-8*k):=by
 unfold Es;rw[a4w,a2v]
theorem fD{w:World}{b o len:Nat}{l:List Ac}{k:Nat}(h:Ba w (some ⟨b,o,none⟩) len l)(g:8*k<len):Ba w (some ⟨b,o+8*k*6,none⟩) (min 8 (len-8*k)) (Es l k):=by
 have c:=h.drop (8*k) (len-8*k) (by omega);have a:=c.take (min 8 (len-8*k)) (by omega);unfold Es;have d:=h.len;by_cases e:len-8*k<=8
 .rw[a5x (by rw[a2v];omega)];rw[a5x (by rw[a2v];omega)] at a;exact a
 .rw[Nat.min_eq_left (by omega)] at a ⊢;exact a
theorem Qq(s:ByteArray):(Gz s).size<=6+s.size:=by
 unfold Gz I1;split
 .show 0<=_;omega
 .exact Nat.le_of_eq (eS s)
theorem Zk(l:List Ac)(k:Nat):(K1 l k).size<=80006:=by
 have b:=Qq (Ec (Es l k)).1;have a:=Zh (l:=Es l k);unfold K1;omega
theorem R4(l:List Ac):∀k,(G5 l k).length≤80006*k
 |0=>a3z _
 |k+1=>by
  rw[Zj,a1w];have c:=R4 l k;have b:=Zk l k;have a:(K1 l k).data.toList.length=(K1 l k).size:=rfl;omega
theorem R5(l:List Ac):∀k,(Fh l k).size=2+4*k
 |0=>by show(C6 _ 2).size=_;rw[Ir]
 |k+1=>by
  show(Fh l k++C6 _ 4).size=_;rw[Z,R5 l k,Ir];omega
theorem G0.get{w:World}{base:Nat}{v:Value}{a:List Value}(h:G0 w base v a){k:Nat}(r:k<a.length):∃g cap,v=.slice (some ⟨g,0,none⟩) a.length cap∧base≤g∧g<w.heap.size∧∀i (c:i<a.length),w.cell? ⟨g,i,none⟩=some a[i]:=by
 rcases h.2 with⟨_,s⟩|⟨g,cap,b,e,m,d,p,q,n,l⟩
 .omega
 .refine⟨g,cap,e,m,Ae d,fun i c=>?_⟩
  have j:(b.toList.take (a.length*1))[i]?=a[i]?:=by rw[l]
  rw[List.getElem?_take,if_pos (by omega),a0x c,Array.getElem?_toList] at j;rw[Ab d,j]
theorem rY{len k:Nat}(h:k<(Fz len).length):(Fz len)[k]=(8*k,min 8 (len-8*k)):=by simp[Fz]
theorem fE{l:List Ac}:∀{m:Nat},D2 l m=0→∀k,k<m→(Ec (Es l k)).2=0
 |0,_,k,hk=>absurd hk (Nat.not_lt_zero _)
 |m+1,h,k,hk=>by
  by_cases a:D2 l m=0
  .have b:(Ec (Es l m)).2=0:=by
    have:D2 l (m+1)=(Ec (Es l m)).2:=(by show(if D2 l m≠0 then D2 l m else _)=_;rw[if_neg (by simp[a])])
    rw[<-this];exact h
   by_cases e:k=m
   .rw[e];exact b
   .exact fE a k (by omega)
  .have:D2 l (m+1)=D2 l m:=(by show(if D2 l m≠0 then D2 l m else _)=_;rw[if_pos a])
   rw[this] at h;exact absurd h a
theorem fF{l:List Ac}(h:D2 l (Em l)=0):∀c∈l,Bh c=true:=by
 intro c j;obtain⟨i,g,rfl⟩:=List.getElem_of_mem j;have b:=(eZ (fE h (i/8) (by unfold Em;omega))).2.1;rw[a4x] at b;apply b
 have a:i%8<(Es l (i/8)).length:=by rw[rX];omega
 have d:(Es l (i/8))[i%8]?=l[i]?:=by
  unfold Es;rw[List.getElem?_take,if_pos (Nat.mod_lt _ (by decide)),List.getElem?_drop];congr 1;omega
 have e:(Es l (i/8))[i%8]=l[i]:=by
  rw[a0x a,a0x g] at d;exact Option.some.inj d
 rw[<-e];exact a0v a
theorem fG{l:List Ac}{s:ByteArray}(h:s∈En l):∃c∈l,c.row=s:=by
 unfold En Ny at h;obtain⟨j,b,rfl⟩:=List.mem_map.1 h;have a:=List.mem_range.1 (List.mem_filter.1 b).1;refine⟨l.getD j Aq,?_,rfl⟩;rw[Y,a0x a];exact a0v a
theorem Zl(names:List ByteArray):(Hy names).size=Nz names.length:=by
 unfold Hy;rw[Dt,X7]
structure Jz(w1:World)(bf:Nat)(f:Hn)(bs:List UInt8)(done:Bool)(w':World):Prop where
 fp:Fp [] w1 w'
 box:w'.heap[bf]?=some (.cells #[.int .i64 f.blocks,.int .i64 f.index,.int .i64 f.filter,.int .u64 f.seq] 144 (0,0))
 bu:done=false->D5 131 w1.heap.size w1.heap.size bs w'
def CJ(w1:World)(bf:Nat)(f:Hn)(bs:List UInt8)(b:Nat->Bool)(w':World):Prop:=Jz w1 bf f bs (b 0) w'
theorem Jz.on{b A B:World}{g:Nat}{f:Hn}{c:List UInt8}{d:Bool}(h:Jz b g f c d A)(a:Fp [] A B):Jz b g f c d B:=
 ⟨h.fp.trans a,(a.block _ (Ae h.box) (by simp)).trans h.box,fun e=>(h.bu e).fp a⟩
theorem CJ.bu{a w':World}{g:Nat}{f:Hn}{c:List UInt8}{b:Nat->Bool}(h:CJ a g f c b w')(d:b 0=false):D5 131 a.heap.size a.heap.size c w':=Jz.bu h d
theorem CJ.fp{a w':World}{d:Nat}{f:Hn}{c:List UInt8}{b:Nat->Bool}(h:CJ a d f c b w'):Fp [] a w':=Jz.fp h
theorem Zm:liesAt Tryz.prog Tryz.prog.depth 131 (2/Tryz.prog.cellsOf 131) 0 131 1=true:=by kernel_rfl
theorem rZ(w:World)(a:Option Addr)(len cap:Nat)(l:List Ac)(seq:Nat)(I:Ba w a len l)(b7:len≤cap)(cc:len≤1000000000)(hq:seq<18446744073709551616)(hm:M5 w)(R:Dp w):
  Calls Tryz.prog 51 #[.slice a len cap,.int .u64 seq] w fun e w'=>e=.returned (.tuple #[.string (F7 l seq).1,.int .i64 ((F7 l seq).2:Nat)])/\Fp [] w w':=by
 have HL:=X I;have ck:=X I.len;have HM:=X hm;have HT:=X R;by_cases h1:len>2000
 .have hb:F7 l seq=(⟨#[]⟩,71):=if_pos (by rw[<-I.len];exact h1);rw[hb]
  have z:(len:Int)>2000:=by omega
  clear I hm R hb;go_in;go_wp2_with fail;go_ret2;exact⟨rfl,Fp.refl _ _⟩
 by_cases h2:len=0
 .have hb:F7 l seq=(⟨#[]⟩,1):=by unfold F7;rw[if_neg (by rw[<-I.len];exact h1),if_pos (by rw[<-I.len];exact h2)]
  rw[hb];subst h2;clear I hm R hb;go_in;go_wp2_with fail;go_ret2;exact⟨rfl,Fp.refl _ _⟩
 have hb:F7 l seq=if D2 l (Em l)≠0 then(⟨#[]⟩,D2 l (Em l)) else if risC l=false then(⟨#[]⟩,40) else(Jy l seq,0):=by
  unfold F7;rw[if_neg (by rw[<-I.len];exact h1),if_neg (by rw[<-I.len];exact h2)]
 have HB:=X hb
 have y1:¬(len:Int)>2000:=by omega
 have y2:((len:Int)==0)=false:=by rw[beq_eq_false_iff_ne];omega
 obtain⟨b,o,rfl⟩:∃b o,a=some ⟨b,o,none⟩:=by
  rcases I.cells with h0|⟨b,o,e,_⟩
  .rw[h0] at I;have:=I.len;simp at this;omega
  .exact⟨b,o,e⟩
 obtain⟨m,L⟩:=Aa (Em l)
 have bh:m=(len+7)/8:=by rw[<-L,Em,I.len]
 have cj:=X bh
 have cw:8*m<len+8:=by omega
 have cv:len<=8*m:=by omega
 have i:=X L;have bt:=X (fun w=>Adh w b o len cap b7 cc);clear I hm R hb L bh;go_in;go_wp2_with fail;refine(bt.o _).mono ?_;rintro e G ⟨v1,rfl,bg,bm⟩
 have ai:((Fz len).map (Na b o)).length=m:=by rw[a4u,Vy,cj.o]
 obtain⟨g1,c1,rfl,c0,bj,bn⟩:=bg.get (k:=0) (by rw[ai];omega);rw[ai];have cq:Hid (∀k,k<m->G.cell? ⟨g1,k,none⟩=some (.slice (some ⟨b,o+8*k*6,none⟩) (min 8 (len-8*k)) (min 8 (len-8*k)))):=by
  intro k hk;have h:=bn k (by rw[ai];exact hk);rw[a4v,rY] at h;exact h
 have d:=X bm;have bp:=D5.fresh 131 G;have cr:=X bp
 have u1:IntKind.u64.wrap (m:Int)=(m:Int):=by rw[IntKind.wrap_u64];omega
 have cl:=X (fun w n (h:n<18446744073709551616)=>Rn w n 2 h (by decide));have bw:Hid (∀w,Calls Tryz.prog 90 #[.int .u64 m,.int .i64 2] w fun e w'=>e=.returned (.string (Fh l 0))/\Fp [] w w'):=by
  intro w;rw[show Fh l 0=C6 m 2 from by show C6 (Em l) 2=_;rw[i.o]];exact Rn w m 2 (by omega) (by decide)
 clear bp bn bg bm cl bt;go_wp2_with fail;refine(bw.o _).mono ?_;rintro e w2 ⟨rfl,T⟩;have c2:=X (d.o.trans ((Fp.alloc G (.cells #[.pointer none,.slice none 0 0] 131)).trans T (by simp)));have bx:=X ((Fp.alloc G (.cells #[.pointer none,.slice none 0 0] 131)).trans T);have ct:=X (cr.o.fp T);clear T bw;go_wp2_with fail
 go_loopg [8,34] m (fun g vi vk wr=>∃k:Nat,g+k=m/\vi=.string (Fh l k)/\vk=.int .i64 k/\D5 131 G.heap.size G.heap.size (G5 l k) wr/\Fp [] G wr/\D2 l k=0)
 case atStart=>exact⟨0,by omega,rfl,rfl,ct.o,bx.o,rfl⟩
 case round=>
  obtain⟨k,hg,rfl,rfl,bo,hf,he⟩:=hrel;have b3:=X bo;have HF:=X hf;have HE:=X he;clear bo hf he;by_cases hk:k<m
  .have zk:(k:Int)<(m:Int):=(by omega)
   have q0:wr.cell? ⟨g1,k,none⟩=some (.slice (some ⟨b,o+8*k*6,none⟩) (min 8 (len-8*k)) (min 8 (len-8*k))):=(HF.o.cell (p:=⟨g1,k,none⟩) bj (by simp)).trans (cq.o k hk);have ax:=X (rC wr (some ⟨b,o+8*k*6,none⟩) (min 8 (len-8*k)) (min 8 (len-8*k)) (Es l k) (fD (HL.o.fp (d.o.trans HF.o)) (by omega)) (by omega) (HM.o.fp (d.o.trans HF.o (by simp))));have b0:=X (fun h=>fC (m:=Em l) HE.o h (by rw[i.o];exact hk));have bz:=X (fun h=>Zi HE.o h);have au:Hid (K1 l k=Gz (Ec (Es l k)).1):=rfl;have ao:=Zh (l:=Es l k)
   obtain⟨⟨s,e⟩,a9⟩:∃t,Ec (Es l k)=t:=⟨_,rfl⟩
   rw[a9] at ax b0 bz au ao;obtain⟨mm,L⟩:=Aa (min 8 (len-8*k));rw[L] at q0 ax;clear a9 L;go_wp2_with fail;refine ax.o.mono ?_;rintro U w3 ⟨rfl,A⟩;have a2:=X (b3.o.fp A);have E:=X (HF.o.trans A);clear A;by_cases he:e=0
   .subst he;have cp:=X (bz.o rfl);have av:=X (Yn s w3 (by omega) (HT.o.fp (d.o.trans E.o (by simp))));rw[<-au.o] at av;have b5:=Zk l k;have b2:=X (Zj l k);have aa:Hid (Fh l (k+1)=Fh l k++C6 (K1 l k).size 4):=rfl;have ak:=R5 l k;have ap:=R4 l k;obtain⟨q,ah⟩:=Aa (K1 l k);rw[ah] at av b5 b2 aa;obtain⟨ix,v⟩:=Aa (Fh l k);rw[v] at aa ak;rw[v];clear ah v au;go_wp2_with fail;refine av.o.mono ?_;rintro U w4 ⟨rfl,y⟩;have a1:=X (a2.o.fp y);have ae:=X (E.o.trans y);clear y;go_wp2_with fail;refine(Wv Zm (by decide) G.heap.size G.heap.size (G5 l k) q w4 a1.o (by omega)).mono ?_;rintro U w5 ⟨rfl,br,M⟩;have af:=X br;have ad:=X (ae.o.bfp M (a3z _))
    have u2:IntKind.u64.wrap (q.size:Int)=(q.size:Int):=(by rw[IntKind.wrap_u64];omega)
    have bv:Hid (∀w,Calls Tryz.prog 90 #[.int .u64 q.size,.int .i64 4] w fun e w'=>e=.returned (.string (C6 q.size 4))/\Fp [] w w'):=fun w=>Rn w q.size 4 (by omega) (by decide);have b6:=Ir q.size 4;obtain⟨le,bi⟩:=Aa (C6 q.size 4);rw[bi] at bv b6 aa
    have zl:¬ix.size+4>9223372036854775807:=(by omega)
    clear br M bi;go_wp2_with fail;refine(bv.o _).mono ?_;rintro U w6 ⟨rfl,x⟩;have a0:=X (af.o.fp x);have ac:=X (ad.o.trans x);clear x;go_wp2_with fail
    go_roundg (gk-1)
    case measure=>omega
    case rel=>exact⟨k+1,by omega,by rw[aa.o],by simp,by rw[b2.o];exact a0.o,ac.o,cp.o⟩
   .have ze:((e:Int)!=0)=true:=(by rw[bne_iff_ne];omega)
    have r:=HB.o;rw[i.o] at r;have an:=b0.o he;rw[i.o] at an;rw[an,if_pos he] at r;have Q:=X r;clear r an;go_wp2_with fail;go_ret2;exact⟨by rw[Q.o];rfl,d.o.trans E.o⟩
  .obtain rfl:k=m:=by omega
   have zk:¬(k:Int)<(k:Int):=(by omega)
   have r:=HB.o;rw[i.o,HE.o,if_neg (by decide)] at r;have HB2':=X r;have ch:=X (W8 wr (some ⟨b,o,none⟩) len cap l (HL.o.fp (d.o.trans HF.o)) (by omega));clear r;go_wp2_with fail;refine ch.o.mono ?_;rintro U w3 ⟨rfl,A⟩;have a2:=X (b3.o.fp A);have E:=X (HF.o.trans A);clear A;by_cases J:risC l=false
   .have B:=HB2'.o;rw[if_pos J] at B;have Q:=X B;rw[J];clear B J;go_wp2_with fail;go_ret2;exact⟨by rw[Q.o];rfl,d.o.trans E.o⟩
   .have ag:risC l=true:=(by simpa using J)
    have B:=HB2'.o;rw[if_neg J] at B;have Q:=X B;rw[ag];clear B J ag;have cg:=X (Aaa w3 (some ⟨b,o,none⟩) len cap l (HL.o.fp (d.o.trans E.o)) (by omega));go_wp2_with fail;refine cg.o.mono ?_;rintro U w4 ⟨v4,rfl,bf,y⟩;have a1:=X (a2.o.fp y);have ae:=X (E.o.trans y)
    have be:(En l).length<=2000:=by have h1:=X6 l l.length;have h2:=ck.o;unfold En;omega
    have ao:=Zl (En l)
    have cd:Nz (En l).length<=3000:=(by unfold Nz;omega)
    have ci:=X (Aaj w4 v4 w3.heap.size (En l) bf be (by
     intro s hs;obtain⟨c,hc,rfl⟩:=fG hs;have:=(Rz (fF (by rw[i.o];exact HE.o) c hc)).1
     omega) (HT.o.fp (d.o.trans ae.o (by simp))))
    clear y bf be;go_wp2_with fail;refine ci.o.mono ?_;rintro U w5 ⟨rfl,M⟩;have af:=X (a1.o.fp M);have ad:=X (ae.o.trans M)
    have ay:Hid (Jd l=Gz (Fh l k)):=(by unfold Hid Jd;rw[i.o])
    have az:Hid (Kt l=Gz (Hy (En l))):=rfl;have ak:=R5 l k;have bd:=Qq (Fh l k);have bc:=Qq (Hy (En l));have W:=X (fun w R=>Yn (Fh l k) w (by omega) R);have V:=X (fun w R=>Yn (Hy (En l)) w (by omega) R)
    have b8:(Jd l).size<=10000:=(by rw[ay.o];omega)
    have b9:(Kt l).size<=10000:=(by rw[az.o];omega)
    have ab:Hid (Jw l seq=⟨(G5 l k).length,(Jd l).size,(Kt l).size,seq⟩):=(by unfold Hid Jw;rw[i.o])
    have j:Hid (Jy l seq=bl (G5 l k)++Jd l++Kt l++Gz (Jw l seq).text):=(by unfold Hid Jy Wm;rw[i.o])
    rw[<-ay.o] at W;rw[<-az.o] at V;obtain⟨ix,v⟩:=Aa (Fh l k);rw[v] at W;rw[v];obtain⟨fl,al⟩:=Aa (Hy (En l));rw[al] at V;rw[al];have ap:=R4 l k;obtain⟨u,a5⟩:=Aa (Jd l);rw[a5] at W b8 ab j;obtain⟨F,a4⟩:=Aa (Kt l);rw[a4] at V b9 ab j;rw[ab.o] at j;obtain⟨bs,P⟩:=Aa (G5 l k);rw[P] at af ap j;clear M v al a5 a4 P ao cd ak bd bc ab ay az;go_wp2_with fail;refine(W.o _ (HT.o.fp (d.o.trans ad.o (by simp)))).mono ?_;rintro U w6 ⟨rfl,x⟩;have a0:=X (af.o.fp x);have ac:=X (ad.o.trans x);clear x;go_wp2_with fail;refine(V.o _ (HT.o.fp (d.o.trans ac.o (by simp)))).mono ?_;rintro U w7 ⟨rfl,am⟩;have b4:=X (a0.o.fp am);have co:=X (ac.o.trans am);clear am;go_wp2_with fail;refine(Tryz.Builder_Len G.heap.size G.heap.size (Lib.byteCells bs) w7 (by have h:=b4.o;unfold D5 at h;exact h)).mono ?_;rintro U w8 ⟨rfl,rfl⟩;rw[Lib.byteCells_length];obtain⟨nb,aj⟩:=Aa bs.length;rw[aj] at j ⊢
    have cu:nb<=160012000:=(by omega)
    go_wp2_with fail;have O:(w8.alloc (.cells #[.int .i64 nb,.int .i64 u.size,.int .i64 F.size,.int .u64 seq] 144)).heap[w8.heap.size]?=some (.cells #[.int .i64 nb,.int .i64 u.size,.int .i64 F.size,.int .u64 seq] 144 (0,0)):=Ai rfl _;have N:=co.o.alloc' (.cells #[.int .i64 nb,.int .i64 u.size,.int .i64 F.size,.int .u64 seq] 144);have aq:=b4.o.fp (Fp.alloc w8 (.cells #[.int .i64 nb,.int .i64 u.size,.int .i64 F.size,.int .u64 seq] 144));obtain⟨w9,a7⟩:=Aa (w8.alloc (.cells #[.int .i64 nb,.int .i64 u.size,.int .i64 F.size,.int .u64 seq] 144));rw[a7] at O N aq ⊢;have b1:=X O;have cn:=X N;have cs:=X aq;have bk:(Hn.text ⟨nb,u.size,F.size,seq⟩).size=20:=by
     unfold Hn.text;simp only[Z,Ir]
    have ba:=Qq (Hn.text ⟨nb,u.size,F.size,seq⟩);have ar:=X (fun w=>Adc ⟨nb,u.size,F.size,seq⟩ w (by show nb<=_;omega) (by show u.size<=_;omega) (by show F.size<=_;omega) hq);have aw:=X (fun w R=>Yn (Hn.text ⟨nb,u.size,F.size,seq⟩) w (by omega) R);simp only[cZ] at ar;obtain⟨tx,a8⟩:=Aa (Hn.text ⟨nb,u.size,F.size,seq⟩);rw[a8] at ar aw bk ba j;obtain⟨x4,a3⟩:=Aa (Gz tx);rw[a3] at aw ba j;obtain⟨x1,S⟩:=Aa (bl bs)
    have a6:x1.size=nb:=(by rw[<-S,Dt,aj])
    have cf:Hid ((⟨bs.toArray⟩:ByteArray)=x1):=S;rw[S] at j
    have cz:¬x1.size+u.size>9223372036854775807:=(by omega)
    have cy:¬x1.size+u.size+F.size>9223372036854775807:=(by omega)
    have cx:¬x1.size+u.size+F.size+x4.size>9223372036854775807:=(by omega)
    clear O N aq a7 a8 a3 S a6 aj ap;refine E3 (CJ G w8.heap.size ⟨nb,u.size,F.size,seq⟩ bs) (fun _ _=>True) (by kernel_rfl) (by kernel_rfl) ⟨cn.o.drew',((Fp.drew w9).block _ (Ae b1.o) (by simp)).trans b1.o,fun _=>cs.o.fp (Fp.drew w9)⟩ ?_;apply Hi (Cc (.string x1)) rfl rfl rfl
    .intro b a w C D K hK;have h7:=D.f 7;simp only[Oper.wp,execOp];go_simp;refine(rW G.heap.size G.heap.size bs w (C.bu D.self)).mono ?_;rintro e w2 ⟨rfl,bq,hk⟩;rw[cf.o];exact hK _ _ ⟨(Jz.fp C).belowTrans bq,hk _ _ _ (by decide) (Jz.box C),fun h=>by cases h⟩ trivial rfl
    iterate 10
     apply A3 (fun _ _ h=>h) rfl rfl rfl
     .intro b a w C D K hK;have:=D.f 8;(try have:=D.e 0 81);have:=D.f 15;have:=D.f 17;(try have:=D.e 1 82);(try have:=D.e 2 83);(try have:=D.e 3 84);(try have:=D.e 5 86);(try have:=D.e 6 87);(try have:=D.e 4 85);(try have:=D.e 7 88);(try have:=D.e 8 89);have q0:=Ab (Jz.box C) 0;have q1:=Ab (Jz.box C) 1;have q2:=Ab (Jz.box C) 2;have q3:=Ab (Jz.box C) 3;simp only[List.getElem?_toArray,List.getElem?_cons_succ,List.getElem?_cons_zero] at q0 q1 q2 q3;simp only[Oper.wp,execOp];go_simp
      first
      |exact hK _ C trivial
      |first
        |((with_reducible refine(ar.o _).mono ?_);rintro e w2 ⟨rfl,hf⟩;exact hK _ (Jz.on C hf) trivial)
        |((with_reducible refine(aw.o _ (HT.o.fp (d.o.trans C.fp (by simp)))).mono ?_);rintro e w2 ⟨rfl,hf⟩;exact hK _ (Jz.on C hf) trivial)
    refine⟨?_,?_⟩
    .refine Cb _ ?_
     iterate 9 refine Cb _ ?_
     refine⟨fun _ _ _ _ h=>h,?_⟩;exact trivial
    .intro wz bb C ce;simp only[a2x,a2w,a1z,a0u];refine As ?_;intro v0 u0;obtain rfl:=u0
     iterate 10 (refine A2 ?_)
     refine C7 ?_;simp only[Aj,Act.put,a1x,a1v,a1u];have cm:=X (Jz.fp C);clear C ce;go_wp2_with fail;go_ret2;exact⟨by rw[Q.o,j.o];rfl,d.o.trans cm.o⟩
end
section
open Go.RowKit
theorem Ap.len{w:World}{base:Nat}{v:Value}{l:List Ac}(h:Ap w base v l):∃a cap,v=.slice a l.length cap:=by
 rcases h.2 with⟨rfl,b⟩|⟨g,cap,c,rfl,_⟩
 .have:l=[]:=a2z b;subst this;exact⟨_,_,rfl⟩
 .exact⟨_,_,rfl⟩
def Lo(a b:ByteArray):Bool:=Op.bytesLess a.toList b.toList||a.toList==b.toList
end
section
open Go.RowKit
def Et(x:ByteArray):List UInt8:=two x.size++(Ih (Ln (bl (two x.size)) x)++x.data.toList)
theorem Wn(x:ByteArray):Jc x=bl (Et x):=by
 unfold Jc Et
 conv=>lhs;rw[<-Oo x]
 simp only[Oo,Lq];rw[show(x:ByteArray)=bl x.data.toList from(Oo x).symm];simp only[Lq,Ia,a0w,Dt]
theorem Uu(x:ByteArray):(Et x).length=6+x.size:=by
 unfold Et two Ih;simp only[a1w,a3v,List.length_nil];show 0+1+1+(0+1+1+1+1+x.size)=_;omega
theorem Zn{x:ByteArray}(h:x.size<=65535):Gz x=Jc x:=by
 unfold Gz I1;rw[if_neg (by omega)]
theorem sA(x:ByteArray)(y:List UInt8)(h:x.size≤65535):Dq (bl (Et x++y))=(x,6+x.size,0):=by
 obtain⟨c,i⟩:=Aa (Ln (bl (two x.size)) x)
 have g:c<4294967296:=by rw[<-i];exact Zd _ _
 have a:Et x++y=two x.size++(Ih c++(x.data.toList++y)):=by unfold Et;rw[i];simp only[a0w]
 have b:(bl (Et x++y)).size=6+x.size+y.length:=by rw[Dt,a1w,Uu]
 have k:x.data.toList.length=x.size:=rfl
 have u:A4 (bl (Et x++y)) 0=a0z x.size:=by rw[P4,a];rfl
 have t:A4 (bl (Et x++y)) 1=a0z (x.size/256):=by rw[P4,a];rfl
 have r:A4 (bl (Et x++y)) 2=a0z c:=by rw[P4,a];rfl
 have q:A4 (bl (Et x++y)) 3=a0z (c/256):=by rw[P4,a];rfl
 have p:A4 (bl (Et x++y)) 4=a0z (c/65536):=by rw[P4,a];rfl
 have n:A4 (bl (Et x++y)) 5=a0z (c/16777216):=by rw[P4,a];rfl
 have d:Gs (bl (Et x++y))=6+x.size:=by
  unfold Gs;rw[u,t,a2u,a2u];omega
 have m:(bl (Et x++y)).extract 0 2=bl (two x.size):=by
  rw[a];exact eY _ _ _ rfl
 have j:(bl (Et x++y)).extract 6 (6+x.size)=x:=by
  rw[a,<-a0w];rw[rV (two x.size++Ih c) x.data.toList y 6 (6+x.size) rfl (by rw[k];rfl),Oo]
 have l:=Zf (s:=bl (Et x++y)) (by rw[b];omega) (by rw[b];omega) (by rw[d,b];omega) (by
  rw[d,m,j,i,r,q,p,n,rQ c g])
 rw[l,d,j]
structure Py(l:List Ac):Prop where
 len:l.length<=2000
 pos:0<l.length
 err:D2 l (Em l)=0
 ris:risC l=true
theorem Zo{l:List Ac}(seq:Nat)(h:Py l):F7 l seq=(Jy l seq,0):=by
 have b:=h.len;have a:=h.pos;unfold F7;rw[if_neg (by omega),if_neg (by omega),if_neg (by simp[h.err]),if_neg (by simp[h.ris])]
theorem sB{l:List Ac}{seq:Nat}(h:(F7 l seq).2=0):Py l:=by
 unfold F7 at h;split at h
 .cases h
 .split at h
  .cases h
  .split at h
   .rename_i a;exact absurd h a
   .split at h
    .cases h
    .rename_i d c a b;exact⟨by omega,by omega,by simpa using a,by simpa using b⟩
theorem sC(l:List Ac):(En l).length<=l.length:=X6 l l.length
theorem fH{l:List Ac}(h:l.length<=2000):(Hy (En l)).size<=2501:=by
 rw[Zl];have:=sC l;unfold Nz;omega
theorem fJ{l:List Ac}(h:l.length<=2000):(Fh l (Em l)).size<=1002:=by
 rw[R5];unfold Em;omega
theorem fK(f:Hn):f.text.size=20:=by
 unfold Hn.text;simp only[Z,Ir]
def Wp(l:List Ac)(seq:Nat):List UInt8:=G5 l (Em l)++(Et (Fh l (Em l))++(Et (Hy (En l))++Et (Jw l seq).text))
theorem sD{l:List Ac}(seq:Nat)(h:l.length<=2000):Jy l seq=bl (Wp l seq):=by
 have c:=fJ h;have b:=fH h;have a:=fK (Jw l seq);unfold Jy Wm Jd Kt Wp;rw[Zn (by omega),Zn (by omega),Zn (by omega),Wn,Wn,Wn];simp only[Lq,a0w]
theorem sE{l:List Ac}(seq:Nat):(Wp l seq).length=(G5 l (Em l)).length+(6+(Fh l (Em l)).size)+(6+(Hy (En l)).size)+26:=by
 unfold Wp;simp only[a1w,Uu,fK];omega
theorem sF{l:List Ac}(h:Py l):(G5 l (Em l)).length<=80006*250:=by
 have b:=R4 l (Em l);have c:=h.len
 have a:Em l<=250:=by unfold Em;omega
 exact Nat.le_trans b (Nat.mul_le_mul_left _ a)
def Nl(d:List UInt8)(i:Nat):Bool:=(d.getD (i/8) 0).toNat.testBit (i%8)
theorem sG{d:List UInt8}{i:Nat}(j:Nat)(h:i<8*d.length):Nl (Lx d i) j=(Nl d j||decide (i=j)):=by
 unfold Nl Lx;rw[Y,List.getElem?_set];by_cases e:i/8=j/8
 .rw[if_pos e,if_pos (by omega)];show(Td (d.getD (i/8) 0) (i%8)).toNat.testBit (j%8)=_;rw[mJ _ (Nat.mod_lt _ (by decide)),Nat.testBit_or,Nat.testBit_two_pow,e];congr 1;apply decide_eq_decide.2;omega
 .rw[if_neg e,decide_eq_false (by intro h;subst h;exact e rfl),Bool.or_false,Y]
theorem sH{a b:Ac}(h:Db a b<0):Bq a.row b.row≤0:=by
 unfold Db E2 at h;split at h
 .omega
 .rename_i c
  have:Bq a.row b.row=0:=by simpa using c
  omega
theorem sI{l:List Ac}(h:risC l=true){k:Nat}(c:k+1<l.length):Db (l.getD k Aq) (l.getD (k+1) Aq)<0:=by
 have b:(List.range l.length).any (Jf l)=false:=by unfold risC at h;simpa using h
 rw[List.any_eq_false] at b;have a:=b (k+1) (List.mem_range.2 c);unfold Jf at a;rw[Nat.add_sub_cancel,decide_eq_true (Nat.succ_pos k),Bool.true_and] at a
 simpa using a
def Pz(l:List Ac)(k:Nat):ByteArray:=(l.getD k Aq).row
theorem Zp{l:List Ac}(h:risC l=true):∀(j i:Nat),i≤j→j<l.length→Bq (Pz l i) (Pz l j)≤0
 |0,i,hi,_=>by
  obtain rfl:i=0:=by omega
  unfold Bq;rw[P2];exact Int.le_refl _
 |j+1,i,hi,hj=>by
  by_cases e:i=j+1
  .subst e;unfold Bq;rw[P2];exact Int.le_refl _
  .have b:=Zp h j i (by omega) (by omega);have a:=sH (sI h hj);exact Zz b a
theorem sJ{a b:ByteArray}(h:Bq a b<=0):Lo a b=true:=by
 unfold Lo;rw[W6,ByteArray.toList_eq,ByteArray.toList_eq];unfold Bq at h;rcases Wx a.data.toList b.data.toList with e|e|e
 .rw[decide_eq_true e];rfl
 .rw[Ux e];simp
 .omega
theorem fL{l:List Ac}(seq:Nat)(h:Py l):(Jy l seq).size<=100000000:=by
 have c:=sF h;have b:=fJ h.len;have a:=fH h.len;rw[sD seq h.len,Dt,sE];omega
end
section
open Go.RowKit Go.Lib
def Oj:List Nat->Nat
 |[]=>0
 |e::r=>if e=0 then Oj r else e
theorem fM:∀(l:List Nat),(∀x∈l,x=0)->Oj l=0
 |[],_=>rfl
 |x::l,h=>by rw[Oj,if_pos (h x (by simp))];exact fM l fun y a=>h y (by simp[a])
theorem fN:∀(l:List Nat) (i:Nat) (a:i<l.length),(∀j (_ :j<i),l[j]'(by omega)=0)→l[i]≠0→Oj l=l[i]
 |[],i,a,_,_=>absurd a (Nat.not_lt_zero _)
 |x::l,0,_,_,hx=>by rw[Oj,if_neg (by simpa using hx)];rfl
 |x::l,i+1,a,h,hx=>by
  rw[Oj,if_pos (show x=0 from h 0 (Nat.zero_lt_succ _))];exact fN l i (by simpa using a) (fun j b=>h (j+1) (Nat.succ_lt_succ b)) (by simpa using hx)
def K2(ps:List (Nat × List Ac)):List Nat:=ps.map fun x=>(F7 x.2 0).2
def F8(ps:List (Nat × List Ac)):List ByteArray:=ps.map fun x=>(F7 x.2 0).1
inductive D3(s:ByteArray)(borders:List ByteArray)(m wid mo:Int):Nat->List ByteArray->Prop
 |parse:(C0 s).2.2≠0->D3 s borders m wid mo (C0 s).2.2 []
 |none:(C0 s).2.2=0->(C0 s).1=[]->D3 s borders m wid mo 1 []
 |sort:(C0 s).2.2=0->(C0 s).1≠[]->(m<1∨wid<2)->D3 s borders m wid mo 1 []
 |cut:(C0 s).2.2=0->(C0 s).1≠[]->1<=m->2<=wid->(Ee borders=false∨mo<1)->D3 s borders m wid mo 1 []
 |build (r:List Ad) (out:List (List Ac)) (most:Nat):(C0 s).2.2=0->(C0 s).1≠[]->1<=m->2<=wid->Ee borders=true->1<=most->mo=(most:Int)->Bf (C4 (C0 s).1) r->Eb (r.map (·.c)) borders out->Oj (K2 (G7 most out))≠0->D3 s borders m wid mo (Oj (K2 (G7 most out))) []
 |ok (r:List Ad) (out:List (List Ac)) (most:Nat):(C0 s).2.2=0->(C0 s).1≠[]->1<=m->2<=wid->Ee borders=true->1<=most->mo=(most:Int)->Bf (C4 (C0 s).1) r->Eb (r.map (·.c)) borders out->(∀e∈K2 (G7 most out),e=0)->D3 s borders m wid mo 0 (F8 (G7 most out))
theorem sK{x y:Ad}(h:Bv x y<0):Db x.c y.c<0:=by
 unfold Bv Db Jj at h;simp only at h;rw[U1,R9 0] at h;unfold Db;rw[U1];by_cases a:Bq x.c.row y.c.row=0
 .by_cases b:Bq x.c.col y.c.col=0
  .by_cases d:Du y.c.ts x.c.ts=0
   .simp[a,b,d] at h
   .simp[a,b,d] at h ⊢;exact h
  .simp[a,b] at h ⊢;exact h
 .simp[a] at h ⊢;exact h
theorem Dv.risC{r:List Ad}(h:Dv r):risC (r.map (·.c))=true:=by
 refine Uz fun j a=>?_;rcases Nat.eq_zero_or_pos j with rfl|b
 .rfl
 rw[a4u] at a;rw[Z8 (k:=j) (m:=j-1) (by rw[a4u];exact a) (by omega) (r[j-1]'(by omega)).c (r[j]'a).c (by rw[a4v]) (by rw[a4v])];have:=sK (List.pairwise_iff_getElem.1 h (j-1) j (by omega) a (by omega));exact decide_eq_false (by omega)
theorem sL(s:ByteArray):(C0 s).1.length<=4001:=by
 unfold C0;split
 .exact a4z _
 .rename_i h;have b:=X2 10 s;obtain⟨_,c,_,_⟩:=Vb (Dh 10 s) 0 [] (fun t a=>by have:=O2 a;omega) (by simp);have:([]:List Ac).length=0:=rfl;omega
theorem Ap.at4{w:World}{base:Nat}{v:Value}{l:List Ac}(h:Ap w base v l)(i:∀c∈l,Di c):∃a cap,v=.slice a l.length cap∧l.length≤cap∧(a=Option.none∧cap=0∨∃b o,a=some ⟨b,o,Option.none⟩)∧Ba w a l.length l:=by
 obtain⟨a,cap,e,k,n,j⟩:=h.at5 i;refine⟨a,cap,e,k,?_,j⟩;rcases h.2 with⟨d,_⟩|⟨g,p,m,d,_⟩
 .rw[e] at d
  injection d with h4 h5 h6
  exact Or.inl ⟨h4,h6⟩
 .rw[e] at d;cases d;exact Or.inr ⟨g,0,rfl⟩
theorem fO{l:List Ac}{x:Ad}(h:x∈C4 l):x.c∈l:=by
 obtain⟨i,a,e⟩:=List.mem_iff_getElem.1 h;have b:(C4 l).length=l.length:=O9 l _;rw[<-e,show(C4 l)[i]=⟨l.getD i Aq,i⟩ from Xz l l.length i a];show l.getD i Aq∈l;rw[Y,a0x (by omega)];exact a0v _
theorem Zq(l:List Ac)(most:Nat):(Hh l most).flatten=l:=by
 unfold Hh;rw[iW,Xd l 0 0 (a3z _) (Or.inr rfl),List.drop_zero]
theorem sM{most:Nat}{a:List (List Ac)}{k:Nat}{x:Nat × List Ac}(d:x∈Gt most a k){c:Ac}(j:c∈x.2):c∈a.flatten:=by
 unfold Gt at d;obtain⟨i,-,h⟩:=List.mem_flatMap.1 d;obtain⟨r,g,rfl⟩:=List.mem_map.1 h;have b:c∈a.getD i []:=by
  rw[<-Zq (a.getD i []) most];exact List.mem_flatten.2 ⟨r,g,j⟩
 rw[Y] at b
 cases h2:a[i]? with
 |none=>rw[h2] at b;simp at b
 |some y=>
  rw[h2] at b;exact List.mem_flatten.2 ⟨y,a5w h2,b⟩
theorem sN{most:Nat}{a:List (List Ac)}{k:Nat}{x:Nat × List Ac}(c:x∈Gt most a k):x.2.length≤a.flatten.length:=by
 unfold Gt at c;obtain⟨i,-,g⟩:=List.mem_flatMap.1 c;obtain⟨r,d,rfl⟩:=List.mem_map.1 g;have b:r.length<=(a.getD i []).length:=by
  have:=Sm d;rw[Zq] at this;exact this
 rw[Y] at b
 cases h2:a[i]? with
 |none=>rw[h2] at b;simp at b;simp[b]
 |some y=>
  rw[h2] at b;exact Nat.le_trans b (Sm (a5w h2))
theorem Gk.low{W W':World}{base:Nat}{v:Value}{ps:List (Nat × List Ac)}(h:Gk W base v ps)(c:∀k,base<=k->k<W.heap.size->W'.heap[k]?=W.heap[k]?):Gk W' base v ps:=by
 obtain⟨d,b,g⟩:=h;exact⟨d,b.kept fun k a=>c k (b.lt k a).1 (b.lt k a).2,J9 (fun _ _ h=>⟨h.1,h.2.kept fun k a=>c k (h.2.lt k a).1 (h.2.lt k a).2⟩) g⟩
theorem Gk.get{W:World}{base i:Nat}{v:Value}{b:List (Nat × List Ac)}(h:Gk W base v b)(q:i<b.length):∃g cap a n c,v=.slice (some ⟨g,0,Option.none⟩) b.length cap/\W.cell? ⟨g,i*2,Option.none⟩=some (.int .i64 (b[i].1:Nat))/\W.cell? ⟨g,i*2+1,Option.none⟩=some (.slice a n c)/\Ap W base (.slice a n c) b[i].2:=by
 obtain⟨d,l,k⟩:=h;have p:=k.length_eq;obtain⟨g,cap,t,rfl,-,-,-,-,-,-⟩:=l.open (by omega);obtain⟨j,-⟩:=l.elem (i:=i) (by omega);obtain⟨s,r⟩:=k.nth i (by omega) q;have m:=j 0 (.int .i64 (d[i]'(by omega)).1) rfl;have u:=j 1 (Xf (d[i]'(by omega))) rfl;rw[s] at m;exact⟨g,cap,_,_,_,by rw[p],m,u,r⟩
def E1(bs:List ByteArray)(r:ByteArray):Nat:=(bs.filter fun b=>Lo b r).length
theorem Wq(a b:ByteArray):Gm a b=true↔Bq a b<0:=by
 unfold Gm;rw[W6]
 have h:Bq a b=compareBytes a.toList b.toList:=by rw[ByteArray.toList_eq,ByteArray.toList_eq];rfl
 rcases Wx a.toList b.toList with e|e|e<;>rw[h,e]<;>simp
theorem fP(a b:ByteArray):Lo a b=true↔Bq a b≤0:=by
 refine⟨fun h=>?_,sJ⟩;unfold Lo at h;rcases Bool.or_eq_true_iff.1 h with h|h
 .have:=(Wq a b).1 h;omega
 .have e:=eq_of_beq h
  have c:Bq a b=compareBytes a.toList b.toList:=by rw[ByteArray.toList_eq,ByteArray.toList_eq];rfl
  rw[c,e,P2];omega
theorem fQ{a b c:ByteArray}(g:Bq a b<=0)(d:Bq b c<=0):Bq a c<=0:=Zz g d
theorem Zr(a b:ByteArray):Bq b a= -Bq a b:=gV _ _
theorem Zs{a b c:ByteArray}(g:Bq a b<=0)(d:Bq b c<0):Bq a c<0:=by
 have j:=fQ g (Int.le_of_lt d);have i:=Zr a b;by_cases e:Bq a c=0
 .have h:=aF e;subst h;omega
 .omega
theorem fR{l:List Ac}{i:Nat}(h:i<l.length):Pz l i=l[i].row:=by unfold Pz;rw[Y,a0x h];rfl
theorem Zt{l:List ByteArray}(h:Ee l=true):l.Pairwise fun a b=>Bq a b<0:=by
 have m:∀k,k<l.length→0<k→Bq (D4 l (k-1)) (D4 l k)<0:=by
  intro k q m
  cases e:F4 l k with
  |true=>rw[cA q e] at h;cases h
  |false=>
   unfold F4 at e;rw[Bool.or_eq_false_iff] at e;have p:=e.2;rw[decide_eq_true m,Bool.true_and] at p;exact(Wq _ _).1 (by simpa using p)
 have r:∀j i,i<j→j<l.length→Bq (D4 l i) (D4 l j)<0:=by
  intro j
  induction j with
  |zero=>intro i g;omega
  |succ j ih=>
   intro i g c;have n:=m (j+1) c (by omega);by_cases e:i=j
   .subst e;exact n
   .exact Zs (Int.le_of_lt (ih i (by omega) (by omega))) n
 rw[List.pairwise_iff_getElem];intro i j g c d;have:=r j i d c;rw[Q5 g,Q5 c] at this;exact this
theorem sO{most:Nat}{a:List (List Ac)}{x:Nat × List Ac}(c:x∈G7 most a):∃y∈a,x.2∈Hh y most:=by
 unfold G7 Gt at c;obtain⟨i,g,h⟩:=List.mem_flatMap.1 c;obtain⟨r,d,rfl⟩:=List.mem_map.1 h;have b:=List.mem_range.1 g;rw[Y,a0x b] at d;exact⟨a[i],a0v b,d⟩
theorem fS(most:Nat)(a:List (List Ac)):∀k,k≤a.length→((Gt most a k).map (·.2)).flatten=(a.take k).flatten
 |0,_=>rfl
 |k+1,h=>by
  rw[P8,List.map_append,List.flatten_append,fS most a k (by omega),List.take_succ_eq_append_getElem (by omega),List.flatten_append,List.map_map];congr 1;rw[show((fun x:Nat × List Ac=>x.2) ∘ fun r=>(k,r))=id from rfl,List.map_id,Zq,Y,a0x (by omega)];simp
theorem Zu(l:List Ac):∀(k fr i:Nat),l.length-i=k→fr≤i→∀x∈Dj l fr i,0<(I3 l x).length
 |k,fr,i,hk,hf,x,a=>by
  by_cases h:i<l.length
  .cases k with
   |zero=>omega
   |succ k=>
    cases e:Jh l i with
    |true=>
     rw[Qv h e] at a;rcases List.mem_cons.1 a with rfl|a
     .unfold I3;rw[a4w,a2v];simp only;omega
     .exact Zu l k (i+1) (i+1) (by omega) (a3z _) x a
    |false=>
     rw[Si h e] at a;exact Zu l k fr (i+1) (by omega) (by omega) x a
  .rw[Dj,if_neg h] at a;cases a
theorem fU(most:Nat)(l:List Ac):∀(b:List (Nat × Nat)) (xs:List (List Ac)),(∀r∈xs,0<r.length)→(∀x∈b,0<(I3 l x).length)→∀r∈b.foldl (fun xs x=>Ii most xs (I3 l x)) xs,0<r.length
 |[],xs,h,_,r,a=>h r a
 |p::b,xs,h,h2,r,a=>by
  refine fU most l b _ (fun r a=>?_) (fun x c=>h2 x (List.mem_cons_of_mem _ c)) r a;have d:=h2 p List.mem_cons_self;have a:r∈Ii most xs (I3 l p):=a;unfold Ii at a;split at a
  .rcases List.mem_or_eq_of_mem_set a with a|rfl
   .exact h r a
   .rw[a1w];omega
  .rcases List.mem_append.1 a with a|a
   .exact h r a
   .rw[List.mem_singleton.1 a];exact d
theorem sP{l:List Ac}{most:Nat}{r:List Ac}(h:r∈Hh l most):0<r.length:=
 fU most l _ [] (fun _ h=>by cases h) (Zu l _ 0 0 rfl (a3z _)) r h
theorem fV:∀{xs:List (List Ac)},risC xs.flatten=true→∀x∈xs,risC x=true
 |[],_,x,b=>by cases b
 |a::r,h,x,b=>by
  rw[List.flatten_cons] at h;rcases List.mem_cons.1 b with rfl|b
  .have:=aD h x.length
   rwa [List.take_left] at this
  .have:=Xg h a.length;rw[List.drop_left] at this;exact fV this x b
theorem fW{l:List Ac}:∀m,(∀k,k<m->(Ec (Es l k)).2=0)->D2 l m=0
 |0,_=>rfl
 |m+1,h=>Zi (fW m fun k a=>h k (by omega)) (h m (by omega))
theorem sQ{x:List Ac}(h:0<x.length)(b:x.length<=2000)(d:∀c∈x,Bh c=true)(a:risC x=true):Py x:=by
 refine⟨b,h,fW _ fun k _=>?_,a⟩;rw[Y9]
 .unfold Es;rw[a4w];omega
 .rw[a4x];intro c g;exact d c (List.mem_of_mem_drop (List.mem_of_mem_take g))
 .exact aD (Xg a _) _
theorem sR{t:ByteArray}{c:Ac}(h:Dc t=some c):Bh c=true∧c.seq=0:=by
 unfold Dc at h;split at h
 .rename_i x y z d e;unfold Io at h;split at h
  .rename_i i;obtain⟨u,_,e⟩:=Option.map_eq_some_iff.1 h;subst e;obtain⟨g,b,a⟩:=i;unfold M6 Fo at g b;simp only[a3w,decide_eq_true_eq] at g b;refine⟨?_,rfl⟩;unfold Bh Jg;simp only[a3w,Bool.or_eq_true,decide_eq_true_eq]
   cases hg:Ha d with
   |true=>exact⟨⟨⟨⟨by omega,by omega⟩,by omega,by omega⟩,a4z _⟩,Or.inr rfl⟩
   |false=>
    rw[hg,Bool.false_or] at a;unfold K8 at a;simp only[a3w,decide_eq_true_eq] at a;exact⟨⟨⟨⟨by omega,by omega⟩,by omega,by omega⟩,by simpa using a.2.2⟩,Or.inl rfl⟩
  .cases h
 .cases h
theorem sS{l:List Ac}{y:Ad}(h:y∈C4 l):y.c∈l:=by
 unfold C4 J7 at h;obtain⟨i,b,rfl⟩:=List.mem_map.1 h;have a:=List.mem_range.1 b;show l.getD i Aq∈l;rw[Y,a0x a];exact a0v a
end
end Go.Proofs.YtkagolpnaicdoaaGreatDoor
