/-
 wal: the closures of write and of Append. wal: write; bytes; change, Append; Off. wal: change; Append; Off.
-/
import Derived.Test.YtkagolpnaicdoaaGreatDoorPJobI
set_option maxRecDepth 100000
set_option maxHeartbeats 8000000
open Go.Lib renaming hid->a0z
open List renaming getElem?_cons_zero->a0x,getElem?_toArray->a0w,setIfInBounds_toArray->a0v,getElem?_cons_succ->a0u,set_cons_succ->a1z,set_cons_zero->a1x,reverse_cons->a1w,reverse_nil->a1v,cons_append->a1u,nil_append->a2z,take_succ_eq_append_getElem->a2x,not_mem_nil->a2w,mem_cons->a2v
namespace Go.Proofs.YtkagolpnaicdoaaGreatDoor
section
open Go.RowKit Go.Lib Go.Maps Go.MapKept Go.ChangeMaps
theorem Ah6(w:World)(b o L G F:Nat)(lg:Lg)(d:Dk)(other:ByteArray)(p:Ak w b o d)(y:Av d)(m:other.size≤maxLen)(z:Dh w L b lg)(l:w.heap[G]?=some (.cells #[.pointer (some ⟨L,0,none⟩)] 119 (0,0)))(k:w.heap[F]?=some (.cells #[.string other] 9 (0,0))):
  Calls Tryz.prog 179 #[.pointer (some ⟨G,0,none⟩),.pointer (some ⟨F,0,none⟩)] w fun e w'=>e=.returned (.int .i64 (d.createE other))/\Ak w' b o (d.create other)/\Fp [b,o] w w':=by
 have I:=z.ne p;have v:=Gt l (by decide) p;have u:=Gt k (by decide) p;have S:=a0z p;have N:=a0z z;have Hql:=a0z l;have Hqo:=a0z k;have O:=a0z (fun W (h:Ak W b o d)=>Ahf W b o d other h y m);clear p z l k
 obtain⟨x,J⟩:∃x,d.createE other=x:=⟨_,rfl⟩
 obtain⟨M,j⟩:∃x,d.create other=x:=⟨_,rfl⟩
 rw[J,j] at O ⊢;clear J j;go_enter Tryz.func179,Tryz.ntmps179;go_wp2_with (fail);refine Ft (fun C w'=>H9 b o w d M (C 5) w') (fun _ _=>True) (by kernel_rfl) (by kernel_rfl) (H9.start S.out) ?_
 iterate 5
  apply Be (fun _ _ h=>h) rfl rfl rfl
  ·intro b a w f g K r
   try have h0:=g.fr 0 rfl
   try have h3:=g.eq 0 3 rfl
   try have Z:=g.eq 1 4 rfl
   try have Y:=g.eq 2 5 rfl
   try have h1:=g.fr 1 rfl
   have t:=Ab ((f.fp.block _ (Ac Hql.out) v).trans Hql.out) 0;have s:=Ab ((f.fp.block _ (Ac Hqo.out) u).trans Hqo.out) 0;have R:=Ab (N.out.fp f.fp I) 0;have Q:=Ab (N.out.fp f.fp I) 1;simp only[Gj,a0w,a0u,a0x] at R Q t s;simp only[Oper.wp,execOp];go_simp;exact r _ f trivial
 apply Fb (B6 (.int .i64 x)) rfl rfl rfl
 ·intro b a w f g K r;have X:=g.eq 3 6 rfl;have V:=g.eq 4 7 rfl;simp only[Oper.wp,execOp];go_simp;(with_reducible refine(O.out _ (f.first g.self)).mono ?_);rintro e w2 ⟨rfl,j,A⟩;exact r _ _ ⟨j,f.fp.trans A (by intro i P;exact Or.inl P)⟩ trivial rfl
 apply Be (fun _ _ h=>h) rfl rfl rfl
 ·intro b a w f g K r;have U:=g.eq 5 8 rfl;simp only[Oper.wp,execOp];go_simp;exact r _ f trivial
 refine⟨?_,?_⟩
 ·refine Cc _ ?_;refine⟨fun _ _ _ _ h=>h,?_⟩
  iterate 5 refine Cc _ ?_
  exact trivial
 ·intro w' C f q;simp only[a1w,a1v,a2z,a1u]
  iterate 5 (refine Am ?_)
  refine Ap ?_;intro T u5;obtain rfl:=u5
  iterate 1 (refine Am ?_)
  refine A0 ?_;simp only[Aj,Act.put,a0v,a1z,a1x];have B:C 5=true:=q 5 (by decide);have n:=f.disk;rw[B] at n;have E:Hid (Ak w' b o M):=a0z n;have D:=a0z f.fp;clear f q n;go_wp2_with (fail);go_ret;exact⟨rfl,E.out,D.out⟩
theorem Ah7(w:World)(b p L O N M:Nat)(lg:Lg)(d:Dk)(other s:ByteArray)(q:Ak w b p d)(C:Av d)(n:other.size≤maxLen)(U:s.size≤1000000000)(D:Dh w L b lg)(m:w.heap[O]?=some (.cells #[.pointer (some ⟨L,0,none⟩)] 119 (0,0)))(l:w.heap[N]?=some (.cells #[.string other] 9 (0,0)))(k:w.heap[M]?=some (.cells #[.string s] 9 (0,0))):
  Calls Tryz.prog 181 #[.pointer (some ⟨O,0,none⟩),.pointer (some ⟨N,0,none⟩),.pointer (some ⟨M,0,none⟩)] w fun e w'=>e=.returned (.int .i64 (d.appendE other s))/\Ak w' b p (d.append other s)/\Fp [b,p] w w':=by
 have P:=D.ne q;have B:=Gt m (by decide) q;have A:=Gt l (by decide) q;have z:=Gt k (by decide) q;have HD:=a0z q;have S:=a0z D;have Hql:=a0z m;have Hqo:=a0z l;have Hqs:=a0z k;have T:=a0z (fun W (h:Ak W b p d)=>rD W b p d other s h C n U);clear q D m l k
 obtain⟨x,Q⟩:∃x,d.appendE other s=x:=⟨_,rfl⟩
 obtain⟨R,j⟩:∃x,d.append other s=x:=⟨_,rfl⟩
 rw[Q,j] at T ⊢;clear Q j;go_enter Tryz.func181,Tryz.ntmps181;go_wp2_with (fail);refine Ft (fun G w'=>H9 b p w d R (G 6) w') (fun _ _=>True) (by kernel_rfl) (by kernel_rfl) (H9.start HD.out) ?_
 iterate 6
  apply Be (fun _ _ h=>h) rfl rfl rfl
  ·intro b a w f g K t
   try have h0:=g.fr 0 rfl
   try have h4:=g.eq 0 4 rfl
   try have h5:=g.eq 1 5 rfl
   try have h6:=g.eq 2 6 rfl
   try have h1:=g.fr 1 rfl
   try have h2:=g.fr 2 rfl
   have y:=Ab ((f.fp.block _ (Ac Hql.out) B).trans Hql.out) 0;have v:=Ab ((f.fp.block _ (Ac Hqo.out) A).trans Hqo.out) 0;have u:=Ab ((f.fp.block _ (Ac Hqs.out) z).trans Hqs.out) 0;have Z:=Ab (S.out.fp f.fp P) 0;have Y:=Ab (S.out.fp f.fp P) 1;simp only[Gj,a0w,a0u,a0x] at Z Y y v u;simp only[Oper.wp,execOp];go_simp;exact t _ f trivial
 apply Fb (B6 (.int .i64 x)) rfl rfl rfl
 ·intro b a w f g K t;have h7:=g.eq 3 7 rfl;have h8:=g.eq 4 8 rfl;have h9:=g.eq 5 9 rfl;simp only[Oper.wp,execOp];go_simp;(with_reducible refine(T.out _ (f.first g.self)).mono ?_);rintro e w2 ⟨rfl,j,E⟩;exact t _ _ ⟨j,f.fp.trans E (by intro i V;exact Or.inl V)⟩ trivial rfl
 apply Be (fun _ _ h=>h) rfl rfl rfl
 ·intro b a w f g K t;have X:=g.eq 6 10 rfl;simp only[Oper.wp,execOp];go_simp;exact t _ f trivial
 refine⟨?_,?_⟩
 ·refine Cc _ ?_;refine⟨fun _ _ _ _ h=>h,?_⟩
  iterate 6 refine Cc _ ?_
  exact trivial
 ·intro w' G f r;simp only[a1w,a1v,a2z,a1u]
  iterate 6 (refine Am ?_)
  refine Ap ?_;intro v6 u6;obtain rfl:=u6
  iterate 1 (refine Am ?_)
  refine A0 ?_;simp only[Aj,Act.put,a0v,a1z,a1x];have F:G 6=true:=r 6 (by decide);have o:=f.disk;rw[F] at o;have J:Hid (Ak w' b p R):=a0z o;have I:=a0z f.fp;clear f r o;go_wp2_with (fail);go_ret;exact⟨rfl,J.out,I.out⟩
theorem Ah8(w:World)(b o L G F:Nat)(lg:Lg)(d:Dk)(other:ByteArray)(p:Ak w b o d)(y:Av d)(m:other.size≤maxLen)(z:Dh w L b lg)(l:w.heap[G]?=some (.cells #[.pointer (some ⟨L,0,none⟩)] 119 (0,0)))(k:w.heap[F]?=some (.cells #[.string other] 9 (0,0))):
  Calls Tryz.prog 183 #[.pointer (some ⟨G,0,none⟩),.pointer (some ⟨F,0,none⟩)] w fun e w'=>e=.returned (.int .i64 (d.thereE other))/\Ak w' b o (d.sync other)/\Fp [b,o] w w':=by
 have I:=z.ne p;have v:=Gt l (by decide) p;have u:=Gt k (by decide) p;have S:=a0z p;have N:=a0z z;have Hql:=a0z l;have Hqo:=a0z k;have O:=a0z (fun W (h:Ak W b o d)=>eG W b o d other h y m);clear p z l k
 obtain⟨x,J⟩:∃x,d.thereE other=x:=⟨_,rfl⟩
 obtain⟨M,j⟩:∃x,d.sync other=x:=⟨_,rfl⟩
 rw[J,j] at O ⊢;clear J j;go_enter Tryz.func183,Tryz.ntmps183;go_wp2_with (fail);refine Ft (fun C w'=>H9 b o w d M (C 5) w') (fun _ _=>True) (by kernel_rfl) (by kernel_rfl) (H9.start S.out) ?_
 iterate 5
  apply Be (fun _ _ h=>h) rfl rfl rfl
  ·intro b a w f g K r
   try have h0:=g.fr 0 rfl
   try have h3:=g.eq 0 3 rfl
   try have Z:=g.eq 1 4 rfl
   try have Y:=g.eq 2 5 rfl
   try have h1:=g.fr 1 rfl
   have t:=Ab ((f.fp.block _ (Ac Hql.out) v).trans Hql.out) 0;have s:=Ab ((f.fp.block _ (Ac Hqo.out) u).trans Hqo.out) 0;have R:=Ab (N.out.fp f.fp I) 0;have Q:=Ab (N.out.fp f.fp I) 1;simp only[Gj,a0w,a0u,a0x] at R Q t s;simp only[Oper.wp,execOp];go_simp;exact r _ f trivial
 apply Fb (B6 (.int .i64 x)) rfl rfl rfl
 ·intro b a w f g K r;have X:=g.eq 3 6 rfl;have V:=g.eq 4 7 rfl;simp only[Oper.wp,execOp];go_simp;(with_reducible refine(O.out _ (f.first g.self)).mono ?_);rintro e w2 ⟨rfl,j,A⟩;exact r _ _ ⟨j,f.fp.trans A (by intro i P;exact Or.inl P)⟩ trivial rfl
 apply Be (fun _ _ h=>h) rfl rfl rfl
 ·intro b a w f g K r;have U:=g.eq 5 8 rfl;simp only[Oper.wp,execOp];go_simp;exact r _ f trivial
 refine⟨?_,?_⟩
 ·refine Cc _ ?_;refine⟨fun _ _ _ _ h=>h,?_⟩
  iterate 5 refine Cc _ ?_
  exact trivial
 ·intro w' C f q;simp only[a1w,a1v,a2z,a1u]
  iterate 5 (refine Am ?_)
  refine Ap ?_;intro T u5;obtain rfl:=u5
  iterate 1 (refine Am ?_)
  refine A0 ?_;simp only[Aj,Act.put,a0v,a1z,a1x];have B:C 5=true:=q 5 (by decide);have n:=f.disk;rw[B] at n;have E:Hid (Ak w' b o M):=a0z n;have D:=a0z f.fp;clear f q n;go_wp2_with (fail);go_ret;exact⟨rfl,E.out,D.out⟩
theorem Ah9(w:World)(b o L I G:Nat)(lg:Lg)(d:Dk)(other:ByteArray)(p:Ak w b o d)(z:Av d)(m:other.size≤maxLen)(y:lg.name.size≤maxLen)(A:Dh w L b lg)(l:w.heap[I]?=some (.cells #[.pointer (some ⟨L,0,none⟩)] 119 (0,0)))(k:w.heap[G]?=some (.cells #[.string other] 9 (0,0))):
  Calls Tryz.prog 184 #[.pointer (some ⟨I,0,none⟩),.pointer (some ⟨G,0,none⟩)] w fun e w'=>e=.returned (.int .i64 (d.renameE other lg.name))/\Ak w' b o (d.rename other lg.name)/\Fp [b,o] w w':=by
 have J:=A.ne p;have v:=Gt l (by decide) p;have u:=Gt k (by decide) p;have X:=a0z p;have O:=a0z A;have Hql:=a0z l;have Hqo:=a0z k;have P:=a0z (fun W (h:Ak W b o d)=>Ahb W b o d other lg.name h z m y);clear p A l k
 obtain⟨x,M⟩:∃x,d.renameE other lg.name=x:=⟨_,rfl⟩
 obtain⟨N,j⟩:∃x,d.rename other lg.name=x:=⟨_,rfl⟩
 rw[M,j] at P ⊢;clear M j;go_enter Tryz.func184,Tryz.ntmps184;go_wp2_with (fail);refine Ft (fun D w'=>H9 b o w d N (D 9) w') (fun _ _=>True) (by kernel_rfl) (by kernel_rfl) (H9.start X.out) ?_
 iterate 9
  apply Be (fun _ _ h=>h) rfl rfl rfl
  ·intro b a w g f K r
   try have h0:=f.fr 0 rfl
   try have h3:=f.eq 0 3 rfl
   try have h4:=f.eq 1 4 rfl
   try have h5:=f.eq 2 5 rfl
   try have h1:=f.fr 1 rfl
   try have h8:=f.eq 5 8 rfl
   try have Z:=f.eq 6 9 rfl
   try have T:=f.eq 7 10 rfl
   have t:=Ab ((g.fp.block _ (Ac Hql.out) v).trans Hql.out) 0;have s:=Ab ((g.fp.block _ (Ac Hqo.out) u).trans Hqo.out) 0;have V:=Ab (O.out.fp g.fp J) 0;have U:=Ab (O.out.fp g.fp J) 1;simp only[Gj,a0w,a0u,a0x] at V U t s;simp only[Oper.wp,execOp];go_simp;exact r _ g trivial
 apply Fb (B6 (.int .i64 x)) rfl rfl rfl
 ·intro b a w g f K r;have h6:=f.eq 3 6 rfl;have h7:=f.eq 4 7 rfl;have S:=f.eq 8 11 rfl;simp only[Oper.wp,execOp];go_simp;(with_reducible refine(P.out _ (g.first f.self)).mono ?_);rintro e w2 ⟨rfl,j,B⟩;exact r _ _ ⟨j,g.fp.trans B (by intro i Q;exact Or.inl Q)⟩ trivial rfl
 apply Be (fun _ _ h=>h) rfl rfl rfl
 ·intro b a w g f K r;have R:=f.eq 9 12 rfl;simp only[Oper.wp,execOp];go_simp;exact r _ g trivial
 refine⟨?_,?_⟩
 ·refine Cc _ ?_;refine⟨fun _ _ _ _ h=>h,?_⟩
  iterate 9 refine Cc _ ?_
  exact trivial
 ·intro w' D g q;simp only[a1w,a1v,a2z,a1u]
  iterate 9 (refine Am ?_)
  refine Ap ?_;intro Y u9;obtain rfl:=u9
  iterate 1 (refine Am ?_)
  refine A0 ?_;simp only[Aj,Act.put,a0v,a1z,a1x];have C:D 9=true:=q 9 (by decide);have n:=g.disk;rw[C] at n;have F:Hid (Ak w' b o N):=a0z n;have E:=a0z g.fp;clear g q n;go_wp2_with (fail);go_ret;exact⟨rfl,F.out,E.out⟩
theorem Aia(w:World)(b n L I G:Nat)(lg:Lg)(d:Dk)(s:ByteArray)(o:Ak w b n d)(z:Av d)(y:lg.name.size≤maxLen)(Q:s.size≤1000000000)(A:Dh w L b lg)(l:w.heap[I]?=some (.cells #[.pointer (some ⟨L,0,none⟩)] 119 (0,0)))(k:w.heap[G]?=some (.cells #[.string s] 9 (0,0))):
  Calls Tryz.prog 191 #[.pointer (some ⟨I,0,none⟩),.pointer (some ⟨G,0,none⟩)] w fun e w'=>e=.returned (.int .i64 (d.appendE lg.name s))/\Ak w' b n (d.append lg.name s)/\Fp [b,n] w w':=by
 have J:=A.ne o;have v:=Gt l (by decide) o;have u:=Gt k (by decide) o;have Y:=a0z o;have O:=a0z A;have Hql:=a0z l;have Hqs:=a0z k;have P:=a0z (fun W (h:Ak W b n d)=>rD W b n d lg.name s h z y Q);clear o A l k
 obtain⟨x,M⟩:∃x,d.appendE lg.name s=x:=⟨_,rfl⟩
 obtain⟨N,j⟩:∃x,d.append lg.name s=x:=⟨_,rfl⟩
 rw[M,j] at P ⊢;clear M j;go_enter Tryz.func191,Tryz.ntmps191;go_wp2_with (fail);refine Ft (fun D w'=>H9 b n w d N (D 9) w') (fun _ _=>True) (by kernel_rfl) (by kernel_rfl) (H9.start Y.out) ?_
 iterate 9
  apply Be (fun _ _ h=>h) rfl rfl rfl
  ·intro b a w g f K q
   try have h0:=f.fr 0 rfl
   try have h3:=f.eq 0 3 rfl
   try have h4:=f.eq 1 4 rfl
   try have h5:=f.eq 2 5 rfl
   try have h7:=f.eq 4 7 rfl
   try have h8:=f.eq 5 8 rfl
   try have h9:=f.eq 6 9 rfl
   try have h1:=f.fr 1 rfl
   have t:=Ab ((g.fp.block _ (Ac Hql.out) v).trans Hql.out) 0;have r:=Ab ((g.fp.block _ (Ac Hqs.out) u).trans Hqs.out) 0;have X:=Ab (O.out.fp g.fp J) 0;have V:=Ab (O.out.fp g.fp J) 1;simp only[Gj,a0w,a0u,a0x] at X V t r;simp only[Oper.wp,execOp];go_simp;exact q _ g trivial
 apply Fb (B6 (.int .i64 x)) rfl rfl rfl
 ·intro b a w g f K q;have h6:=f.eq 3 6 rfl;have U:=f.eq 7 10 rfl;have T:=f.eq 8 11 rfl;simp only[Oper.wp,execOp];go_simp;(with_reducible refine(P.out _ (g.first f.self)).mono ?_);rintro e w2 ⟨rfl,j,B⟩;exact q _ _ ⟨j,g.fp.trans B (by intro i R;exact Or.inl R)⟩ trivial rfl
 apply Be (fun _ _ h=>h) rfl rfl rfl
 ·intro b a w g f K q;have S:=f.eq 9 12 rfl;simp only[Oper.wp,execOp];go_simp;exact q _ g trivial
 refine⟨?_,?_⟩
 ·refine Cc _ ?_;refine⟨fun _ _ _ _ h=>h,?_⟩
  iterate 9 refine Cc _ ?_
  exact trivial
 ·intro w' D g p;simp only[a1w,a1v,a2z,a1u]
  iterate 9 (refine Am ?_)
  refine Ap ?_;intro Z u9;obtain rfl:=u9
  iterate 1 (refine Am ?_)
  refine A0 ?_;simp only[Aj,Act.put,a0v,a1z,a1x];have C:D 9=true:=p 9 (by decide);have m:=g.disk;rw[C] at m;have F:Hid (Ak w' b n N):=a0z m;have E:=a0z g.fp;clear g p m;go_wp2_with (fail);go_ret;exact⟨rfl,F.out,E.out⟩
theorem Aib(w:World)(b m L C:Nat)(lg:Lg)(d:Dk)(p:Ak w b m d)(t:Av d)(s:lg.name.size≤maxLen)(u:Dh w L b lg)(k:w.heap[C]?=some (.cells #[.pointer (some ⟨L,0,none⟩)] 119 (0,0))):
  Calls Tryz.prog 192 #[.pointer (some ⟨C,0,none⟩)] w fun e w'=>e=.returned (.int .i64 (d.thereE lg.name))/\Ak w' b m (d.sync lg.name)/\Fp [b,m] w w':=by
 have D:=u.ne p;have r:=Gt k (by decide) p;have P:=a0z p;have G:=a0z u;have Hql:=a0z k;have I:=a0z (fun W (h:Ak W b m d)=>eG W b m d lg.name h t s);clear p u k
 obtain⟨x,E⟩:∃x,d.thereE lg.name=x:=⟨_,rfl⟩
 obtain⟨F,j⟩:∃x,d.sync lg.name=x:=⟨_,rfl⟩
 rw[E,j] at I ⊢;clear E j;go_enter Tryz.func192,Tryz.ntmps192;go_wp2_with (fail);refine Ft (fun z w'=>H9 b m w d F (z 8) w') (fun _ _=>True) (by kernel_rfl) (by kernel_rfl) (H9.start P.out) ?_
 iterate 8
  apply Be (fun _ _ h=>h) rfl rfl rfl
  ·intro b a w f g K o
   try have h0:=g.fr 0 rfl
   try have Z:=g.eq 0 2 rfl
   try have Y:=g.eq 1 3 rfl
   try have X:=g.eq 2 4 rfl
   try have U:=g.eq 4 6 rfl
   try have T:=g.eq 5 7 rfl
   try have S:=g.eq 6 8 rfl
   have q:=Ab ((f.fp.block _ (Ac Hql.out) r).trans Hql.out) 0;have O:=Ab (G.out.fp f.fp D) 0;have N:=Ab (G.out.fp f.fp D) 1;simp only[Gj,a0w,a0u,a0x] at O N q;simp only[Oper.wp,execOp];go_simp;exact o _ f trivial
 apply Fb (B6 (.int .i64 x)) rfl rfl rfl
 ·intro b a w f g K o;have V:=g.eq 3 5 rfl;have R:=g.eq 7 9 rfl;simp only[Oper.wp,execOp];go_simp;(with_reducible refine(I.out _ (f.first g.self)).mono ?_);rintro e w2 ⟨rfl,j,v⟩;exact o _ _ ⟨j,f.fp.trans v (by intro i J;exact Or.inl J)⟩ trivial rfl
 apply Be (fun _ _ h=>h) rfl rfl rfl
 ·intro b a w f g K o;have M:=g.eq 8 10 rfl;simp only[Oper.wp,execOp];go_simp;exact o _ f trivial
 refine⟨?_,?_⟩
 ·refine Cc _ ?_;refine⟨fun _ _ _ _ h=>h,?_⟩
  iterate 8 refine Cc _ ?_
  exact trivial
 ·intro w' z f n;simp only[a1w,a1v,a2z,a1u]
  iterate 8 (refine Am ?_)
  refine Ap ?_;intro Q u8;obtain rfl:=u8
  iterate 1 (refine Am ?_)
  refine A0 ?_;simp only[Aj,Act.put,a0v,a1z,a1x];have y:z 8=true:=n 8 (by decide);have l:=f.disk;rw[y] at l;have B:Hid (Ak w' b m F):=a0z l;have A:=a0z f.fp;clear f n l;go_wp2_with (fail);go_ret;exact⟨rfl,B.out,A.out⟩
end
section
open Go.RowKit Go.Lib Go.Maps Go.MapKept Go.ChangeMaps
theorem Aic{w:World}{b l L k j r:Nat}{lg:Lg}{F:Dk}{other s:ByteArray}(h:Ak w b l F)(f:other.size≤maxLen)(t:lg.name.size≤maxLen)(B:s.size≤1000000000)(n:Dh w L b lg)
  (x:w.heap[k]?=some (.cells #[.pointer (some ⟨L,0,none⟩)] 119 (0,0)))(v:w.heap[j]?=some (.cells #[.string other] 9 (0,0)))(u:w.heap[r]?=some (.cells #[.string s] 9 (0,0))):
  cA w b l [(177,#[.pointer (some ⟨k,0,none⟩),.pointer (some ⟨j,0,none⟩)]),(179,#[.pointer (some ⟨k,0,none⟩),.pointer (some ⟨j,0,none⟩)]),(181,#[.pointer (some ⟨k,0,none⟩),.pointer (some ⟨j,0,none⟩),.pointer (some ⟨r,0,none⟩)]),(183,#[.pointer (some ⟨k,0,none⟩),.pointer (some ⟨j,0,none⟩)]),(184,#[.pointer (some ⟨k,0,none⟩),.pointer (some ⟨j,0,none⟩)])] (R5 lg.name other s):=by
 have o:=n.ne h;have A:=Gt x (by decide) h;have z:=Gt v (by decide) h;have y:=Gt u (by decide) h
 have q:∀W,Fp [b,l] w W->W.heap[k]?=some (.cells #[.pointer (some ⟨L,0,none⟩)] 119 (0,0)):=fun W a=>(a.block _ (Ac x) A).trans x
 have p:∀W,Fp [b,l] w W->W.heap[j]?=some (.cells #[.string other] 9 (0,0)):=fun W a=>(a.block _ (Ac v) z).trans v
 have E:∀W,Fp [b,l] w W->W.heap[r]?=some (.cells #[.string s] 9 (0,0)):=fun W a=>(a.block _ (Ac u) y).trans u
 refine⟨rfl,fun i D C=>?_,Ahg _ _ _⟩
 have m:i=0∨i=1∨i=2∨i=3∨i=4:=by simp at D;omega
 rcases m with rfl|rfl|rfl|rfl|rfl
 ·exact⟨fun w=>by kernel_rfl,fun d W h g a=>Aaf W b l L k j lg d other h g f (n.fp a o) (q W a) (p W a)⟩
 ·exact⟨fun w=>by kernel_rfl,fun d W h g a=>Ah6 W b l L k j lg d other h g f (n.fp a o) (q W a) (p W a)⟩
 ·exact⟨fun w=>by kernel_rfl,fun d W h g a=>Ah7 W b l L k j r lg d other s h g f B (n.fp a o) (q W a) (p W a) (E W a)⟩
 ·exact⟨fun w=>by kernel_rfl,fun d W h g a=>Ah8 W b l L k j lg d other h g f (n.fp a o) (q W a) (p W a)⟩
 ·exact⟨fun w=>by kernel_rfl,fun d W h g a=>Ah9 W b l L k j lg d other h g f t (n.fp a o) (q W a) (p W a)⟩
theorem Aid(w:World)(b j L:Nat)(lg:Lg)(d:Dk)(s:ByteArray)(C:Ak w b j d)(v:Av d)(D:lg.name.size≤1000)(E:s.size≤1000000000)(u:Dh w L b lg):
  Calls Tryz.prog 114 #[.pointer (some ⟨L,0,none⟩),.string s] w fun e w'=>e=.returned (.int .i64 (d.wWrite lg.name s).2)/\Ak w' b j (d.wWrite lg.name s).1/\Fp [b,j] w w':=by
 obtain⟨W,g⟩:∃W,W=((((w.alloc (.cells #[.pointer (some ⟨L,0,none⟩)] 119)).alloc (.cells #[.string s] 9)).alloc (.cells #[.string (lg.name++J8)] 9)).alloc (.cells #[.func (.func 177) #[] #[.pointer (some ⟨w.heap.size,0,none⟩),.pointer (some ⟨w.heap.size+1+1,0,none⟩)],.func (.func 179) #[] #[.pointer (some ⟨w.heap.size,0,none⟩),.pointer (some ⟨w.heap.size+1+1,0,none⟩)],.func (.func 181) #[] #[.pointer (some ⟨w.heap.size,0,none⟩),.pointer (some ⟨w.heap.size+1+1,0,none⟩),.pointer (some ⟨w.heap.size+1,0,none⟩)],.func (.func 183) #[] #[.pointer (some ⟨w.heap.size,0,none⟩),.pointer (some ⟨w.heap.size+1+1,0,none⟩)],.func (.func 184) #[] #[.pointer (some ⟨w.heap.size,0,none⟩),.pointer (some ⟨w.heap.size+1+1,0,none⟩)]] 254)):=⟨_,rfl⟩
 have a:Fp [] w W:=by rw[g];exact(((Fp.alloc _ _).alloc' _).alloc' _).alloc' _
 have t:W.heap[w.heap.size]?=some (.cells #[.pointer (some ⟨L,0,none⟩)] 119 (0,0)):=by
  rw[g,Below.heap_alloc _ _ _ (by simp<;>omega),Below.heap_alloc _ _ _ (by simp<;>omega),Below.heap_alloc _ _ _ (by simp<;>omega)];exact Ai rfl _
 have q:W.heap[w.heap.size+1]?=some (.cells #[.string s] 9 (0,0)):=by
  rw[g,Below.heap_alloc _ _ _ (by simp<;>omega),Below.heap_alloc _ _ _ (by simp<;>omega)];exact Ai (by simp) _
 have p:W.heap[w.heap.size+1+1]?=some (.cells #[.string (lg.name++J8)] 9 (0,0)):=by
  rw[g,Below.heap_alloc _ _ _ (by simp<;>omega)];exact Ai (by simp) _
 have l:(lg.name++J8).size<=maxLen:=by rw[ByteArray.size_append];show lg.name.size+1<=maxLen;unfold maxLen;omega
 have f:=C.of_fp a (by simp) (by simp);have m:=Aic f l (by unfold maxLen;omega) E (u.fp a (by simp)) t p q
 have k:Calls Tryz.prog 176 #[.slice (some ⟨w.heap.size+1+1+1,0,none⟩) 5 5] W fun e w'=>e=.returned (.int .i64 (d.wWrite lg.name s).2)/\Ak w' b j (d.wWrite lg.name s).1/\Fp [b,j] W w':=by
  have h:=lU W b j (w.heap.size+1+1+1) d _ _ f v (by rw[g];exact Ai (by simp) _) (by simp) m;rw[show Il (R5 lg.name (lg.name++J8) s) d=d.wWrite lg.name s from rfl] at h;exact h
 have K:w.cell? ⟨L,1,none⟩=some (.string lg.name):=Ab u 1;have F:=Ac u;have k:=a0z k;have z:=a0z a;rw[g] at k z
 obtain⟨⟨J,x⟩,B⟩:∃r,d.wWrite lg.name s=r:=⟨_,rfl⟩
 rw[B] at k ⊢
 have I:¬lg.name.size+1>9223372036854775807:=by omega
 clear B g m f t q p a C u l;unfold J8 at k z;go_enter Tryz.func114,Tryz.ntmps114;go_wp2_with (fail);(with_reducible refine k.out.mono ?_);rintro e w2 ⟨rfl,o,n⟩;have A:=a0z o;have y:=a0z ((z.out.mono (S':=[b,j]) (by simp)).trans n (by intro i G;exact Or.inl G));clear o n;go_wp2_with (fail);go_ret;exact⟨rfl,A.out,y.out⟩
theorem Aie{l:List ByteArray}{k:Nat}(a:k<l.length)(h:65535<(l[k]).size):Ju l=(⟨#[]⟩,71):=by
 unfold Ju eI;rw[if_neg];intro b;have:=List.all_eq_true.1 b l[k] (List.getElem_mem a);simp only[decide_eq_true_eq] at this;omega
theorem rW{l:List ByteArray}(h:∀t∈l,t.size<=65535):Ju l=(bl (B9 l),0):=by
 unfold Ju eI;rw[if_pos]
 exact List.all_eq_true.2 fun t a=>by simpa using h t a
theorem Aif{l:List ByteArray}(k:Nat):Cm (l.take k)<=Cm l:=by
 have h:=Zq (l.take k) (l.drop k);rw[List.take_append_drop] at h;omega
theorem Aig{l:List ByteArray}{k:Nat}(a:k<l.length):Cm (l.take (k+1))=Cm (l.take k)+(6+(l[k]).size):=by
 rw[a2x a,Zq];rfl
theorem eY:∀(l:List ByteArray),6*l.length<=Cm l
 |[]=>Nat.zero_le _
 |t::r=>by have:=eY r;simp only[List.length_cons,Cm];omega
theorem Aih{w:World}{a:Option Addr}{n k:Nat}{l:List ByteArray}(h:Eq w a n l)(d:k<l.length):∃b o,a=some ⟨b,o,none⟩/\∀w',Fp [] w w'->w'.cell? ⟨b,o+k,none⟩=some (.string l[k]):=by
 rcases h.cells with i|⟨b,o,e,f⟩
 ·rw[i] at d;exact absurd d (Nat.not_lt_zero _)
 ·exact⟨b,o,e,fun w' g=>by rw[g.cell (World.block_lt_of_cell? _ _ (f k d)) (by simp)];exact f k d⟩
theorem Aii(w:World)(a:Option Addr)(n cap:Nat)(l:List ByteArray)(A:Eq w a n l)(u:Dl w)(I:Cm l≤100000000):
  Calls Tryz.prog 242 #[.slice a n cap] w fun e w'=>e=.returned (.tuple #[.string (Ju l).1,.int .i64 (Ju l).2])/\Fp [] w w':=by
 have ab:=a0z A;have P:=a0z A.len;have HT:=a0z u;have O:=a0z (fun s w h u=>jG s w h u);have X:=a0z (fun l s w h1 h2=>Su dY (show 131≠5 by decide) w.heap.size w.heap.size l s w h1 h2);have V:=eY l
 have ad:l.length<=100000000:=by omega
 have N:=a0z I;clear A u I X V;go_enter Tryz.func242,Tryz.ntmps242;go_wp2_with (fail)
 go_loopg [11] n (fun g vi W=>∃(k:Nat),g+k=n/\vi=.int .i64 k/\(∀t∈l.take k,t.size<=65535)/\Dp 131 w.heap.size w.heap.size (B9 (l.take k)) W/\Fp [] w W)
 case atStart=>exact⟨0,by omega,rfl,by simp,Dp.fresh _ _,Fp.alloc _ _⟩
 case round=>
  obtain⟨k,hg,rfl,p,hb,hf⟩:=hrel;have q:=a0z p;have HB:=a0z hb;have Q:=a0z hf;clear p hb hf
  by_cases hk:k<n
  ·have zk:(k:Int)<(n:Int):=by omega
   have i:k<l.length:=by rw[<-P.out];exact hk
   obtain⟨b1,o1,rfl,b⟩:=Aih ab.out i;have x:=b wr Q.out;have J:=Aig i;have U:=Aif (l:=l) (k+1);have K:=Nb (l.take k)
   have v:B9 (l.take (k+1))=B9 (l.take k)++C3 l[k]:=by
    rw[a2x i,rI];show _ ++(C3 l[k]++[])=_;rw[List.append_nil]
   have m:65535<(l[k]).size->Ju l=(⟨#[]⟩,71):=Aie i
   have B:∀t∈l.take (k+1),t=l[k]∨t∈l.take k:=by
    intro t u;rw[a2x i] at u
    rcases List.mem_append.1 u with h|h
    ·exact Or.inr h
    ·exact Or.inl (List.mem_singleton.1 h)
   obtain⟨t,G⟩:∃t,l[k]=t:=⟨_,rfl⟩
   rw[G] at x J v m B
   have r:t.size<=100000000:=by have:=N.out;omega
   have L:(B9 (l.take k)).length+(Kp t).size<=1000000000:=by rw[K,X2];have:=N.out;omega
   have Y:=a0z v;have R:=a0z m;have ac:=a0z B;have Z:=a0z L;have ae:=a0z r;have S:=a0z (O.out t wr r (HT.out.fp Q.out (by simp)));clear b J U K v m B G L r
   by_cases F:65535<t.size
   ·have o:=a0z (R.out F);have f:L3 t=(⟨#[]⟩,71):=if_pos F;rw[f] at S;clear F f;go_wp2_with (fail);(with_reducible refine S.out.mono ?_);rintro e w2 ⟨rfl,d⟩;have E:=a0z (Q.out.trans d (by simp));clear d;go_wp2_with (fail);go_ret2;rw[o.out];exact⟨rfl,E.out⟩
   ·have f:L3 t=(Kp t,0):=if_neg F;have HW:=a0z F;rw[f] at S;clear F f;go_wp2_with (fail);(with_reducible refine S.out.mono ?_);rintro e w2 ⟨rfl,d⟩;have o:=a0z (HB.out.fp d (by simp));have E:=a0z (Q.out.trans d (by simp));clear d;go_wp2_with (fail);(with_reducible refine(Su dY (by decide) w.heap.size w.heap.size (B9 (l.take k)) (Kp t) w2 o.out Z.out).mono ?_);rintro e w3 ⟨rfl,y,j⟩
    have aa:Hid (Dp 131 w.heap.size w.heap.size (B9 (l.take (k+1))) w3):=by
     rw[Y.out];rw[show(Kp t).data.toList=C3 t from by rw[Wu];exact Nq _] at y;exact a0z y
    have D:=a0z (E.out.bfp j (Nat.le_refl _));clear y j;go_wp2_with (fail)
    go_roundg (gk-1)
    case measure=>omega
    case rel=>exact⟨k+1,by omega,by go_num,fun t' T=>by
     rcases ac.out t' T with rfl|h
     ·have:=HW.out;omega
     ·exact q.out t' h,aa.out,D.out⟩
  ·have zk:¬(k:Int)<(n:Int):=by omega
   have M:l.take k=l:=by rw[List.take_of_length_le (by rw[<-P.out];omega)]
   have z:=HB.out;have C:=q.out;rw[M] at z C;have o:=a0z z;have HG:=a0z (rW C);clear M z C;go_wp2_with (fail);(with_reducible refine(aD w.heap.size w.heap.size (B9 l) _ o.out).mono ?_);rintro e w3 ⟨rfl,j⟩;have D:=a0z (Q.out.belowTrans j);clear j;go_wp2_with (fail);go_ret2;rw[HG.out];exact⟨rfl,D.out⟩
end
section
open Go.RowKit Go.Lib Go.Maps Go.MapKept Go.ChangeMaps
theorem Aij{w:World}{b k L j m:Nat}{lg:Lg}{A:Dk}{s:ByteArray}(g:Ak w b k A)(l:lg.name.size≤maxLen)(v:s.size≤1000000000)(n:Dh w L b lg)
  (p:w.heap[j]?=some (.cells #[.pointer (some ⟨L,0,none⟩)] 119 (0,0)))(o:w.heap[m]?=some (.cells #[.string s] 9 (0,0))):
  cA w b k [(191,#[.pointer (some ⟨j,0,none⟩),.pointer (some ⟨m,0,none⟩)]),(192,#[.pointer (some ⟨j,0,none⟩)])] (Uw lg.name s):=by
 have q:=n.ne g;have u:=Gt p (by decide) g;have t:=Gt o (by decide) g
 have r:∀W,Fp [b,k] w W->W.heap[j]?=some (.cells #[.pointer (some ⟨L,0,none⟩)] 119 (0,0)):=fun W a=>(a.block _ (Ac p) u).trans p
 have z:∀W,Fp [b,k] w W->W.heap[m]?=some (.cells #[.string s] 9 (0,0)):=fun W a=>(a.block _ (Ac o) t).trans o
 refine⟨rfl,fun i y x=>?_,Ahh _ _⟩
 have h:i=0∨i=1:=by simp at y;omega
 rcases h with rfl|rfl
 ·exact⟨fun w=>by kernel_rfl,fun d W g f a=>Aia W b k L j m lg d s g f l v (n.fp a q) (r W a) (z W a)⟩
 ·exact⟨fun w=>by kernel_rfl,fun d W g f a=>Aib W b k L j lg d g f l (n.fp a q) (r W a)⟩
theorem Aik(w:World)(b g L p:Nat)(lg:Lg)(d:Dk)(s:ByteArray)(A:Ak w b g d)(q:Av d)(C:lg.name.size≤1000)(D:s.size≤1000000000)(z:Dh w L b lg)
  (t:w.heap[p]?=some (.cells #[.pointer (some ⟨L,0,none⟩)] 119 (0,0))):
  Calls Tryz.prog 190 #[.string s,.pointer (some ⟨p,0,none⟩)] w fun e w'=>e=.returned (.int .i64 (d.wAppend lg.name s).2)/\Ak w' b g (d.wAppend lg.name s).1/\Fp [b,g] w w':=by
 obtain⟨W,n⟩:∃W,W=((w.alloc (.cells #[.string s] 9)).alloc (.cells #[.func (.func 191) #[] #[.pointer (some ⟨p,0,none⟩),.pointer (some ⟨w.heap.size,0,none⟩)],.func (.func 192) #[] #[.pointer (some ⟨p,0,none⟩)]] 254)):=⟨_,rfl⟩
 have a:Fp [] w W:=by rw[n];exact(Fp.alloc _ _).alloc' _
 have m:W.heap[w.heap.size]?=some (.cells #[.string s] 9 (0,0)):=by
  rw[n,Below.heap_alloc _ _ _ (by simp<;>omega)];exact Ai (by simp) _
 have f:=A.of_fp a (by simp) (by simp);have j:=Aij f (by unfold maxLen;omega) D (z.fp a (by simp)) ((a.block _ (Ac t) (by simp)).trans t) m
 have o:Calls Tryz.prog 176 #[.slice (some ⟨w.heap.size+1,0,none⟩) 2 2] W fun e w'=>e=.returned (.int .i64 (d.wAppend lg.name s).2)/\Ak w' b g (d.wAppend lg.name s).1/\Fp [b,g] W w':=by
  have h:=lU W b g (w.heap.size+1) d _ _ f q (by rw[n];exact Ai (by simp) _) (by simp) j;rw[show Il (Uw lg.name s) d=d.wAppend lg.name s from rfl] at h;exact h
 have o:=a0z o;have B:=a0z a;rw[n] at o B
 obtain⟨⟨F,x⟩,y⟩:∃r,d.wAppend lg.name s=r:=⟨_,rfl⟩
 rw[y] at o ⊢;clear y n j f m a A z t;go_enter Tryz.func190,Tryz.ntmps190;go_wp2_with (fail);(with_reducible refine o.out.mono ?_);rintro e w2 ⟨rfl,l,k⟩;have v:=a0z l;have u:=a0z ((B.out.mono (S':=[b,g]) (by simp)).trans k (by intro i E;exact Or.inl E));clear l k;go_wp2_with (fail);go_ret;exact⟨rfl,v.out,u.out⟩
theorem Ail{lg:Lg}{d:Dk}{l:List ByteArray}{m:Nat}{g:ByteArray->Dk->Dk × Int}(h:lg.off=true):K3 lg d l m g=(lg,d,6):=by
 unfold K3;rw[h];rfl
theorem Aim{lg:Lg}{d:Dk}{l:List ByteArray}{m:Nat}{g:ByteArray->Dk->Dk × Int}{s:ByteArray}{x:Int}(h:lg.off=false)(b:Ju l=(s,x))(a:x≠0):K3 lg d l m g=(lg,d,x):=by
 unfold K3;rw[h,b,if_neg (by decide),if_pos a]
theorem Ain{lg:Lg}{d a:Dk}{l:List ByteArray}{m:Nat}{g:ByteArray->Dk->Dk × Int}{s:ByteArray}{x:Int}(h:lg.off=false)(f:Ju l=(s,0))(b:g s d=(a,x)):K3 lg d l m g=(if x=0 then{lg with many:=m} else if x=2 then lg else{lg with off:=true},a,x):=by
 unfold K3;rw[h,f,if_neg (by decide),if_neg (by simp)];simp only[b]
theorem Dh.put{w:World}{L b:Nat}{lg:Lg}(h:Dh w L b lg):Dh (w.setCell ⟨L,3,none⟩ (.bool true)) L b {lg with off:=true}:=(Bd h _).trans rfl
theorem Dh.putMany{w:World}{L b m:Nat}{lg:Lg}(h:Dh w L b lg):Dh (w.setCell ⟨L,2,none⟩ (.int .i64 m)) L b {lg with many:=m}:=(Bd h _).trans rfl
theorem Aio(w:World)(b k L:Nat)(lg:Lg)(d:Dk)(a:Option Addr)(n cap:Nat)(l:List ByteArray)(m F:Nat)(f:Array Value)(g:ByteArray→Dk→Dk × Int)
  (X:Ak w b k d)(J:Dh w L b lg)(O:Eq w a n l)(ht:Dl w)(I:Cm l<=100000000)
  (C:∀s w,(callFunc F (#[.string s]++f)).run Tryz.prog w=.ok (.enter F (#[.string s]++f)) w)
  (M:∀s W,(B9 l).length=s.size->Fp [] w W->Ak W b k d->Calls Tryz.prog F (#[.string s]++f) W fun e w'=>e=.returned (.int .i64 (g s d).2)/\Ak w' b k (g s d).1/\Fp [b,k] W w'):
  Calls Tryz.prog 189 #[.pointer (some ⟨L,0,none⟩),.slice a n cap,.int .i64 m,.func (.func F) #[] f] w fun e w'=>e=.returned (.int .i64 (K3 lg d l m g).2.2)/\Ak w' b k (K3 lg d l m g).2.1/\Dh w' L b (K3 lg d l m g).1/\Fp [b,k,L] w w':=by
 have n0:=J.ne X;have ae:=Ac J;have c3:w.cell? ⟨L,3,none⟩=some (.bool lg.off):=Ab J 3;have G:=a0z (Aii w a n cap l O ht I);have HD:=a0z X;have Y:=a0z J;have ab:=a0z M;have Q:=a0z n0;clear X J O ht I M n0;cases ho:lg.off
 case true=>
  rw[ho] at c3;have D:=a0z (Ail (d:=d) (l:=l) (m:=m) (g:=g) ho);clear ho;go_enter Tryz.func189,Tryz.ntmps189;go_wp2_with (fail);go_ret;rw[D.out];exact⟨rfl,HD.out,Y.out,Fp.refl _ _⟩
 case false=>
  rw[ho] at c3
  obtain⟨⟨s,x⟩,v⟩:∃r,Ju l=r:=⟨_,rfl⟩
  rw[v] at G
  by_cases U:x=0
  ·subst U
   have q:(B9 l).length=s.size:=by
    unfold Ju at v;split at v
    ·cases v;rw[Dm]
    ·cases v
   obtain⟨⟨d2,y⟩,V⟩:∃r,g s d=r:=⟨_,rfl⟩
   have Z:Hid (∀W,Fp [] w W->Calls Tryz.prog F (#[.string s]++f) W fun e w'=>e=.returned (.int .i64 y)/\Ak w' b k d2/\Fp [b,k] W w'):=a0z (fun W hf=>by
    have h:=ab.out s W q hf (HD.out.of_fp hf (by simp) (by simp));rw[V] at h
    exact h)
   have D:=a0z (Ain (m:=m) ho v V);have ad:=C s;clear ho v V q C;go_enter Tryz.func189,Tryz.ntmps189;go_wp2_with (fail);(with_reducible refine G.out.mono ?_);rintro e w1 ⟨rfl,t⟩;have o:=a0z t;clear t;go_wp2_with (fail);(with_reducible refine(Z.out _ o.out).mono ?_);rintro e w2 ⟨rfl,N,K⟩;have E:=a0z N;have A:Hid (Fp [b,k] w w2):=a0z ((o.out.mono (by simp)).trans K (by intro i B;exact Or.inl B));have j:=a0z (Y.out.fp A.out Q.out);have ac:=Ac j.out;have e2:w2.cell? ⟨L,2,none⟩=some (.int .i64 lg.many):=Ab j.out 2;have e3:w2.cell? ⟨L,3,none⟩=some (.bool lg.off):=Ab j.out 3;have f2:w2.frozen? ⟨L,2,none⟩=false:=Ar j.out 2;have f3:w2.frozen? ⟨L,3,none⟩=false:=Ar j.out 3;have z:Hid (b≠L/\k≠L):=a0z (by have:=Q.out;simp only[a2v,a2w,or_false,not_or] at this;exact⟨Ne.symm this.1,Ne.symm this.2⟩)
   have P:Hid (∀p u,p=L->Fp [b,k,L] w (w2.setCell ⟨p,3,none⟩ u)/\Fp [b,k,L] w (w2.setCell ⟨p,2,none⟩ u)):=a0z (fun p u hp=>by
    subst hp
    exact⟨(A.out.mono (S':=[b,k,p]) (by intro i B;simp only[a2v,a2w,or_false] at B ⊢;omega)).setCell' (Or.inl (by simp)) u,(A.out.mono (S':=[b,k,p]) (by intro i B;simp only[a2v,a2w,or_false] at B ⊢;omega)).setCell' (Or.inl (by simp)) u⟩)
   clear N K
   by_cases T:y=0
   ·subst T;go_wp2_with (fail);go_ret;rw[D.out];refine⟨rfl,E.out.of_fp (S:=[L]) (Fp.setCell _ ⟨L,2,none⟩ _) (by simpa using z.out.1) (by simpa using z.out.2),j.out.putMany,(P.out L _ rfl).2⟩
   ·by_cases R:y=2
    ·subst R;go_wp2_with (fail);go_ret;rw[D.out];exact⟨rfl,E.out,j.out,A.out.mono (by intro i B;simp only[a2v,a2w,or_false] at B ⊢;omega)⟩
    ·have b0:((y:Int)==0)=false:=by simpa using T
     have b2:((y:Int)==2)=false:=by simpa using R
     have aa:Hid (K3 lg d l m g=({lg with off:=true},d2,y)):=by
      have:=D.out;rw[if_neg T,if_neg R] at this;exact this
     clear T R;go_wp2_with (fail);go_ret;rw[aa.out];exact⟨rfl,E.out.of_fp (S:=[L]) (Fp.setCell _ ⟨L,3,none⟩ _) (by simpa using z.out.1) (by simpa using z.out.2),j.out.put,(P.out L _ rfl).1⟩
  ·have hb:((x:Int)!=0)=true:=by simpa using U
   have D:=a0z (Aim (d:=d) (m:=m) (g:=g) ho v U);clear ho v U C;go_enter Tryz.func189,Tryz.ntmps189;go_wp2_with (fail);(with_reducible refine G.out.mono ?_);rintro e w1 ⟨rfl,t⟩;have o:=a0z t;clear t;go_wp2_with (fail);go_ret;rw[D.out];exact⟨rfl,HD.out.of_fp o.out (by simp) (by simp),Y.out.fp o.out (by simp),o.out.mono (by simp)⟩
structure R7(S:List Nat)(w0:World)(Post:World->Prop)(done:Bool)(w:World):Prop where
 pre:done=false->Fp [] w0 w
 post:done=true->Post w
 fp:Fp S w0 w
theorem R7.start{S:List Nat}{a:World}{Post:World->Prop}:R7 S a Post false a.drew:=⟨fun _=>Fp.drew a,(fun h=>by cases h),(Fp.drew a).mono (by simp)⟩
theorem R7.did{S S':List Nat}{a w w2:World}{Post:World->Prop}(h:Fp [] a w)(d:Fp S' w w2)(f:∀i∈S',i∈S∨a.heap.size<=i)(b:Post w2):R7 S a Post true w2:=⟨(fun h=>by cases h),fun _=>b,(h.mono (S':=S) (by simp)).trans d f⟩
theorem rX{a c:Bool}(h:a=true->c=true)(b:c=false):a=false:=by cases a<;>cases c<;>simp_all
structure Wy(S:List Nat)(w0:World)(Post:World->Prop)(b5 b8 done:Bool)(w:World):Prop where
 t:R7 S w0 Post done w
 o1:b8=true->b5=true
 o2:done=true->b8=true
theorem Wy.early{S:List Nat}{a:World}{Post:World->Prop}{b f done:Bool}{w:World}(h:Wy S a Post b f done w)(d:b=false):Fp [] a w:=h.t.pre (rX h.o2 (rX h.o1 d))
theorem Aip(w:World)(g m L:Nat)(lg:Lg)(d:Dk)(a:Option Addr)(n cap:Nat)(l:List ByteArray)
  (hd:Ak w g m d)(M:Av d)(I:lg.name.size<=1000)(hl:Dh w L g lg)(E:Eq w a n l)(ht:Dl w)(X:Cm l<=100000000)(Y:lg.many<=1000000000):
  Calls Tryz.prog 117 #[.pointer (some ⟨L,0,none⟩),.slice a n cap] w fun e w'=>e=.returned (.int .i64 (Hl lg d l).2.2)/\Ak w' g m (Hl lg d l).2.1/\Dh w' L g (Hl lg d l).1/\Fp [g,m,L] w w':=by
 have Z:=eY l;have N:=E.len;have o:=Fp.alloc w (.cells #[.pointer (some ⟨L,0,none⟩)] 119)
 obtain⟨w0,G⟩:∃w0,w.alloc (.cells #[.pointer (some ⟨L,0,none⟩)] 119)=w0:=⟨_,rfl⟩
 have D:w0.heap[w.heap.size]?=some (.cells #[.pointer (some ⟨L,0,none⟩)] 119 (0,0)):=by rw[<-G];exact Ai rfl _
 rw[G] at o;have C:=hd.of_fp o (by simp) (by simp);have O:=hl.fp o (by simp);have y:=E.of_fp o;have J:=ht.fp o (by simp);have R:=Gt D (by decide) C
 have V:w.heap.size≠L:=by have:=Ac hl;omega
 obtain⟨mn,B⟩:∃mn,lg.many+n=mn:=⟨_,rfl⟩
 have HC:Hid (∀W,Ak W g m d→Dh W L g lg→Fp [g,m,L] w0 W→Eq W a n l→Dl W→W.heap[w.heap.size]?=some (.cells #[.pointer (some ⟨L,0,none⟩)] 119 (0,0))→Calls Tryz.prog 189 #[.pointer (some ⟨L,0,none⟩),.slice a n cap,.int .i64 ((mn:Nat):Int),.func (.func 190) #[] #[.pointer (some ⟨w.heap.size,0,none⟩)]] W fun e w'=>e=.returned (.int .i64 (Hl lg d l).2.2)∧Ak w' g m (Hl lg d l).2.1∧Dh w' L g (Hl lg d l).1∧Fp [g,m,L] W w'):=a0z (fun W h1 T h3 h4 S h6=>by
  have h:=Aio W g m L lg d a n cap l (lg.many+n) 190 #[.pointer (some ⟨w.heap.size,0,none⟩)] (fun s d=>d.wAppend lg.name s) h1 T h4 S X (fun s w=>by kernel_rfl)
   (fun s W' hs hf ab=>Aik W' g m L w.heap.size lg d s ab M I (by rw[<-hs,Nb];omega) (T.fp hf (by simp)) ((hf.block _ (Ac h6) (by simp)).trans h6))
  have e1:Hl lg d l=K3 lg d l (lg.many+n) (fun s d=>d.wAppend lg.name s):=by unfold Hl;rw[N]
  rw[e1,B];rw[B] at h
  exact h)
 obtain⟨⟨z,d2,x⟩,hx⟩:∃r,Hl lg d l=r:=⟨_,rfl⟩
 rw[hx] at HC ⊢;have ag:=a0z C;have Q:=a0z O;have ah:=a0z y;have HT:=a0z J;have q:=a0z D;have ae:=a0z o
 have F:w.heap.size∉[g,m,L]:=by
  intro Y;simp only[a2v,a2w,or_false] at Y R
  rcases Y with h|h|h
  ·exact R (Or.inl h)
  ·exact R (Or.inr h)
  ·exact V h
 have aj:∀(fn:Fn) (first cap:Array Value) (w:World),(Instr.makeFunc fn first cap).run Tryz.prog w=.ok (.func fn first cap) w:=fun _ _ _ _=>rfl
 have zn:IntKind.i64.wrap ((lg.many:Int)+(n:Int))=(mn:Int):=by rw[IntKind.wrap_i64];omega
 clear hx hd hl E ht C O y J D o N Z M I R B;go_enter Tryz.func117,Tryz.ntmps117;go_wp2_with (fail);refine Ft (fun U w'=>Wy [g,m,L] w0 (fun W=>Ak W g m d2/\Dh W L g z) (U 5) (U 8) (U 10) w') (fun _ _=>True) (by kernel_rfl) (by kernel_rfl) ⟨R7.start,(fun h=>by cases h),(fun h=>by cases h)⟩ ?_
 iterate 5
  apply Be (fun _ _ h=>h) rfl rfl rfl
  ·intro b a w j f K p
   try have T:=f.fr 2 rfl
   try have h1:=f.fr 1 rfl
   try have h7:=f.eq 2 7 rfl
   try have h8:=f.eq 3 8 rfl
   have q0:=Ab ((j.t.fp.block _ (Ac q.out) F).trans q.out) 0;simp only[a0w,a0x] at q0;simp only[Oper.wp,execOp];go_simp;exact p _ j trivial
 apply Fb (B6 (.int .i64 lg.many)) rfl rfl rfl
 ·intro b a w j f K p;have h9:=f.eq 4 9 rfl;have q0:=Ab ((j.t.fp.block _ (Ac q.out) F).trans q.out) 0;simp only[a0w,a0x] at q0;have k:=j.early f.self;have q1:=Ab (Q.out.fp k (by simp)) 2;simp only[Gj,a0w,a0u,a0x] at q1
  have A:Wy [g,m,L] w0 (fun W=>Ak W g m d2/\Dh W L g z) true (b 8) (b 10) w:=⟨j.t,(fun _=>rfl),j.o2⟩
  simp only[Oper.wp,execOp];go_simp;exact p _ _ A trivial rfl
 iterate 2
  apply Be (fun _ _ h=>h) rfl rfl rfl
  ·intro b a w j f K p
   try have h1:=f.fr 1 rfl
   try have ao:=f.eq 6 11 rfl
   simp only[Oper.wp,execOp];go_simp;exact p _ j trivial
 apply Fb (B6 (.int .i64 mn)) rfl rfl rfl
 ·intro b a w j f K p;have ap:=f.eq 5 10 rfl;have an:=f.eq 7 12 rfl;have S:=f.pre 5 (by kernel_rfl)
  have A:Wy [g,m,L] w0 (fun W=>Ak W g m d2/\Dh W L g z) (b 5) true (b 10) w:=⟨j.t,(fun _=>S),(fun _=>rfl)⟩
  simp only[Oper.wp,execOp];go_simp;exact p _ _ A trivial rfl
 apply Be (fun _ _ h=>h) rfl rfl rfl
 ·intro b a w j f K p;have T:=f.fr 2 rfl;simp only[Oper.wp,execOp];go_simp;exact p _ j trivial
 apply Fb (B6 (.int .i64 x)) rfl rfl rfl
 ·intro b a w j f K p;have S:=f.eq 0 5 rfl;have h6:=f.eq 1 6 rfl;have am:=f.eq 8 13 rfl;have al:=f.eq 9 14 rfl;have h8:=f.pre 8 (by kernel_rfl);have k:=j.t.pre f.self;simp only[Oper.wp,execOp];go_simp;(with_reducible refine(HC.out _ (ag.out.of_fp k (by simp) (by simp)) (Q.out.fp k (by simp)) (k.mono (by simp)) (ah.out.of_fp k) (HT.out.fp k (by simp)) ((k.block _ (Ac q.out) (by simp)).trans q.out)).mono ?_);rintro e w2 ⟨rfl,v,u,aa⟩;exact p _ _ ⟨R7.did k aa (by intro i hi;exact Or.inl hi) ⟨v,u⟩,j.o1,(fun _=>h8)⟩ trivial rfl
 apply Be (fun _ _ h=>h) rfl rfl rfl
 ·intro b a w j f K p;have ak:=f.eq 10 15 rfl;simp only[Oper.wp,execOp];go_simp;exact p _ j trivial
 refine⟨?_,?_⟩
 ·refine Cc _ ?_;refine⟨fun _ _ _ _ h=>h,?_⟩;refine Cc _ ?_;refine⟨fun _ _ _ _ h=>h,?_⟩;refine Cc _ ?_;refine Cc _ ?_;refine⟨fun _ _ _ _ h=>h,?_⟩
  iterate 5 refine Cc _ ?_
  exact trivial
 ·intro w' U j P;simp only[a1w,a1v,a2z,a1u]
  iterate 5 (refine Am ?_)
  refine Ap ?_;intro v5 u5;obtain rfl:=u5
  iterate 2 (refine Am ?_)
  refine Ap ?_;intro v8 u8;obtain rfl:=u8
  iterate 1 (refine Am ?_)
  refine Ap ?_;intro ai u10;obtain rfl:=u10
  iterate 1 (refine Am ?_)
  refine A0 ?_;simp only[Aj,Act.put,a0v,a1z,a1x];obtain⟨v,u⟩:=j.t.post (P 10 (by decide));have af:=a0z v;have ac:=a0z u;have ad:Hid (Fp [g,m,L] w w'):=a0z ((ae.out.mono (S':=[g,m,L]) (by simp)).trans j.t.fp (by intro i hi;exact Or.inl hi));clear j P v u;go_wp2_with (fail);go_ret;exact⟨rfl,af.out,ac.out,ad.out⟩
end
end Go.Proofs.YtkagolpnaicdoaaGreatDoor
