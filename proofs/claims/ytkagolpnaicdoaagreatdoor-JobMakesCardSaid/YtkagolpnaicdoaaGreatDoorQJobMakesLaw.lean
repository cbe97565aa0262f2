/- The law JobMakes. -/
import Derived.Test.YtkagolpnaicdoaaGreatDoorQJobMakesFacts
import Derived.Test.YtkagolpnaicdoaaGreatDoorQJobNm
set_option maxRecDepth 100000
set_option maxHeartbeats 8000000
namespace Go.Proofs.YtkagolpnaicdoaaGreatDoor
open Go.ChangeShapes Go.WideShapes Go.ChangeAt Go.RowKit
open Go.ChangeMaps (open_string shut_string)
theorem jobMakes_lifted(os:Os)(started:os.Started)(H:Type)(enc:TypeId × Value→H):
  ReturnsInHanded {} Tryz.checked os 3 .any (fun w args=>(Rows.jobMakesSpec.pre enc Tryz.prog Tryz.f3 Rows.jobMakesRow.domain false w args/\ laidMetH Tryz.prog Rows.jobMakesRow.laid w)/\ sizedMet enc Tryz.prog Tryz.f3 (OpenSpec.ofChange Rows.jobMakesSpec) false w args)
   (Rows.jobMakesSpec.post enc Tryz.prog Tryz.f3 false true false false):=by
 refine Aem (C:=Tryz.checked) (X:=fun w _=>laidMetH Tryz.prog Rows.jobMakesRow.laid w) own started (by kernel_rfl) Tryz.func3
  (ChangeSpec.witness_shaped (enc:=enc) (C:=Tryz.checked) (os:=os) (X:=fun w _=>laidMetH Tryz.prog Rows.jobMakesRow.laid w) false (World.laidAll Tryz.prog os Rows.jobMakesRow.laid) #[.string ⟨#[]⟩,.slice none 0 0,.int .u64 0,.int .i64 0,.int .i64 0,.int .i64 0] 8 (World.laidAll_os _ _ _)
   (World.shaped_of_ZipB (by kernel_rfl) (by kernel_rfl)) (by kernel_rfl) (by kernel_rfl) (by kernel_rfl)
   (by rw[MakeChecks.laidMetH_plain _ _ _ (by kernel_rfl)];exact laidMet_laidAll _ (by kernel_rfl) (by kernel_rfl))) ?_
 intro W args ds gs before hval0 hW hsh hX;have hval:∀(j:Nat) t v,Tryz.f3.params[j]?=some t -> args[j]?=some v -> ∃base,Value.okWide Tryz.prog W .any base t v:=hval0;have hW':=hW;obtain⟨p,q,hA0,hV,rfl,hfz,hnd⟩:=hW;have hA:DataW.TrodAll enc Tryz.prog W 0 (fun _=>true) true Tryz.f3.params.toList args.toList ds p:=hA0;rw[Tryz.params3] at hA hval;obtain⟨v0,vs0,d0,ds0,p0,q0,hargs,rfl,rfl,h0,r0⟩:=trodAll_cons hA;obtain⟨v1,vs1,d1,ds1,p1,q1,rfl,rfl,rfl,h1,r1⟩:=trodAll_cons r0;obtain⟨v2,vs2,d2,ds2,p2,q2,rfl,rfl,rfl,h2,r2⟩:=trodAll_cons r1;obtain⟨v3,vs3,d3,ds3,p3,q3,rfl,rfl,rfl,h3,r3⟩:=trodAll_cons r2;obtain⟨v4,vs4,d4,ds4,p4,q4,rfl,rfl,rfl,h4,r4⟩:=trodAll_cons r3;obtain⟨v5,vs5,d5,ds5,p5,q5,rfl,rfl,rfl,h5,r5⟩:=trodAll_cons r4;obtain⟨rfl,rfl,rfl⟩:=trodAll_nil r5
 obtain rfl:args=#[v0,v1,v2,v3,v4,v5]:=by cases args;simp_all
 obtain⟨rfl,rfl⟩:=trodVars_none hV;obtain⟨b0,hv0⟩:=hval 0 9 v0 rfl rfl;obtain⟨a0,rfl,rfl,rfl,w0⟩:=open_string Tryz.underlying9 hv0 h0;obtain⟨b1,hv1⟩:=hval 1 22 v1 rfl rfl;have k1:=h1
 have lt1:∀x∈p1,x.block<W.heap.size:=by obtain⟨m,hm⟩:=k1;exact DataW.trod_lt m _ _ _ hm
 obtain⟨a1,len1,cap1,rfl⟩:=okWide_slice Tryz.underlying22 hv1;obtain⟨m1,hm1⟩:=h1;obtain⟨l1,hl1,hlen1⟩:=zX hm1;obtain⟨b2,hv2⟩:=hval 2 23 v2 rfl rfl;obtain⟨a2,rfl,rfl,rfl,w2⟩:=open_int Tryz.underlying23 hv2 h2;obtain⟨b3,hv3⟩:=hval 3 3 v3 rfl rfl;obtain⟨a3,rfl,rfl,rfl,w3⟩:=open_int Tryz.underlying3 hv3 h3;obtain⟨b4,hv4⟩:=hval 4 3 v4 rfl rfl;obtain⟨a4,rfl,rfl,rfl,w4⟩:=open_int Tryz.underlying3 hv4 h4;obtain⟨b5,hv5⟩:=hval 5 3 v5 rfl rfl;obtain⟨a5,rfl,rfl,rfl,w5⟩:=open_int Tryz.underlying3 hv5 h5;clear hA0 hval0;refine(wX W a0 a1 len1 cap1 l1 a2 a3 a4 a5 w0 hl1 hlen1 (mC w2).1 (mC w2).2 (S9 w3).1 (S9 w3).2 (S9 w4).1 (S9 w4).2 (S9 w5).1 (S9 w5).2 (Aeo hsh (show laidMet Tryz.prog Rows.jobMakesRow.laid W.memory by rw[<- MakeChecks.laidMetH_plain _ _ _ (by kernel_rfl)];exact hX).tail.tail.tail.tail.tail) (wS (show laidMet Tryz.prog Rows.jobMakesRow.laid W.memory by rw[<- MakeChecks.laidMetH_plain _ _ _ (by kernel_rfl)];exact hX).tail.tail.tail.tail) (wK (show laidMet Tryz.prog Rows.jobMakesRow.laid W.memory by rw[<- MakeChecks.laidMetH_plain _ _ _ (by kernel_rfl)];exact hX).tail)).mono fun e W' ⟨he,fp⟩=>?_;have bel:=fp.toBelow;subst he;exact⟨_,rfl,_,_,_,[],_,[],hW',trodAll_mk1 (shut_bool Tryz.underlying4 _),(trodAll_cons_mk (shut_string Tryz.underlying9 w0) (trodAll_cons_mk (Below.trod zV (by kernel_rfl) (of_decide_eq_true (by kernel_rfl)) k1 bel lt1) (trodAll_cons_mk (shut_int Tryz.underlying23 w2) (trodAll_cons_mk (shut_int Tryz.underlying3 w3) (trodAll_cons_mk (shut_int Tryz.underlying3 w4) (trodAll_cons_mk (shut_int Tryz.underlying3 w5) trodAll_mk0)))))),rfl,bel.frame _,fun h=>by cases h⟩
theorem jobMakes_plain:Rows.JobMakesSaid:=
 OpenClaim.holds_of_wide 3 Tryz.f3 rfl rfl rfl rfl rfl rfl rfl ⟨rfl,rfl,rfl,rfl,rfl⟩ rfl rfl rfl rfl rfl (by kernel_rfl) Tryz.func3 jobMakes_closed
  (of_decide_eq_true (by kernel_rfl)) (by unfold Func.isWrapper;first|(rw[if_pos (by decide+kernel)];kernel_rfl)|(rw[if_neg (by decide+kernel)];exact⟨rfl,rfl⟩))
  (fun os started H enc _=>jobMakes_lifted os started H enc)
end Go.Proofs.YtkagolpnaicdoaaGreatDoor
