/- TopElse: for all deeds, texts, goals and files, a file that nothing of a goal needs does not affect what must be built: the law returns true and its arguments read afterwards as before. The listed variables hold what the program's text lays (the card's tie). -/
import Derived.Test.YtpgmcijdcnnjpaaGreatDoorTie
import Derived.Test.YtpgmcijdcnnjpaaGreatDoorCards
import Derived.Test.YtpgmcijdcnnjpaaGreatDoorPx06
import Derived.Test.YtpgmcijdcnnjpaaGreatDoorPx07
set_option linter.all false
set_option maxRecDepth 100000
namespace Go.Proofs.YtpgmcijdcnnjpaaGreatDoor
open Go Go.RowKit Go.ChangeShapes Go.WideShapes Go.ChangeAt
theorem Gd{W:World}(a:Ml W)(h:laidMetH Tryz.prog Rows.topElseRow.laid W):sF W:=by
 rw[MakeChecks.laidMetH_plain _ _ _ (by kernel_rfl)] at h
 exact Ak a h (.tail _ (.tail _ (.head _))) (.tail _ (.tail _ (.tail _ (.tail _ (.tail _ (.head _)))))) (.tail _ (.tail _ (.tail _ (.tail _ (.head _)))))
namespace LawTopElse
theorem own:ownKnob Tryz.prog.godebug=none:=by kernel_rfl
theorem laidOut:laidOutB Tryz.prog=true:=by kernel_rfl
theorem lifted(os:Os)(b:os.Started)(H:Type)(enc:TypeId×Value→H) :
  ReturnsInHanded {} Tryz.checked os 6 .any (fun w args=>(Rows.topElseSpec.pre enc Tryz.prog Tryz.f6 Rows.topElseRow.domain false w args∧laidMetH Tryz.prog Rows.topElseRow.laid w)∧sizedMet enc Tryz.prog Tryz.f6 (OpenSpec.ofChange Rows.topElseSpec) false w args) (Rows.topElseSpec.post enc Tryz.prog Tryz.f6 false true false false):=by
 refine j8 (C:=Tryz.checked) (X:=fun w _=>laidMetH Tryz.prog Rows.topElseRow.laid w) (fun _ _ _ hh h=>h.of_heap hh) own b (by kernel_rfl) Tryz.func6
  (ChangeSpec.witness_shaped (enc:=enc) (C:=Tryz.checked) (os:=os) (X:=fun w _=>laidMetH Tryz.prog Rows.topElseRow.laid w) false (World.laidAll Tryz.prog os Rows.topElseRow.laid) #[.slice none 0 0,.string ⟨#[]⟩,.string ⟨#[]⟩,.agg #[.string ⟨#[]⟩,.string ⟨#[]⟩]] 8 (World.laidAll_os _ _ _)
   (World.shaped_of_ZipB (by kernel_rfl) (by kernel_rfl)) (by kernel_rfl) (by kernel_rfl) (by kernel_rfl)
   (by rw[MakeChecks.laidMetH_plain _ _ _ (by kernel_rfl)];exact laidMet_laidAll _ (by kernel_rfl) (by kernel_rfl))) ?_
 intro W base args O gs k c A l f
 have n:=rp l
 have a:∀(j:Nat) t v,Tryz.f6.params[j]?=some t→args[j]?=some v→Value.okWide Tryz.prog W .any base t v:=c
 have o:=A
 obtain⟨p,q,i,P,rfl,Q,R⟩:=A
 have B:DataW.TrodAll enc Tryz.prog W 0 (fun _=>true) true Tryz.f6.params.toList args.toList O p:=i
 rw[Tryz.params6] at B a
 obtain⟨v0,S,d0,T,U,q0,r,rfl,rfl,D,V⟩:=trodAll_cons B
 obtain⟨E,Y,d1,Z,p1,q1,rfl,rfl,rfl,F,r1⟩:=trodAll_cons V
 obtain⟨G,ac,d2,ag,p2,q2,rfl,rfl,rfl,I,r2⟩:=trodAll_cons r1
 obtain⟨J,ai,d3,ak,p3,q3,rfl,rfl,rfl,K,r3⟩:=trodAll_cons r2
 obtain⟨rfl,rfl,rfl⟩:=trodAll_nil r3
 obtain rfl:args=#[v0,E,G,J]:=by cases args;simp_all
 obtain⟨rfl,rfl⟩:=trodVars_none P
 have k0:=D
 have s:∀x∈U,x.block<W.heap.size:=by obtain⟨m,g⟩:=k0;exact DataW.trod_lt m _ _ _ g
 have L:=F
 have u:∀x∈p1,x.block<W.heap.size:=by obtain⟨m,g⟩:=L;exact DataW.trod_lt m _ _ _ g
 have M:=I
 have y:∀x∈p2,x.block<W.heap.size:=by obtain⟨m,g⟩:=M;exact DataW.trod_lt m _ _ _ g
 have N:=K
 have z:∀x∈p3,x.block<W.heap.size:=by obtain⟨m,g⟩:=N;exact DataW.trod_lt m _ _ _ g
 obtain⟨A0,n0,c0,x0,rfl,y0,z0⟩:=rh (a 0 22 v0 rfl rfl) D
 obtain⟨x1,rfl,y1⟩:=nH (a 1 9 E rfl rfl) F
 obtain⟨x2,rfl,y2⟩:=nH (a 2 9 G rfl rfl) I
 obtain⟨x3,rfl,y3,z3⟩:=MF (a 3 54 J rfl rfl) K
 clear i c
 refine(FW (Gd n f) y0 z0 x1 x2 y1 y2 x3 y3 z3).mono fun e W' ⟨he,hx⟩=>?_
 have d:=hx.toBelow
 subst he
 exact⟨_,rfl,_,_,_,[],_,[],o,trodAll_mk1 (shut_bool Tryz.underlying4 _),(trodAll_cons_mk (Below.trod laidOut (by kernel_rfl) (of_decide_eq_true (by kernel_rfl)) k0 d s) (trodAll_cons_mk (Below.trod laidOut (by kernel_rfl) (of_decide_eq_true (by kernel_rfl)) L d u) (trodAll_cons_mk (Below.trod laidOut (by kernel_rfl) (of_decide_eq_true (by kernel_rfl)) M d y) (trodAll_cons_mk (Below.trod laidOut (by kernel_rfl) (of_decide_eq_true (by kernel_rfl)) N d z) trodAll_mk0)))),rfl,d.frame _,fun h=>by cases h⟩
theorem row_holds:Rows.TopElseSaid:=
 OpenClaim.holds_of_wide 6 Tryz.f6 rfl rfl rfl rfl rfl rfl rfl ⟨rfl,rfl,rfl,rfl,rfl⟩ rfl rfl rfl rfl rfl uf Tryz.func6 yX
  (of_decide_eq_true (by kernel_rfl)) (by unfold Func.isWrapper;first|(rw[ab (by decide +kernel)];kernel_rfl)|(rw[aa (by decide +kernel)];exact⟨rfl,rfl⟩))
  (fun os started H enc _=>lifted os started H enc)
end LawTopElse
theorem topElse_holds:Rows.TopElseCardSaid:=
 Claim7.holds_tied_plain_at .later [] [.data,.data,.data,.data,.sentinel,.sentinel,.pinned] true (true, "ffd68a14712d974b97a37936cf1983d5470571ba7685bd8d6514d25c40d93b73") true
  LawTopElse.row_holds (fun _ h=>by cases h) Iy (fun _ h=>by cases h) topElse_row_tie rfl ⟨rfl,rfl⟩ Ea rfl
  (fun f fn hf hfn=>by
   obtain rfl:f=6:=bB (uf.symm.trans hf) |>.symm
   obtain rfl:fn=Tryz.f6:=(bB (Tryz.func6.symm.trans hfn)).symm
   exact⟨Bh,fun j t ht=>by
    rw[Tryz.params6] at ht
    have b:t∈([22,9,9,54]:List Nat):=by simpa using fQ ht
    have a:(([22,9,9,54]:List Nat).all fun u=>!Tryz.prog.wantsStandIn u)=true:=by as_aux_lemma=>kernel_rfl
    exact(show Tryz.prog.wantsStandIn t=false by simpa using bJ.1 a t b)⟩)
  Dg
end Go.Proofs.YtpgmcijdcnnjpaaGreatDoor
