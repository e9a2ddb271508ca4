/- TopTwice: for all deeds, texts and goals, what was built without an error is not built again: the law returns true and its arguments read afterwards as before. The listed variables hold what the program's text lays (the card's tie). -/
import Derived.Test.YtpgmcijdcnnjpaaGreatDoorTie
import Derived.Test.YtpgmcijdcnnjpaaGreatDoorCards
import Derived.Test.YtpgmcijdcnnjpaaGreatDoorPx04
import Derived.Test.YtpgmcijdcnnjpaaGreatDoorPx05
set_option linter.all false
set_option maxRecDepth 100000
namespace Go.Proofs.YtpgmcijdcnnjpaaGreatDoor
open Go Go.RowKit Go.ChangeShapes Go.WideShapes Go.ChangeAt
theorem Ev{W:World}(a:Ml W)(h:laidMetH Tryz.prog Rows.topTwiceRow.laid W):sF W:=by
 rw[MakeChecks.laidMetH_plain _ _ _ (by kernel_rfl)] at h
 exact Ak a h (.tail _ (.tail _ (.head _))) (.tail _ (.tail _ (.tail _ (.tail _ (.tail _ (.head _)))))) (.tail _ (.tail _ (.tail _ (.tail _ (.head _)))))
namespace LawTopTwice
theorem own:ownKnob Tryz.prog.godebug=none:=by kernel_rfl
theorem laidOut:laidOutB Tryz.prog=true:=by kernel_rfl
theorem lifted(os:Os)(b:os.Started)(H:Type)(enc:TypeId×Value→H) :
  ReturnsInHanded {} Tryz.checked os 3 .any (fun w args=>(Rows.topTwiceSpec.pre enc Tryz.prog Tryz.f3 Rows.topTwiceRow.domain false w args∧laidMetH Tryz.prog Rows.topTwiceRow.laid w)∧sizedMet enc Tryz.prog Tryz.f3 (OpenSpec.ofChange Rows.topTwiceSpec) false w args) (Rows.topTwiceSpec.post enc Tryz.prog Tryz.f3 false true false false):=by
 refine j8 (C:=Tryz.checked) (X:=fun w _=>laidMetH Tryz.prog Rows.topTwiceRow.laid w) (fun _ _ _ hh h=>h.of_heap hh) own b (by kernel_rfl) Tryz.func3
  (ChangeSpec.witness_shaped (enc:=enc) (C:=Tryz.checked) (os:=os) (X:=fun w _=>laidMetH Tryz.prog Rows.topTwiceRow.laid w) false (World.laidAll Tryz.prog os Rows.topTwiceRow.laid) #[.slice none 0 0,.string ⟨#[]⟩,.string ⟨#[]⟩] 8 (World.laidAll_os _ _ _)
   (World.shaped_of_ZipB (by kernel_rfl) (by kernel_rfl)) (by kernel_rfl) (by kernel_rfl) (by kernel_rfl)
   (by rw[MakeChecks.laidMetH_plain _ _ _ (by kernel_rfl)];exact laidMet_laidAll _ (by kernel_rfl) (by kernel_rfl))) ?_
 intro W base args K gs k c z l f
 have n:=rp l
 have a:∀(j:Nat) t v,Tryz.f3.params[j]?=some t→args[j]?=some v→Value.okWide Tryz.prog W .any base t v:=c
 have o:=z
 obtain⟨p,q,g,L,rfl,M,N⟩:=z
 have A:DataW.TrodAll enc Tryz.prog W 0 (fun _=>true) true Tryz.f3.params.toList args.toList K p:=g
 rw[Tryz.params3] at A a
 obtain⟨v0,O,d0,P,Q,q0,r,rfl,rfl,B,R⟩:=trodAll_cons A
 obtain⟨D,S,d1,T,U,q1,rfl,rfl,rfl,E,V⟩:=trodAll_cons R
 obtain⟨F,Y,d2,Z,p2,q2,rfl,rfl,rfl,G,r2⟩:=trodAll_cons V
 obtain⟨rfl,rfl,rfl⟩:=trodAll_nil r2
 obtain rfl:args=#[v0,D,F]:=by cases args;simp_all
 obtain⟨rfl,rfl⟩:=trodVars_none L
 have k0:=B
 have s:∀x∈Q,x.block<W.heap.size:=by obtain⟨m,i⟩:=k0;exact DataW.trod_lt m _ _ _ i
 have I:=E
 have u:∀x∈U,x.block<W.heap.size:=by obtain⟨m,i⟩:=I;exact DataW.trod_lt m _ _ _ i
 have J:=G
 have y:∀x∈p2,x.block<W.heap.size:=by obtain⟨m,i⟩:=J;exact DataW.trod_lt m _ _ _ i
 obtain⟨A0,n0,c0,x0,rfl,y0,z0⟩:=rh (a 0 22 v0 rfl rfl) B
 obtain⟨x1,rfl,y1⟩:=nH (a 1 9 D rfl rfl) E
 obtain⟨x2,rfl,y2⟩:=nH (a 2 9 F rfl rfl) G
 clear g c
 refine(CZ (Ev n f) y0 z0 x1 x2 y1 y2).mono fun e W' ⟨he,hx⟩=>?_
 have d:=hx.toBelow
 subst he
 exact⟨_,rfl,_,_,_,[],_,[],o,trodAll_mk1 (shut_bool Tryz.underlying4 _),(trodAll_cons_mk (Below.trod laidOut (by kernel_rfl) (of_decide_eq_true (by kernel_rfl)) k0 d s) (trodAll_cons_mk (Below.trod laidOut (by kernel_rfl) (of_decide_eq_true (by kernel_rfl)) I d u) (trodAll_cons_mk (Below.trod laidOut (by kernel_rfl) (of_decide_eq_true (by kernel_rfl)) J d y) trodAll_mk0))),rfl,d.frame _,fun h=>by cases h⟩
theorem row_holds:Rows.TopTwiceSaid:=
 OpenClaim.holds_of_wide 3 Tryz.f3 rfl rfl rfl rfl rfl rfl rfl ⟨rfl,rfl,rfl,rfl,rfl⟩ rfl rfl rfl rfl rfl sQ Tryz.func3 yB
  (of_decide_eq_true (by kernel_rfl)) (by unfold Func.isWrapper;first|(rw[ab (by decide +kernel)];kernel_rfl)|(rw[aa (by decide +kernel)];exact⟨rfl,rfl⟩))
  (fun os started H enc _=>lifted os started H enc)
end LawTopTwice
theorem topTwice_holds:Rows.TopTwiceCardSaid:=
 Claim7.holds_tied_plain_at .later [] [.data,.data,.data,.data,.sentinel,.sentinel,.pinned] true (true, "ffd68a14712d974b97a37936cf1983d5470571ba7685bd8d6514d25c40d93b73") true
  LawTopTwice.row_holds (fun _ h=>by cases h) GW (fun _ h=>by cases h) topTwice_row_tie rfl ⟨rfl,rfl⟩ Bd rfl
  (fun f fn hf hfn=>by
   obtain rfl:f=3:=bB (sQ.symm.trans hf) |>.symm
   obtain rfl:fn=Tryz.f3:=(bB (Tryz.func3.symm.trans hfn)).symm
   exact⟨zF,fun j t ht=>by
    rw[Tryz.params3] at ht
    have b:t∈([22,9,9]:List Nat):=by simpa using fQ ht
    have a:(([22,9,9]:List Nat).all fun u=>!Tryz.prog.wantsStandIn u)=true:=by as_aux_lemma=>kernel_rfl
    exact(show Tryz.prog.wantsStandIn t=false by simpa using bJ.1 a t b)⟩)
  Bm
end Go.Proofs.YtpgmcijdcnnjpaaGreatDoor
