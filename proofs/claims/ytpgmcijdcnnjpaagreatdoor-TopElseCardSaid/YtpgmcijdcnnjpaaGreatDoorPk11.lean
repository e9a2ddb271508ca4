/- Lemmas for it. -/
import Derived.Test.YtpgmcijdcnnjpaaGreatDoorPk07
import Derived.Deep.MidRow
set_option linter.all false
set_option maxRecDepth 100000
set_option maxHeartbeats 4000000
namespace Go.Proofs.YtpgmcijdcnnjpaaGreatDoor
open Go Go.RowKit
variable {t:TypeId} {c:UInt8} {r:aK} {m:Nat→Int} {Q:World→Prop} {k:Nat} {tab:Value}
abbrev np:TypeId:=377
abbrev qK:TypeId:=379
abbrev AM:TypeId:=374
abbrev iW(g:Nat):Value:=.pointer (some ⟨g,0,none⟩)
abbrev IV:Array Value:=#[S [],.int .i64 0,S [],.pointer none,.slice none 0 0]
abbrev T8:Array Value:=#[.string ⟨#[]⟩,.int .i64 0,.string ⟨#[]⟩,.pointer none,.slice none 0 0]
abbrev pB(v:aK)(p:Int):Array Value:=#[S v,.int .i64 p,S [],.pointer none,.slice none 0 0]
theorem wg{w:World}{b g:Nat} (v:aK)(p:Int)(h:Cs w b t IV) :
  Calls Tryz.prog 283 #[iW b,S [],S v,.int .i64 p,iW g] w fun e w'=>e=.returned (.tuple #[])∧Cs w' b t (pB v p)∧al (fun x=>x=b) w w':=by
 have d:w.cell? ⟨b,0,none⟩=some (S []):=h.cell 0
 have c1:w.cell? ⟨b,1,none⟩=some (.int .i64 0):=h.cell 1
 have f:=h.frozen 0
 have i:=h.frozen 1
 have a:Hd (Cs ((w.setCell ⟨b,0,none⟩ (S v)).setCell ⟨b,1,none⟩ (.int .i64 p)) b t (pB v p)):=(h.cM 0 (S v)).cM 1 (.int .i64 p)
 have c:Hd (al (fun x=>x=b) w ((w.setCell ⟨b,0,none⟩ (S v)).setCell ⟨b,1,none⟩ (.int .i64 p))):=((al.refl _ w).at_ 0 _).at_ 1 _
 clear h
 go_enter Tryz.func283,Tryz.ntmps283
 go_wp2_with fail
 refine bodyPost_ret (results_none rfl _ _ _) rfl ?_
 exact⟨rfl,a.ou,c.ou⟩
theorem QX{w:World}{b g:Nat}   (v:aK)(p:Int)(h:Cs w b t IV) :
  Calls Tryz.prog 283 #[iW b,S (c::r),S v,.int .i64 p,iW g] w fun e w'=>e=.returned (.tuple #[])∧∃k,w.heap.size≤k∧Cs w' b t #[S [],.int .i64 0,S (c::r),iW k,.slice none 0 0]∧Cs w' k np (pB v p)∧al (fun x=>x=b) w w':=by
 have C:w.cell? ⟨b,2,none⟩=some (S []):=h.cell 2
 have D:w.cell? ⟨b,3,none⟩=some (.pointer none):=h.cell 3
 have H:w.cell? ⟨b,4,none⟩=some (.slice none 0 0):=h.cell 4
 have I:=h.frozen 2
 have J:=h.frozen 3
 obtain⟨f,d⟩:∃u,u=w.setCell ⟨b,2,none⟩ (S (c::r)):=⟨_,rfl⟩
 have i:Cs f b t #[S [],.int .i64 0,S (c::r),.pointer none,.slice none 0 0]:=by rw[d];exact h.cM 2 _
 have s:al (fun x=>x=b) w f:=by rw[d];exact(al.refl _ w).at_ 2 _
 obtain⟨k,j⟩:∃k,k=f.heap.size:=⟨_,rfl⟩
 obtain⟨n,a⟩:∃u,u=(f.alloc (.cells #[.string ⟨#[]⟩,.int .i64 0,.string ⟨#[]⟩,.pointer none,.slice none 0 0] np)).setCell ⟨b,3,none⟩ (.pointer (some ⟨f.heap.size,0,none⟩)):=⟨_,rfl⟩
 have y:Cs n b t #[S [],.int .i64 0,S (c::r),iW k,.slice none 0 0]:=by rw[a,j];exact(i.alloc _).cM 3 _
 have l:k≠b:=by have:=i.lt;omega
 have m:Cs n k np IV:=by rw[a,j];exact(Cs.new f np T8).far (by rw[←j];exact l) _
 have z:al (fun x=>x=b) w n:=by rw[a];exact(s.alloc _).at_ 3 _
 have E:∀o,(f.alloc o).cell? ⟨b,3,none⟩=some (.pointer none):=fun o=>(i.alloc o).cell 3
 have K:∀o,(f.alloc o).frozen? ⟨b,3,none⟩=false:=fun o=>(i.alloc o).frozen 3
 have L:n.cell? ⟨b,3,none⟩=some (iW k):=y.cell 3
 have F:=aj (wg (g:=g) v p m)
 have q:=aj (And.intro y (And.intro z s.size))
 clear h i s y m z
 go_enter Tryz.func283,Tryz.ntmps283
 go_upto_region 33 with fail
 rw[←d]
 clear d
 go_upto_region 34 with fail
 rw[←a]
 have A:=aj j
 clear a C D E j
 go_wp2_with fail
 refine F.ou.mono ?_
 rintro e M ⟨rfl,G,B⟩
 go_wp2_with fail
 go_end0
 exact⟨rfl,k,by rw[A.ou];exact q.ou.2.2,q.ou.1.aP B (fun e=>l e.symm),G,q.ou.2.1.trans B fun x hx e=>by have e:x=k:=e;have:=q.ou.2.2;have:=A.ou;omega⟩
theorem LN:(Tryz.prog.info? AM).map (fun i=>(i.zero,i.size,i.bytes))=some (some (.pointer none),1,8):=by kernel_rfl
theorem Ct(w:World):(Instr.makeSlice 375 (.int .i64 5) (.int .i64 5)).run Tryz.prog w =
  .ok (.slice (some ⟨w.heap.size,0,none⟩) 5 5) (w.alloc (.cells #[.pointer none,.pointer none,.pointer none,.pointer none,.pointer none] AM)):=by
 obtain⟨a,b,c,d,e⟩:=info_parts LN
 have f:=run_make (P:=Tryz.prog) w 375 AM a (.pointer none) Tryz.underlying375 b c .i64 .i64 5 5 (by omega) (by omega) (by rw[e];omega) (by omega)
 rw[f,d,show madeCells (Value.pointer none).cells (Int.toNat 5*1)=#[.pointer none,.pointer none,.pointer none,.pointer none,.pointer none] from by kernel_rfl]
 try rfl
theorem Pw{m:Nat}(h:m<5):(#[.pointer none,.pointer none,.pointer none,.pointer none,.pointer none]:Array Value)[m]?=some (.pointer none):=by
 match m,h with
 | 0,_=>rfl
 | 1,_=>rfl
 | 2,_=>rfl
 | 3,_=>rfl
 | 4,_=>rfl
abbrev BM:Array Value:=#[.pointer none,.pointer none,.pointer none,.pointer none,.pointer none]
theorem KR {w:World} {b g k0 mx mc:Nat}  {gs:Array Value} {x c:UInt8} (v:aK) (p:Int) (V:x≠c) (W:mx<5) (Y:mc<5) (Z:b≠g)
  (h:Cs w b t #[S [],.int .i64 0,S [x],iW k0,.slice none 0 0]) (hg:Cs w g qK gs) (g5:gs[5]?=some (.int .i64 5)) (gx:gs[6+x.toNat]?=some (.int .u8 mx)) (gc:gs[6+c.toNat]?=some (.int .u8 mc)) :
  Calls Tryz.prog 283 #[iW b,S [c],S v,.int .i64 p,iW g] w fun e w'=>e=.returned (.tuple #[])∧∃k tb,w.heap.size≤k∧w.heap.size≤tb∧k≠tb ∧
   Cs w' b t #[S [],.int .i64 0,S [],.pointer none,.slice (some ⟨tb,0,none⟩) 5 5]∧Cs w' tb AM ((BM.setIfInBounds mx (iW k0)).setIfInBounds mc (iW k))∧Cs w' k np (pB v p)∧al (fun x=>x=b) w w':=by
 have c2:w.cell? ⟨b,2,none⟩=some (S [x]):=h.cell 2
 have c3:w.cell? ⟨b,3,none⟩=some (iW k0):=h.cell 3
 have c4:w.cell? ⟨b,4,none⟩=some (.slice none 0 0):=h.cell 4
 have A:(((x.toNat:Nat):Int)==((c.toNat:Nat):Int))=false:=by
  rw[bl]
  intro e
  exact V (im.1 (Int.ofNat.inj e))
 have d2:∀ξ:X w No,ξ.v.cell? ⟨b,2,none⟩=some (S [x]):=h.x id 2
 have H:=aj h
 have HG:=aj hg
 clear h hg
 go_enter Tryz.func283,Tryz.ntmps283
 go_wp2_with fail
 go_loopw [10] (fun i wr=>i=.int .i64 0∧wr=w) (fun _ _=>0)
 case atStart=>exact⟨rfl,rfl⟩
 case round=>
  obtain⟨rfl,rfl⟩:=hrel
  go_upto_region 8 with fail
  (refine aV [] 100 (Cl (wr) (No)) (by kernel_rfl) (by kernel_rfl) (Cl.eU (X.here wr No)) ?_;refine bK ?_)
  all_goals (refine ar ?_)
  go_upto_region 17 with fail
  obtain⟨q,B⟩:∃u,u=(wr.alloc (.cells #[.string ⟨#[]⟩,.int .i64 0,.string ⟨#[]⟩,.pointer none,.slice none 0 0] np)).drew:=⟨_,rfl⟩
  obtain⟨k,O⟩:∃k,k=wr.heap.size:=⟨_,rfl⟩
  rw[←B,←O]
  have P:bf wr q:=by rw[B];exact((al.refl No wr).alloc _).drew
  have Q:=H.ou.aP P id
  have g1:=HG.ou.aP P id
  have k1:Cs q k np IV:=by rw[B,O];exact(Cs.new wr np T8).drew
  have J:k≠b:=by have:=H.ou.lt;omega
  have e5:q.cell? ⟨g,5,none⟩=some (.int .i64 5):=(g1.cell 5).trans g5
  have d4:∀o,(q.alloc o).cell? ⟨b,4,none⟩=some (.slice none 0 0):=fun o=>(Q.alloc o).cell 4
  have z4:∀o,(q.alloc o).frozen? ⟨b,4,none⟩=false:=fun o=>(Q.alloc o).frozen 4
  have HK:=aj O
  have f:=aj (And.intro Q (And.intro g1 (And.intro k1 P)))
  clear B O P Q g1 k1 c2 c3 c4 d2
  have HM:=Ct q
  go_upto_region 18 with fail
  obtain⟨l,r⟩:∃u,u=(q.alloc (.cells #[.pointer none,.pointer none,.pointer none,.pointer none,.pointer none] AM)).setCell ⟨b,4,none⟩ (.slice (some ⟨q.heap.size,0,none⟩) 5 5):=⟨_,rfl⟩
  obtain⟨tb,n⟩:∃k,k=q.heap.size:=⟨_,rfl⟩
  rw[←r]
  have a:tb≠b:=by have:=f.ou.1.lt;omega
  have s:tb≠g:=by have:=f.ou.2.1.lt;omega
  have m:k≠tb:=by have:=f.ou.2.2.1.lt;omega
  have R:al (fun y=>y=b) q l:=by rw[r];exact((al.refl _ q).alloc _).at_ 4 _
  have h2:Cs l b t #[S [],.int .i64 0,S [x],iW k0,.slice (some ⟨tb,0,none⟩) 5 5]:=by rw[r,n];exact(f.ou.1.alloc _).cM 4 _
  have g2:Cs l g qK gs:=f.ou.2.1.aP R (fun e=>Z e.symm)
  have k2:Cs l k np IV:=f.ou.2.2.1.aP R J
  have t2:Cs l tb AM BM:=by rw[r,n];exact(Cs.new q AM _).far (by rw[←n];exact a) _
  have d:=aj (And.intro h2 (And.intro g2 (And.intro k2 (And.intro t2 R))))
  have ac:=aj n
  clear r n HM R h2 g2 k2 t2 e5 d4 z4
  have q4:∀ξ:X l (fun y=>y=tb),ξ.v.cell? ⟨b,4,none⟩=some (.slice (some ⟨tb,0,none⟩) 5 5):=d.ou.1.x (fun e=>a e.symm) 4
  have q2:∀ξ:X l (fun y=>y=tb),ξ.v.cell? ⟨b,2,none⟩=some (S [x]):=d.ou.1.x (fun e=>a e.symm) 2
  have qx:∀ξ:X l (fun y=>y=tb),ξ.v.cell? ⟨g,6+x.toNat,none⟩=some (.int .u8 mx):=fun ξ=>(d.ou.2.1.x (F:=fun y=>y=tb) (fun e=>s e.symm) (6+x.toNat) ξ).trans gx
  have ag:x.toNat<256:=x.toNat_lt
  have ai:c.toNat<256:=c.toNat_lt
  (refine aV [16] 16 (Cl (l) ((fun y=>y=tb))) (by kernel_rfl) (by kernel_rfl) (Cl.of (al.refl _ _).drew) ?_;refine bK ?_)
  have M:l.drew.cell? ⟨tb,mx,none⟩=some (.pointer none):=(d.ou.2.2.2.1.drew.cell mx).trans (Pw W)
  have s2:l.drew.frozen? ⟨tb,mx,none⟩=false:=d.ou.2.2.2.1.drew.frozen mx
  (refine bQ ?_;intro K hK)
  obtain⟨z,C⟩:∃u,u=(l.setCell ⟨tb,mx,none⟩ (iW k0)).drew:=⟨_,rfl⟩
  rw[←C]
  refine hK _ _ (fun A=>absurd rfl A) ?_
  clear hK K
  refine bj ?_
  refine ar ?_
  have N:al (fun y=>y=tb) l z:=by rw[C];exact((al.refl _ l).at_ mx _).drew
  have h3:=d.ou.1.aP N (fun e=>a e.symm)
  have g3:=d.ou.2.1.aP N (fun e=>s e.symm)
  have k3:=d.ou.2.2.1.aP N m
  have t3:Cs z tb AM (BM.setIfInBounds mx (iW k0)):=by rw[C];exact(d.ou.2.2.2.1.cM mx _).drew
  have j:=aj (And.intro h3 (And.intro g3 (And.intro k3 (And.intro t3 N))))
  clear C N h3 g3 k3 t3 q4 q2 qx M s2
  have q4:∀ξ:X z (fun y=>y=tb),ξ.v.cell? ⟨b,4,none⟩=some (.slice (some ⟨tb,0,none⟩) 5 5):=j.ou.1.x (fun e=>a e.symm) 4
  have qc:∀ξ:X z (fun y=>y=tb),ξ.v.cell? ⟨g,6+c.toNat,none⟩=some (.int .u8 mc):=fun ξ=>(j.ou.2.1.x (F:=fun y=>y=tb) (fun e=>s e.symm) (6+c.toNat) ξ).trans gc
  go_upto_region 19 with fail
  (refine aV [13] 13 (Cl (z) ((fun y=>y=tb))) (by kernel_rfl) (by kernel_rfl) (Cl.of (al.refl _ _).drew) ?_;refine bK ?_)
  have M:∃u,z.drew.cell? ⟨tb,mc,none⟩=some u:=by
   rw[j.ou.2.2.2.1.drew.cell mc]
   exact⟨_,ew (by rw[Array.size_setIfInBounds];exact Y)⟩
  obtain⟨u,M⟩:=M
  have s2:z.drew.frozen? ⟨tb,mc,none⟩=false:=j.ou.2.2.2.1.drew.frozen mc
  (refine bQ ?_;intro K hK)
  obtain⟨I,D⟩:∃u,u=(z.setCell ⟨tb,mc,none⟩ (iW k)).drew:=⟨_,rfl⟩
  rw[←D]
  refine hK _ _ (fun A=>absurd rfl A) ?_
  clear hK K
  refine bj ?_
  refine ar ?_
  have T:al (fun y=>y=tb) z I:=by rw[D];exact((al.refl _ z).at_ mc _).drew
  have L:=j.ou.1.aP T (fun e=>a e.symm)
  have k4:=j.ou.2.2.1.aP T m
  have t4:Cs I tb AM ((BM.setIfInBounds mx (iW k0)).setIfInBounds mc (iW k)):=by rw[D];exact(j.ou.2.2.2.1.cM mc _).drew
  have e2:I.cell? ⟨b,2,none⟩=some (S [x]):=L.cell 2
  have e3:I.cell? ⟨b,3,none⟩=some (iW k0):=L.cell 3
  have z2:=L.frozen 2
  have z3:=L.frozen 3
  obtain⟨w5,E⟩:∃u,u=(I.setCell ⟨b,2,none⟩ (.string ⟨#[]⟩)).setCell ⟨b,3,none⟩ (.pointer none):=⟨_,rfl⟩
  have U:al (fun y=>y=b) I w5:=by rw[E];exact((al.refl _ I).at_ 2 _).at_ 3 _
  have h5:Cs w5 b t #[S [],.int .i64 0,S [],.pointer none,.slice (some ⟨tb,0,none⟩) 5 5]:=by rw[E];exact(L.cM 2 _).cM 3 _
  have k5:=k4.aP U J
  have t5:=t4.aP U a
  have HL:=aj (wg (g:=g) v p k5)
  have G:=aj (And.intro h5 (And.intro t5 (And.intro T U)))
  clear D T L k4 t4 q4 qc M s2 U h5 k5 t5
  go_upto_region 22 with fail
  rw[←E]
  clear E
  go_wp2_with fail
  refine HL.ou.mono ?_
  rintro e w6 ⟨rfl,hl,ho⟩
  go_wp2_with fail
  go_end0
  have ak:=f.ou.2.2.2.size
  have am:=HK.ou
  have n:=ac.ou
  refine⟨rfl,k,tb,by omega,by omega,m,G.ou.1.aP ho (fun e=>J e.symm),G.ou.2.1.aP ho (fun e=>m e.symm),hl,?_⟩
  have o1:al (fun y=>y=b) wr l:=f.ou.2.2.2.any.trans d.ou.2.2.2.2 fun y hy e=>e
  have o2:al (fun y=>y=b) wr z:=o1.trans j.ou.2.2.2.2 fun y hy e=>by have e:y=tb:=e;omega
  have o3:al (fun y=>y=b) wr I:=o2.trans G.ou.2.2.1 fun y hy e=>by have e:y=tb:=e;omega
  have o4:al (fun y=>y=b) wr w5:=o3.trans G.ou.2.2.2 fun y hy e=>e
  exact o4.trans ho fun y hy e=>by have e:y=k:=e;omega
theorem DG {w:World} {b g tb n m:Nat}  {d ts gs:Array Value}   (v:aK) (p:Int)  (D:m<5)
  (h:Cs w b t d) (f:d[2]?=some (S [])) (i:d[4]?=some (.slice (some ⟨tb,0,none⟩) 5 5)) (j:Cs w tb AM ts) (k:ts[m]?=some (iW n)) (l:Cs w g qK gs) (o:gs[6+c.toNat]?=some (.int .u8 m))
  (a:∀u,bf w u→Calls Tryz.prog 283 #[iW n,S r,S v,.int .i64 p,iW g] u fun e w'=>e=.returned (.tuple #[])∧Q w') :
  Calls Tryz.prog 283 #[iW b,S (c::r),S v,.int .i64 p,iW g] w fun e w'=>e=.returned (.tuple #[])∧Q w':=by
 have c1:w.cell? ⟨b,2,none⟩=some (S []):=(h.cell 2).trans f
 have q:∀ξ:X w No,ξ.v.cell? ⟨b,4,none⟩=some (.slice (some ⟨tb,0,none⟩) 5 5):=fun ξ=>(h.x (F:=No) id 4 ξ).trans i
 have E:∀ξ:X w No,ξ.v.cell? ⟨g,6+c.toNat,none⟩=some (.int .u8 m):=fun ξ=>(l.x (F:=No) id (6+c.toNat) ξ).trans o
 have s:c.toNat<256:=c.toNat_lt
 have y:∀ξ:X w No,ξ.v.cell? ⟨tb,m,none⟩=some (iW n):=fun ξ=>(j.x (F:=No) id m ξ).trans k
 have z:w.cell? ⟨b,4,none⟩=some (.slice (some ⟨tb,0,none⟩) 5 5):=q (X.here w No)
 have A:w.cell? ⟨tb,m,none⟩=some (iW n):=y (X.here w No)
 have B:=aj a
 clear h f i j k l o a
 go_enter Tryz.func283,Tryz.ntmps283
 go_upto_region 28 with fail
 (refine aV [] 100 (Cl (w) (No)) (by kernel_rfl) (by kernel_rfl) (Cl.eU (X.here w No)) ?_;refine bK ?_)
 all_goals (refine ar ?_)
 go_upto_region 31 with fail
 (refine aV [12] 12 (Cl (w) (No)) (by kernel_rfl) (by kernel_rfl) (Cl.of (al.refl No w).drew.drew) ?_;refine bK ?_)
 (refine bQ ?_;intro K hK)
 refine(B.ou _ (al.refl No w).drew.drew).mono ?_
 rintro e w' ⟨rfl,C⟩
 refine⟨_,rfl,hK _ _ (fun hne=>absurd rfl hne) ?_⟩
 clear hK K
 refine bj ?_
 refine ar ?_
 go_wp2_with fail
 go_end0
 exact⟨rfl,C⟩
theorem Di {w:World} {b g tb m:Nat}  {z ts gs:Array Value}   (v:aK) (p:Int)  (hm:m<5)
  (h:Cs w b t z) (L:z[2]?=some (S [])) (n:z[4]?=some (.slice (some ⟨tb,0,none⟩) 5 5)) (B:Cs w tb AM ts) (q:ts[m]?=some (.pointer none)) (C:b≠tb) (M:Cs w g qK gs) (D:gs[6+c.toNat]?=some (.int .u8 m))
  (f:∀u k,w.heap.size≤k→al (fun x=>x=tb) w u→Cs u tb AM (ts.setIfInBounds m (iW k))→Cs u k np IV→Calls Tryz.prog 283 #[iW k,S r,S v,.int .i64 p,iW g] u fun e w'=>e=.returned (.tuple #[])∧Q w') :
  Calls Tryz.prog 283 #[iW b,S (c::r),S v,.int .i64 p,iW g] w fun e w'=>e=.returned (.tuple #[])∧Q w':=by
 have c1:w.cell? ⟨b,2,none⟩=some (S []):=(h.cell 2).trans L
 have E:∀ξ:X w No,ξ.v.cell? ⟨b,4,none⟩=some (.slice (some ⟨tb,0,none⟩) 5 5):=fun ξ=>(h.x (F:=No) id 4 ξ).trans n
 have P:∀ξ:X w No,ξ.v.cell? ⟨g,6+c.toNat,none⟩=some (.int .u8 m):=fun ξ=>(M.x (F:=No) id (6+c.toNat) ξ).trans D
 have R:c.toNat<256:=c.toNat_lt
 have N:w.cell? ⟨tb,m,none⟩=some (.pointer none):=(B.cell m).trans q
 have G:w.cell? ⟨b,4,none⟩=some (.slice (some ⟨tb,0,none⟩) 5 5):=E (X.here w No)
 have T:=aj f
 go_enter Tryz.func283,Tryz.ntmps283
 go_upto_region 28 with fail
 (refine aV [] 100 (Cl (w) (No)) (by kernel_rfl) (by kernel_rfl) (Cl.eU (X.here w No)) ?_;refine bK ?_)
 all_goals (refine ar ?_)
 obtain⟨d,j⟩:∃u,u=w.drew:=⟨_,rfl⟩
 have A:bf w d:=by rw[j];exact(al.refl No w).drew
 have s:=B.aP A id
 have b1:=h.aP A id
 rw[←j]
 have U:∀o,(d.alloc o).cell? ⟨b,4,none⟩=some (.slice (some ⟨tb,0,none⟩) 5 5):=fun o=>((b1.alloc o).cell 4).trans n
 have V:d.cell? ⟨b,4,none⟩=some (.slice (some ⟨tb,0,none⟩) 5 5):=(b1.cell 4).trans n
 have W:∀o,(d.alloc o).cell? ⟨tb,m,none⟩=some (.pointer none):=fun o=>((s.alloc o).cell m).trans q
 have Y:d.cell? ⟨tb,m,none⟩=some (.pointer none):=(s.cell m).trans q
 have Z:∀o,(d.alloc o).frozen? ⟨tb,m,none⟩=false:=fun o=>(s.alloc o).frozen m
 have l:=aj (And.intro b1 (And.intro s (And.intro A (And.intro n q))))
 have HG:=aj D
 clear j h L n B q M D f A s b1 c1 E P N G
 go_upto_region 31 with fail
 obtain⟨i,a⟩:∃u,u=(d.alloc (.cells #[.string ⟨#[]⟩,.int .i64 0,.string ⟨#[]⟩,.pointer none,.slice none 0 0] np)).setCell ⟨tb,m,none⟩ (.pointer (some ⟨d.heap.size,0,none⟩)):=⟨_,rfl⟩
 obtain⟨k,y⟩:∃k,k=d.heap.size:=⟨_,rfl⟩
 rw[←a]
 have H:k≠tb:=by have:=l.ou.2.1.lt;omega
 have x2:al (fun x=>x=tb) w i:=by rw[a];exact((l.ou.2.2.1.any).alloc _).at_ m _
 have b2:Cs i b t z:=by rw[a];exact(l.ou.1.alloc _).far C _
 have O:Cs i tb AM (ts.setIfInBounds m (iW k)):=by rw[a,y];exact(l.ou.2.1.alloc _).cM m _
 have k2:Cs i k np IV:=by rw[a,y];exact(Cs.new d np T8).far (by rw[←y];exact H) _
 have I:(ts.setIfInBounds m (iW k))[m]?=some (iW k):=by
  have hz:m<ts.size:=(bq.1 l.ou.2.2.2.2).1
  simp[iU,hz]
 have HK:=aj y
 have J:w.heap.size≤k:=by rw[HK.ou];exact l.ou.2.2.1.size
 clear a y U V W Y Z
 have E:∀ξ:X i No,ξ.v.cell? ⟨b,4,none⟩=some (.slice (some ⟨tb,0,none⟩) 5 5):=fun ξ=>(b2.x (F:=No) id 4 ξ).trans l.ou.2.2.2.1
 have N:∀ξ:X i No,ξ.v.cell? ⟨tb,m,none⟩=some (iW k):=fun ξ=>(O.x (F:=No) id m ξ).trans I
 (refine aV [12] 12 (Cl (i) (No)) (by kernel_rfl) (by kernel_rfl) (Cl.of (al.refl No i).drew) ?_;refine bK ?_)
 (refine bQ ?_;intro K hK)
 refine(T.ou _ k J x2.drew O.drew k2.drew).mono ?_
 rintro e w' ⟨rfl,hQ⟩
 refine⟨_,rfl,hK _ _ (fun hne=>absurd rfl hne) ?_⟩
 clear hK K
 refine bj ?_
 refine ar ?_
 go_wp2_with fail
 go_end0
 exact⟨rfl,hQ⟩
structure Tk (w u:World) (g t0:Nat) (gs ts:Array Value):Prop where
 gen:Cs u g qK gs
 tab:Cs u t0 AM ts
 x:bf w u
 hg:w.heap.size≤g
 ht:w.heap.size≤t0
 ne:g≠t0
structure Ra (gs:Array Value) (t0:Nat):Prop where
 p2:gs[2]?=some (S [])
 p1:gs[1]?=some (.int .i64 0)
 p4:gs[4]?=some (.slice (some ⟨t0,0,none⟩) 5 5)
 p5:gs[5]?=some (.int .i64 5)
 Uo:gs[6+(36:UInt8).toNat]?=some (.int .u8 0)
 VS:gs[6+(42:UInt8).toNat]?=some (.int .u8 1)
 VN:gs[6+(60:UInt8).toNat]?=some (.int .u8 2)
 m64:gs[6+(64:UInt8).toNat]?=some (.int .u8 3)
 VG:gs[6+(94:UInt8).toNat]?=some (.int .u8 4)
 mo:∀c:UInt8,c≠36→c≠42→c≠60→c≠64→c≠94→gs[6+c.toNat]?=some (.int .u8 5)
structure Vr (w u:World) (g t0:Nat) (gs:Array Value) (a:aK) (n1 n2:Nat):Prop where
 b:Tk w u g t0 gs #[iW n1,.pointer none,.pointer none,.pointer none,.pointer none]
 c1:Cs u n1 np #[S [],.int .i64 0,S [64],iW n2,.slice none 0 0]
 c2:Cs u n2 np (pB a 8)
 h1:w.heap.size≤n1
 h2:w.heap.size≤n2
 n12:n1≠n2
structure Qj (w u:World) (g t0:Nat) (gs ts:Array Value) (n1 t1:Nat):Prop where
 b:Tk w u g t0 gs #[iW n1,.pointer none,.pointer none,.pointer none,.pointer none]
 c1:Cs u n1 np #[S [],.int .i64 0,S [],.pointer none,.slice (some ⟨t1,0,none⟩) 5 5]
 ct:Cs u t1 AM ts
 h1:w.heap.size≤n1
 h3:w.heap.size≤t1
 t10:t1≠t0
structure qj (w u:World) (n1 n:Nat) (v:aK) (p:Int):Prop where
 c:Cs u n np (pB v p)
 h:w.heap.size≤n
 ne:n1≠n
def tQ(w:World)(g t0:Nat)(gs:Array Value)(a b c d:aK):Nat→World→Prop
 | 0,u=>Tk w u g t0 gs BM
 | 1,u=>∃n1 n2,Vr w u g t0 gs a n1 n2
 | 2,u=>∃n1 t1 n2 n3,Qj w u g t0 gs #[.pointer none,.pointer none,iW n3,iW n2,.pointer none] n1 t1∧qj w u n1 n2 a 8∧qj w u n1 n3 b 6
 | 3,u=>∃n1 t1 n2 n3 n4,Qj w u g t0 gs #[.pointer none,.pointer none,iW n3,iW n2,iW n4] n1 t1∧qj w u n1 n2 a 8∧qj w u n1 n3 b 6∧qj w u n1 n4 c 4
 | _,u=>∃n1 t1 n2 n3 n4 n5,Qj w u g t0 gs #[.pointer none,iW n5,iW n3,iW n2,iW n4] n1 t1∧qj w u n1 n2 a 8∧qj w u n1 n3 b 6∧qj w u n1 n4 c 4∧qj w u n1 n5 d 2
section
variable {w u v:World} {g t0 n1 n2 t1:Nat} {gs ts:Array Value} {a:aK} {F:Nat→Prop}
theorem Tk.only(h:Tk w u g t0 gs ts)(a:al F u v)(c:∀b,F b→w.heap.size≤b)(d:¬F g)(f:¬F t0):Tk w v g t0 gs ts:=
 ⟨h.gen.aP a d,h.tab.aP a f,h.x.trans a fun b hb e=>by have:=c b e;omega,h.hg,h.ht,h.ne⟩
theorem qj.only{n:Nat}{x:aK}{p:Int}(h:qj w u n1 n x p)(a:al F u v)(b:¬F n):qj w v n1 n x p:=⟨h.c.aP a b,h.h,h.ne⟩
theorem Vr.only(h:Vr w u g t0 gs a n1 n2)(c:bf u v):Vr w v g t0 gs a n1 n2:=⟨h.b.only c (fun _ e=>e.elim) id id,h.c1.aP c id,h.c2.aP c id,h.h1,h.h2,h.n12⟩
theorem Qj.only(h:Qj w u g t0 gs ts n1 t1)(a:bf u v):Qj w v g t0 gs ts n1 t1:=⟨h.b.only a (fun _ e=>e.elim) id id,h.c1.aP a id,h.ct.aP a id,h.h1,h.h3,h.t10⟩
end
theorem tQ.ext{w u v:World}{g r:Nat}{gs:Array Value}{a b c d:aK}{j:Nat}(h:tQ w g r gs a b c d j u)(f:bf u v):tQ w g r gs a b c d j v:=by
 unfold tQ at h ⊢
 split at h
 ·exact h.only f (fun _ e=>e.elim) id id
 ·obtain⟨i,k,h⟩:=h;exact⟨i,k,h.only f⟩
 ·obtain⟨i,l,k,m,h,n,o⟩:=h;exact⟨i,l,k,m,h.only f,n.only f id,o.only f id⟩
 ·obtain⟨i,l,k,m,p,h,n,o,q⟩:=h;exact⟨i,l,k,m,p,h.only f,n.only f id,o.only f id,q.only f id⟩
 ·obtain⟨i,l,k,m,p,s,h,n,o,q,t⟩:=h;exact⟨i,l,k,m,p,s,h.only f,n.only f id,o.only f id,q.only f id,t.only f id⟩
def RD:Nat→aK
 | 0=>[36,64]
 | 1=>[36,60]
 | 2=>[36,94]
 | _=>[36,42]
def Se(a b c d:aK):Nat→aK
 | 0=>a
 | 1=>b
 | 2=>c
 | _=>d
theorem Pf{w:World}{g y:Nat}{gs:Array Value}{a b c d:aK}(f:Ra gs y):∀(j:Nat),j<4→∀u,tQ w g y gs a b c d j u→∀v,v=Se a b c d j →
  Calls Tryz.prog 283 #[iW g,S (RD j),S v,.int .i64 (8-2*(j:Int)),iW g] u fun e u'=>e=.returned (.tuple #[])∧tQ w g y gs a b c d (j+1) u'
 | 0,_,u,h,v,z=>by
  have h:Tk w u g y gs BM:=h
  have z:v=a:=z
  subst z
  refine Di (b:=g) (g:=g) (tb:=y) (m:=0) (c:=36) (r:=[64]) v 8 (by omega) h.gen f.p2 f.p4 h.tab rfl h.ne h.gen f.Uo fun u1 k K hx ht hn=>?_
  have L:=h.x.size
  refine(QX (g:=g) (c:=64) (r:=[]) v 8 hn).mono ?_
  rintro e F ⟨rfl,s,Q,c1,M,o⟩
  have N:g≠k:=by have:=h.gen.lt;omega
  have O:y≠k:=by have:=h.tab.lt;omega
  refine⟨rfl,k,s,⟨⟨(h.gen.aP hx (fun e=>h.ne e)).aP o N,(show Cs u1 y AM _ from ht).aP o O,(h.x.trans hx fun b hb e=>by have e:b=y:=e;have:=h.ht;omega).trans o fun b hb e=>by have e:b=k:=e;omega,h.hg,h.ht,h.ne⟩,c1,M,by omega,by have:=hx.size;omega,?_⟩⟩
  have:=hn.lt
  omega
 | 1,_,u,h,v,z=>by
  obtain⟨i,s,h⟩:∃i s,Vr w u g y gs a i s:=h
  have z:v=b:=z
  subst z
  refine DG (b:=g) (g:=g) (tb:=y) (n:=i) (m:=0) (c:=36) (r:=[60]) v 6 (by omega) h.b.gen f.p2 f.p4 h.b.tab rfl h.b.gen f.Uo fun u1 hx=>?_
  have h:=h.only hx
  have G:i≠g:=(h.c1.oC h.b.gen (by decide))
  refine(KR (b:=i) (g:=g) (k0:=s) (mx:=3) (mc:=2) (x:=64) (c:=60) v 6 (by decide) (by omega) (by omega) G h.c1 h.b.gen f.p5 f.m64 f.VN).mono ?_
  rintro e F ⟨rfl,k,tb,K,R,T,c1,M,H,o⟩
  have L:=h.b.x.size
  have P:y≠i:=(h.b.tab.oC h.c1 (by decide))
  refine⟨rfl,i,tb,s,k,⟨h.b.only o (fun b e=>by have e:b=i:=e;have:=h.h1;omega) (fun e=>G e.symm) P,c1,M,h.h1,by omega,?_⟩,⟨h.c2.aP o (fun e=>h.n12 e.symm),h.h2,h.n12⟩,⟨H,by omega,?_⟩⟩
  ·have:=h.b.tab.lt;omega
  ·have:=h.c1.lt;omega
 | 2,_,u,h,v,z=>by
  obtain⟨i,q,s,D,h,A,B⟩:∃i q s D,Qj w u g y gs #[.pointer none,.pointer none,iW D,iW s,.pointer none] i q∧qj w u i s a 8∧qj w u i D b 6:=h
  have z:v=c:=z
  subst z
  refine DG (b:=g) (g:=g) (tb:=y) (n:=i) (m:=0) (c:=36) (r:=[94]) v 4 (by omega) h.b.gen f.p2 f.p4 h.b.tab rfl h.b.gen f.Uo fun u1 hx=>?_
  have h:=h.only hx
  have A:=A.only hx id
  have B:=B.only hx id
  have C:i≠q:=(h.c1.oC h.ct (by decide))
  refine Di (b:=i) (g:=g) (tb:=q) (m:=4) (c:=94) (r:=[]) v 4 (by omega) h.c1 rfl rfl h.ct rfl C h.b.gen f.VG fun F k K hx2 ht hn=>?_
  have L:=h.b.x.size
  refine(wg (g:=g) v 4 hn).mono ?_
  rintro e U ⟨rfl,H,o⟩
  have l:∀n,Cs u1 n np (pB a 8)∨Cs u1 n np (pB b 6)→n≠q:=fun n e=>e.elim (fun e=>e.oC h.ct (by decide)) fun e=>e.oC h.ct (by decide)
  have t:∀n,n<u1.heap.size→n≠k:=fun n e=>by omega
  have E:g≠q:=h.b.gen.oC h.ct (by decide)
  refine⟨rfl,i,q,s,D,k,⟨(h.b.only hx2 (fun b e=>by have e:b=q:=e;have:=h.h3;omega) E (fun e=>h.t10 e.symm)).only o (fun b e=>by have e:b=k:=e;omega) (t _ h.b.gen.lt) (t _ h.b.tab.lt),(h.c1.aP hx2 C).aP o (t _ h.c1.lt),(show Cs F q AM _ from ht).aP o (t _ h.ct.lt),h.h1,h.h3,h.t10⟩,
   (A.only hx2 (l _ (.inl A.c))).only o (t _ A.c.lt),(B.only hx2 (l _ (.inr B.c))).only o (t _ B.c.lt),⟨H,by omega,(t _ h.c1.lt)⟩⟩
 | 3,_,u,h,v,z=>by
  obtain⟨i,q,s,D,J,h,A,B,I⟩:∃i q s D J,Qj w u g y gs #[.pointer none,.pointer none,iW D,iW s,iW J] i q∧qj w u i s a 8∧qj w u i D b 6∧qj w u i J c 4:=h
  have z:v=d:=z
  subst z
  refine DG (b:=g) (g:=g) (tb:=y) (n:=i) (m:=0) (c:=36) (r:=[42]) v 2 (by omega) h.b.gen f.p2 f.p4 h.b.tab rfl h.b.gen f.Uo fun u1 hx=>?_
  have h:=h.only hx
  have A:=A.only hx id
  have B:=B.only hx id
  have I:=I.only hx id
  have C:i≠q:=(h.c1.oC h.ct (by decide))
  refine Di (b:=i) (g:=g) (tb:=q) (m:=1) (c:=42) (r:=[]) v 2 (by omega) h.c1 rfl rfl h.ct rfl C h.b.gen f.VS fun F k K hx2 ht hn=>?_
  have L:=h.b.x.size
  refine(wg (g:=g) v 2 hn).mono ?_
  rintro e U ⟨rfl,H,o⟩
  have l:∀n x (p:Int),Cs u1 n np (pB x p)→n≠q:=fun n x p e=>e.oC h.ct (by decide)
  have t:∀n,n<u1.heap.size→n≠k:=fun n e=>by omega
  have E:g≠q:=h.b.gen.oC h.ct (by decide)
  refine⟨rfl,i,q,s,D,J,k,⟨(h.b.only hx2 (fun b e=>by have e:b=q:=e;have:=h.h3;omega) E (fun e=>h.t10 e.symm)).only o (fun b e=>by have e:b=k:=e;omega) (t _ h.b.gen.lt) (t _ h.b.tab.lt),(h.c1.aP hx2 C).aP o (t _ h.c1.lt),(show Cs F q AM _ from ht).aP o (t _ h.ct.lt),h.h1,h.h3,h.t10⟩,
   (A.only hx2 (l _ _ _ A.c)).only o (t _ A.c.lt),(B.only hx2 (l _ _ _ B.c)).only o (t _ B.c.lt),(I.only hx2 (l _ _ _ I.c)).only o (t _ I.c.lt),⟨H,by omega,(t _ h.c1.lt)⟩⟩
 | j+4,hj,_,_,_,_=>absurd hj (by omega)
abbrev MK(tab:Value)(ts:Int):List Value:=[S [],.int .i64 0,S [],.pointer none,tab,.int .i64 ts]
abbrev IX(m:Nat→Int):List Value:=(List.range 256).map fun k=>.int .u8 (m k)
def lq(tab:Value)(ts:Int)(m:Nat→Int):Array Value:=(MK tab ts++IX m).toArray
theorem AA  (h:k<256):(IX m)[k]?=some (.int .u8 (m k)):=by
 rw[bP,List.getElem?_range h];rfl
theorem kE {ts:Int}  (h:k<256):(lq tab ts m)[6+k]?=some (.int .u8 (m k)):=by
 unfold lq
 rw[aB,dG (by simp),show 6+k-(MK tab ts).length=k by simp,AA h]
theorem tC(tab:Value)(ts:Int)(m:Nat→Int):(lq tab ts m).size=262:=by simp[lq]
def RJ(m:Nat→Int)(k:Nat)(x:Int):Nat→Int:=fun i=>if i=k then x else m i
theorem zZ {ts:Int}  (x:Int):(lq tab ts m).setIfInBounds (6+k) (.int .u8 x)=lq tab ts (RJ m k x):=by
 apply Array.ext_getElem?
 intro i
 rw[iU,tC]
 by_cases h:6+k=i
 ·subst h
  by_cases a:6+k<262
  ·rw[ab rfl,ab a,kE (by omega)]
   simp[RJ]
  ·rw[ab rfl,aa a,dx (by rw[tC];omega)]
 ·rw[aa h]
  rcases dm i 6 with h6|h6
  ·unfold lq
   rw[aB,aB,bG (by simpa using h6),bG (by simpa using h6)]
  ·rcases dm i 262 with h2|h2
   ·obtain⟨j,rfl⟩:∃j,i=6+j:=⟨i-6,by omega⟩
    rw[kE (by omega),kE (by omega)]
    unfold RJ
    rw[aa (by omega)]
   ·rw[dx (by rw[tC];omega),dx (by rw[tC];omega)]
theorem LI {ts:Int} (x:Int):(lq tab ts m).setIfInBounds 5 (.int .i64 x)=lq tab x m:=by simp[lq]
theorem KD {ts:Int} (x:Value):(lq tab ts m).setIfInBounds 4 x=lq x ts m:=by simp[lq]
def JV:List Nat:=[36,64,36,60,36,94,36,42]
def mA:Nat→Nat→Int
 | 0=>fun _=>0
 | n+1=>RJ (mA n) (JV.getD n 0) 1
def mw(m:Nat→Int):Nat→Int
 | 0=>0
 | n+1=>mw m n+m n
theorem Bq:∀(n k:Nat),mA n k=0∨mA n k=1
 | 0,_=>.inl rfl
 | n+1,k=>by
  unfold mA RJ
  split
  ·exact .inr rfl
  ·exact Bq n k
theorem zd{m:Nat→Int}(h:∀k,m k=0∨m k=1):∀n:Nat,0≤mw m n∧mw m n≤n
 | 0=>⟨fO _,fO _⟩
 | n+1=>by
  have:=zd h n
  have:=h n
  unfold mw
  omega
theorem zr{m:Nat→Int}(h:∀k,m k=0∨m k=1)(n:Nat):∀d,mw m n≤mw m (n+d)
 | 0=>fO _
 | d+1=>by
  have:=zr h n d
  have:=h (n+d)
  show mw m n≤mw m (n+d)+m (n+d)
  omega
theorem MT:mw (mA 8) 256=5:=by decide +kernel
def Ij(k:Nat):Int:=if mA 8 k=0 then 5 else mw (mA 8) k
theorem Pg (h:mA 8 k=0):Ij k=5:=ab h
theorem Pt (h:mA 8 k=1):Ij k=mw (mA 8) k:=aa (by omega)
def mB(i:Nat):Nat→Int:=fun k=>if k<i then Ij k else mA 8 k
theorem JH(i:Nat):mB (i+1)=RJ (mB i) i (Ij i):=by
 funext k
 show(if k<i+1 then Ij k else mA 8 k)=if k=i then Ij i else if k<i then Ij k else mA 8 k
 by_cases h:k=i
 ·subst h;simp
 ·rw[aa h]
  by_cases a:k<i
  ·rw[ab (by omega),ab a]
  ·rw[aa (by omega),aa a]
theorem Ro:mB 0=mA 8:=by funext k;simp[mB]
theorem Rr:((List.range 256).all fun k=>k==36||k==42||k==60||k==64||k==94||mB 256 k==5)=true:=by decide +kernel
theorem Ld(k:Nat)(a:k<256)(b:k≠36)(c:k≠42)(d:k≠60)(e:k≠64)(f:k≠94):mB 256 k=5:=by
 have:=bJ.1 Rr k (dS.2 a)
 simp only[cd,bY] at this
 omega
theorem GT:mB 256 36=0∧mB 256 42=1∧mB 256 60=2∧mB 256 64=3∧mB 256 94=4:=by decide +kernel
theorem yI {ts:Int}  (h:k<6):(lq tab ts m)[k]?=(MK tab ts)[k]?:=by
 unfold lq
 rw[aB,bG (by simpa using h)]
theorem RI(a:Nat):Ra (lq (.slice (some ⟨a,0,none⟩) 5 5) 5 (mB 256)) a:=
 ⟨yI (by decide),yI (by decide),yI (by decide),yI (by decide),(kE (by decide)).trans (by rw[show(36:UInt8).toNat=36 from rfl,GT.1]),(kE (by decide)).trans (by rw[show(42:UInt8).toNat=42 from rfl,GT.2.1]),(kE (by decide)).trans (by rw[show(60:UInt8).toNat=60 from rfl,GT.2.2.1]),(kE (by decide)).trans (by rw[show(64:UInt8).toNat=64 from rfl,GT.2.2.2.1]),(kE (by decide)).trans (by rw[show(94:UInt8).toNat=94 from rfl,GT.2.2.2.2]),
  fun c h1 h2 h3 h4 h5=>by
   have b:c.toNat<256:=c.toNat_lt
   rw[kE b]
   have ne:∀d:UInt8,c≠d→c.toNat≠d.toNat:=fun d h e=>h (im.1 e)
   have:=Ld c.toNat b (ne 36 h1) (ne 42 h2) (ne 60 h3) (ne 64 h4) (ne 94 h5)
   rw[show mB 256 c.toNat=5 from this]⟩
theorem NO:Tryz.zeroCells379=lq (.slice none 0 0) 0 (mA 0):=by kernel_rfl
theorem CM{w:World}{g:Nat} {ts:Int} (h:Cs w g qK (lq tab ts m)):w.rangeAt g 6 (IX m):=fun j v hj=>by
 have a:j<256:=by
  have:=(aw.1 hj).1
  simpa using this
 rw[h.cell,kE a,←hj,AA a]
theorem NR(m:Nat→Int):(Tryz.prog.info? 312).map (·.size)=some (IX m).length:=by
 rw[bH,fD]
 kernel_rfl
theorem Js{w:World}{a:Array Value}{q:Nat}{x:Int}(hq:q<256)(b:a[q]?=some (.int .u8 x)):(Instr.index 312 (.agg a) (.int .i64 (q:Int))).run Tryz.prog w=.ok (.int .u8 x) w:=by
 have e:0≤(q:Int)∧(q:Int)<((256:Nat):Int):=by omega
 have c:q<a.size:=(bq.1 b).1
 have d:a[q]=.int .u8 x:=(bq.1 b).2
 simp[Instr.index,run_underlying Tryz.underlying312,asIntOf,hq,c,d,b,go_sem]
theorem tQ.x{w u:World}{g l:Nat}{gs:Array Value}{a b c d:aK}{j:Nat}(h:tQ w g l gs a b c d j u):bf w u:=by
 unfold tQ at h
 split at h
 ·exact h.x
 ·obtain⟨e,f,h⟩:=h;exact h.b.x
 ·obtain⟨e,i,f,k,h,_⟩:=h;exact h.b.x
 ·obtain⟨e,i,f,k,m,h,_⟩:=h;exact h.b.x
 ·obtain⟨e,i,f,k,m,n,h,_⟩:=h;exact h.b.x
structure Arr (m:Nat→Int) (arr:Array Value):Prop where
 size:arr.size=256
 get:∀k,k<256→arr[k]?=some (.int .u8 (m k))
theorem TU(m:Nat→Int):∃arr,arr=(IX m).toArray∧Arr m arr:=⟨_,rfl,by simp,fun k hk=>by rw[aB];exact AA hk⟩
theorem KC{w:World}{A:Option Addr}{cp:Nat}{a b c d:aK}(h:di cI w A 8 [[36,64],a,[36,60],b,[36,94],c,[36,42],d]) :
  Calls Tryz.prog 277 #[.slice A 8 cp] w fun e w'=>∃g C,e=.returned (iW g)∧tQ w g C (lq (.slice (some ⟨C,0,none⟩) 5 5) 5 (mB 256)) a b c d 4 w':=by
 obtain⟨E,N⟩:∃u,u=w.alloc (.cells Tryz.zeroCells379 qK):=⟨_,rfl⟩
 obtain⟨g,hg⟩:∃g,g=w.heap.size:=⟨_,rfl⟩
 have h1:Cs E g qK (lq (.slice none 0 0) 0 (mA 0)):=by rw[N,hg,NO];exact Cs.new _ _ _
 have x1:bf w E:=by rw[N];exact(al.refl No w).alloc _
 have H:=aj (And.intro h (And.intro h1 (And.intro x1 hg)))
 clear h h1 x1
 go_enter Tryz.func277,Tryz.ntmps277
 go_upto_region 2 with fail
 rw[←N,←hg]
 clear N hg
 go_wp2_with fail
 go_loopw [4,5,6] (fun i _ _ wr=>∃j:Nat,j≤4∧i=.int .i64 (2*(j:Int))∧Cs wr g qK (lq (.slice none 0 0) 0 (mA (2*j)))∧al (fun x=>x=g) E wr) (fun i _ _ _=>8-(intOf i).toNat)
 case atStart=>exact⟨0,by omega,rfl,H.ou.2.1,al.refl _ _⟩
 case round=>
  obtain⟨j,hj,rfl,F,G⟩:=hrel
  have l:=aj F
  have m:=aj G
  clear F G
  by_cases y:j<4
  ·have Z:∃z:UInt8,[[36,64],a,[36,60],b,[36,94],c,[36,42],d][2*j]?=some [36,z]∧JV.getD (2*j) 0=36∧JV.getD (2*j+1) 0=z.toNat:=by
    match j,y with
    | 0,_=>exact⟨64,rfl,rfl,rfl⟩
    | 1,_=>exact⟨60,rfl,rfl,rfl⟩
    | 2,_=>exact⟨94,rfl,rfl,rfl⟩
    | 3,_=>exact⟨42,rfl,rfl,rfl⟩
   obtain⟨z,ai,O,ak⟩:=Z
   obtain⟨bb,o,s,rfl,t,c0⟩:=dq H.ou.1 (k:=2*j) (by omega)
   rw[ai] at t
   obtain rfl:[36,z]=s:=bB t
   have HX:=aj (And.intro O ak)
   clear t ai O ak
   have c0:∀u,bf w u→u.cell? ⟨bb,o+2*j,none⟩=some (S [36,z]):=fun u hu=>c0 ⟨u,hu⟩
   have a4:z.toNat<256:=z.toNat_lt
   have HW:Hd (bf w wr):=H.ou.2.2.1.trans m.ou fun b hb e=>by have e:b=g:=e;have:=H.ou.2.2.2;omega
   have a5:=c0 wr HW.ou
   go_wp2_with fail
   go_loopw [6] (fun i wr2=>∃(k:Nat) (q:Int),k≤2∧q=k∧i=.int .i64 q∧Cs wr2 g qK (lq (.slice none 0 0) 0 (mA (2*j+k)))∧al (fun x=>x=g) E wr2) (fun i _=>2-(intOf i).toNat)
   case atStart=>exact⟨0,0,by omega,rfl,rfl,l.ou,m.ou⟩
   case round=>
    clear l m
    obtain⟨k,q,Z,hq,rfl,F,G⟩:=hrel
    have l:=aj F
    have m:=aj G
    clear F G
    have key:∀(x:UInt8) (k:Nat),k<2→[36,z][k]?=some x→(x.toNat<256∧∀wr2,Cs wr2 g qK (lq (.slice none 0 0) 0 (mA (2*j+k)))→Cs ((wr2.setCell ⟨g,6+x.toNat,none⟩ (.int .u8 1)).drew) g qK (lq (.slice none 0 0) 0 (mA (2*j+(k+1))))):=fun x k Z t=>by
     refine⟨x.toNat_lt,fun u hu=>?_⟩
     have e:mA (2*j+(k+1))=RJ (mA (2*j+k)) x.toNat 1:=by
      show RJ (mA (2*j+k)) (JV.getD (2*j+k) 0) 1=_
      match k,Z with
      | 0,_=>rw[fK,HX.ou.1,←bB t];rfl
      | 1,_=>rw[HX.ou.2,←bB t]
     rw[e,←zZ]
     exact(hu.cM _ _).drew
    have I:=aj key
    clear key
    by_cases O:k<2
    ·have av:k=0∨k=1:=by omega
     rcases av with rfl|rfl
     ·obtain rfl:q=0:=by omega
      obtain⟨n,KY⟩:=I.ou 36 0 (by omega) rfl
      have P:wr.drew.cell? ⟨g,42,none⟩=some (.int .u8 (mA (2*j+0) (36:UInt8).toNat)):=(l.ou.drew.cell _).trans (kE n)
      have s2:wr.drew.frozen? ⟨g,42,none⟩=false:=l.ou.drew.frozen _
      have J:=aj KY
      clear KY I hq
      go_upto_region 9 with fail
      (refine aV [7] 7 (Cl (wr) (No)) (by kernel_rfl) (by kernel_rfl) (Cl.eU (X.here wr No)) ?_;refine bK ?_)
      (refine bQ ?_;intro K hK)
      refine hK _ _ (fun hne=>absurd rfl hne) ?_
      clear hK K
      refine bj ?_
      refine ar ?_
      obtain⟨v,f⟩:∃u,u=(wr.setCell ⟨g,42,none⟩ (.int .u8 1)).drew:=⟨_,rfl⟩
      have Q:Hd (Cs v g qK (lq (.slice none 0 0) 0 (mA (2*j+(0+1))))):=by rw[f];exact J.ou _ l.ou
      have R:Hd (al (fun x=>x=g) E v):=by rw[f];exact(m.ou.at_ _ _).drew
      first|rw[←f]|(trace_state;fail)
      clear f P s2 J l m n
      go_wp2_with fail
      go_roundw
      case rel=>exact⟨0+1,_,by omega,by omega,rfl,Q.ou,R.ou⟩
      case measure=>simp[intOf]
     ·obtain rfl:q=1:=by omega
      obtain⟨n,KY⟩:=I.ou z 1 (by omega) rfl
      have P:wr.drew.cell? ⟨g,6+(z:UInt8).toNat,none⟩=some (.int .u8 (mA (2*j+1) (z:UInt8).toNat)):=(l.ou.drew.cell _).trans (kE n)
      have s2:wr.drew.frozen? ⟨g,6+(z:UInt8).toNat,none⟩=false:=l.ou.drew.frozen _
      have J:=aj KY
      clear KY I hq
      go_upto_region 9 with fail
      (refine aV [7] 7 (Cl (wr) (No)) (by kernel_rfl) (by kernel_rfl) (Cl.eU (X.here wr No)) ?_;refine bK ?_)
      (refine bQ ?_;intro K hK)
      refine hK _ _ (fun hne=>absurd rfl hne) ?_
      clear hK K
      refine bj ?_
      refine ar ?_
      obtain⟨v,f⟩:∃u,u=(wr.setCell ⟨g,6+(z:UInt8).toNat,none⟩ (.int .u8 1)).drew:=⟨_,rfl⟩
      have Q:Hd (Cs v g qK (lq (.slice none 0 0) 0 (mA (2*j+(1+1))))):=by rw[f];exact J.ou _ l.ou
      have R:Hd (al (fun x=>x=g) E v):=by rw[f];exact(m.ou.at_ _ _).drew
      first|rw[←f]|(trace_state;fail)
      clear f P s2 J l m n
      go_wp2_with fail
      go_roundw
      case rel=>exact⟨1+1,_,by omega,by omega,rfl,Q.ou,R.ou⟩
      case measure=>simp[intOf]
    ·obtain rfl:k=2:=by omega
     obtain rfl:q=2:=by omega
     clear hq O Z I
     go_wp2_with fail
     go_roundw
     case rel=>exact⟨j+1,by omega,by go_num,l.ou,m.ou⟩
     case measure=>simp[intOf];omega
  ·obtain rfl:j=4:=by omega
   obtain⟨w2,aD⟩:∃u,u=wr:=⟨_,rfl⟩
   subst aD
   obtain⟨am,ac,hA⟩:=TU (mA 8)
   have HA:=aj hA
   have a6:=hA.size
   have L:=aj (CM l.ou)
   have HI:=aj (NR (mA 8))
   clear hA y hj
   go_wp2_with fail
   refine wp_load_mid _ _ rfl g 6 rfl (IX (mA 8)) _ L.ou Tryz.underlying312 rfl HI.ou ?_
   rw[←ac]
   have a0:=aj ac
   clear ac L
   go_wp2_with fail
   go_loopw [41] (fun i wr=>∃q:Nat,q≤256∧i=.int .i64 (q:Int)∧Cs wr g qK (lq (.slice none 0 0) (mw (mA 8) q) (mA 8))∧al (fun x=>x=g) E wr) (fun i _=>256-(intOf i).toNat)
   case atStart=>exact⟨0,by omega,rfl,l.ou,m.ou⟩
   case round=>
    clear l m
    obtain⟨q,hq,rfl,F,G⟩:=hrel
    have l:=aj F
    have m:=aj G
    clear F G
    by_cases p:q<256
    ·have ha:=HA.ou.get q p
     have r:∀u,(Instr.index 312 (.agg am) (.int .i64 (q:Int))).run Tryz.prog u=.ok (.int .u8 (mA 8 q)) u:=fun u=>Js p ha
     obtain⟨x,t⟩:∃x,x=mA 8 q:=⟨_,rfl⟩
     obtain⟨T,D⟩:∃x,x=mw (mA 8) q:=⟨_,rfl⟩
     have Y:=Bq 8 q
     have U:=zd (Bq 8) q
     rw[←t] at r Y
     rw[←D] at l U
     have a1:Hd (mw (mA 8) (q+1)=T+x):=by rw[t,D];rfl
     have a7:0≤T∧T≤256:=by omega
     have a8:0≤x∧x≤1:=by omega
     clear t D Y U ha
     have c5:wr.cell? ⟨g,5,none⟩=some (.int .i64 T):=l.ou.cell 5
     have z5:=l.ou.frozen 5
     go_wp2_with fail
     obtain⟨v,f⟩:∃u,u=wr.setCell ⟨g,5,none⟩ (.int .i64 (T+x)):=⟨_,rfl⟩
     rw[←f]
     have Q:Hd (Cs v g qK (lq (.slice none 0 0) (mw (mA 8) (q+1)) (mA 8))):=by rw[a1.ou,f,←LI];exact l.ou.cM 5 _
     have R:Hd (al (fun x=>x=g) E v):=by rw[f];exact m.ou.at_ _ _
     clear f c5 z5 r
     go_roundw
     case rel=>exact⟨q+1,by omega,by go_num,Q.ou,R.ou⟩
     case measure=>simp[intOf];omega
    ·obtain rfl:q=256:=by omega
     rw[MT] at l
     have L:=aj (CM l.ou)
     clear hq p
     go_wp2_with fail
     refine wp_load_mid _ _ rfl g 6 rfl (IX (mA 8)) _ L.ou Tryz.underlying312 rfl HI.ou ?_
     rw[←a0.ou]
     clear L
     go_wp2_with fail
     go_loopw [9,58] (fun x i wr=>∃q:Nat,q≤256∧x=.int .u8 (mw (mA 8) q)∧i=.int .i64 (q:Int)∧Cs wr g qK (lq (.slice none 0 0) 5 (mB q))∧al (fun x=>x=g) E wr) (fun _ i _=>256-(intOf i).toNat)
     case atStart=>exact⟨0,by omega,rfl,rfl,by rw[Ro];exact l.ou,m.ou⟩
     case round=>
      clear l m
      obtain⟨q,hq,rfl,rfl,F,G⟩:=hrel
      have l:=aj F
      have m:=aj G
      clear F G
      by_cases p:q<256
      ·have ha:=HA.ou.get q p
       have r:∀u,(Instr.index 312 (.agg am) (.int .i64 (q:Int))).run Tryz.prog u=.ok (.int .u8 (mA 8 q)) u:=fun u=>Js p ha
       obtain⟨T,D⟩:∃x,x=mw (mA 8) q:=⟨_,rfl⟩
       have U:=zd (Bq 8) q
       have B:=zr (Bq 8) (q+1) (256-(q+1))
       rw[show q+1+(256-(q+1))=256 by omega,MT,show mw (mA 8) (q+1)=mw (mA 8) q+mA 8 q from rfl] at B
       rw[←D] at U B
       have V:Hd (mw (mA 8) (q+1)=T+mA 8 q):=by rw[D];rfl
       rw[←D]
       have HT:=aj D
       have P:∃u,wr.drew.cell? ⟨g,6+q,none⟩=some u:=⟨_,(l.ou.drew.cell _).trans (kE p)⟩
       obtain⟨u0,P⟩:=P
       have s2:wr.drew.frozen? ⟨g,6+q,none⟩=false:=l.ou.drew.frozen _
       have s3:wr.cell? ⟨g,6+q,none⟩=some u0:=P
       have s4:wr.frozen? ⟨g,6+q,none⟩=false:=l.ou.frozen _
       clear D ha
       rcases Bq 8 q with h0|h1
       ·have HE:=aj (Pg h0)
        have c5:∀u,u=wr.drew→u.cell? ⟨g,5,none⟩=some (.int .i64 5):=fun u e=>by rw[e];exact l.ou.drew.cell 5
        have a2:wr.drew.cell? ⟨g,5,none⟩=some (.int .i64 5):=c5 _ rfl
        rw[h0] at r V
        clear h0
        go_upto_region 20 with fail
        refine aV [5,10] 10 (Cl wr No) (by kernel_rfl) (by kernel_rfl) (Cl.eU (X.here wr No)) ?_
        refine dH ?_
        (refine bQ ?_;intro K hK)
        refine hK _ _ (fun _=>Cl.eU (X.here wr No)) ?_
        clear hK K
        refine bj ?_
        refine dH ?_
        (refine bQ ?_;intro K hK)
        refine hK _ _ (fun hne=>absurd rfl hne) ?_
        clear hK K
        refine bj ?_
        refine ar ?_
        obtain⟨v,f⟩:∃u,u=(wr.setCell ⟨g,6+q,none⟩ (.int .u8 5)).drew:=⟨_,rfl⟩
        rw[←f]
        have Q:Hd (Cs v g qK (lq (.slice none 0 0) 5 (mB (q+1)))):=by rw[JH,HE.ou,f,←zZ];exact(l.ou.cM _ _).drew
        have R:Hd (al (fun x=>x=g) E v):=by rw[f];exact(m.ou.at_ _ _).drew
        clear f c5 a2 P s2 s3 s4 r
        go_wp2_with fail
        go_roundw
        case rel=>exact⟨q+1,by omega,by rw[V.ou,Int.add_zero],by go_num,Q.ou,R.ou⟩
        case measure=>simp[intOf];omega
       ·have HE:=aj (Pt h1)
        rw[←HT.ou] at HE
        rw[h1] at r V B
        clear h1
        go_wp2_with fail
        obtain⟨v,f⟩:∃u,u=wr.setCell ⟨g,6+q,none⟩ (.int .u8 T):=⟨_,rfl⟩
        rw[←f]
        have Q:Hd (Cs v g qK (lq (.slice none 0 0) 5 (mB (q+1)))):=by rw[JH,HE.ou,f,←zZ];exact l.ou.cM _ _
        have R:Hd (al (fun x=>x=g) E v):=by rw[f];exact m.ou.at_ _ _
        clear f P s2 s3 s4 r
        go_roundw
        case rel=>exact⟨q+1,by omega,by rw[V.ou],by go_num,Q.ou,R.ou⟩
        case measure=>simp[intOf];omega
      ·obtain rfl:q=256:=by omega
       clear hq p
       have HM:=Ct wr
       have c5:wr.cell? ⟨g,5,none⟩=some (.int .i64 5):=l.ou.cell 5
       have c4:∀o,(wr.alloc o).cell? ⟨g,4,none⟩=some (.slice none 0 0):=fun o=>(l.ou.alloc o).cell 4
       have z4:∀o,(wr.alloc o).frozen? ⟨g,4,none⟩=false:=fun o=>(l.ou.alloc o).frozen 4
       go_upto_region 25 with fail
       obtain⟨w4,M⟩:∃u,u=(wr.alloc (.cells #[.pointer none,.pointer none,.pointer none,.pointer none,.pointer none] AM)).setCell ⟨g,4,none⟩ (.slice (some ⟨wr.heap.size,0,none⟩) 5 5):=⟨_,rfl⟩
       obtain⟨C,W⟩:∃k,k=wr.heap.size:=⟨_,rfl⟩
       rw[←M]
       have ao:g≠C:=by have:=l.ou.lt;omega
       have T0:Hd (tQ w g C (lq (.slice (some ⟨C,0,none⟩) 5 5) 5 (mB 256)) a b c d 0 w4):=by
        have xw:bf w wr:=H.ou.2.2.1.trans m.ou fun b hb e=>by have e:b=g:=e;have:=H.ou.2.2.2;omega
        refine⟨?_,?_,?_,ij H.ou.2.2.2.symm,by have:=xw.size;omega,ao⟩
        ·rw[M,←KD (tab:=.slice none 0 0),W];exact(l.ou.alloc _).cM 4 _
        ·rw[M,W];exact(Cs.new wr AM _).far (by rw[←W];exact fun e=>ao e.symm) _
        ·rw[M];exact(xw.alloc _).setCell (.inl (ij H.ou.2.2.2.symm)) _
       clear M W HM c5 c4 z4
       go_upto_region 26 with fail
       go_loopw [12] (fun i wr=>∃j:Nat,j≤4∧i=.int .i64 (2*(j:Int))∧tQ w g C (lq (.slice (some ⟨C,0,none⟩) 5 5) 5 (mB 256)) a b c d j wr) (fun i _=>8-(intOf i).toNat)
       case atStart=>exact⟨0,by omega,rfl,T0.ou⟩
       case round=>
        clear T0 l m
        obtain⟨j,hj,rfl,D⟩:=hrel
        have HT:=aj D
        clear D
        by_cases y:j<4
        ·have Z:∃ky vl,[[36,64],a,[36,60],b,[36,94],c,[36,42],d][2*j]?=some ky∧[[36,64],a,[36,60],b,[36,94],c,[36,42],d][2*j+1]?=some vl∧ky=RD j∧vl=Se a b c d j:=by
          match j,y with
          | 0,_=>exact⟨_,_,rfl,rfl,rfl,rfl⟩
          | 1,_=>exact⟨_,_,rfl,rfl,rfl,rfl⟩
          | 2,_=>exact⟨_,_,rfl,rfl,rfl,rfl⟩
          | 3,_=>exact⟨_,_,rfl,rfl,rfl,rfl⟩
         obtain⟨ky,vl,k1,k2,k3,k4⟩:=Z
         have ap:Hd (∀u,bf wr u→Calls Tryz.prog 283 #[iW g,S ky,S vl,.int .i64 (8-2*(j:Int)),iW g] u fun e u'=>e=.returned (.tuple #[])∧tQ w g C (lq (.slice (some ⟨C,0,none⟩) 5 5) 5 (mB 256)) a b c d (j+1) u'):=fun u hu=>by
          rw[k3]
          exact Pf (RI C) j y u (HT.ou.ext hu) vl k4
         obtain⟨bb,o,s,rfl,t,c0⟩:=dq (H.ou.1.ext HT.ou.x) (k:=2*j) (by omega)
         rw[k1] at t
         obtain rfl:ky=s:=bB t
         obtain⟨a9,o2,s,e2,ag,c1⟩:=dq (H.ou.1.ext HT.ou.x) (k:=2*j+1) (by omega)
         rw[k2] at ag
         obtain rfl:vl=s:=bB ag
         injection e2 with e2
         injection e2 with e2 e3
         subst e2;subst e3
         clear t ag k1 k2 k3 k4
         go_upto_region 28 with fail
         (refine aV [17] 17 (Cl (wr) (No)) (by kernel_rfl) (by kernel_rfl) (Cl.eU (X.here wr No)) ?_;refine bK ?_)
         (refine bQ ?_;intro K hK)
         refine(ap.ou _ (al.refl No wr).drew).mono ?_
         rintro e w5 ⟨rfl,B⟩
         refine⟨_,rfl,hK _ _ (fun hne=>absurd rfl hne) ?_⟩
         clear hK K
         refine bj ?_
         refine ar ?_
         have a3:=aj B
         clear B ap c0 c1 HT
         go_wp2_with fail
         go_roundw
         case rel=>exact⟨j+1,by omega,by go_num,a3.ou⟩
         case measure=>simp[intOf];omega
        ·obtain rfl:j=4:=by omega
         clear hj y
         go_wp2_with fail
         go_ret
         exact⟨g,C,rfl,HT.ou⟩
end Go.Proofs.YtpgmcijdcnnjpaaGreatDoor
