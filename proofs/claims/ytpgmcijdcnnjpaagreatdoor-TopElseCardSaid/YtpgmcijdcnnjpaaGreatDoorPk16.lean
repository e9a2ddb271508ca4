/- Lemmas for it. -/
import Derived.Test.YtpgmcijdcnnjpaaGreatDoorPk15
set_option linter.all false
set_option maxRecDepth 100000
set_option maxHeartbeats 8000000
namespace Go.Proofs.YtpgmcijdcnnjpaaGreatDoor
open Go Go.RowKit
variable {g i k n:Nat} {gs:List dv} {st:List Bool} {E:List mJ} {U up:List Nat} {q r:Nat→Nat} {w:World} {m:Mk} {l:List bm} {A:Option Addr} {P:Program}
abbrev pk(st:List Bool)(i:Nat):Bool:=st.getD i false
def nf(gs:List dv)(st:List Bool)(i:Nat)(n:aK):Option mJ:=
 match gQ (gs.take i) n with
 | some k=>if (pk st i&&pk st k)=true then some (i,k) else none
 | none=>none
def Oo(gs:List dv)(i:Nat):List aK:=match gs[i]? with
 | some g=>g.aN
 | none=>[]
def yQ(gs:List dv)(st:List Bool)(i:Nat):List mJ:=(Oo gs i).filterMap (nf gs st i)
def mS(gs:List dv)(st:List Bool)(i:Nat):List mJ:=(List.range i).flatMap (yQ gs st)
abbrev jc(gs:List dv)(st:List Bool):List mJ:=mS gs st gs.length
def kj(n:Nat)(st:List Bool)(r:Nat→Nat)(i:Nat):List Nat:=(List.range n).filter fun k=>pk st k&&decide (r k=i)
def Hj(gs:List dv)(k:Nat):Bool:=match gs[k]? with
 | some g=>!g.ba
 | none=>false
def pQ(gs:List dv)(u:List Nat):Bool:=u.any (Hj gs)
def pJ(gs:List dv)(st:List Bool)(r:Nat→Nat)(i:Nat):Option (List Nat):=if pQ gs (kj gs.length st r i)=true then some (kj gs.length st r i) else none
def ig(gs:List dv)(st:List Bool)(r:Nat→Nat)(i:Nat):List (List Nat):=(List.range i).filterMap (pJ gs st r)
abbrev dD(gs:List dv)(st:List Bool)(r:Nat→Nat):List (List Nat):=ig gs st r gs.length
theorem DZ(gs:List dv)(st:List Bool)(i:Nat):mS gs st (i+1)=mS gs st i++yQ gs st i:=by
 unfold mS
 rw[jT,bF]
 simp
theorem uY(gs:List dv)(st:List Bool)(r:Nat→Nat)(i:Nat):ig gs st r (i+1)=ig gs st r i++(pJ gs st r i).toList:=by
 unfold ig
 rw[jT,jf]
 congr 1
theorem xf{out:List dv}{n:aK} (h:gQ out n=some k):k<out.length:=by
 unfold gQ at h
 obtain⟨a,_⟩:=cK.1 h
 exact a
theorem PR   {n:aK}{e:mJ}(h:nf gs st i n=some e):e.1=i∧e.2<i∧pk st e.1=true∧pk st e.2=true:=by
 unfold nf at h
 split at h
 ·rename_i k hk
  split at h
  ·rename_i hs
   cases h
   rw[aI] at hs
   have:=xf hk
   rw[aH] at this
   exact⟨rfl,by show k<i;omega,hs.1,hs.2⟩
  ·cases h
 ·cases h
theorem se    : ∀e∈mS gs st i,e.1<i∧e.2<e.1∧pk st e.1=true∧pk st e.2=true:=by
 intro e a
 unfold mS at a
 obtain⟨j,b,a⟩:=cG.1 a
 unfold yQ at a
 obtain⟨n,_,a⟩:=fX.1 a
 obtain⟨f,g,c,d⟩:=PR a
 have:=dS.1 b
 exact⟨by omega,by omega,c,d⟩
theorem kL.Sb {p:Nat→Bool}(a:∀e∈E,p e.1=true∧p e.2=true){x y:Nat}(h:kL E x y):x=y∨p y=true:=by
 induction h with
 | here=>exact .inl rfl
 | down _ e _=>exact .inr (a _ e).2
 | up _ e _=>exact .inr (a _ e).1
def Ez(n i:Nat)(E:List mJ)(up:List Nat):Prop:=∃U:List Nat,U.length=i∧i≤n∧up=U++List.replicate (n-i) 0∧zb E U
theorem Ez.start(n:Nat):Ez n 0 [] (List.replicate n 0):=
 ⟨[],rfl,au _,by simp,⟨fun i hi=>absurd hi (kK i),(fun e he=>by cases he),fun x y hx _=>absurd hx (kK x)⟩⟩
theorem Ez.len   (h:Ez n i E up):up.length=n:=by
 obtain⟨U,a,b,rfl,_⟩:=h
 rw[af,ie]
 omega
theorem Jp {j:Nat}(h:j<U.length):(U++List.replicate k 0).getD j 0=U.getD j 0:=by
 rw[aL,aL,bG h]
theorem Kc  (h:IB U):IB (U++List.replicate k 0):=by
 intro j a
 rcases dm j U.length with hlt|hge
 ·rw[Jp hlt];exact h j hlt
 ·rw[aL,dG hge,jP]
  split<;>exact au _
theorem Ez.low{n i:Nat}{E:List mJ}{a:List Nat}(h:Ez n i E a):IB a:=by
 obtain⟨U,c,d,rfl,b⟩:=h
 exact Kc b.low
theorem EK  (h:IB U):∀j,j<U.length→cY (U++List.replicate k 0) j=cY U j:=by
 intro j
 induction j using Nat.strongRecOn with
 | ind j ih=>
  intro b
  rw[lB (Kc h) (by rw[af];omega),lB h b,Jp b]
  by_cases a:U.getD j 0=j
  ·rw[ab a,ab a]
  ·rw[aa a,aa a]
   have:=h j b
   exact ih _ (by omega) (by omega)
theorem Ez.new{n i:Nat}{E:List mJ}{a:List Nat}(h:Ez n i E a)(b:i<n):Ez n (i+1) E (a.set i i):=by
 obtain⟨U,rfl,d,rfl,c⟩:=h
 refine⟨U++[U.length],by simp,b,?_,c.new⟩
 have:List.replicate (n-U.length) 0=0::List.replicate (n-(U.length+1)) 0:=by
  rw[show n-U.length=(n-(U.length+1))+1 by omega,List.replicate_succ]
 rw[this,List.set_append_right _ _ (aq _),gI]
 simp
theorem Ez.VM{n i:Nat}{E:List mJ}{d:List Nat}(h:Ez n i E d){e:mJ}(b:e.1<i)(c:e.2<i):Ez n i (E++[e]) (Bc d e):=by
 obtain⟨U,rfl,f,rfl,a⟩:=h
 refine⟨Bc U e,by unfold Bc;rw[bT],f,?_,a.VM b c⟩
 unfold Bc
 rw[EK a.low _ b,EK a.low _ c]
 have g:=lS a.low b
 have j:=lS a.low c
 rw[eJ _ _ (by omega)]
theorem Ez.fin   (h:Ez n n E up):zb E up:=by
 obtain⟨U,b,c,rfl,a⟩:=h
 rw[gI,List.replicate_zero,cv]
 exact a
def kQ(E:List mJ)(n:Nat)(r:Nat→Nat):Prop:=∀k,k<n→ym E k (r k)
theorem kQ.Uw   (h:zb E up)(a:up.length=n):kQ E n (cY up):=fun k hk=>h.least (by omega)
theorem Dj   (h:∀k,k<n→r k=q k)(i:Nat):kj n st r i=kj n st q i:=by
 unfold kj
 refine List.filter_congr fun k hk=>?_
 rw[h k (dS.1 hk)]
theorem p9    (a:kQ E gs.length r)(hq:kQ E gs.length q)(i:Nat):ig gs st r i=ig gs st q i:=by
 have h:∀i,kj gs.length st r i=kj gs.length st q i:=Dj fun k hk=>(a k hk).uniq (hq k hk)
 unfold ig pJ
 simp only[h]
theorem ka     : k∈kj n st r i↔k<n∧pk st k=true∧r k=i:=by
 unfold kj
 rw[fF,dS,aI,bh]
theorem Kl   (h:kQ (jc gs st) gs.length r) (a:pk st i=false∨r i≠i):kj gs.length st r i=[]:=by
 refine iF.2 fun k hk=>?_
 obtain⟨b,f,rfl⟩:=ka.1 hk
 have c:=(h k b).1
 have g:∀e∈jc gs st,pk st e.1=true∧pk st e.2=true:=fun e he=>(se e he).2.2
 have d:r k<gs.length:=c.lt (fun e he=>by have:=se e he;omega) b
 rcases a with a|a
 ·rcases c.Sb g with e|e
  ·rw[←e,f] at a;cases a
  ·rw[e] at a;cases a
 ·refine a ?_
  have j:=h (r k) d
  have l:ym (jc gs st) (r k) (r k):=⟨.here,fun y hy=>(h k b).2 y (c.trans hy)⟩
  exact j.uniq l
theorem zT   (h:kQ (jc gs st) gs.length r) (a:pk st i=false∨r i≠i):pJ gs st r i=none:=by
 unfold pJ
 rw[Kl h a]
 try rfl
theorem Ae    {u:List Nat}(h:pJ gs st r i=some u):u=kj gs.length st r i∧pQ gs u=true:=by
 unfold pJ at h
 split at h
 ·rename_i h1
  cases h
  exact⟨rfl,h1⟩
 ·cases h
def VJ(out:List dv):Prop:=out.length≤100∧∀g∈out,g.targets.length≤1000∧g.aN.length≤1000∧g.bD.length≤1000
def NU(w:World):Option dv→Ending→World→Prop
 | some g,e,w'=>∃a:fW,e=.returned (.tuple #[AP (a,g),.bool true])∧bR cI 9 w w' a.tA a.tc g.targets∧bR cI 9 w w' a.nA a.nc g.aN∧bR cI 9 w w' a.cA a.cc g.bD∧bf w w'
 | none,e,w'=>e=.returned (.tuple #[.agg #[.slice none 0 0,.slice none 0 0,.slice none 0 0,.bool false],.bool false])∧bf w w'
theorem FX(a b:aK):(mi a b).1.length≤b.length:=by
 unfold mi
 split
 ·simp only[be,aH];omega
 ·exact au _
theorem NK(a:List lR)(n:aK):(oD a n=none∧qo (a.findIdx? fun r=>iH r.targets n)=-1)∨∃(k:Nat) (r:lR),a[k]?=some r∧oD a n=some r∧qo (a.findIdx? fun r=>iH r.targets n)=(k:Int):=by
 unfold oD
 cases h:a.findIdx? fun r=>iH r.targets n with
 | none=>
  refine .inl ⟨?_,rfl⟩
  rw[fM] at h
  exact eI.2 fun x hx=>by simp[h x hx]
 | some k=>
  obtain⟨b,c,hq⟩:=cK.1 h
  refine .inr ⟨k,a[k],aF b,?_,rfl⟩
  refine List.find?_eq_some_iff_getElem.2 ⟨c,k,b,rfl,fun j hj=>by simpa using hq j hj⟩
theorem SB  {v:wR}{rs:List (fW×lR)} {lA:Option Addr}{lc:Nat} (bk:Ml w)(h:SI w g v rs m lA lc l)(hb:Ps m l)(f:aK)(bx:f.length≤200) :
  Calls Tryz.prog 118 #[.pointer (some ⟨g,0,none⟩),S f] w (NU w (iY m l f)):=by
 obtain⟨vA,vc,rA,rc,pA,pc⟩:=v
 obtain⟨w1,ag⟩:∃u,u=w.alloc (.cells #[.pointer (some ⟨g,0,none⟩)] 135):=⟨_,rfl⟩
 obtain⟨w2,ap⟩:∃u,u=w1.alloc (.cells #[.slice none 0 0,.slice none 0 0,.slice none 0 0,.bool false] ia):=⟨_,rfl⟩
 go_enter Tryz.func118,Tryz.ntmps118
 go_upto_region 1 with fail
 rw[←ag,←ap]
 obtain⟨b2,av⟩:∃b,b=w.heap.size:=⟨_,rfl⟩
 obtain⟨A,aD⟩:∃b,b=w.heap.size+1:=⟨_,rfl⟩
 rw[←aD,←av]
 have s1:w1.heap.size=w.heap.size+1:=by rw[ag];simp
 have x1:bf w w1:=by rw[ag];exact(al.refl No w).alloc _
 have x2:bf w1 w2:=by rw[ap];exact(al.refl No w1).alloc _
 have C2:Cs w2 b2 135 #[.pointer (some ⟨g,0,none⟩)]:=(show Cs w1 b2 _ _ by rw[ag,av];exact Cs.new _ _ _).aP x2 id
 have C4:Cs w2 A ia UC:=by rw[ap,aD,←s1];exact Cs.new _ _ _
 have X2:Hd (bf w w2):=x1.ae x2
 have hg:g<w.heap.size:=World.block_lt_of_cell? _ _ h.c0
 have HB:Hd (g<w.heap.size∧w.heap.size≤b2∧w.heap.size≤A∧b2≠A):=by rw[av,aD];exact⟨hg,by omega,by omega,by omega⟩
 have HC:=aj (And.intro C2 C4)
 have HM:=aj (h.ext X2.ou)
 have bn:=aj h
 have HL:=aj (bk.ext X2.ou)
 have HE:=aj (zK HM.ou.mr hb.r (fun r hr=>by have:=(hb.t r hr).2.1;omega) f)
 clear ag ap av aD s1 x1 x2 C2 C4 h bk hg
 have ai:=aj hb
 clear hb
 have k2:w2.cell? ⟨b2,0,none⟩=some (.pointer (some ⟨g,0,none⟩)):=HC.ou.1.cell 0
 have c0:w2.cell? ⟨g,0,none⟩=some (.slice vA m.vars.length vc):=HM.ou.c0
 have c1:w2.cell? ⟨g,1,none⟩=some (.slice rA m.rules.length rc):=HM.ou.c1
 have c2:w2.cell? ⟨g,2,none⟩=some (.slice pA m.ba.length pc):=HM.ou.c2
 have bo:∀u,bf w2 u→∀x∈rs,∀stem:aK,stem.length≤200→Calls Tryz.prog 178 #[Sz ⟨vA,vc,rA,rc,pA,pc⟩ m,J6 x,S f,S stem] u (RL u (gW m x.2 f stem)):=fun u hu x H stem hst=>by
  have hm:=HM.ou.mr.ext hu
  obtain⟨q1,q2,q3⟩:=hm.rr x H
  obtain⟨p1,p2,p3,p4,p5,p6,p7⟩:=ai.ou.t x.2 (by rw[←hm.rm];exact cC H)
  exact VR (HL.ou.ext hu) hm q1 q2 q3 p1 p2 p3 p4 p5 p6 p7 f stem bx hst ai.ou.p
 have bp:=aj bo
 clear bo
 rcases NK m.rules f with⟨hn,hi⟩|⟨k,r,hr,hs,hi⟩
 ·have bs:Hd (yD m l f m.rules=iY m l f):=by rw[Hd,iY,hn]
  rw[hi] at HE
  clear hn hi
  go_wp2_with fail
  refine HE.ou.mono ?_
  rintro e P ⟨rfl,H⟩
  have E:=aj H
  have U:=aj (HM.ou.ext H)
  have k3:P.cell? ⟨b2,0,none⟩=some (.pointer (some ⟨g,0,none⟩)):=(HC.ou.1.aP H id).cell 0
  clear H HE k2 c0 c1 c2
  have c0:P.cell? ⟨g,0,none⟩=some (.slice vA m.vars.length vc):=U.ou.c0
  have c1:P.cell? ⟨g,1,none⟩=some (.slice rA m.rules.length rc):=U.ou.c1
  have c2:P.cell? ⟨g,2,none⟩=some (.slice pA m.ba.length pc):=U.ou.c2
  go_wp2_with fail
  go_loopw [40] (fun i wr=>∃k:Nat,k≤m.rules.length∧i=.int .i64 k∧yD m l f (m.rules.drop k)=iY m l f∧bf P wr) (fun i _=>m.rules.length-(intOf i).toNat)
  case atStart=>exact⟨0,au _,rfl,bs.ou,al.refl _ _⟩
  case round=>
   clear k3 c0 c1 c2 bs
   obtain⟨k,hk,rfl,hP,ak⟩:=hrel
   have HP:=aj hP
   have X4:=aj ak
   clear hP ak
   by_cases bz:k<m.rules.length
   ·obtain⟨b,o,⟨⟨tA,tc,nA,nc,cA,cc⟩,r⟩,rfl,H,am,d0,d1,d2⟩:=tt U.ou.mr.fr bz
    have e0:wr.cell? ⟨b,o+k*3,none⟩=some (.slice tA r.targets.length tc):=d0 _ X4.ou
    have e1:wr.cell? ⟨b,o+k*3+1,none⟩=some (.slice nA r.aN.length nc):=d1 _ X4.ou
    have e2:wr.cell? ⟨b,o+k*3+2,none⟩=some (.slice cA r.bD.length cc):=d2 _ X4.ou
    have a5:=aj (ah H)
    have hr:Hd (m.rules[k]?=some r):=by rw[Hd,←U.ou.mr.rm,bP,H];rfl
    clear H am d0 d1 d2
    go_upto_region 7 with fail
    obtain⟨w8,a0⟩:∃u,u=wr.alloc (.cells #[.slice tA r.targets.length tc,.slice nA r.aN.length nc,.slice cA r.bD.length cc] kP):=⟨_,rfl⟩
    obtain⟨b8,a6⟩:∃b,b=wr.heap.size:=⟨_,rfl⟩
    rw[←a0,←a6]
    have C8:Hd (Cs w8 b8 kP #[.slice tA r.targets.length tc,.slice nA r.aN.length nc,.slice cA r.bD.length cc]):=by rw[a0,a6];exact Cs.new _ _ _
    have X8:Hd (bf P w8):=by rw[a0];exact X4.ou.ae ((al.refl No _).alloc _)
    clear a0 a6 e0 e1 e2
    have bA:=aj (U.ou.mr.rr _ a5.ou)
    have a7:=aj (ai.ou.t r (ah hr.ou))
    have ce:=a7.ou.1
    have cf:=ai.ou.r
    obtain⟨bb,oo,t0,rfl,ht,ct⟩:=dq (show di cI w8 tA r.targets.length r.targets from di.ext bA.ou.1 X8.ou) (k:=0) (by omega)
    have a8:r.targets.headD []=t0:=by
     cases htt:r.targets with
     | nil=>rw[htt] at ht;cases ht
     | cons y ys=>rw[htt] at ht;exact bB ht
    have ch:t0.length≤100:=a7.ou.2.2.2.2.1 t0 (ah ht)
    have b5:w8.cell? ⟨bb,oo,none⟩=some (S t0):=ct (X.here w8 No)
    have d0:w8.cell? ⟨b8,0,none⟩=some (.slice (some ⟨bb,oo,none⟩) r.targets.length tc):=C8.ou.cell 0
    have a1:=aj (TW t0 f (by omega) (by omega) (HL.ou.ext (E.ou.ae X8.ou)))
    have bu:=FX t0 f
    have ao:Hd (iY m l f=if (mi t0 f).2=false then yD m l f (m.rules.drop (k+1)) else if (gW m r f (mi t0 f).1).aN.all (qJ m l)=true then some (gW m r f (mi t0 f).1) else yD m l f (m.rules.drop (k+1))):=by
     rw[Hd,←HP.ou,sY hr.ou,yD,a8]
    generalize mi t0 f=q at a1 ao bu
    obtain⟨st,is⟩:=q
    dsimp only at a1 ao bu
    have ci:=aj a8
    clear ht ct a8
    go_wp2_with fail
    refine a1.ou.mono ?_
    rintro e B ⟨rfl,H⟩
    have XQ:=aj (X8.ou.ae H)
    have CQ:=aj (C8.ou.aP H id)
    clear H a1 b5 d0 X8 C8
    cases is with
    | false=>
     go_wp2_with fail
     go_roundw
     case rel=>exact⟨k+1,by omega,by go_num,ao.ou.symm,XQ.ou⟩
     case measure=>simp[intOf];omega
    | true=>
     have bv:Hd (iY m l f=if (gW m r f st).aN.all (qJ m l)=true then some (gW m r f st) else yD m l f (m.rules.drop (k+1))):=ao.ou
     have MQ:=aj (U.ou.ext XQ.ou)
     have a2:=aj (fun u (hu:bf B u)=>bp.ou u (E.ou.ae (XQ.ou.ae hu)) _ a5.ou st (by omega))
     dsimp only at a2
     have yb:∀ξ:X B No,ξ.v.cell? ⟨b2,0,none⟩=some (.pointer (some ⟨g,0,none⟩)):=(HC.ou.1.aP (E.ou.ae XQ.ou) id).x id 0
     have y0:∀ξ:X B No,ξ.v.cell? ⟨g,0,none⟩=some (.slice vA m.vars.length vc):=fun ξ=>(MQ.ou.ext ξ.h).c0
     have y1:∀ξ:X B No,ξ.v.cell? ⟨g,1,none⟩=some (.slice (some ⟨b,o,none⟩) m.rules.length rc):=fun ξ=>(MQ.ou.ext ξ.h).c1
     have y2:∀ξ:X B No,ξ.v.cell? ⟨g,2,none⟩=some (.slice pA m.ba.length pc):=fun ξ=>(MQ.ou.ext ξ.h).c2
     have e0:∀ξ:X B No,ξ.v.cell? ⟨b8,0,none⟩=some (.slice (some ⟨bb,oo,none⟩) r.targets.length tc):=CQ.ou.x id 0
     have e1:∀ξ:X B No,ξ.v.cell? ⟨b8,1,none⟩=some (.slice nA r.aN.length nc):=CQ.ou.x id 1
     have e2:∀ξ:X B No,ξ.v.cell? ⟨b8,2,none⟩=some (.slice cA r.bD.length cc):=CQ.ou.x id 2
     clear ao
     go_upto_region 9 with fail
     go_cut [11] from 55 to 62 (fun p u=>∃(D:Nat) (a:fW) (G:dv),p=iW D∧G=gW m r f st∧Cs u D ia #[.slice a.tA G.targets.length a.tc,.slice a.nA G.aN.length a.nc,.slice a.cA G.bD.length a.cc,.bool G.ba]∧bR cI 9 B u a.tA a.tc G.targets∧bR cI 9 B u a.nA a.nc G.aN∧bR cI 9 B u a.cA a.cc G.bD∧bf B u∧B.heap.size≤D)
     case first=>
      refine uE 10 [7,8,9] (Cl B No) rfl (by kernel_rfl) (by kernel_rfl) (Cl.eU (X.here B No)) ?_
      obtain⟨μ0,a9⟩:∃u,u=B.drew:=⟨_,rfl⟩
      have Y:Hd (bf B μ0):=by rw[a9];exact(al.refl No B).drew
      rw[←a9]
      clear a9
      (refine bW (i:=0) (by kernel_rfl) rfl rfl rfl rfl ?_;intro K hK;go_big_quiet_op;go_big_quiet_on);(refine bW (i:=1) (by kernel_rfl) rfl rfl rfl rfl ?_;intro K hK;go_big_quiet_op;go_big_quiet_on);(refine bW (i:=2) (by kernel_rfl) rfl rfl rfl rfl ?_;intro K hK;go_big_quiet_op;go_big_quiet_on);(refine bW (i:=3) (by kernel_rfl) rfl rfl rfl rfl ?_;intro K hK;go_big_quiet_op;go_big_quiet_on);(refine bW (i:=4) (by kernel_rfl) rfl rfl rfl rfl ?_;intro K hK;go_big_quiet_op;go_big_quiet_on);(refine bW (i:=5) (by kernel_rfl) rfl rfl rfl rfl ?_;intro K hK;go_big_quiet_op;go_big_quiet_on);(refine bW (i:=6) (by kernel_rfl) rfl rfl rfl rfl ?_;intro K hK;go_big_quiet_op;go_big_quiet_on)
      refine pP (i:=7) (j:=8) (by kernel_rfl) (by kernel_rfl) rfl rfl rfl rfl rfl rfl ?_ ?_
      ·
       intro K hK
       go_simp
       refine(a2.ou _ Y.ou).mono ?_
       rintro e u1 ⟨a,rfl,Q,J,R,M⟩
       have s:=aj (And.intro Q (And.intro J R))
       obtain⟨G,W⟩:∃G,G=gW m r f st:=⟨_,rfl⟩
       rw[←W] at s ⊢
       have HG:=aj W
       have V:Hd (bf B μ0):=Y.ou
       have Y:=aj (Y.ou.ae M)
       refine⟨_,rfl,hK _ _ (Cl.of Y.ou) ?_⟩
       clear hK K M Q J R W
       refine bj ?_
       refine gB (i:=8) (by kernel_rfl) (by kernel_rfl) rfl rfl rfl ?_
       intro K hK
       go_simp
       obtain⟨va,N⟩:∃u,u=(u1).alloc (.cells #[.slice none 0 0,.slice none 0 0,.slice none 0 0,.bool false] ia):=⟨_,rfl⟩
       obtain⟨D,L⟩:∃g,g=(u1).heap.size:=⟨_,rfl⟩
       have C:Hd (Cs va D ia #[.slice none 0 0,.slice none 0 0,.slice none 0 0,.bool false]):=by rw[N,L];exact Cs.new _ _ _
       have B3:Hd (B.heap.size≤D):=by rw[Hd,L];exact Y.ou.size
       have T:bf u1 va:=by rw[N];exact(al.refl No _).alloc _
       have s:=aj (And.intro (s.ou.1.on T) (And.intro (s.ou.2.1.on T) (s.ou.2.2.on T)))
       have Y:=aj (Y.ou.ae T)
       rw[←N,←L]
       refine hK _ _ (Cl.of Y.ou) ?_
       clear hK K N L T
       refine bj ?_
       refine gB (i:=9) (by kernel_rfl) (by kernel_rfl) rfl rfl rfl ?_
       intro K hK
       have k0:=C.ou.cell 0
       have k1:=C.ou.cell 1
       have k2:=C.ou.cell 2
       have k3:=C.ou.cell 3
       simp only[aB,aQ,aX] at k0 k1 k2 k3
       have z0:=C.ou.frozen 0
       have z1:=C.ou.frozen 1
       have z2:=C.ou.frozen 2
       have z3:=C.ou.frozen 3
       go_simp
       obtain⟨Z,O⟩:∃u,u=((((va).setCell ⟨D,0,none⟩ (.slice a.tA G.targets.length a.tc)).setCell ⟨D,1,none⟩ (.slice a.nA G.aN.length a.nc)).setCell ⟨D,2,none⟩ (.slice a.cA G.bD.length a.cc)).setCell ⟨D,3,none⟩ (.bool G.ba):=⟨_,rfl⟩
       have O9:al (fun q=>q=D) (va) Z:=by rw[O];exact((((al.refl _ _).at_ 0 _).at_ 1 _).at_ 2 _).at_ 3 _
       have C9:Cs Z D ia #[.slice a.tA G.targets.length a.tc,.slice a.nA G.aN.length a.nc,.slice a.cA G.bD.length a.cc,.bool G.ba]:=by rw[O];exact(((C.ou.cM 0 _).cM 1 _).cM 2 _).cM 3 _
       have y9:bf B Z:=Y.ou.trans O9 fun q hq e=>by have e:q=D:=e;have:=B3.ou;omega
       have F1:bR cI 9 B Z a.tA a.tc G.targets:=(s.ou.1.from V.ou).aP O9 y9 (aO s.ou.1.own C.ou (by decide))
       have F2:bR cI 9 B Z a.nA a.nc G.aN:=(s.ou.2.1.from V.ou).aP O9 y9 (aO s.ou.2.1.own C.ou (by decide))
       have F3:bR cI 9 B Z a.cA a.cc G.bD:=(s.ou.2.2.from V.ou).aP O9 y9 (aO s.ou.2.2.own C.ou (by decide))
       rw[←O]
       refine hK _ _ (Cl.of y9) ?_
       have bc:=B3.ou
       clear hK K O k0 k1 k2 k3 z0 z1 z2 z3
       refine bj ?_
       refine lE ?_
       go_wp2_with fail
       go_meet
       exact⟨D,a,G,rfl,HG.ou,C9,F1,F2,F3,y9,bc⟩
      ·
       intro K hK
       go_simp
       obtain⟨va,N⟩:∃u,u=(μ0).alloc (.cells #[.slice none 0 0,.slice none 0 0,.slice none 0 0,.bool false] ia):=⟨_,rfl⟩
       obtain⟨D,L⟩:∃g,g=(μ0).heap.size:=⟨_,rfl⟩
       have C:Hd (Cs va D ia #[.slice none 0 0,.slice none 0 0,.slice none 0 0,.bool false]):=by rw[N,L];exact Cs.new _ _ _
       have B3:Hd (B.heap.size≤D):=by rw[Hd,L];exact Y.ou.size
       have T:bf μ0 va:=by rw[N];exact(al.refl No _).alloc _
       have Y:=aj (Y.ou.ae T)
       rw[←N,←L]
       refine hK _ _ (Cl.of Y.ou) ?_
       clear hK K N L T
       refine bj ?_
       refine gB (i:=7) (by kernel_rfl) (by kernel_rfl) rfl rfl rfl ?_
       intro K hK
       go_simp
       refine(a2.ou _ Y.ou).mono ?_
       rintro e u1 ⟨a,rfl,Q,J,R,M⟩
       have s:=aj (And.intro Q (And.intro J R))
       have C:=aj (C.ou.aP M id)
       obtain⟨G,W⟩:∃G,G=gW m r f st:=⟨_,rfl⟩
       rw[←W] at s ⊢
       have HG:=aj W
       have V:Hd (bf B va):=Y.ou
       have Y:=aj (Y.ou.ae M)
       refine⟨_,rfl,hK _ _ (Cl.of Y.ou) ?_⟩
       clear hK K M Q J R W
       refine bj ?_
       refine gB (i:=9) (by kernel_rfl) (by kernel_rfl) rfl rfl rfl ?_
       intro K hK
       have k0:=C.ou.cell 0
       have k1:=C.ou.cell 1
       have k2:=C.ou.cell 2
       have k3:=C.ou.cell 3
       simp only[aB,aQ,aX] at k0 k1 k2 k3
       have z0:=C.ou.frozen 0
       have z1:=C.ou.frozen 1
       have z2:=C.ou.frozen 2
       have z3:=C.ou.frozen 3
       go_simp
       obtain⟨Z,O⟩:∃u,u=((((u1).setCell ⟨D,0,none⟩ (.slice a.tA G.targets.length a.tc)).setCell ⟨D,1,none⟩ (.slice a.nA G.aN.length a.nc)).setCell ⟨D,2,none⟩ (.slice a.cA G.bD.length a.cc)).setCell ⟨D,3,none⟩ (.bool G.ba):=⟨_,rfl⟩
       have O9:al (fun q=>q=D) (u1) Z:=by rw[O];exact((((al.refl _ _).at_ 0 _).at_ 1 _).at_ 2 _).at_ 3 _
       have C9:Cs Z D ia #[.slice a.tA G.targets.length a.tc,.slice a.nA G.aN.length a.nc,.slice a.cA G.bD.length a.cc,.bool G.ba]:=by rw[O];exact(((C.ou.cM 0 _).cM 1 _).cM 2 _).cM 3 _
       have y9:bf B Z:=Y.ou.trans O9 fun q hq e=>by have e:q=D:=e;have:=B3.ou;omega
       have F1:bR cI 9 B Z a.tA a.tc G.targets:=(s.ou.1.from V.ou).aP O9 y9 (aO s.ou.1.own C.ou (by decide))
       have F2:bR cI 9 B Z a.nA a.nc G.aN:=(s.ou.2.1.from V.ou).aP O9 y9 (aO s.ou.2.1.own C.ou (by decide))
       have F3:bR cI 9 B Z a.cA a.cc G.bD:=(s.ou.2.2.from V.ou).aP O9 y9 (aO s.ou.2.2.own C.ou (by decide))
       rw[←O]
       refine hK _ _ (Cl.of y9) ?_
       have bc:=B3.ou
       clear hK K O k0 k1 k2 k3 z0 z1 z2 z3
       refine bj ?_
       refine lE ?_
       go_wp2_with fail
       go_meet
       exact⟨D,a,G,rfl,HG.ou,C9,F1,F2,F3,y9,bc⟩
     case rest=>
      obtain⟨D,a,G,rfl,W,bw,Q,J,R,a3,L⟩:=hcut
      have cm:G.aN.length≤3:=by rw[W];show(oE r st).length≤3;unfold oE;rw[bH];exact a7.ou.2.2.1
      obtain⟨z,hz⟩:∃z,G.aN.any (fun n=>!qJ m l n)=z:=⟨_,rfl⟩
      have HZ:Hd (G.aN.all (qJ m l)=!z):=by rw[Hd,List.all_eq_not_any_not,hz]
      have bd:=aj (Tw (c:=a.nc) (J.row (by decide)) (by omega) (fun n=>!qJ m l n) #[.pointer (some ⟨b2,0,none⟩)] fun x u hu=>SW ((MQ.ou.ext a3).ext hu) ai.ou ((HC.ou.1.aP (E.ou.ae (XQ.ou.ae (a3.ae hu))) id).cell 0) x)
      rw[hz] at bd
      have s:=aj (And.intro Q (And.intro J R))
      have C9:=aj bw
      have X9:=aj a3
      have bg:Hd (iY m l f=if z=false then some G else yD m l f (m.rules.drop (k+1))):=by
       rw[Hd,bv.ou,←W,HZ.ou]
       cases z<;>rfl
      have dk:wc.cell? ⟨D,1,none⟩=some (.slice a.nA G.aN.length a.nc):=C9.ou.cell 1
      have cn:∀(fn:Fn) (first cap:Array Value) (w:World),(Instr.makeFunc fn first cap).run Tryz.prog w=.ok (.func fn first cap) w:=fun _ _ _ _=>rfl
      clear W bw Q J R a3 hz HZ bv yb y0 y1 y2 e0 e1 e2 a2
      go_wp2_with fail
      refine bd.ou.mono ?_
      rintro e u7 ⟨rfl,ac⟩
      have X7:=aj (X9.ou.ae ac)
      have C7:=aj (C9.ou.aP ac id)
      have b6:=aj (And.intro (s.ou.1.on ac) (And.intro (s.ou.2.1.on ac) (s.ou.2.2.on ac)))
      clear ac bd dk C9 s X9
      cases z with
      | true=>
       go_wp2_with fail
       go_roundw
       case rel=>exact⟨k+1,by omega,by go_num,bg.ou.symm,XQ.ou.ae X7.ou⟩
       case measure=>simp[intOf];omega
      | false=>
       have I:=aj (HC.ou.2.aP (E.ou.ae (XQ.ou.ae X7.ou)) id)
       have k0:u7.cell? ⟨A,0,none⟩=some (.slice none 0 0):=I.ou.cell 0
       have k1:u7.cell? ⟨A,1,none⟩=some (.slice none 0 0):=I.ou.cell 1
       have k2:u7.cell? ⟨A,2,none⟩=some (.slice none 0 0):=I.ou.cell 2
       have k3:u7.cell? ⟨A,3,none⟩=some (.bool false):=I.ou.cell 3
       have q0:u7.cell? ⟨D,0,none⟩=some (.slice a.tA G.targets.length a.tc):=C7.ou.cell 0
       have q1:u7.cell? ⟨D,1,none⟩=some (.slice a.nA G.aN.length a.nc):=C7.ou.cell 1
       have q2:u7.cell? ⟨D,2,none⟩=some (.slice a.cA G.bD.length a.cc):=C7.ou.cell 2
       have q3:u7.cell? ⟨D,3,none⟩=some (.bool G.ba):=C7.ou.cell 3
       have z0:=I.ou.frozen 0
       have z1:=I.ou.frozen 1
       have z2:=I.ou.frozen 2
       have z3:=I.ou.frozen 3
       have HO:Hd (∀a b c d,al (fun b=>b=A) u7 ((((u7.setCell ⟨A,0,none⟩ a).setCell ⟨A,1,none⟩ b).setCell ⟨A,2,none⟩ c).setCell ⟨A,3,none⟩ d)):=fun a b c d=>((((al.refl _ _).at_ 0 a).at_ 1 b).at_ 2 c).at_ 3 d
       have HS:Hd (∀a b c d,Cs ((((u7.setCell ⟨A,0,none⟩ a).setCell ⟨A,1,none⟩ b).setCell ⟨A,2,none⟩ c).setCell ⟨A,3,none⟩ d) A ia #[a,b,c,d]):=fun a b c d=>(((I.ou.cM 0 a).cM 1 b).cM 2 c).cM 3 d
       have b7:Hd (iY m l f=some G):=bg.ou
       clear bg
       go_wp2_with fail
       have hO:=HO.ou (.slice a.tA G.targets.length a.tc) (.slice a.nA G.aN.length a.nc) (.slice a.cA G.bD.length a.cc) (.bool G.ba)
       have hl:=vx (HS.ou (.slice a.tA G.targets.length a.tc) (.slice a.nA G.aN.length a.nc) (.slice a.cA G.bD.length a.cc) (.bool G.ba))
       have xw:bf w B:=X2.ou.ae (E.ou.ae XQ.ou)
       have x6:=(xw.ae X7.ou).trans hO fun q hq e=>by have e:q=A:=e;have:=HB.ou;omega
       refine eP (p:=4) (u:=5) (ty:=ia) (ad:=⟨A,0,none⟩) rfl rfl rfl hl ?_
       rw[b7.ou]
       obtain⟨Q,J,R⟩:=b6.ou
       exact⟨a,rfl,(Q.from xw).aP hO x6 (aO Q.own I.ou (by decide)),(J.from xw).aP hO x6 (aO J.own I.ou (by decide)),(R.from xw).aP hO x6 (aO R.own I.ou (by decide)),x6⟩
   ·obtain rfl:k=m.rules.length:=by omega
    have HR:Hd (iY m l f=none):=by rw[Hd,←HP.ou,cr (aq _)];rfl
    have I:=aj (HC.ou.2.aP (E.ou.ae X4.ou) id)
    have k0:wr.cell? ⟨A,0,none⟩=some (.slice none 0 0):=I.ou.cell 0
    have k1:wr.cell? ⟨A,1,none⟩=some (.slice none 0 0):=I.ou.cell 1
    have k2:wr.cell? ⟨A,2,none⟩=some (.slice none 0 0):=I.ou.cell 2
    have k3:wr.cell? ⟨A,3,none⟩=some (.bool false):=I.ou.cell 3
    have z0:=I.ou.frozen 0
    have z1:=I.ou.frozen 1
    have z2:=I.ou.frozen 2
    have z3:=I.ou.frozen 3
    have HO:Hd (∀a b c d,al (fun b=>b=A) wr ((((wr.setCell ⟨A,0,none⟩ a).setCell ⟨A,1,none⟩ b).setCell ⟨A,2,none⟩ c).setCell ⟨A,3,none⟩ d)):=fun a b c d=>((((al.refl _ _).at_ 0 a).at_ 1 b).at_ 2 c).at_ 3 d
    have HS:Hd (∀a b c d,Cs ((((wr.setCell ⟨A,0,none⟩ a).setCell ⟨A,1,none⟩ b).setCell ⟨A,2,none⟩ c).setCell ⟨A,3,none⟩ d) A ia #[a,b,c,d]):=fun a b c d=>(((I.ou.cM 0 a).cM 1 b).cM 2 c).cM 3 d
    have co:∀w:World,(Instr.build ia #[]).run Tryz.prog w=.ok (.agg #[.slice none 0 0,.slice none 0 0,.slice none 0 0,.bool false]) w:=fun w=>run_build w ia _ _ (by kernel_rfl)
    go_wp2_with fail
    refine eP (p:=4) (u:=5) (ty:=ia) (ad:=⟨A,0,none⟩) rfl rfl rfl (vx (HS.ou _ _ _ _)) ?_
    rw[HR.ou]
    exact⟨rfl,(X2.ou.ae (E.ou.ae X4.ou)).trans (HO.ou _ _ _ _) fun q hq e=>by have e:q=A:=e;have:=HB.ou;omega⟩
 ·have hk:k<m.rules.length:=(aw.1 hr).1
  obtain⟨b,o,x,rfl,H,am,d0,d1,d2⟩:=tt bn.ou.mr.fr hk
  have ak:x.2=r:=by
   have h1:=hr
   rw[←bn.ou.mr.rm,bP,H] at h1
   exact bB h1
  have HR:Hd (iY m l f=some (gW m x.2 f [])):=by rw[Hd,iY,hs,ak]
  have ca:=aj (fun u hu=>bp.ou u hu x (ah H) [] (au _))
  rw[hi] at HE
  clear hi hr hs H ak
  go_wp2_with fail
  refine HE.ou.mono ?_
  rintro e P ⟨rfl,H⟩
  have E:=aj H
  clear H HE
  obtain⟨F,hF⟩:∃F:Nat→Prop,F=fun q=>q=A:=⟨_,rfl⟩
  have fb:¬F b:=by rw[hF];intro e;have e:b=A:=e;have:=HB.ou;omega
  have fg:¬F g:=by rw[hF];intro e;have e:g=A:=e;have:=HB.ou;omega
  have J:¬F b2:=by rw[hF];exact HB.ou.2.2.2
  have y0:∀ξ:X P F,ξ.v.cell? ⟨g,0,none⟩=some (.slice vA m.vars.length vc):=fun ξ=>by
   have U:=HM.ou.ext E.ou
   exact(ξ.h.cell (p:=⟨g,0,none⟩) (World.block_lt_of_cell? _ _ U.c0) fg).trans U.c0
  have y1:∀ξ:X P F,ξ.v.cell? ⟨g,1,none⟩=some (.slice (some ⟨b,o,none⟩) m.rules.length rc):=fun ξ=>by
   have U:=HM.ou.ext E.ou
   exact(ξ.h.cell (p:=⟨g,1,none⟩) (World.block_lt_of_cell? _ _ U.c1) fg).trans U.c1
  have y2:∀ξ:X P F,ξ.v.cell? ⟨g,2,none⟩=some (.slice pA m.ba.length pc):=fun ξ=>by
   have U:=HM.ou.ext E.ou
   exact(ξ.h.cell (p:=⟨g,2,none⟩) (World.block_lt_of_cell? _ _ U.c2) fg).trans U.c2
  have yb:∀ξ:X P F,ξ.v.cell? ⟨b2,0,none⟩=some (.pointer (some ⟨g,0,none⟩)):=(HC.ou.1.aP E.ou id).x J 0
  have e0:∀ξ:X P F,ξ.v.cell? ⟨b,o+k*3,none⟩=some (.slice x.1.tA x.2.targets.length x.1.tc):=fun ξ=>(ξ.h.cell (p:=⟨b,o+k*3,none⟩) (bZ am (X2.ou.ae E.ou).size) fb).trans (d0 _ (X2.ou.ae E.ou))
  have e1:∀ξ:X P F,ξ.v.cell? ⟨b,o+k*3+1,none⟩=some (.slice x.1.nA x.2.aN.length x.1.nc):=fun ξ=>(ξ.h.cell (p:=⟨b,o+k*3+1,none⟩) (bZ am (X2.ou.ae E.ou).size) fb).trans (d1 _ (X2.ou.ae E.ou))
  have e2:∀ξ:X P F,ξ.v.cell? ⟨b,o+k*3+2,none⟩=some (.slice x.1.cA x.2.bD.length x.1.cc):=fun ξ=>(ξ.h.cell (p:=⟨b,o+k*3+2,none⟩) (bZ am (X2.ou.ae E.ou).size) fb).trans (d2 _ (X2.ou.ae E.ou))
  have HF:=aj hF
  clear d0 d1 d2 c0 c1 c2 k2 hF fb fg J
  obtain⟨μ,hμ⟩:∃u,u=P.drew:=⟨_,rfl⟩
  have xμ:Hd (bf P μ):=by rw[hμ];exact(al.refl No _).drew
  go_upto_region 3 with fail
  refine aV [13,14] 100 (Cl P F) (by kernel_rfl) (by kernel_rfl) (Cl.of (al.refl _ _).drew) ?_
  rw[←hμ]
  clear hμ
  refine dH ?_
  (refine bQ ?_;intro K hK)
  refine(ca.ou _ (E.ou.ae xμ.ou)).mono ?_
  rintro e u5 ⟨a,rfl,Q,J,R,M⟩
  have X5:=aj (xμ.ou.ae M)
  have s:=aj (And.intro Q (And.intro J R))
  obtain⟨G,W⟩:∃G,G=gW m x.2 f []:=⟨_,rfl⟩
  rw[←W] at HR s ⊢
  have C5:=aj ((HC.ou.2.aP E.ou id).aP X5.ou id)
  refine⟨_,rfl,hK _ _ (fun _=>Cl.of (X5.ou.gU fun b _ e=>e.elim)) ?_⟩
  clear hK K Q J R M W
  refine bj ?_
  have k0:u5.cell? ⟨A,0,none⟩=some (.slice none 0 0):=C5.ou.cell 0
  have k1:u5.cell? ⟨A,1,none⟩=some (.slice none 0 0):=C5.ou.cell 1
  have k2:u5.cell? ⟨A,2,none⟩=some (.slice none 0 0):=C5.ou.cell 2
  have k3:u5.cell? ⟨A,3,none⟩=some (.bool false):=C5.ou.cell 3
  have z0:=C5.ou.frozen 0
  have z1:=C5.ou.frozen 1
  have z2:=C5.ou.frozen 2
  have z3:=C5.ou.frozen 3
  (refine bQ ?_;intro K hK)
  obtain⟨v6,a4⟩:∃u,u=((((u5).setCell ⟨A,0,none⟩ (.slice a.tA G.targets.length a.tc)).setCell ⟨A,1,none⟩ (.slice a.nA G.aN.length a.nc)).setCell ⟨A,2,none⟩ (.slice a.cA G.bD.length a.cc)).setCell ⟨A,3,none⟩ (.bool G.ba):=⟨_,rfl⟩
  have O6:al (fun q=>q=A) u5 v6:=by rw[a4];exact((((al.refl _ _).at_ 0 _).at_ 1 _).at_ 2 _).at_ 3 _
  have C6:Cs v6 A ia #[.slice a.tA G.targets.length a.tc,.slice a.nA G.aN.length a.nc,.slice a.cA G.bD.length a.cc,.bool G.ba]:=by rw[a4];exact(((C5.ou.cM 0 _).cM 1 _).cM 2 _).cM 3 _
  have xw:bf w u5:=X2.ou.ae (E.ou.ae X5.ou)
  have x6:bf w v6:=xw.trans O6 fun q hq e=>by have e:q=A:=e;have:=HB.ou;omega
  have E6:Hd (NU w (some G) (.returned (.tuple #[AP (a,G),.bool true])) v6):=by
   obtain⟨Q,J,R⟩:=s.ou
   have bi:bf w μ:=X2.ou.ae (E.ou.ae xμ.ou)
   exact⟨a,rfl,(Q.from bi).aP O6 x6 (aO Q.own C5.ou (by decide)),(J.from bi).aP O6 x6 (aO J.own C5.ou (by decide)),(R.from bi).aP O6 x6 (aO R.own C5.ou (by decide)),x6⟩
  have Y6:Hd (al F P v6):=by
   rw[Hd,HF.ou]
   exact(X5.ou.gU fun b _ e=>e.elim).trans O6 fun _ _ e=>e
  rw[←a4]
  refine hK _ _ (fun _=>Cl.of Y6.ou) ?_
  have cb:=aj C6
  clear hK K a4 k0 k1 k2 k3 z0 z1 z2 z3 O6 C6 xw x6
  refine bj ?_
  refine dH ?_
  refine ar ?_
  go_wp2_with fail
  refine eP (p:=4) (u:=5) (ty:=ia) (ad:=⟨A,0,none⟩) rfl rfl rfl (vx cb.ou) ?_
  rw[HR.ou]
  exact E6.ou
theorem uq{rec:List dv→aK→List dv×Int}(h:∀o n,0≤(rec o n).2):∀(ns:List aK) (o:List dv),0≤(iE rec o ns).2
 | [],_=>fO _
 | n::ns,o=>by
  unfold iE
  split
  ·exact h o n
  ·exact uq h ns _
theorem tW(m:Mk)(l:List bm):∀(f:Nat) (way:List aK) (out:List dv) (n:aK),0≤(dZ m l f way out n).2
 | 0,_,_,_=>by simp[dZ]
 | f+1,way,out,n=>by
  have:=fun w=>uq (rec:=dZ m l f w) fun o n=>tW m l f w o n
  unfold dZ
  split
  ·simp
  ·split
   ·simp
   ·split
    ·split<;>simp
    ·rename_i g _
     split
     ·exact this _ _ _
     ·split<;>simp
theorem zt{P:dv→Prop}{rec:List dv→aK→List dv×Int}(h:∀o n,(∀g∈o,P g)→∀g∈(rec o n).1,P g):∀(ns:List aK) (o:List dv),(∀g∈o,P g)→∀g∈(iE rec o ns).1,P g
 | [],_,ho=>ho
 | n::ns,o,ho=>by
  unfold iE
  split
  ·exact h o n ho
  ·exact zt h ns _ (h o n ho)
theorem zz{m:Mk}{l:List bm}{P:dv→Prop}(b:∀n g,iY m l n=some g→P g):∀(f:Nat) (way:List aK) (out:List dv) (n:aK),(∀g∈out,P g)→∀g∈(dZ m l f way out n).1,P g
 | 0,_,_,_,ho=>ho
 | f+1,way,out,n,ho=>by
  have:=fun w=>zt (rec:=dZ m l f w) fun o n h=>zz b f w o n h
  unfold dZ
  split
  ·exact ho
  ·split
   ·exact ho
   ·split
    ·split<;>exact ho
    ·rename_i g hg
     split
     ·exact this _ _ _ ho
     ·split
      ·exact this _ _ _ ho
      ·intro x a
       rcases az.1 a with a|a
       ·exact this _ _ _ ho x a
       ·obtain rfl:=aC.1 a
        exact b n x hg
def Ud(g:dv):Prop:=g.targets.length≤2∧g.aN.length≤3∧g.bD.length≤3
theorem Gf  (a:Ps m l)(n:aK)(G:dv)(h:iY m l n=some G):Ud G:=by
 obtain⟨_,b,c⟩:=Ej a h
 refine⟨b,c,?_⟩
 rcases jK h with⟨r,hr,rfl⟩|⟨_,r,hr,_,rfl,_⟩
 ·show(r.bD.map _).length≤3
  rw[bH]
  exact(a.t r (jn hr).1).2.2.2.1
 ·show(r.bD.map _).length≤3
  rw[bH]
  exact(a.t r hr).2.2.2.1
abbrev sE:TypeId:=3
abbrev Kt:TypeId:=45
def TX:kJ Bool:=⟨1,fun b=>[.bool b],fun _=>rfl⟩
def G9:kJ Nat:=⟨1,fun i=>[.int .i64 (i:Int)],fun _=>rfl⟩
def Um:kJ ((Option Addr×Nat)×List Nat):=⟨1,fun x=>[.slice x.1.1 x.2.length x.1.2],fun _=>rfl⟩
theorem yL   {xs:List Bool}(h:di TX w A n xs) (a:k<n) :
  ∃b o s,A=some ⟨b,o,none⟩∧xs[k]?=some s∧(∀ξ:X w No,ξ.v.cell? ⟨b,o+k,none⟩=some (.bool s)):=by
 obtain⟨b,o,x,e,c,d,f⟩:=h.get a
 exact⟨b,o,x,e,d,fun ξ=>(ξ.h.cell c id).trans (by simpa [TX] using f 0 _ rfl)⟩
theorem v7   {xs:List Nat}(h:di G9 w A n xs) (a:k<n) :
  ∃b o s,A=some ⟨b,o,none⟩∧xs[k]?=some s∧(∀ξ:X w No,ξ.v.cell? ⟨b,o+k,none⟩=some (.int .i64 (s:Int))):=by
 obtain⟨b,o,x,e,c,d,f⟩:=h.get a
 exact⟨b,o,x,e,d,fun ξ=>(ξ.h.cell c id).trans (by simpa [G9] using f 0 _ rfl)⟩
theorem yK   {xs:List ((Option Addr×Nat)×List Nat)}(h:di Um w A n xs) (a:k<n) :
  ∃b o x,A=some ⟨b,o,none⟩∧xs[k]?=some x∧(∀ξ:X w No,ξ.v.cell? ⟨b,o+k,none⟩=some (.slice x.1.1 x.2.length x.1.2)):=by
 obtain⟨b,o,x,e,c,d,f⟩:=h.get a
 exact⟨b,o,x,e,d,fun ξ=>(ξ.h.cell c id).trans (by simpa [Um] using f 0 _ rfl)⟩
abbrev Ex(up:List Nat):Array Value:=(up.map fun k:Nat=>Value.int .i64 (k:Int)).toArray
theorem DY  (h:i<up.length):(Ex up)[i]?=some (.int .i64 (up.getD i 0:Nat)):=by
 simp[Ex,aL,aF h]
theorem QQ(a:List Nat)(i k:Nat):(Ex a).setIfInBounds i (.int .i64 (k:Int))=Ex (a.set i k):=by
 simp[Ex,List.map_set]
theorem Cs.ups   (h:Cs w g sE (Ex up))(i k:Nat):Cs (w.setCell ⟨g,i,none⟩ (.int .i64 (k:Int))) g sE (Ex (up.set i k)):=by
 have:=h.cM i (.int .i64 (k:Int))
 rwa [QQ] at this
theorem EC:(Tryz.prog.info? sE).map (fun i=>(i.zero,i.size,i.bytes))=some (some (.int .i64 0),1,8):=by kernel_rfl
theorem TV:tf Tryz.prog 45 sE 1:=tf.mk' Tryz.underlying45 EC rfl (by omega) (by omega)
theorem QB:(Tryz.prog.info? Kt).map (fun i=>(i.zero,i.size,i.bytes))=some (some (.slice none 0 0),1,24):=by kernel_rfl
theorem UV:tf Tryz.prog 29 Kt 1:=tf.mk' Tryz.underlying29 QB rfl (by omega) (by omega)
theorem LX(n:Nat)(h:n≤1000000)(w:World):(Instr.makeSlice 45 (.int .i64 (n:Int)) (.int .i64 (n:Int))).run Tryz.prog w =
  .ok (.slice (some ⟨w.heap.size,0,none⟩) n n) (w.alloc (.cells (Ex (List.replicate n 0)) sE)):=by
 obtain⟨a,e,f,b,c⟩:=info_parts EC
 have g:(a.bytes:Int)*(n:Int)≤281474976710656:=by rw[c];omega
 have d:=run_make (P:=Tryz.prog) w 45 sE a (.int .i64 0) Tryz.underlying45 e f .i64 .i64 n n (by omega) (by omega) g (by omega)
 simp only[dh] at d
 rw[d,b]
 have:madeCells (Value.int .i64 0).cells (n*1)=Ex (List.replicate n 0):=by
  apply Array.ext
  ·simp[madeCells,Ex]
  ·intro i b c
   simp[madeCells,Value.cells,Nat.mod_one,Ex]
 rw[this]
theorem Gg (x y:Nat)(ts:Array TypeId)(t:TypeId)(w:World):(Builtin.max_ ts t #[.int .i64 (x:Int),.int .i64 (y:Int)]).run P w=.ok (.int .i64 ((max x y:Nat):Int)) w:=by
 by_cases h:(x:Int)<(y:Int)
 ·have e:max x y=y:=by omega
  (simp[Builtin.max_,Builtin.max2,asBool,h,e])<;>(intros;omega)
 ·have e:max x y=x:=by omega
  (simp[Builtin.max_,Builtin.max2,asBool,h,e])<;>(intros;omega)
theorem Fg (x y:Nat)(ts:Array TypeId)(t:TypeId)(w:World):(Builtin.min_ ts t #[.int .i64 (x:Int),.int .i64 (y:Int)]).run P w=.ok (.int .i64 ((min x y:Nat):Int)) w:=by
 by_cases h:(x:Int)<(y:Int)
 ·have e:min x y=x:=by omega
  (simp[Builtin.min_,Builtin.min2,asBool,h,e])<;>(intros;omega)
 ·have e:min x y=y:=by omega
  (simp[Builtin.min_,Builtin.min2,asBool,h,e])<;>(intros;omega)
theorem IF    (o:Cs w g sE (Ex up))(p:up.length=n)(A:n≤1000)(q:IB up)(j:Nat)(v:j<n)(c:Nat) :
  Calls Tryz.prog 72 #[.slice (some ⟨g,0,none⟩) n c,.int .i64 (j:Int)] w fun e w'=>e=.returned (.int .i64 (cY up j:Nat))∧bf w w':=by
 have x:=aj o
 have r:=aj q
 have b:=aj p
 clear o q p
 go_enter Tryz.func72,Tryz.ntmps72
 go_wp2_with fail
 go_loopw [1] (fun i wr=>∃k:Nat,k<n∧i=.int .i64 k∧cY up k=cY up j∧bf w wr) (fun i _=>(intOf i).toNat)
 case atStart=>exact⟨j,v,rfl,rfl,al.refl _ _⟩
 case round=>
  obtain⟨k,d,rfl,s,f⟩:=hrel
  have h:=aj s
  have t:=aj f
  obtain⟨y,a⟩:∃y,y=up.getD k 0:=⟨_,rfl⟩
  have B:wr.cell? ⟨g,k,none⟩=some (.int .i64 (y:Int)):=by rw[(x.ou.aP f id).cell k,a];exact DY (by rw[b.ou];exact d)
  have z:y≤k:=by rw[a];exact r.ou k (by rw[b.ou];exact d)
  have l:Hd (cY up k=if y=k then k else cY up y):=by rw[Hd,a];exact lB r.ou (by rw[b.ou];exact d)
  clear s f a
  by_cases u:y=k
  ·subst u
   have m:Hd (cY up j=y):=by rw[Hd,←h.ou,l.ou,ab rfl]
   clear l h
   go_wp2_with fail
   go_ret
   rw[m.ou]
   exact⟨rfl,t.ou⟩
  ·have C:decide ((y:Int)=(k:Int))=false:=by rw[aA];omega
   have D:((y:Int)==(k:Int))=false:=by rw[bl];omega
   have m:Hd (cY up y=cY up j):=by rw[Hd,←h.ou,l.ou,aa u]
   go_wp2_with fail
   go_roundw
   case rel=>exact⟨y,by omega,rfl,m.ou,t.ou⟩
   case measure=>simp[intOf];omega
end Go.Proofs.YtpgmcijdcnnjpaaGreatDoor
