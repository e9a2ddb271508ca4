/- Lemmas for it. -/
import Derived.Test.YtpgmcijdcnnjpaaGreatDoorPk16
set_option linter.all false
set_option maxRecDepth 100000
set_option maxHeartbeats 8000000
namespace Go.Proofs.YtpgmcijdcnnjpaaGreatDoor
open Go Go.RowKit
variable {F F':Nat→Prop} {u u' w:World} {A:Option Addr} {xs:List Nat} {c g i k n:Nat} {st:List Bool} {gs:List dv} {ns:List aK} {t:aK} {os:List (fW×dv)} {x:Bool}
def Be(w:World)(A:Option Addr)(xs:List ((Option Addr×Nat)×List Nat))(us:List (List Nat)):Prop:=di Um w A us.length xs∧(∀x∈xs,di G9 w x.1.1 x.2.length x.2)∧xs.map (·.2)=us
def SK(w:World)(gs:List dv)(st:List Bool)(e:Ending)(w':World):Prop:=
 ∃(B:Option Addr) (d:Nat) (xs:List ((Option Addr×Nat)×List Nat)) (r:Nat→Nat),kQ (jc gs st) gs.length r∧e=.returned (.slice B (dD gs st r).length d)∧(∀(F:Nat→Prop) (u:World),(∀b,F b→b<w.heap.size)→al F w' u→Be u B xs (dD gs st r))∧bf w w'
def Km(F:Nat→Prop)(u:World)(A:Option Addr)(xs:List Nat):Prop:=∀v,al F u v→di G9 v A xs.length xs
theorem Km.step    (h:Km F u A xs)(a:al F u u')(c:∀b,F' b→F b∨u.heap.size≤b):Km F' u' A xs:=fun v hv=>h v (a.trans hv fun b hb e=>by
 rcases c b e with h1|h1
 ·exact h1
 ·omega)
theorem Km.kY     (h:Km (fun q=>q<n∨F q) u A xs)(a:al F u u')(c:∀b,F' b→F b∨u.heap.size≤b):Km (fun q=>q<n∨F' q) u' A xs:=
 h.step (a.gU fun _ _ e=>.inr e) fun b e=>e.elim (fun e=>.inl (.inl e)) fun e=>(c b e).imp .inr id
theorem Km.fresh     (h:bR G9 sE u u' A c xs)(a:∀b,F b→b<u.heap.size):Km F u' A xs:=fun v hv=>di.jk (T:=G9) (by decide) (cl h.own hv fun g hg e=>by
 have:=h.new g hg
 have:=a g e
 omega)
theorem Et  {s:Bool}(h:st[i]?=some s):pk st i=s:=by
 simp[pk,aL,h]
theorem Ht   {n:aK}(h:gQ (gs.take i) n=none):nf gs st i n=none:=by unfold nf;rw[h]
theorem IM   {n:aK}(h:gQ (gs.take i) n=some k):nf gs st i n=if (pk st i&&pk st k)=true then some (i,k) else none:=by unfold nf;rw[h]
theorem Lh   {n:aK}(h:pk st i=false):nf gs st i n=none:=by
 unfold nf
 split
 ·rw[h];rfl
 ·rfl
theorem Qr     (a:ns[k]?=some t):(ns.take (k+1)).filterMap (nf gs st i)=(ns.take k).filterMap (nf gs st i)++(nf gs st i t).toList:=by
 rw[aU,a,jf]
 congr 1
theorem L0(p:Nat→Bool)(k:Nat):(List.range (k+1)).filter p=(List.range k).filter p++if p k=true then [k] else []:=by
 rw[jT,ib]
 cases h:p k<;>simp[h]
theorem xt {a:List Nat}  : pQ gs (a++[k])=(pQ gs a||Hj gs k):=by simp[pQ]
theorem QA  {G:dv}(h:gs[k]?=some G):Hj gs k=!G.ba:=by unfold Hj;rw[h]
theorem Qt     (hG:jW w A os gs)(cz:gs.length≤10)(cy:gs.length≤c)(hb:∀g∈gs,Ud g){sA:Option Addr}{sc:Nat} (hS:di TX w sA gs.length st) :
  Calls Tryz.prog 42 #[.slice A gs.length c,.slice sA gs.length sc] w (SK w gs st):=by
 have bx:st.length=gs.length:=hS.1
 have HG:=aj hG
 have HS:=aj hS
 have HB:=aj hb
 have c4:=aj bx
 have cm:=LX gs.length (by omega)
 obtain⟨w1,ap⟩:∃u,u=w.alloc (.cells (Ex (List.replicate gs.length 0)) sE):=⟨_,rfl⟩
 obtain⟨N,av⟩:∃g,g=w.heap.size:=⟨_,rfl⟩
 have X1:Hd (bf w w1):=by rw[ap];exact(al.refl No w).alloc _
 have C1:Hd (Cs w1 N sE (Ex (List.replicate gs.length 0))):=by rw[ap,av];exact Cs.new _ _ _
 have bz:Hd (w.heap.size≤N):=ij av.symm
 clear hG hb hS bx
 go_enter Tryz.func42,Tryz.ntmps42
 go_upto_region 2 with fail
 rw[←ap,←av]
 clear ap av cm
 go_wp2_with fail
 go_loopw [23] (fun i wr=>∃k:Nat,k≤gs.length∧i=.int .i64 k∧∃l:List Nat,Cs wr N sE (Ex l)∧Ez gs.length k (mS gs st k) l∧bf w wr) (fun i _=>gs.length-(intOf i).toNat)
 case atStart=>exact⟨0,au _,rfl,_,C1.ou,Ez.start _,X1.ou⟩
 case round=>
  clear C1 X1
  obtain⟨i,hi,rfl,l,hC,hU,a⟩:=hrel
  have C0:=aj hC
  have U0:=aj hU
  have H:=aj a
  clear hC hU a
  by_cases D:i<gs.length
  ·obtain⟨bg,o,⟨⟨tA,tc,nA,nc,cA,cc⟩,G⟩,rfl,T,c0,c1,c2,c3⟩:=kz HG.ou.row D
   obtain⟨bs,so,s,rfl,Z,cs⟩:=yL HS.ou D
   have U:gs[i]?=some G:=by rw[←HG.ou.om,bP,T];rfl
   have c5:G.aN.length≤3:=(HB.ou G (ah U)).2.1
   have HN:Hd (di cI w nA G.aN.length G.aN):=(HG.ou.rr _ (ah T)).2.1
   have ac:=aj (Et Z)
   have cn:Hd (mS gs st (i+1)=mS gs st i++G.aN.filterMap (nf gs st i)):=by
    rw[Hd,DZ,yQ,Oo,U]
   have CS:Hd (∀u,bf w u→u.cell? ⟨bs,so+i,none⟩=some (.bool s)):=fun u hu=>cs ⟨u,hu⟩
   have co:Hd (∀u,bf w u→∀t,Calls Tryz.prog 71 #[.slice (some ⟨bg,o,none⟩) i c,S t] u fun e w'=>e=.returned (.int .i64 (qo (gQ (gs.take i) t)))∧bf u w'):=fun u hu t=>by
    have hl:(gs.take i).length=i:=by rw[aH];omega
    have h1:jW u (some ⟨bg,o,none⟩) (os.take i) (gs.take i):=by
     refine⟨?_,fun x a=>(HG.ou.ext hu).rr x (gj a),?_⟩
     ·rw[hl];exact(HG.ou.row.ext hu).take (Nat.le_of_lt D)
     ·rw[List.map_take,HG.ou.om]
    have h2:=Jq (c:=c) h1 (by omega) (fun g hg=>by have:=(HB.ou g (gj hg)).1;omega) t
    rw[hl] at h2
    exact h2
   have q0:wr.cell? ⟨bg,o+i*4,none⟩=some (.slice tA G.targets.length tc):=c0 ⟨wr,H.ou⟩
   have q1:wr.cell? ⟨bg,o+i*4+1,none⟩=some (.slice nA G.aN.length nc):=c1 ⟨wr,H.ou⟩
   have q2:wr.cell? ⟨bg,o+i*4+2,none⟩=some (.slice cA G.bD.length cc):=c2 ⟨wr,H.ou⟩
   have q3:wr.cell? ⟨bg,o+i*4+3,none⟩=some (.bool G.ba):=c3 ⟨wr,H.ou⟩
   clear c0 c1 c2 c3 cs T Z U
   go_upto_region 5 with fail
   obtain⟨w2,aD⟩:∃u,u=wr.alloc (.cells #[.slice tA G.targets.length tc,.slice nA G.aN.length nc,.slice cA G.bD.length cc,.bool G.ba] ia):=⟨_,rfl⟩
   obtain⟨b7,a9⟩:∃g,g=wr.heap.size:=⟨_,rfl⟩
   rw[←aD,←a9]
   have x2:bf wr w2:=by rw[aD];exact(al.refl No _).alloc _
   have B7:Hd (Cs w2 b7 ia #[.slice tA G.targets.length tc,.slice nA G.aN.length nc,.slice cA G.bD.length cc,.bool G.ba]):=by rw[aD,a9];exact Cs.new _ _ _
   have C2:=aj (C0.ou.aP x2 id)
   have X2:=aj (H.ou.ae x2)
   have p:=U0.ou.len
   have y0:w2.cell? ⟨N,i,none⟩=some (.int .i64 (l.getD i 0:Nat)):=by rw[C2.ou.cell i];exact DY (by omega)
   have z0:=C2.ou.frozen i
   clear aD a9 x2 q0 q1 q2 q3 C0
   go_upto_region 6 with fail
   obtain⟨w3,a0⟩:∃u,u=w2.setCell ⟨N,i,none⟩ (.int .i64 (i:Int)):=⟨_,rfl⟩
   rw[←a0]
   have C3:Hd (Cs w3 N sE (Ex (l.set i i))):=by rw[a0];exact C2.ou.ups i i
   have O3:al (fun q=>q=N) w2 w3:=by rw[a0];exact(al.refl _ _).at_ i _
   have X3:Hd (bf w w3):=X2.ou.trans O3 fun q hq e=>by have e:q=N:=e;have:=bz.ou;omega
   have B3:=aj (B7.ou.aP O3 (fun e=>Cs.oC B7.ou C2.ou (by decide) e))
   have U3:=aj (U0.ou.new D)
   have k1:w3.cell? ⟨b7,1,none⟩=some (.slice nA G.aN.length nc):=B3.ou.cell 1
   clear a0 O3 y0 z0 C2 X2 B7 p U0
   go_wp2_with fail
   go_loopw [35] (fun j wr=>∃k:Nat,k≤G.aN.length∧j=.int .i64 k∧∃l:List Nat,Cs wr N sE (Ex l)∧Ez gs.length (i+1) (mS gs st i++(G.aN.take k).filterMap (nf gs st i)) l∧bf w wr) (fun j _=>G.aN.length-(intOf j).toNat)
   case atStart=>exact⟨0,au _,rfl,_,C3.ou,by simpa using U3.ou,X3.ou⟩
   case round=>
    clear C3 U3 X3 B3 k1 H
    obtain⟨k,hk,rfl,l,hC,hU,a⟩:=hrel
    have C4:=aj hC
    have U4:=aj hU
    have H:=aj a
    clear hC hU a
    by_cases ag:k<G.aN.length
    ·obtain⟨bn,on,t,rfl,ht,ct⟩:=dq HN.ou ag
     have e1:wr.cell? ⟨bn,on+k,none⟩=some (S t):=ct ⟨wr,H.ou⟩
     have ai:=aj (Qr (gs:=gs) (st:=st) (i:=i) ht)
     have bA:=aj (co.ou wr H.ou t)
     clear ht ct
     go_wp2_with fail
     refine bA.ou.mono ?_
     rintro e u5 ⟨rfl,a⟩
     have L:=aj (H.ou.ae a)
     have C5:=aj (C4.ou.aP a id)
     have e2:=CS.ou u5 L.ou
     clear a bA e1 C4 H
     cases hmf:gQ (gs.take i) t with
     | none=>
      rw[show qo none=(-1:Int) from rfl]
      have I:=aj (Ht (st:=st) hmf)
      clear hmf
      cases s with
      | false=>
       go_wp2_with fail
       go_roundw
       case rel=>exact⟨k+1,by omega,by go_num,l,C5.ou,by rw[ai.ou,I.ou];simpa using U4.ou,L.ou⟩
       case measure=>simp[intOf];omega
      | true=>
       go_wp2_with fail
       go_roundw
       case rel=>exact⟨k+1,by omega,by go_num,l,C5.ou,by rw[ai.ou,I.ou];simpa using U4.ou,L.ou⟩
       case measure=>simp[intOf];omega
     | some q=>
      have hq:q<i:=by have:=xf hmf;rw[aH] at this;omega
      have b4:=aj (IM (st:=st) hmf)
      rw[show qo (some q)=(q:Int) from rfl]
      have t1:decide ((0:Int)≤(q:Int))=true:=by rw[aW];omega
      clear hmf
      cases s with
      | false=>
       have I:Hd (nf gs st i t=none):=Lh ac.ou
       go_wp2_with fail
       go_roundw
       case rel=>exact⟨k+1,by omega,by go_num,l,C5.ou,by rw[ai.ou,I.ou];simpa using U4.ou,L.ou⟩
       case measure=>simp[intOf];omega
      | true=>
       obtain⟨b',o',s2,e,ak,cq⟩:=yL HS.ou (show q<gs.length by omega)
       obtain⟨rfl,rfl⟩:bs=b'∧so=o':=by
        injection e with e
        injection e with e1 e2
        exact⟨e1,e2⟩
       have b5:=aj (Et ak)
       have e3:u5.cell? ⟨bs,so+q,none⟩=some (.bool s2):=cq ⟨u5,L.ou⟩
       clear e ak cq
       cases s2 with
       | false=>
        have I:Hd (nf gs st i t=none):=by rw[Hd,b4.ou,ac.ou,b5.ou];rfl
        go_wp2_with fail
        go_roundw
        case rel=>exact⟨k+1,by omega,by go_num,l,C5.ou,by rw[ai.ou,I.ou];simpa using U4.ou,L.ou⟩
        case measure=>simp[intOf];omega
       | true=>
        have I:Hd (nf gs st i t=some (i,q)):=by rw[Hd,b4.ou,ac.ou,b5.ou];rfl
        have p:=aj U4.ou.len
        have E:=aj (IF C5.ou p.ou (by omega) U4.ou.low i D gs.length)
        go_wp2_with fail
        refine E.ou.mono ?_
        rintro e u6 ⟨rfl,a⟩
        have X6:=aj (L.ou.ae a)
        have C6:=aj (C5.ou.aP a id)
        have J:=aj (IF C6.ou p.ou (by omega) U4.ou.low q (by omega) gs.length)
        clear a E L C5
        go_wp2_with fail
        refine J.ou.mono ?_
        rintro e u7 ⟨rfl,a⟩
        have X7:=aj (X6.ou.ae a)
        have C7:=aj (C6.ou.aP a id)
        have U7:=aj (U4.ou.VM (e:=(i,q)) (Nat.lt_succ_self i) (Nat.lt_succ_of_lt hq))
        have la:=lS U4.ou.low (show i<l.length by rw[p.ou];exact D)
        have lb:=lS U4.ou.low (show q<l.length by rw[p.ou];omega)
        have am:Hd (Bc l (i,q)=l.set (max (cY l i) (cY l q)) (min (cY l i) (cY l q))):=rfl
        generalize cY l i=ra at la am ⊢
        generalize cY l q=rb at lb am ⊢
        clear a J X6 C6
        have b6:=Gg (P:=Tryz.prog) ra rb
        have b8:=Fg (P:=Tryz.prog) ra rb
        have a5:max ra rb<gs.length:=by omega
        generalize max ra rb=mx at am b6 a5
        generalize min ra rb=mn at am b8
        have y0:u7.cell? ⟨N,mx,none⟩=some (.int .i64 (l.getD mx 0:Nat)):=by rw[C7.ou.cell mx];exact DY (by rw[p.ou];exact a5)
        have z0:=C7.ou.frozen mx
        go_upto_region 13 with fail
        obtain⟨w8,a1⟩:∃u,u=u7.setCell ⟨N,mx,none⟩ (.int .i64 (mn:Int)):=⟨_,rfl⟩
        rw[←a1]
        have C8:Hd (Cs w8 N sE (Ex (Bc l (i,q)))):=by rw[a1,am.ou];exact C7.ou.ups mx mn
        have X8:Hd (bf w w8):=X7.ou.trans (show al (fun b=>b=N) u7 w8 by rw[a1];exact(al.refl _ _).at_ mx _) fun b hb e=>by have e:b=N:=e;have:=bz.ou;omega
        clear a1 y0 z0 b6 b8
        go_wp2_with fail
        go_roundw
        case rel=>exact⟨k+1,by omega,by go_num,_,C8.ou,by rw[ai.ou,I.ou,jX,←aT];exact U7.ou,X8.ou⟩
        case measure=>simp[intOf];omega
    ·obtain rfl:k=G.aN.length:=by omega
     have U5:Hd (Ez gs.length (i+1) (mS gs st (i+1)) l):=by
      have:=U4.ou
      rw[ay (aq _),←cn.ou] at this
      exact this
     go_wp2_with fail
     go_roundw
     case rel=>exact⟨i+1,by omega,by go_num,l,C4.ou,U5.ou,H.ou⟩
     case measure=>simp[intOf];omega
  ·obtain rfl:i=gs.length:=by omega
   have bb:=aj U0.ou.fin
   have p:=aj U0.ou.len
   have a2:=aj (kQ.Uw bb.ou p.ou)
   have a6:=aj bb.ou.low
   rename World=>wb
   have bc:Hd (∀u,bf wb u→∀j,j<gs.length→Calls Tryz.prog 72 #[.slice (some ⟨N,0,none⟩) gs.length gs.length,.int .i64 (j:Int)] u fun e w'=>e=.returned (.int .i64 (cY l j:Nat))∧bf u w'):=fun u hu j hj=>IF (C0.ou.aP hu id) p.ou (by omega) a6.ou j hj gs.length
   clear C0 U0 bb p D hi
   obtain⟨r,hr⟩:∃r,r=cY l:=⟨_,rfl⟩
   rw[←hr] at bc a2
   clear hr a6
   go_wp2_with fail
   go_loopw [13,76] (fun ov i wr=>∃k:Nat,k≤gs.length∧i=.int .i64 k∧∃(B:Option Addr) (d:Nat) (xs:List ((Option Addr×Nat)×List Nat)),ov=.slice B xs.length d∧bR Um Kt wb wr B d xs∧xs.map (·.2)=ig gs st r k∧(∀x∈xs,Km (fun q=>q<w.heap.size∨(Value.slice B xs.length d).ownBlock=some q) wr x.1.1 x.2)) (fun _ i _=>gs.length-(intOf i).toNat)
   case atStart=>exact⟨0,au _,rfl,none,0,[],rfl,bR.nil _ _ _ _ (al.refl _ _),rfl,fun x a=>by cases a⟩
   case round=>
    obtain⟨i,hi,rfl,B,d,xs,rfl,hF,hM,hR⟩:=hrel
    have F0:=aj hF
    have HM:=aj hM
    have HR:=aj hR
    have XB:=aj hF.ext
    have c6:xs.length≤10:=by
     have h1:=congrArg List.length hM
     rw[bH,ig] at h1
     have h2:=iA (pJ gs st r) (List.range i)
     rw[fD] at h2
     omega
    clear hF hM hR
    by_cases D:i<gs.length
    ·obtain⟨bs,so,s,rfl,Z,cs⟩:=yL HS.ou D
     have ac:=aj (Et Z)
     have e1:wr.cell? ⟨bs,so+i,none⟩=some (.bool s):=cs ⟨wr,H.ou.ae XB.ou⟩
     have bd:∀ξ:X wr No,ξ.v.cell? ⟨bs,so+i,none⟩=some (.bool s):=fun ξ=>cs ⟨ξ.v,(H.ou.ae XB.ou).ae ξ.h⟩
     have HU:=aj (uY gs st r i)
     clear Z cs
     cases s with
     | false=>
      have O:Hd (ig gs st r (i+1)=ig gs st r i):=by rw[Hd,HU.ou,zT a2.ou (.inl ac.ou)];simp
      go_wp2_with fail
      go_roundw
      case rel=>exact⟨i+1,by omega,by go_num,B,d,xs,rfl,F0.ou,by rw[O.ou];exact HM.ou,HR.ou⟩
      case measure=>simp[intOf];omega
     | true=>
      have E:=aj (bc.ou wr XB.ou i D)
      have bi:=aj (fun h=>zT a2.ou (i:=i) (.inr h))
      have c7:Hd (r i=r i):=rfl
      generalize r i=ri at E bi
      go_upto_region 19 with fail
      refine cj [8] (Cl wr No) (Cl.of (al.refl _ _)) ?_
      refine bK ?_
      (refine bQ ?_;intro K hK)
      refine E.ou.mono ?_
      rintro e u5 ⟨rfl,a⟩
      have L:=aj a
      refine⟨_,rfl,hK _ _ (fun _=>Cl.of L.ou) ?_⟩
      clear hK K a E e1 bd
      refine bj ?_
      by_cases he:ri=i
      ·subst he
       refine bK ?_
       refine ar ?_
       have F5:=aj (F0.ou.on L.ou)
       have b9:Hd (∀x∈xs,Km (fun q=>q<w.heap.size∨(Value.slice B xs.length d).ownBlock=some q) u5 x.1.1 x.2):=fun x a=>(HR.ou x a).step (al.any L.ou) fun _ e=>.inl e
       have ca:=aj (XB.ou.ae L.ou)
       have bk:=aj (H.ou.ae ca.ou)
       have cu:Hd (∀q,(Value.slice B xs.length d).ownBlock=some q→q<u5.heap.size):=fun q hq=>by
        obtain⟨_,hc⟩:=fI F5.ou.own hq
        exact hc.lt
       clear F0 HR XB L bi
       go_wp2_with fail
       go_loopw [15,16,93] (fun uv rv j wr=>∃k:Nat,k≤gs.length∧j=.int .i64 k∧∃(C:Option Addr) (e:Nat) (f:List Nat),uv=.slice C f.length e∧f=(List.range k).filter (fun k=>pk st k&&decide (r k=ri))∧rv=.bool (pQ gs f)∧bR G9 sE u5 wr C e f) (fun _ _ j _=>gs.length-(intOf j).toNat)
       case atStart=>exact⟨0,au _,rfl,none,0,[],rfl,rfl,rfl,bR.nil _ _ _ _ (al.refl _ _)⟩
       case round=>
        obtain⟨k,hk,rfl,C,ce,f,rfl,bo,rfl,hF⟩:=hrel
        have FU:=aj hF
        have a3:=aj bo
        have c8:f.length≤k:=by
         rw[bo]
         have:=dK (fun k=>pk st k&&decide (r k=ri)) (List.range k)
         rwa [fD] at this
        clear hF bo
        by_cases ag:k<gs.length
        ·obtain⟨b',o',s2,e,ak,cq⟩:=yL HS.ou ag
         obtain⟨rfl,rfl⟩:bs=b'∧so=o':=by
          injection e with e
          injection e with e1 e2
          exact⟨e1,e2⟩
         have bp:=aj (Et ak)
         have XK:=aj (bk.ou.ae FU.ou.ext)
         have e1:wr.cell? ⟨bs,so+k,none⟩=some (.bool s2):=cq ⟨wr,XK.ou⟩
         have bd:∀ξ:X wr No,ξ.v.cell? ⟨bs,so+k,none⟩=some (.bool s2):=fun ξ=>cq ⟨ξ.v,XK.ou.ae ξ.h⟩
         have bu:=aj (L0 (fun k=>pk st k&&decide (r k=ri)) k)
         clear e ak cq
         cases s2 with
         | false=>
          have Q:Hd ((List.range (k+1)).filter (fun k=>pk st k&&decide (r k=ri))=f):=by rw[Hd,bu.ou,←a3.ou,bp.ou];simp
          go_wp2_with fail
          go_roundw
          case rel=>exact⟨k+1,by omega,by go_num,C,ce,f,rfl,Q.ou.symm,rfl,FU.ou⟩
          case measure=>simp[intOf];omega
         | true=>
          have E:=aj (bc.ou wr (ca.ou.ae FU.ou.ext) k ag)
          obtain⟨rk,bv⟩:∃rk,rk=r k:=⟨_,rfl⟩
          rw[←bv] at E
          have cb:=aj bv
          clear bv
          go_upto_region 25 with fail
          refine cj [7] (Cl wr No) (Cl.of (al.refl _ _)) ?_
          refine bK ?_
          (refine bQ ?_;intro K hK)
          refine E.ou.mono ?_
          rintro e u6 ⟨rfl,a⟩
          have cf:=aj (FU.ou.on a)
          have X6:=aj a
          refine⟨_,rfl,hK _ _ (fun _=>Cl.of X6.ou) ?_⟩
          clear hK K a E e1 bd
          refine bj ?_
          by_cases he:rk=ri
          ·subst he
           have Q:Hd ((List.range (k+1)).filter (fun k=>pk st k&&decide (r k=rk))=f++[k]):=by rw[Hd,bu.ou,←a3.ou,bp.ou,←cb.ou];simp
           refine bK ?_
           refine ar ?_
           obtain⟨M,V⟩:∃M:Nat→Prop,M=fun q=>(Value.slice C f.length ce).ownBlock=some q:=⟨_,rfl⟩
           have ao:=aj V
           clear V
           go_upto_region 26 with fail
           refine cj [2,3] (Cl u6 M) (Cl.of (al.refl _ _)) ?_
           refine dH ?_
           (refine bQ ?_;intro K hK)
           have F6:=aj (cf.ou.on ((al.refl No u6).alloc (.cells #[.int .i64 (k:Int)] sE)))
           refine hK _ _ (fun _=>Cl.of ((al.refl M u6).alloc _)) ?_
           clear hK K
           refine bj ?_
           refine cH rfl rfl ?_
           intro K hK
           refine eO (v:=.slice C f.length ce) (n:=f.length) (xs:=f.flatMap G9.enc) TV rfl rfl rfl F6.ou.own (iQ u6 _ [.int .i64 (k:Int)]) (by simp[Value.oneCell']) (by omega) ?_
           intro C' a4 w7 y z W
           have F7:Hd (bR G9 sE u5 w7 C' a4 (f++[k])):=F6.ou.grow (m:=1) (ys:=[k]) rfl y z W
           have O7:Hd (al M u6 w7):=((al.refl M u6).alloc _).grown z fun g hg=>.inr (by rw[ao.ou];exact hg)
           refine hK _ _ (fun _=>Cl.of O7.ou) ?_
           clear hK K y z W
           refine bj ?_
           refine dH ?_
           refine ar ?_
           obtain⟨bg,og,⟨⟨tA,tc,nA,nc,cA,cc⟩,G⟩,rfl,T,_,_,_,c3⟩:=kz HG.ou.row ag
           have U:gs[k]?=some G:=by rw[←HG.ou.om,bP,T];rfl
           have bw:=aj (QA U)
           have q3:w7.cell? ⟨bg,og+k*4+3,none⟩=some (.bool G.ba):=c3 ⟨w7,bk.ou.ae F7.ou.ext⟩
           generalize G.ba=ph at bw q3
           clear T U c3
           obtain⟨rb,R⟩:∃b,b=pQ gs f:=⟨_,rfl⟩
           rw[←R]
           have Y:=aj R
           clear R
           cases rb with
           | true=>
            have J:Hd (pQ gs (f++[k])=true):=by rw[Hd,xt,←Y.ou];rfl
            go_wp2_with fail
            go_roundw
            case rel=>exact⟨k+1,by omega,by go_num,C',a4,f++[k],by simp,Q.ou.symm,by rw[J.ou],F7.ou⟩
            case measure=>simp[intOf];omega
           | false=>
            cases ph with
            | true=>
             have J:Hd (pQ gs (f++[k])=false):=by rw[Hd,xt,←Y.ou,bw.ou];rfl
             go_wp2_with fail
             go_roundw
             case rel=>exact⟨k+1,by omega,by go_num,C',a4,f++[k],by simp,Q.ou.symm,by rw[J.ou],F7.ou⟩
             case measure=>simp[intOf];omega
            | false=>
             have J:Hd (pQ gs (f++[k])=true):=by rw[Hd,xt,←Y.ou,bw.ou];rfl
             go_wp2_with fail
             go_roundw
             case rel=>exact⟨k+1,by omega,by go_num,C',a4,f++[k],by simp,Q.ou.symm,by rw[J.ou],F7.ou⟩
             case measure=>simp[intOf];omega
          ·have t1:decide ((rk:Int)=(ri:Int))=false:=by rw[aA];omega
           have t2:((rk:Int)==(ri:Int))=false:=by rw[bl];omega
           have Q:Hd ((List.range (k+1)).filter (fun k=>pk st k&&decide (r k=ri))=f):=by rw[Hd,bu.ou,←a3.ou,bp.ou,←cb.ou];simp[he]
           refine bK ?_
           refine ar ?_
           go_wp2_with fail
           go_roundw
           case rel=>exact⟨k+1,by omega,by go_num,C,ce,f,rfl,Q.ou.symm,rfl,cf.ou⟩
           case measure=>simp[intOf];omega
        ·obtain rfl:k=gs.length:=by omega
         have a7:Hd (f=kj gs.length st r ri):=a3.ou
         obtain⟨rb,R⟩:∃b,b=pQ gs f:=⟨_,rfl⟩
         rw[←R]
         have Y:=aj R
         clear R
         cases rb with
         | false=>
          have O:Hd (ig gs st r (ri+1)=ig gs st r ri):=by
           rw[Hd,HU.ou,pJ,←a7.ou,←Y.ou];simp
          go_wp2_with fail
          go_roundw
          case rel=>exact⟨ri+1,by omega,by go_num,B,d,xs,rfl,F5.ou.on FU.ou.ext,by rw[O.ou];exact HM.ou,fun x a=>(b9.ou x a).step (al.any FU.ou.ext) fun _ e=>.inl e⟩
          case measure=>simp[intOf];omega
         | true=>
          have O:Hd (ig gs st r (ri+1)=ig gs st r ri++[f]):=by
           rw[Hd,HU.ou,pJ,←a7.ou,←Y.ou];simp
          obtain⟨M,V⟩:∃M:Nat→Prop,M=fun q=>(Value.slice B xs.length d).ownBlock=some q:=⟨_,rfl⟩
          have ao:=aj V
          have cx:Hd (Km (fun q=>q<w.heap.size∨M q) wr C f):=Km.fresh FU.ou (by rw[V];exact fun q e=>e.elim (fun e=>bZ e bk.ou.size) (cu.ou q))
          clear V
          have X6:=aj FU.ou.ext
          go_upto_region 30 with fail
          refine cj [2,3] (Cl wr M) (Cl.of (al.refl _ _)) ?_
          refine dH ?_
          (refine bQ ?_;intro K hK)
          have xa:bf wr (wr.alloc (.cells #[.slice C f.length ce] Kt)):=(al.refl No wr).alloc _
          have F6:=aj (F5.ou.on (X6.ou.ae xa))
          refine hK _ _ (fun _=>Cl.of ((al.refl M wr).alloc _)) ?_
          clear hK K
          refine bj ?_
          refine cH rfl rfl ?_
          intro K hK
          refine eO (v:=.slice B xs.length d) (n:=xs.length) (xs:=xs.flatMap Um.enc) UV rfl rfl rfl F6.ou.own (iQ wr _ [.slice C f.length ce]) (by simp[Value.oneCell']) (by omega) ?_
          intro B' d' w7 y z W
          have F7:Hd (bR Um Kt wb w7 B' d' (xs++[((C,ce),f)])):=F6.ou.grow (m:=1) (ys:=[((C,ce),f)]) rfl y z W
          have O7:Hd (al M wr w7):=((al.refl M wr).alloc _).grown z fun g hg=>.inr (by rw[ao.ou];exact hg)
          have ch:Hd (∀q,(Value.slice B' (xs++[((C,ce),f)]).length d').ownBlock=some q→M q∨wr.heap.size≤q):=fun q hq=>by
           rw[af] at hq
           rcases W with hb|hb
           ·exact .inl (by rw[ao.ou];exact hb.symm.trans hq)
           ·have h3:some (wr.alloc (.cells #[.slice C f.length ce] Kt)).heap.size=some q:=hb.symm.trans hq
            injection h3 with h3
            exact .inr (by rw[←h3];exact xa.size)
          refine hK _ _ (fun _=>Cl.of O7.ou) ?_
          clear hK K y z W xa
          refine bj ?_
          refine dH ?_
          refine ar ?_
          go_wp2_with fail
          go_roundw
          case rel=>
           refine⟨ri+1,by omega,by go_num,B',d',xs++[((C,ce),f)],by simp,F7.ou,by rw[O.ou,cU,HM.ou];rfl,fun x a=>?_⟩
           rcases az.1 a with a|a
           ·exact Km.kY (F:=M) ((b9.ou x a).step (al.any X6.ou) (fun q e=>.inl (by rw[ao.ou] at e;exact e))) O7.ou ch.ou
           ·obtain rfl:=aC.1 a
            exact cx.ou.kY O7.ou ch.ou
          case measure=>simp[intOf];omega
      ·have t1:decide ((ri:Int)=(i:Int))=false:=by rw[aA];omega
       have t2:((ri:Int)==(i:Int))=false:=by rw[bl];omega
       have O:Hd (ig gs st r (i+1)=ig gs st r i):=by rw[Hd,HU.ou,bi.ou he];simp
       refine bK ?_
       refine ar ?_
       go_wp2_with fail
       go_roundw
       case rel=>exact⟨i+1,by omega,by go_num,B,d,xs,rfl,F0.ou.on L.ou,by rw[O.ou];exact HM.ou,fun x a=>(HR.ou x a).step (al.any L.ou) fun _ e=>.inl e⟩
       case measure=>simp[intOf];omega
    ·obtain rfl:i=gs.length:=by omega
     have a8:xs.length=(ig gs st r gs.length).length:=by rw[←HM.ou,bH]
     have ci:=aj a8
     clear a8
     go_wp2_with fail
     go_ret
     refine⟨B,d,xs,r,a2.ou,by rw[show(dD gs st r).length=xs.length from ci.ou.symm];rfl,fun F u hF a=>⟨?_,fun x hm=>HR.ou x hm u (a.gU fun q _ e=>.inl (hF q e)),HM.ou⟩,H.ou.ae XB.ou⟩
     rw[show(dD gs st r).length=xs.length from ci.ou.symm]
     exact di.jk (by decide) (cl F0.ou.own a fun g hg e=>by have:=F0.ou.new g hg;have:=hF g e;have:=H.ou.size;omega)
abbrev qa:TypeId:=4
abbrev CK(st:List Bool):Array Value:=(st.map Value.bool).toArray
theorem yP  (h:i<st.length):(CK st)[i]?=some (.bool (st.getD i false)):=by
 simp[CK,aL,aF h]
theorem PS(st:List Bool)(i:Nat)(b:Bool):(CK st).setIfInBounds i (.bool b)=CK (st.set i b):=by
 simp[CK,List.map_set]
theorem Cs.VA   (h:Cs w g qa (CK st))(i:Nat)(b:Bool):Cs (w.setCell ⟨g,i,none⟩ (.bool b)) g qa (CK (st.set i b)):=by
 have:=h.cM i (.bool b)
 rwa [PS] at this
theorem Lo:(Tryz.prog.info? qa).map (fun i=>(i.zero,i.size,i.bytes))=some (some (.bool false),1,1):=by kernel_rfl
theorem Ib(n:Nat)(h:n≤1000000)(w:World):(Instr.makeSlice 97 (.int .i64 (n:Int)) (.int .i64 (n:Int))).run Tryz.prog w =
  .ok (.slice (some ⟨w.heap.size,0,none⟩) n n) (w.alloc (.cells (CK (List.replicate n false)) qa)):=by
 obtain⟨a,e,f,b,c⟩:=info_parts Lo
 have g:(a.bytes:Int)*(n:Int)≤281474976710656:=by rw[c];omega
 have d:=run_make (P:=Tryz.prog) w 97 qa a (.bool false) Tryz.underlying97 e f .i64 .i64 n n (by omega) (by omega) g (by omega)
 simp only[dh] at d
 rw[d,b]
 have:madeCells (Value.bool false).cells (n*1)=CK (List.replicate n false):=by
  apply Array.ext
  ·simp[madeCells,CK]
  ·intro i b c
   simp[madeCells,Value.cells,Nat.mod_one,CK]
 rw[this]
def uS(gs:List dv)(st:List Bool)(i:Nat)(n:aK):Bool:=match gQ (gs.take i) n with
 | some k=>st.getD k false
 | none=>false
def mN(l:List bm)(F:aK→Option (jy×iT))(gs:List dv)(st:List Bool)(i:Nat)(G:dv):Bool:=(!G.ba&&!ld l F G)||G.aN.any (uS gs st i)
def gp(l:List bm)(F:aK→Option (jy×iT))(gs:List dv):Nat→List Bool
 | 0=>[]
 | i+1=>gp l F gs i++[match gs[i]? with
  | some G=>mN l F gs (gp l F gs i) i G
  | none=>false]
abbrev Ek(l:List bm)(F:aK→Option (jy×iT))(gs:List dv):List Bool:=gp l F gs gs.length
theorem nY(l:List bm)(F:aK→Option (jy×iT))(gs:List dv):∀i,(gp l F gs i).length=i
 | 0=>rfl
 | i+1=>by rw[gp,af,nY l F gs i];rfl
theorem Na   (p:aK→Bool)(a:ns[k]?=some t):(ns.take (k+1)).any p=((ns.take k).any p||p t):=by
 rw[aU,a,List.any_append]
 simp
theorem Jh{A:List Bool} {y:Bool}:(A++x::List.replicate n false).set A.length y=A++y::List.replicate n false:=by
 rw[List.set_append,aa (Nat.lt_irrefl _)]
 simp
theorem Jt{A:List Bool}   : (A++x::List.replicate n false).getD A.length false=x:=by
 simp[aL]
theorem Ju{A B:List Bool}{q:Nat}(h:q<A.length):(A++B).getD q false=A.getD q false:=by
 simp[aL,bG h]
theorem di.VA   (h:Cs w g qa (CK st))(a:st.length=n):di TX w (some ⟨g,0,none⟩) n st:=by
 refine⟨a,fun _=>⟨g,0,rfl,h.lt,fun k x hk j u hu=>?_⟩⟩
 match j,hu with
 | 0,hu=>
  injection hu with hu
  obtain⟨b,c⟩:=aw.1 hk
  rw[show(0+k*TX.size+0:Nat)=k by show 0+k*1+0=k;omega,h.cell k,yP b,←hu,aL,hk]
  try rfl
theorem Rs      (hG:jW w A os gs) (bp:gs.length≤10) (bo:gs.length≤c) (hb:∀g∈gs,Ud g∧1≤g.targets.length∧(g.targets.headD []).length≤1000000)
  {m:Option Nat} {F:aK→Option (jy×iT)} (hM:SS w m (Mj F)) (hF:Ry w F) {lA:Option Addr} {lc:Nat} {l:List bm} (hl:di br w lA l.length l) (a7:l.length≤1000) (hr:eQ fk l) :
  Calls Tryz.prog 43 #[.slice A gs.length c,.slice lA l.length lc,.map m] w fun e w'=>∃B d,e=.returned (.slice B gs.length d)∧di TX w' B gs.length (Ek l F gs)∧bf w w':=by
 have HG:=aj hG
 have HB:=aj hb
 have a8:=Ib gs.length (by omega)
 obtain⟨w1,M⟩:∃u,u=w.alloc (.cells (CK (List.replicate gs.length false)) qa):=⟨_,rfl⟩
 obtain⟨f,N⟩:∃g,g=w.heap.size:=⟨_,rfl⟩
 have X1:Hd (bf w w1):=by rw[M];exact(al.refl No w).alloc _
 have C1:Hd (Cs w1 f qa (CK (List.replicate gs.length false))):=by rw[M,N];exact Cs.new _ _ _
 have a0:Hd (w.heap.size≤f):=ij N.symm
 have a9:Hd (∀u,bf w u→∀(x:fW×dv),x∈os→Calls Tryz.prog 73 #[AP x,.slice lA l.length lc,.map m] u fun e w'=>e=.returned (.bool (ld l F x.2))∧bf u w'):=fun u C x p=>by
  obtain⟨a,G⟩:=x
  have h1:=(hG.ext C).rr _ p
  have hm:G∈gs:=by rw[←hG.om];exact cC p
  obtain⟨⟨b1,b2,b3⟩,b4,b5⟩:=hb G hm
  have d1:G.targets.length≤100:=by omega
  have d2:G.aN.length≤1000:=by omega
  have d3:G.bD.length≤1000:=by omega
  exact Rc (hM.ext C) (hF.ext C) h1.1 h1.2.1 h1.2.2 b4 d1 d2 d3 b5 (hl.ext C) a7 hr
 clear hG hb hM hF hl hr
 go_enter Tryz.func43,Tryz.ntmps43
 go_upto_region 2 with fail
 rw[←M,←N]
 clear M N a8
 go_wp2_with fail
 go_loopw [18] (fun i wr=>∃k:Nat,k≤gs.length∧i=.int .i64 k∧Cs wr f qa (CK (gp l F gs k++List.replicate (gs.length-k) false))∧bf w wr) (fun i _=>gs.length-(intOf i).toNat)
 case atStart=>exact⟨0,au _,rfl,C1.ou,X1.ou⟩
 case round=>
  clear C1 X1
  obtain⟨i,hi,rfl,hC,p⟩:=hrel
  have C0:=aj hC
  have D:=aj p
  clear hC p
  by_cases O:i<gs.length
  ·obtain⟨bg,o,⟨⟨tA,tc,P,nc,cA,cc⟩,G⟩,rfl,Q,c0,c1,c2,c3⟩:=kz HG.ou.row O
   have ag:gs[i]?=some G:=by rw[←HG.ou.om,bP,Q];rfl
   have HN:Hd (di cI w P G.aN.length G.aN):=(HG.ou.rr _ (ah Q)).2.1
   have bs:G.aN.length≤3:=(HB.ou G (ah ag)).1.2.1
   have a1:Hd (∀u,bf w u→Calls Tryz.prog 73 #[.agg #[.slice tA G.targets.length tc,.slice P G.aN.length nc,.slice cA G.bD.length cc,.bool G.ba],.slice lA l.length lc,.map m] u fun e w'=>e=.returned (.bool (ld l F G))∧bf u w'):=fun u C=>a9.ou u C _ (ah Q)
   have bb:Hd (∀u,bf w u→∀t,Calls Tryz.prog 71 #[.slice (some ⟨bg,o,none⟩) i c,S t] u fun e w'=>e=.returned (.int .i64 (qo (gQ (gs.take i) t)))∧bf u w'):=fun u C t=>by
    have hl:(gs.take i).length=i:=by rw[aH];omega
    have h1:jW u (some ⟨bg,o,none⟩) (os.take i) (gs.take i):=by
     refine⟨?_,fun x p=>(HG.ou.ext C).rr x (gj p),?_⟩
     ·rw[hl];exact(HG.ou.row.ext C).take (Nat.le_of_lt O)
     ·rw[List.map_take,HG.ou.om]
    have h2:=Jq (c:=c) h1 (by omega) (fun g hg=>by have:=(HB.ou g (gj hg)).1.1;omega) t
    rw[hl] at h2
    exact h2
   obtain⟨n,R⟩:∃s,s=gp l F gs i:=⟨_,rfl⟩
   have E:Hd (n.length=i):=by rw[R];exact nY _ _ _ _
   have T:Hd (gp l F gs (i+1)=n++[(!G.ba&&!ld l F G)||G.aN.any (uS gs n i)]):=by rw[Hd,gp,ag,R];rfl
   have a2:List.replicate (gs.length-i) false=false::List.replicate (gs.length-(i+1)) false:=by rw[show gs.length-i=gs.length-(i+1)+1 by omega];rfl
   rw[←R,a2] at C0
   have ai:Hd (∀x,(n++x::List.replicate (gs.length-(i+1)) false).length=gs.length):=fun x=>by rw[af,an,ie,E.ou];omega
   have q0:wr.cell? ⟨bg,o+i*4,none⟩=some (.slice tA G.targets.length tc):=c0 ⟨wr,D.ou⟩
   have q1:wr.cell? ⟨bg,o+i*4+1,none⟩=some (.slice P G.aN.length nc):=c1 ⟨wr,D.ou⟩
   have q2:wr.cell? ⟨bg,o+i*4+2,none⟩=some (.slice cA G.bD.length cc):=c2 ⟨wr,D.ou⟩
   have q3:wr.cell? ⟨bg,o+i*4+3,none⟩=some (.bool G.ba):=c3 ⟨wr,D.ou⟩
   clear c0 c1 c2 c3 Q ag R a2
   go_upto_region 5 with fail
   obtain⟨y,U⟩:∃u,u=wr.alloc (.cells #[.slice tA G.targets.length tc,.slice P G.aN.length nc,.slice cA G.bD.length cc,.bool G.ba] ia):=⟨_,rfl⟩
   obtain⟨J,ak⟩:∃g,g=wr.heap.size:=⟨_,rfl⟩
   rw[←U,←ak]
   have x2:bf wr y:=by rw[U];exact(al.refl No _).alloc _
   have H:Hd (Cs y J ia #[.slice tA G.targets.length tc,.slice P G.aN.length nc,.slice cA G.bD.length cc,.bool G.ba]):=by rw[U,ak];exact Cs.new _ _ _
   have W:=aj (C0.ou.aP x2 id)
   have X2:=aj (D.ou.ae x2)
   have y0:y.cell? ⟨J,0,none⟩=some (.slice tA G.targets.length tc):=H.ou.cell 0
   have y1:y.cell? ⟨J,1,none⟩=some (.slice P G.aN.length nc):=H.ou.cell 1
   have y2:y.cell? ⟨J,2,none⟩=some (.slice cA G.bD.length cc):=H.ou.cell 2
   have y3:y.cell? ⟨J,3,none⟩=some (.bool G.ba):=H.ou.cell 3
   have am:=a1.ou y X2.ou
   clear U ak x2 q0 q1 q2 q3 C0 a1
   have z0:y.cell? ⟨f,i,none⟩=some (.bool false):=by rw[W.ou.cell i,yP (by rw[ai.ou];exact O),show i=n.length from E.ou.symm,Jt]
   have z1:=W.ou.frozen i
   obtain⟨fr,a3⟩:∃b,b=ld l F G:=⟨_,rfl⟩
   rw[←a3] at am T
   have ao:=aj am
   obtain⟨ph,a4⟩:∃b,b=G.ba:=⟨_,rfl⟩
   rw[←a4] at T H ao y3
   have H5:Hd (∀w5,bf y w5→∀b,Cs (w5.setCell ⟨f,i,none⟩ (.bool b)) f qa (CK (n++b::List.replicate (gs.length-(i+1)) false))∧bf w (w5.setCell ⟨f,i,none⟩ (.bool b))∧Cs (w5.setCell ⟨f,i,none⟩ (.bool b)) J ia #[.slice tA G.targets.length tc,.slice P G.aN.length nc,.slice cA G.bD.length cc,.bool ph]):=fun w5 hx5 b=>by
    have h6:=(W.ou.aP hx5 id).VA i b
    have O6:al (fun q=>q=f) w5 (w5.setCell ⟨f,i,none⟩ (.bool b)):=(al.refl _ _).at_ i _
    refine⟨?_,(X2.ou.ae hx5).trans O6 fun q hq e=>by have e:q=f:=e;have:=a0.ou;omega,(H.ou.aP hx5 id).aP O6 fun e=>Cs.oC H.ou W.ou (by decide) e⟩
    have e1:(n++false::List.replicate (gs.length-(i+1)) false).set i b=n++b::List.replicate (gs.length-(i+1)) false:=by rw[←E.ou];exact Jh
    rw[←e1]
    exact h6
   clear a3 am a4
   have v0:∀ξ:X y No,ξ.v.cell? ⟨J,0,none⟩=some (.slice tA G.targets.length tc):=H.ou.x id 0
   have v1:∀ξ:X y No,ξ.v.cell? ⟨J,1,none⟩=some (.slice P G.aN.length nc):=H.ou.x id 1
   have v2:∀ξ:X y No,ξ.v.cell? ⟨J,2,none⟩=some (.slice cA G.bD.length cc):=H.ou.x id 2
   have v3:∀ξ:X y No,ξ.v.cell? ⟨J,3,none⟩=some (.bool ph):=H.ou.x id 3
   have v4:∀ξ:X y No,ξ.v.cell? ⟨f,i,none⟩=some (.bool false):=fun ξ=>by rw[(W.ou.aP ξ.h id).cell i,←W.ou.cell i,z0]
   have v5:∀ξ:X y No,ξ.v.frozen? ⟨f,i,none⟩=false:=fun ξ=>(W.ou.aP ξ.h id).frozen i
   have Y:Hd (∀x,x=(!ph&&!fr)→gp l F gs (i+1)=n++[x||G.aN.any (uS gs n i)]):=fun x e=>by rw[e];exact T.ou
   clear T W D X2
   cases ph
   case' true=>
    go_upto_region 5 with fail
    refine cj [13] (Cl y No) (Cl.of (al.refl _ _)) ?_
    refine bK ?_
    (refine bQ ?_;intro K hK)
    refine hK _ _ (fun hne=>absurd rfl hne) ?_
    clear hK K
    refine bj ?_
    refine ar ?_
    obtain⟨x,p⟩:∃x,x=false:=⟨_,rfl⟩
    have L:=H5.ou y (al.refl _ _) x
    obtain⟨w6,r⟩:∃u,u=y.setCell ⟨f,i,none⟩ (.bool x):=⟨_,rfl⟩
   case' false=>
    go_upto_region 5 with fail
    refine cj [9,13] (Cl y No) (Cl.of (al.refl _ _)) ?_
    refine bK ?_
    (refine bQ ?_;intro K hK)
    refine ao.ou.mono ?_
    rintro e u ⟨rfl,C⟩
    refine⟨_,rfl,hK _ _ (fun _=>Cl.of C) ?_⟩
    clear hK K
    obtain⟨x,p⟩:∃x,x=!fr:=⟨_,rfl⟩
    have L:=H5.ou u C x
    obtain⟨w6,r⟩:∃z,z=u.setCell ⟨f,i,none⟩ (.bool x):=⟨_,rfl⟩
    rw[←r] at L
    have bc:=aj L
    have bd:=aj r
    have Hx:=aj p
    clear L r p
    obtain⟨ξu,rfl⟩:∃ξ:X y No,u=ξ.v:=⟨⟨u,C⟩,rfl⟩
    refine bj ?_
    refine bK ?_
    (refine bQ ?_;intro K hK)
    refine hK _ _ (fun hne=>absurd rfl hne) ?_
    clear hK K
    refine bj ?_
    refine ar ?_
    have r:=bd.ou
    have p:=Hx.ou
    have L:=bc.ou
    rw[r] at L
   all_goals
    have bi:=aj (Y.ou x p)
    rw[←r] at L
    rw[p] at r
    rw[←r]
    have C6:=aj L.1
    have X6:=aj L.2.1
    have k1:w6.cell? ⟨J,1,none⟩=some (.slice P G.aN.length nc):=L.2.2.cell 1
    clear r p L H5 Y ao v0 v1 v2 v3 v4 v5 z0 z1 y0 y1 y2 y3 H
    go_wp2_with fail
    go_loopw [39] (fun j wr=>∃k:Nat,k≤G.aN.length∧j=.int .i64 k∧Cs wr f qa (CK (n++(x||(G.aN.take k).any (uS gs n i))::List.replicate (gs.length-(i+1)) false))∧bf w wr) (fun j _=>G.aN.length-(intOf j).toNat)
    case atStart=>exact⟨0,au _,rfl,by rw[j5,List.any_nil,Bool.or_false];exact C6.ou,X6.ou⟩
    case round=>
     clear C6 X6 k1
     obtain⟨k,hk,rfl,hC,p⟩:=hrel
     have C4:=aj hC
     have D:=aj p
     clear hC p
     by_cases bk:k<G.aN.length
     ·obtain⟨bn,on,t,rfl,ht,ct⟩:=dq HN.ou bk
      have e1:wr.cell? ⟨bn,on+k,none⟩=some (S t):=ct ⟨wr,D.ou⟩
      have a5:=aj (Na (uS gs n i) ht)
      have a6:=aj (bb.ou wr D.ou t)
      clear ht ct
      obtain⟨cu,ap⟩:∃b,b=(x||(G.aN.take k).any (uS gs n i)):=⟨_,rfl⟩
      rw[←ap] at C4
      have av:Hd ((x||(G.aN.take (k+1)).any (uS gs n i))=(cu||uS gs n i t)):=by rw[Hd,a5.ou,ap,Bool.or_assoc]
      clear ap a5
      go_upto_region 10 with(refine a6.ou.mono ?_;rintro e I ⟨rfl,p⟩)
      have X5:=aj (D.ou.ae p)
      have V:=aj (C4.ou.aP p id)
      clear p a6 e1 C4 D
      have y0:I.cell? ⟨f,i,none⟩=some (.bool cu):=by rw[V.ou.cell i,yP (by rw[ai.ou];exact O),show i=n.length from E.ou.symm,Jt]
      have v0:∀ξ:X I No,ξ.v.cell? ⟨f,i,none⟩=some (.bool cu):=fun ξ=>by rw[(V.ou.aP ξ.h id).cell i,←V.ou.cell i,y0]
      have v1:∀ξ:X I No,ξ.v.frozen? ⟨f,i,none⟩=false:=fun ξ=>(V.ou.aP ξ.h id).frozen i
      have z1:=V.ou.frozen i
      have H8:Hd (∀w5,bf I w5→∀b,Cs (w5.setCell ⟨f,i,none⟩ (.bool b)) f qa (CK (n++b::List.replicate (gs.length-(i+1)) false))∧bf w (w5.setCell ⟨f,i,none⟩ (.bool b))):=fun w5 hx5 b=>by
       have h6:=(V.ou.aP hx5 id).VA i b
       have O6:al (fun q=>q=f) w5 (w5.setCell ⟨f,i,none⟩ (.bool b)):=(al.refl _ _).at_ i _
       refine⟨?_,(X5.ou.ae hx5).trans O6 fun q hq e=>by have e:q=f:=e;have:=a0.ou;omega⟩
       have e1:(n++cu::List.replicate (gs.length-(i+1)) false).set i b=n++b::List.replicate (gs.length-(i+1)) false:=by rw[←E.ou];exact Jh
       rw[←e1]
       exact h6
      cases cu with
      | true=>
       have aD:Hd ((x||(G.aN.take (k+1)).any (uS gs n i))=true):=by rw[Hd,av.ou,Bool.true_or]
       go_upto_region 10 with fail
       refine cj [17] (Cl I No) (Cl.of (al.refl _ _)) ?_
       refine bK ?_
       (refine bQ ?_;intro K hK)
       refine hK _ _ (fun hne=>absurd rfl hne) ?_
       clear hK K
       refine bj ?_
       refine ar ?_
       have Z:=aj (H8.ou I (al.refl _ _) true)
       go_wp2_with fail
       go_roundw
       case rel=>exact⟨k+1,by omega,by go_num,by rw[aD.ou];exact Z.ou.1,Z.ou.2⟩
       case measure=>simp[intOf];omega
      | false=>
       cases hmf:gQ (gs.take i) t with
       | none=>
        rw[show qo none=(-1:Int) from rfl]
        have aD:Hd ((x||(G.aN.take (k+1)).any (uS gs n i))=false):=by rw[Hd,av.ou,iz,uS,hmf]
        clear hmf
        go_upto_region 10 with fail
        refine cj [17] (Cl I No) (Cl.of (al.refl _ _)) ?_
        refine bK ?_
        (refine bQ ?_;intro K hK)
        refine hK _ _ (fun hne=>absurd rfl hne) ?_
        clear hK K
        refine bj ?_
        refine ar ?_
        have Z:=aj (H8.ou I (al.refl _ _) false)
        go_wp2_with fail
        go_roundw
        case rel=>exact⟨k+1,by omega,by go_num,by rw[aD.ou];exact Z.ou.1,Z.ou.2⟩
        case measure=>simp[intOf];omega
       | some q=>
        have hq:q<i:=by have:=xf hmf;rw[aH] at this;omega
        have ac:Hd ((x||(G.aN.take (k+1)).any (uS gs n i))=n.getD q false):=by rw[Hd,av.ou,iz,uS,hmf]
        rw[show qo (some q)=(q:Int) from rfl]
        have t1:decide ((0:Int)≤(q:Int))=true:=by rw[aW];omega
        have y2:I.cell? ⟨f,q,none⟩=some (.bool (n.getD q false)):=by rw[V.ou.cell q,yP (by rw[ai.ou];omega),Ju (by rw[E.ou];exact hq)]
        generalize n.getD q false=s2 at ac y2
        have v2:∀ξ:X I No,ξ.v.cell? ⟨f,q,none⟩=some (.bool s2):=fun ξ=>by rw[(V.ou.aP ξ.h id).cell q,←V.ou.cell q,y2]
        clear hmf
        go_upto_region 10 with fail
        refine cj [17] (Cl I No) (Cl.of (al.refl _ _)) ?_
        refine bK ?_
        (refine bQ ?_;intro K hK)
        refine hK _ _ (fun hne=>absurd rfl hne) ?_
        clear hK K
        refine bj ?_
        refine ar ?_
        have Z:=aj (H8.ou I (al.refl _ _) s2)
        go_wp2_with fail
        go_roundw
        case rel=>exact⟨k+1,by omega,by go_num,by rw[ac.ou];exact Z.ou.1,Z.ou.2⟩
        case measure=>simp[intOf];omega
     ·obtain rfl:k=G.aN.length:=by omega
      have C7:Hd (Cs wr f qa (CK (gp l F gs (i+1)++List.replicate (gs.length-(i+1)) false))):=by
       have h:=C4.ou
       rw[ay (aq _)] at h
       rw[Hd,bi.ou,aT]
       exact h
      go_wp2_with fail
      go_roundw
      case rel=>exact⟨i+1,by omega,by go_num,C7.ou,D.ou⟩
      case measure=>simp[intOf];omega
  ·obtain rfl:i=gs.length:=by omega
   have C7:Hd (Cs wr f qa (CK (Ek l F gs))):=by
    have h:=C0.ou
    rw[gI,List.replicate_zero,cv] at h
    exact h
   go_wp2_with fail
   go_ret
   exact⟨_,_,rfl,di.VA C7.ou (nY _ _ _ _),D.ou⟩
end Go.Proofs.YtpgmcijdcnnjpaaGreatDoor
