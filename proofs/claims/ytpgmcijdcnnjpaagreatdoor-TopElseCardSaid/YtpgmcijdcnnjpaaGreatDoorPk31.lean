/- Lemmas for it. -/
import Derived.Test.YtpgmcijdcnnjpaaGreatDoorPk30
import Derived.Test.YtpgmcijdcnnjpaaGreatDoorPk22
set_option linter.all false
set_option maxRecDepth 100000
set_option maxHeartbeats 8000000
namespace Go.Proofs.YtpgmcijdcnnjpaaGreatDoor
open Go Go.RowKit
variable {h:V7} {l:eX} {c rows:List Ch} {d:Dk} {w w0:World} {Z:pq} {r:jZ}
theorem QF    (a:¬40<c.length)(b:j4 c=0):vS h l rows c d=if lK (dw rows c)=true∨d.now.length-44<c.length+1 then (((h,l,rows),d),10)
 else if l.many-l.next<c.length+1 then
  (if (yH h l rows d).2=0 then wT (yH h l rows d).1.1.1 (yH h l rows d).1.1.2 rows c (yH h l rows d).1.2 else (((h,l,rows),(yH h l rows d).1.2),(yH h l rows d).2))
 else wT h l rows c d:=by
 unfold vS
 rw[aa a,b,aa (by simp)]
theorem NS(l:eX)(c:List Ch)(d:Dk):(kl l c d).1.1.g=l.g:=by
 unfold kl
 repeat' split
 all_goals rfl
theorem Jn {a:eX} {b:Dk}{f:Int}(e:kl l c d=((a,b),f)):wT h l.z rows c d=if f=0 then (((h,a.z,dw rows c),b),0) else (((h,a.z,rows),b),f):=by
 unfold wT
 rw[Ti,e]
def Pm(Z:pq)(r:jZ)(u:World):Nat→Prop:=fun b=>Z.fp r b∨u.heap.size≤b
theorem Ol (hm:Ml w)   (h:RE w Z r d){A:Option Addr}{n cap:Nat} (hc:∀v,al (Z.fp r) w v→di fA v A n c)(hn:n≤1000000)(ci:∀x∈c,x.1.length≤1000∧x.2.1.length≤1000) :
  Calls Tryz.prog 77 #[pt Z.g,.slice A n cap] w (UL w Z r d c):=by
 have p:=aj h
 have HM:=aj hm
 have HC:=aj hc
 have b9:=aj ci
 have cm:c.length=n:=(hc w (al.refl _ _)).1
 have ap:=aj cm
 clear h hm hc ci cm
 by_cases a0:40<n
 ·have g1:decide ((40:Int)<(n:Int))=true:=aM (by omega)
  have c4:decide (40<n)=true:=aM a0
  have hE:=Qi 2
  go_enter Tryz.func77,Tryz.ntmps77
  go_wp2_with fail
  go_ret
  refine⟨Z.h,Z.l.z,Z.rows,d,2,?_,?_,Z,r,lP.start p.ou.st p.ou.dk,rfl,rfl,rfl⟩
  ·unfold vS
   rw[ab (by rw[ap.ou];exact a0)]
  ·rw[bS (by decide)];rfl
 have g1:decide ((40:Int)<(n:Int))=false:=aG (by omega)
 have c4:decide (40<n)=false:=aG a0
 go_enter Tryz.func77,Tryz.ntmps77
 go_wp2_with (refine lM ?_ ?_<;>intro hq)
 go_loopw [17] (fun i wr=>∃j:Nat,j≤n∧i=.int .i64 j∧(∀x∈c.take j,dQ x=0)∧bf w wr) (fun i _=>n-(intOf i).toNat)
 case atStart=>exact⟨0,au _,rfl,fun x hx=>by simp at hx,al.refl _ _⟩
 case round=>
  obtain⟨j,hj,rfl,cn,hx⟩:=hrel
  have XJ:=aj hx
  have bu:=aj cn
  clear hx cn
  by_cases co:j<n
  ·have c5:decide ((j:Int)<(n:Int))=true:=aM (by omega)
   have dj:decide (j<n)=true:=aM co
   obtain⟨b,o,x,c6,ca,q0,q1,q2⟩:=nK (HC.ou w (al.refl _ _)) co
   subst c6
   have c7:=b9.ou _ (ah ca)
   have bv:Hd (j4 c=if dQ x=0 then j4 (c.drop (j+1)) else dQ x):=by
    rw[Hd,qM c j bu.ou,ti ca];rfl
   have bw:Hd (dQ x=0→∀y∈c.take (j+1),dQ y=0):=fun h0 y hy=>by
    rw[aU,ca] at hy
    rcases az.1 hy with hy|hy
    ·exact bu.ou y hy
    ·rw[show y=x by simpa using hy];exact h0
   obtain⟨key,ac,K⟩:=x
   dsimp only at c7
   have r0:=q0 ⟨wr,XJ.ou⟩
   have r1:=q1 ⟨wr,XJ.ou⟩
   have r2:=q2 ⟨wr,XJ.ou⟩
   dsimp only at r0 r1 r2
   clear q0 q1 q2
   obtain⟨g2,cb⟩:∃x,x=wr.heap.size:=⟨_,rfl⟩
   obtain⟨w2,bx⟩:∃v,v=wr.alloc (.cells #[S key,S ac,.bool K] 107):=⟨_,rfl⟩
   have X2:Hd (bf w w2):=by rw[bx];exact XJ.ou.alloc _
   have bz:Cs w2 g2 107 #[S key,S ac,.bool K]:=by rw[bx,cb];exact Cs.new _ _ _
   have s0:w2.cell? ⟨g2,0,none⟩=some (S key):=bz.cell 0
   have s1:w2.cell? ⟨g2,1,none⟩=some (S ac):=bz.cell 1
   have s2:w2.cell? ⟨g2,2,none⟩=some (.bool K):=bz.cell 2
   have HK:=aj (qP (key,ac,K) (by show key.length≤10000;omega) (by show ac.length≤1000000;omega) (HM.ou.ext X2.ou))
   have c8:=oL (key,ac,K)
   obtain⟨cc,b5⟩:∃x,x=dQ (key,ac,K):=⟨_,rfl⟩
   rw[←b5] at HK bv bw c8
   go_upto_region 6 with fail
   rw[←bx,←cb]
   clear bx cb b5
   go_wp2_with fail
   refine HK.ou.mono ?_
   rintro e w3 ⟨rfl,hu⟩
   have X3:=aj (X2.ou.ae hu)
   clear hu HK s0 s1 s2 bz
   by_cases av:cc=0
   ·have c9:=aj (bw.ou av)
    subst av
    rw[cO]
    clear bv bw
    go_wp2_with fail
    go_roundw
    case rel=>exact⟨j+1,by omega,by go_num,c9.ou,X3.ou⟩
    case measure=>simp[intOf];omega
   ·rw[bS av]
    have HA:Hd (j4 c=cc):=bv.ou.trans (aa av)
    clear bv bw
    go_wp2_with fail
    go_ret
    refine⟨Z.h,Z.l.z,Z.rows,d,cc,?_,?_,Z,r,(lP.start p.ou.st p.ou.dk).ext X3.ou,rfl,rfl,rfl⟩
    ·unfold vS
     rw[aa (by rw[ap.ou];exact a0),HA.ou,ab av]
    ·rw[bS av];rfl
  ·obtain rfl:j=n:=by omega
   have c5:decide ((j:Int)<(j:Int))=false:=aG (by omega)
   have b6:Hd (∀x∈c,dQ x=0):=by
    have:=bu.ou
    rw[ay (by rw[ap.ou];exact aq _)] at this
    exact this
   have db:Hd (j4 c=0):=by
    have:=qM c c.length (by rw[List.take_length];exact b6.ou)
    rw[Hd,this,ju];rfl
   have ag:=aj (QF (h:=Z.h) (l:=Z.l.z) (rows:=Z.rows) (d:=d) (by rw[ap.ou];exact a0) db.ou)
   rw[ap.ou] at ag
   have s6:wr.cell? ⟨Z.g,6,none⟩=some (.slice Z.A Z.rows.length Z.c):=(p.ou.st.ext XJ.ou).cs.cell 6
   have hA:=Da (w:=wr) (c:=Z.c) (d:=cap) (p.ou.st.ext XJ.ou).sl (HC.ou wr (al.any XJ.ou)) (by have:=p.ou.rn;omega) (by omega) p.ou.jx.pj
   clear bu
   go_wp2_with fail
   refine hA.mono ?_
   rintro e w1 ⟨Y,D,rfl,hF⟩
   have FR:=aj hF
   have X1:=aj (XJ.ou.ae hF.ext)
   have cq:=aj (p.ou.jx.apply b6.ou)
   have dd:(dw Z.rows c).length≤1040:=by have:=uI Z.rows c;have:=p.ou.rn;have:=ap.ou;omega
   obtain⟨k,ai⟩:∃x,x=dw Z.rows c:=⟨_,rfl⟩
   have a1:=aj ai
   rw[←ai] at FR cq ag dd ⊢
   clear ai hF hA XJ s6
   have ce:=Sr (w:=w1) (A:=Y) (n:=k.length) (c:=D) (rows:=k) (di.jk (T:=fA) (by decide) FR.ou.own) (by omega) (fun x hx=>NI (cq.ou.ok x hx))
   obtain⟨mb,ct⟩:∃x,x=lK k:=⟨_,rfl⟩
   rw[←ct] at ce ag
   clear ct
   go_wp2_with fail
   refine ce.mono ?_
   rintro e w2 ⟨rfl,hu⟩
   have X2:=aj (X1.ou.ae hu)
   have F2:=aj (FR.ou.on hu)
   clear hu ce X1 FR
   have hE:=Qi 10
   cases mb
   ·have cu:=qX (p.ou.dk.ext X2.ou)
    have q0:w2.cell? ⟨Z.g,0,none⟩=some (pt r.g):=(p.ou.st.ext X2.ou).cs.cell 0
    go_wp2_with fail
    refine cu.mono ?_
    rintro e w3 ⟨rfl,hu⟩
    have X3:=aj (X2.ou.ae hu)
    have cx:=aj (F2.ou.on hu)
    clear hu cu X2 F2 q0
    have dn:=p.ou.n2
    have ds:=p.ou.n1
    have HN:Hd (∃N,N=d.now.length):=⟨_,rfl⟩
    by_cases a2:d.now.length-44<j+1
    ·have k1:decide ((d.now.length:Int)-44<(j:Int)+1)=true:=aM (by omega)
     have C:=aj (ag.ou.trans (ab (.inr a2)))
     go_wp2_with fail
     go_ret
     exact⟨Z.h,Z.l.z,Z.rows,d,10,C.ou,by rw[bS (by decide)];rfl,Z,r,(lP.start p.ou.st p.ou.dk).ext X3.ou,rfl,rfl,rfl⟩
    ·have k1:decide ((d.now.length:Int)-44<(j:Int)+1)=false:=aG (by omega)
     have C:=aj (ag.ou.trans (aa (by rintro(e|e);cases e;exact a2 e)))
     have q5:w3.cell? ⟨Z.g,5,none⟩=some (pt Z.l.g):=(p.ou.st.ext X3.ou).cs.cell 5
     have cy:=Nb (p.ou.st.ext X3.ou).lg (by have:=p.ou.l1;omega) p.ou.l1.2.2.2
     clear ag
     go_wp2_with fail
     refine cy.mono ?_
     rintro e w4 ⟨rfl,hu⟩
     have X4:=aj (X3.ou.ae hu)
     have F4:=aj (cx.ou.on hu)
     clear hu cy X3 cx q5 HN
     obtain⟨t,b7⟩:∃x,x=D:=⟨_,rfl⟩
     rw[←b7] at F4 ⊢
     clear b7 D
     by_cases a3:Z.l.many-Z.l.next<j+1
     ·have k2:decide (((Z.l.many-Z.l.next:Nat):Int)<(j:Int)+1)=true:=aM (by omega)
      have ao:=aj (C.ou.trans (ab a3))
      have cz:=Pi (HM.ou.ext X4.ou) (p.ou.st.ext X4.ou) (p.ou.dk.ext X4.ou) p.ou.wide p.ou.n1 p.ou.n2 p.ou.wt (fun e=>p.ou.nm (.inl e)) ⟨p.ou.l1.1,p.ou.l1.2.1,p.ou.l1.2.2.1⟩ p.ou.hs (fun x hx=>by
       have k3:=nG (p.ou.jx.ok x hx)
       have k4:=oV (p.ou.jx.ok x hx)
       omega) p.ou.rn p.ou.rt
      have dl:(ru (eY Z.rows)).length≤30:=by
       have:=p.ou.rt
       unfold ru yl
       rw[bH,fD]
       omega
      clear C
      go_wp2_with fail
      refine cz.mono ?_
      rintro e w5 ⟨d1,f1,cA,rfl,a,D,a4,c0,M⟩
      have q:Hd (lP w w5 Z r a D d1):=lP.from X4.ou a4
      have bA:=aj c0
      have cf:Hd (w5.ownsRow 0 sD 3 (.slice Y k.length t) k.length (k.flatMap fA.enc)):=cl F4.ou.own a4.o fun g hg e=>by
       obtain⟨cur,c2⟩:=fI F4.ou.own hg
       exact pq.yV (p.ou.st.ext X4.ou) (p.ou.dk.ext X4.ou) c2 (by decide) (by decide) (by decide) (by decide) (by decide) e
      have b4:=aj M
      have U:=aj cA
      clear a4 c0 M cA cz X4 F4
      by_cases aD:f1=0
      ·subst aD
       rw[cO]
       obtain⟨dc,O⟩:∃x,x=d1:=⟨_,rfl⟩
       have M:=b4.ou
       rw[ab rfl] at M
       obtain⟨hh,lg,hl⟩:=M
       have ak:Hd (vS Z.h Z.l.z Z.rows c d=wT a.h a.l.z Z.rows c dc):=by
        have hk:yH Z.h Z.l.z Z.rows d=(((a.h,a.l.z),dc),0):=by
         unfold yH
         have e1:AV (lf Z.h Z.l.z (eY Z.rows)) (eY Z.rows) d=(d1,0):=U.ou
         rw[e1,hh,hl,O]
         try rfl
        rw[Hd,ao.ou,hk]
        try rfl
       have a5:Hd (dc.wait.length≤1000∧(a.l.from_≤1000∧a.l.many≤1000∧a.l.next≤a.l.many∧a.l.first≤1000000000000)):=by
        have k1:=zR (lf Z.h Z.l (eY Z.rows)) (eY Z.rows) d
        rw[U.ou] at k1
        have k2:=p.ou.wt
        have k3:=p.ou.l1
        have k4:=(tF (first:=Z.l.first+Z.l.many) (L:=(d1.now.drop 44).take (d.now.length-44)) (out:=_) (used:=_) rfl).1
        rw[aH] at k4
        rw[O,hl]
        dsimp only at k1 ⊢
        refine⟨by omega,by omega,by omega,by omega,by omega⟩
       have q:Hd (lP w w5 Z r a D dc):=by rw[O];exact q.ou
       clear O hh hl b4 U ao
       go_upto_region 17 with fail
       have B:=q.ou.st
       have q5:w5.cell? ⟨Z.g,5,none⟩=some (pt a.l.g):=by rw[←q.ou.sg];exact B.cs.cell 5
       have a6:0<w.heap.size:=by
        obtain⟨m,hm⟩:=HM.ou
        exact World.block_lt_of_cell? w _ hm
       have a7:Fp (Pm a D w5):=⟨fun e=>by
        rcases e with e|e
        ·rcases q.ou.f _ e with e|e
         ·exact p.ou.nm e
         ·omega
        ·have:=q.ou.o.size
         omega⟩
       have V:Ml w5:=HM.ou.only q.ou.o p.ou.nm
       have a8:yi (Pm a D w5) w5 D a.l dc:=⟨q.ou.dk,by have:=B.lg;rw[←q.ou.g] at this;exact this,fun b s=>.inl (.inl s),.inl (.inr (.inr rfl))⟩
       have F:G7 (Pm a D w5) w5 fun v=>di fA v A j c:=fun v hv=>HC.ou v (q.ou.o.trans hv fun b s hf=>by
        rcases hf.1 with e|e
        ·rcases q.ou.f b e with e|e
         ·exact e
         ·omega
        ·have:=q.ou.o.size
         omega)
       have HA:=aj (Ru (cap:=cap) a7 V a8 (fun b s=>.inr s) F b9.ou (by omega) a5.ou.1 (by have:=a5.ou.2;omega))
       obtain⟨R,hR⟩:∃R,R=kl a.l c dc:=⟨_,rfl⟩
       obtain⟨⟨W,d3⟩,f3⟩:=R
       have X:W.g=a.l.g:=by have:=NS a.l c dc;rw[←hR] at this;exact this
       have a9:=aj (ak.ou.trans (Jn (h:=a.h) (rows:=Z.rows) hR.symm))
       rw[←hR] at HA
       have bb:=aj F
       clear a7 V a8 F hR a6
       go_wp2_with fail
       refine HA.ou.mono ?_
       rintro e E ⟨rfl,r3,bc,P,G⟩
       have O3:al (a.fp D) w5 E:=G.gU fun b s hf=>by
        rcases hf.1 with e|e
        ·exact e
        ·omega
       have C3:Cs E a.g nC (a.cells r.g):=B.cs.G0 (by decide) (by decide) (by decide) (by decide) G
       have bd:E.ownsRow 0 sD 3 (.slice a.A a.rows.length a.c) a.rows.length (a.rows.flatMap fA.enc):=yR (w0:=Pm a D w5) B.own (by decide) (by decide) (by decide) (by decide) E G
       have bg:E.ownsRow 0 sD 3 (.slice Y k.length t) k.length (k.flatMap fA.enc):=yR (w0:=Pm a D w5) cf.ou (by decide) (by decide) (by decide) (by decide) E G
       have wJ:r3.g=r.g:=bc.trans q.ou.g
       have L3:lh E W r.g:=by have:=P.lg;rw[wJ] at this;exact this
       have F3:∀b,r3.fp b→a.fp D b∨w5.heap.size≤b:=fun b s=>P.fp b s
       have H:=aj P.dk
       have u:=aj C3
       have bi:=aj O3
       have ch:=aj bd
       have bk:=aj bg
       have am:=aj L3
       have bn:=aj F3
       have bo:=aj wJ
       have Q:=aj X
       have de:=aj B
       clear C3 O3 bd bg wJ L3 F3 P G bc q5 B X HA bb
       by_cases I:f3=0
       ·have J:=aj (a9.ou.trans (ab I))
        subst I
        rw[cO]
        have q6:E.cell? ⟨Z.g,6,none⟩=some (.slice a.A a.rows.length a.c):=by rw[←q.ou.sg];exact u.ou.cell 6
        have z6:E.frozen? ⟨Z.g,6,none⟩=false:=by rw[←q.ou.sg];exact u.ou.frozen 6
        go_wp2_with fail
        go_ret
        have bp:=q.ou.sg
        have C4:Cs (E.setCell ⟨Z.g,6,none⟩ (.slice Y k.length t)) a.g nC (jB r.g a.h (pt a.l.g) (.slice Y k.length t)):=by
         rw[←bp]
         have:=u.ou.cM 6 (.slice Y k.length t)
         simp only[ax,aR,aS] at this
         exact this
        have O4:al (fun b=>b=a.g) E (E.setCell ⟨Z.g,6,none⟩ (.slice Y k.length t)):=by rw[←bp];exact(al.refl _ _).at_ 6 _
        refine⟨a.h,W.z,dw Z.rows c,d3,0,J.ou,by rw[cO];rfl,⟨a.g,a.h,W,Y,t,k⟩,r3,q.ou.trans ⟨?_,?_,⟨?_,?_,?_⟩,rfl,?_,?_⟩,rfl,rfl,a1.ou⟩
        ·exact H.ou.aP O4 fun b s e=>by subst e;exact jl H.ou u.ou (by decide) (by decide) (by decide) s
        ·rw[bo.ou,q.ou.g]
        ·rw[q.ou.g]
         show Cs _ a.g nC (jB r.g a.h (pt W.g) (.slice Y k.length t))
         rw[Q.ou]
         exact C4
        ·rw[q.ou.g]
         exact am.ou.aP O4 fun e=>Cs.oC am.ou u.ou (by decide) e
        ·exact cl bk.ou O4 fun b s e=>aO bk.ou u.ou (by decide) b s e
        ·exact bi.ou.trans O4 fun b s e=>.inr (.inl e)
        ·intro b s
         rcases s with e|e|e
         ·exact bn.ou b e
         ·exact .inl (.inr (.inl e))
         ·exact .inl (.inr (.inr (e.trans Q.ou)))
       ·have J:=aj (a9.ou.trans (aa I))
        rw[bS I]
        go_wp2_with fail
        go_ret
        refine⟨a.h,W.z,Z.rows,d3,f3,J.ou,by rw[bS I];rfl,⟨a.g,a.h,W,a.A,a.c,a.rows⟩,r3,q.ou.trans ⟨H.ou,?_,⟨?_,?_,ch.ou⟩,rfl,bi.ou,?_⟩,rfl,rfl,bA.ou⟩
        ·rw[bo.ou,q.ou.g]
        ·rw[q.ou.g]
         show Cs _ a.g nC (jB r.g a.h (pt W.g) (.slice a.A a.rows.length a.c))
         rw[Q.ou]
         exact u.ou
        ·rw[q.ou.g]
         exact am.ou
        ·intro b s
         rcases s with e|e|e
         ·exact bn.ou b e
         ·exact .inl (.inr (.inl e))
         ·exact .inl (.inr (.inr (e.trans Q.ou)))
      ·rw[bS aD]
       have M:=b4.ou
       rw[aa aD] at M
       have ak:Hd (vS Z.h Z.l.z Z.rows c d=(((Z.h,Z.l.z,Z.rows),d1),f1)):=by
        have e1:AV (lf Z.h Z.l.z (eY Z.rows)) (eY Z.rows) d=(d1,f1):=U.ou
        have hk:yH Z.h Z.l.z Z.rows d=(((Z.h,Z.l.z),d1),f1):=by
         unfold yH
         rw[e1,aa aD]
        rw[Hd,ao.ou,hk,aa aD]
       have b8:=aj M
       clear M b4 U ao
       go_wp2_with fail
       go_ret
       exact⟨Z.h,Z.l.z,Z.rows,d1,f1,ak.ou,by rw[bS aD];rfl,a,D,q.ou,b8.ou.1,by rw[b8.ou.2],bA.ou⟩
     ·have k2:decide (((Z.l.many-Z.l.next:Nat):Int)<(j:Int)+1)=false:=aG (by omega)
      have ak:Hd (vS Z.h Z.l.z Z.rows c d=wT Z.h Z.l.z Z.rows c d):=C.ou.trans (aa a3)
      obtain⟨a,bs⟩:∃x,x=Z:=⟨_,rfl⟩
      obtain⟨D,c3⟩:∃x,x=r:=⟨_,rfl⟩
      obtain⟨dc,O⟩:∃x,x=d:=⟨_,rfl⟩
      have q:Hd (lP w w4 Z r a D dc):=by rw[bs,c3,O];exact(lP.start p.ou.st p.ou.dk).ext X4.ou
      have bA:Hd (a.rows=Z.rows):=by rw[bs];rfl
      have a5:Hd (dc.wait.length≤1000∧(a.l.from_≤1000∧a.l.many≤1000∧a.l.next≤a.l.many∧a.l.first≤1000000000000)):=by
       have:=p.ou.l1
       have:=p.ou.wt
       rw[bs,O]
       exact⟨by omega,by omega⟩
      have ak:Hd (vS Z.h Z.l.z Z.rows c d=wT a.h a.l.z Z.rows c dc):=by rw[bs,O];exact ak.ou
      have cf:=aj F4.ou.own
      clear bs c3 O C F4 X4
      go_upto_region 17 with fail
      have B:=q.ou.st
      have q5:w4.cell? ⟨Z.g,5,none⟩=some (pt a.l.g):=by rw[←q.ou.sg];exact B.cs.cell 5
      have a6:0<w.heap.size:=by
       obtain⟨m,hm⟩:=HM.ou
       exact World.block_lt_of_cell? w _ hm
      have a7:Fp (Pm a D w4):=⟨fun e=>by
       rcases e with e|e
       ·rcases q.ou.f _ e with e|e
        ·exact p.ou.nm e
        ·omega
       ·have:=q.ou.o.size
        omega⟩
      have V:Ml w4:=HM.ou.only q.ou.o p.ou.nm
      have a8:yi (Pm a D w4) w4 D a.l dc:=⟨q.ou.dk,by have:=B.lg;rw[←q.ou.g] at this;exact this,fun b s=>.inl (.inl s),.inl (.inr (.inr rfl))⟩
      have F:G7 (Pm a D w4) w4 fun v=>di fA v A j c:=fun v hv=>HC.ou v (q.ou.o.trans hv fun b s hf=>by
       rcases hf.1 with e|e
       ·rcases q.ou.f b e with e|e
        ·exact e
        ·omega
       ·have:=q.ou.o.size
        omega)
      have HA:=aj (Ru (cap:=cap) a7 V a8 (fun b s=>.inr s) F b9.ou (by omega) a5.ou.1 (by have:=a5.ou.2;omega))
      obtain⟨R,hR⟩:∃R,R=kl a.l c dc:=⟨_,rfl⟩
      obtain⟨⟨W,d3⟩,f3⟩:=R
      have X:W.g=a.l.g:=by have:=NS a.l c dc;rw[←hR] at this;exact this
      have a9:=aj (ak.ou.trans (Jn (h:=a.h) (rows:=Z.rows) hR.symm))
      rw[←hR] at HA
      have bb:=aj F
      clear a7 V a8 F hR a6
      go_wp2_with fail
      refine HA.ou.mono ?_
      rintro e E ⟨rfl,r3,bc,P,G⟩
      have O3:al (a.fp D) w4 E:=G.gU fun b s hf=>by
       rcases hf.1 with e|e
       ·exact e
       ·omega
      have C3:Cs E a.g nC (a.cells r.g):=B.cs.G0 (by decide) (by decide) (by decide) (by decide) G
      have bd:E.ownsRow 0 sD 3 (.slice a.A a.rows.length a.c) a.rows.length (a.rows.flatMap fA.enc):=yR (w0:=Pm a D w4) B.own (by decide) (by decide) (by decide) (by decide) E G
      have bg:E.ownsRow 0 sD 3 (.slice Y k.length t) k.length (k.flatMap fA.enc):=yR (w0:=Pm a D w4) cf.ou (by decide) (by decide) (by decide) (by decide) E G
      have wJ:r3.g=r.g:=bc.trans q.ou.g
      have L3:lh E W r.g:=by have:=P.lg;rw[wJ] at this;exact this
      have F3:∀b,r3.fp b→a.fp D b∨w4.heap.size≤b:=fun b s=>P.fp b s
      have H:=aj P.dk
      have u:=aj C3
      have bi:=aj O3
      have ch:=aj bd
      have bk:=aj bg
      have am:=aj L3
      have bn:=aj F3
      have bo:=aj wJ
      have Q:=aj X
      have de:=aj B
      clear C3 O3 bd bg wJ L3 F3 P G bc q5 B X HA bb
      by_cases I:f3=0
      ·have J:=aj (a9.ou.trans (ab I))
       subst I
       rw[cO]
       have q6:E.cell? ⟨Z.g,6,none⟩=some (.slice a.A a.rows.length a.c):=by rw[←q.ou.sg];exact u.ou.cell 6
       have z6:E.frozen? ⟨Z.g,6,none⟩=false:=by rw[←q.ou.sg];exact u.ou.frozen 6
       go_wp2_with fail
       go_ret
       have bp:=q.ou.sg
       have C4:Cs (E.setCell ⟨Z.g,6,none⟩ (.slice Y k.length t)) a.g nC (jB r.g a.h (pt a.l.g) (.slice Y k.length t)):=by
        rw[←bp]
        have:=u.ou.cM 6 (.slice Y k.length t)
        simp only[ax,aR,aS] at this
        exact this
       have O4:al (fun b=>b=a.g) E (E.setCell ⟨Z.g,6,none⟩ (.slice Y k.length t)):=by rw[←bp];exact(al.refl _ _).at_ 6 _
       refine⟨a.h,W.z,dw Z.rows c,d3,0,J.ou,by rw[cO];rfl,⟨a.g,a.h,W,Y,t,k⟩,r3,q.ou.trans ⟨?_,?_,⟨?_,?_,?_⟩,rfl,?_,?_⟩,rfl,rfl,a1.ou⟩
       ·exact H.ou.aP O4 fun b s e=>by subst e;exact jl H.ou u.ou (by decide) (by decide) (by decide) s
       ·rw[bo.ou,q.ou.g]
       ·rw[q.ou.g]
        show Cs _ a.g nC (jB r.g a.h (pt W.g) (.slice Y k.length t))
        rw[Q.ou]
        exact C4
       ·rw[q.ou.g]
        exact am.ou.aP O4 fun e=>Cs.oC am.ou u.ou (by decide) e
       ·exact cl bk.ou O4 fun b s e=>aO bk.ou u.ou (by decide) b s e
       ·exact bi.ou.trans O4 fun b s e=>.inr (.inl e)
       ·intro b s
        rcases s with e|e|e
        ·exact bn.ou b e
        ·exact .inl (.inr (.inl e))
        ·exact .inl (.inr (.inr (e.trans Q.ou)))
      ·have J:=aj (a9.ou.trans (aa I))
       rw[bS I]
       go_wp2_with fail
       go_ret
       refine⟨a.h,W.z,Z.rows,d3,f3,J.ou,by rw[bS I];rfl,⟨a.g,a.h,W,a.A,a.c,a.rows⟩,r3,q.ou.trans ⟨H.ou,?_,⟨?_,?_,ch.ou⟩,rfl,bi.ou,?_⟩,rfl,rfl,bA.ou⟩
       ·rw[bo.ou,q.ou.g]
       ·rw[q.ou.g]
        show Cs _ a.g nC (jB r.g a.h (pt W.g) (.slice a.A a.rows.length a.c))
        rw[Q.ou]
        exact u.ou
       ·rw[q.ou.g]
        exact am.ou
       ·intro b s
        rcases s with e|e|e
        ·exact bn.ou b e
        ·exact .inl (.inr (.inl e))
        ·exact .inl (.inr (.inr (e.trans Q.ou)))
   ·have C:=aj (ag.ou.trans (ab (.inl rfl)))
    go_wp2_with fail
    go_ret
    exact⟨Z.h,Z.l.z,Z.rows,d,10,C.ou,by rw[bS (by decide)];rfl,Z,r,(lP.start p.ou.st p.ou.dk).ext X2.ou,rfl,rfl,rfl⟩
theorem DL:∀c:List Ch,0≤j4 c∧j4 c≤3:=by
 intro c
 induction c with
 | nil=>decide
 | cons a r ih=>
  unfold j4
  split
  ·exact ih
  ·unfold dQ
   repeat' split
   all_goals decide
theorem GY (h:j4 c=0):∀x∈c,dQ x=0:=by
 induction c with
 | nil=>intro x b;cases b
 | cons a r ih=>
  unfold j4 at h
  split at h
  ·rename_i ha
   intro x b
   rcases aY.1 b with e|b
   ·rw[e];exact ha
   ·exact ih h x b
  ·rename_i ha
   exact absurd h ha
theorem QN    (H:gM d.now h l rows)(E:d.Ok)(F:d.kept=d.now)(G:d.wait=[])(M:d.ix=-1∨sq l d.now)(N:h.bU+1≤1000000000∧l.first+l.many≤1000000000) :
  ∃h' l' rows' d' f,vS h l rows c d=(((h',l',rows'),d'),f)∧d'.now.length=d.now.length ∧
   ((f≠0∧f≠11∧0≤f∧h'=h∧l'=l∧rows'=rows∧d'=d∧KK rows l.next l.many c=((rows,l.next),f)) ∨
    (f=0∧d'.Ok∧d'.kept=d'.now∧d'.wait=[]∧(d.ix=-1→d'.ix=-1)∧gM d'.now h' l' rows'∧rows'=dw rows c∧KK rows l.next l.many c=((rows',l'.next),0)∧l'.many=l.many∧(sq l d.now→sq l' d'.now)∧h'.bU≤h.bU+1∧l'.first≤l.first+l.many) ∨
    (f=11∧d.ix≠-1∧∀K,∃w g j,(j=rows∨j=dw rows c)∧gM (eV K d'.kept d'.wait 0) w g j∧w.bU≤h.bU+1∧g.first≤l.first+l.many)):=by
 have O:=H.lg
 have R:=H.n
 unfold vS KK
 by_cases b:40<c.length
 ·rw[ab b,ab b]
  exact⟨h,l,rows,d,2,rfl,rfl,.inl ⟨by decide,by decide,by decide,rfl,rfl,rfl,rfl,rfl⟩⟩
 rw[aa b,aa b]
 by_cases m:j4 c=0
 ·have q:¬(j4 c≠0):=fun e=>e m
  rw[aa q,aa q]
  have I:=GY m
  have a:l.many=d.now.length-44:=O.2.1
  rw[←a]
  by_cases r:lK (dw rows c)=true∨l.many<c.length+1
  ·rw[ab r,ab r]
   exact⟨h,l,rows,d,10,rfl,rfl,.inl ⟨by decide,by decide,by decide,rfl,rfl,rfl,rfl,rfl⟩⟩
  rw[aa r,aa r]
  have J:lK (dw rows c)=false:=by
   cases e:lK (dw rows c)
   ·rfl
   ·exact absurd (.inl e) r
  by_cases y:l.many-l.next<c.length+1
  ·rw[ab y,ab y]
   obtain⟨z,S,L,A,P⟩:=NP H E F G N
   rcases P with⟨rfl,o1,kn1,wt1,fu1,H1,sc1,nu1⟩|⟨rfl,hfu,hK⟩
   ·have o:yH h l rows d=(((lf h l (eY rows),⟨0,44,d.now.length-44,l.first+l.many,0⟩),z),0):=by
     unfold yH
     rw[L,ab rfl]
     unfold RP
     rw[show(lf h l (eY rows)).first=l.first+l.many from rfl,sc1]
    have i:sq ⟨0,44,d.now.length-44,l.first+l.many,0⟩ z.now:=fun k s _ p k3 x=>by
     have:=nu1 k s p k3
     show je s (l.first+l.many+k)≠_
     rw[this]
     exact fun e=>by cases e
    rw[o,ab rfl]
    dsimp only
    have B:=H1 0
    obtain⟨t,Q,C,u,D⟩:=J0 (c:=c) B o1 kn1 wt1 (.inr i) I m (by omega) (by show 0+c.length+1≤d.now.length-44;omega) J
    unfold wT
    rw[C]
    dsimp only
    rcases D with⟨rfl,o2,kn2,wt2,fu2,H2,dl2⟩|⟨rfl,hfu,hK⟩
    ·rw[ab rfl,ab rfl]
     exact⟨_,_,_,t,0,rfl,by rw[u,A],.inr (.inl ⟨rfl,o2,kn2,wt2,fun e=>fu2 (fu1 e),H2,rfl,by show((dw rows c,0+c.length+1),(0:Int))=_;rfl,a.symm,fun _=>dl2 i,aq _,aq _⟩)⟩
    ·rw[aa (by decide)]
     refine⟨_,_,_,t,11,rfl,by rw[u,A],.inr (.inr ⟨rfl,fun e=>hfu (fu1 e),fun K=>?_⟩)⟩
     obtain⟨g,j,v,p⟩:=hK K
     exact⟨_,g,j,v,p,aq _,by have:=p.lg.2.2.1;rw[this];exact aq _⟩
   ·have o:yH h l rows d=(((h,l),z),11):=by
     unfold yH
     rw[L,aa (show ¬(11:Int)=0 by decide)]
    rw[o,aa (show ¬(11:Int)=0 by decide)]
    refine⟨h,l,rows,z,11,rfl,A,.inr (.inr ⟨rfl,hfu,fun K=>?_⟩)⟩
    obtain⟨w,g,v,b1,b2⟩:=hK K
    exact⟨w,g,rows,.inl rfl,v,b1,b2⟩
  ·rw[aa y,aa y]
   obtain⟨t,Q,C,u,D⟩:=J0 (c:=c) H E F G M I m (by omega) (by omega) J
   unfold wT
   rw[C]
   dsimp only
   rcases D with⟨rfl,o2,kn2,wt2,fu2,H2,dl2⟩|⟨rfl,hfu,hK⟩
   ·rw[ab rfl,ab rfl]
    exact⟨h,_,_,t,0,rfl,u,.inr (.inl ⟨rfl,o2,kn2,wt2,fu2,H2,rfl,rfl,rfl,dl2,fN _,fU _ _⟩)⟩
   ·rw[aa (by decide)]
    refine⟨h,_,_,t,11,rfl,u,.inr (.inr ⟨rfl,hfu,fun K=>?_⟩)⟩
    obtain⟨g,j,v,p⟩:=hK K
    exact⟨h,g,j,v,p,fN _,by have:=p.lg.2.2.1;have:=H.lg.2.2.1;omega⟩
 ·rw[ab m,ab m]
  have:=DL c
  exact⟨h,l,rows,d,j4 c,rfl,rfl,.inl ⟨m,by omega,this.1,rfl,rfl,rfl,rfl,rfl⟩⟩
theorem gM.z{a:List aK}   (H:gM a h l rows)(g:Nat):gM a h { l with g:=g } rows:=⟨H.wide,H.n,H.lg,H.hd,H.cur,H.Bu,H.all,H.jx,H.num⟩
structure sL (w0 w:World) (Z:pq) (r:jZ) (d:Dk):Prop where
 st:gq w Z r.g
 dk:ef w r d
 on:gM d.now Z.h Z.l Z.rows
 ok:d.Ok
 kn:d.kept=d.now
 wt:d.wait=[]
 fp:∀b,Z.fp r b→w0.heap.size≤b
theorem sL.ext{w0 w v:World}{Z:pq}{r:jZ}{d:Dk}(h:sL w0 w Z r d)(a:bf w v):sL w0 v Z r d:=⟨h.st.ext a,h.dk.ext a,h.on,h.ok,h.kn,h.wt,h.fp⟩
theorem sL.RS    (h:sL w0 w Z r d)(a:Ml w0):RE w Z r d:=
 ⟨h.st,h.dk,h.on.wide,h.on.n.1,h.on.n.2,by rw[h.wt];exact au _,fun e=>by
  obtain⟨m,a⟩:=a
  have b:=World.block_lt_of_cell? w0 _ a
  have c:=h.fp _ e
  dsimp only at b
  omega,⟨h.on.lg.1,h.on.lg.2.1,h.on.lg.2.2.2.2.1,h.on.lg.2.2.2.2.2⟩,⟨h.on.hd.2.2.1,h.on.hd.2.1⟩,h.on.jx.1,by have:=h.on.small;omega,h.on.small.2⟩
theorem lP.fp0{w':World}{a:pq}{c:jZ}{d:Dk}(h:lP w w' Z r a c d)(g:∀b,Z.fp r b→w0.heap.size≤b)(i:w0.heap.size≤w.heap.size):∀b,a.fp c b→w0.heap.size≤b:=fun b hb=>by
 rcases h.f b hb with e|e
 ·exact g b e
 ·omega
theorem re{s:aK}(h:i7 s=true):s.length≤8:=by
 unfold i7 at h
 simp only[aI,bh] at h
 exact h.1.2
abbrev mX(n:aK):aK:=102::47::n
abbrev qm(n:aK):aK:=100::47::n
def Jd(c:Ch):Option bm:=if c.1.getD 0 0=102 then some (c.1.drop 2,c.2.1) else none
def bL(rows:List Ch):List bm:=rows.filterMap Jd
def gY(rows:List Ch)(n:aK):Option iT:=(dY ck (qm n) rows).map fun c=>(oh c.2.1).1
def sR(rows:List Ch):Prop:=∀c∈rows,c.1.getD 0 0≠102→(oh c.2.1).2=0
theorem qO{c:Ch}(h:dQ c=0):∃n,i7 n=true∧((c.1=mX n∧c.2.1.length≤20)∨c.1=qm n)∧c.2.1.length≤300:=by
 have a:c.2.1.length≤300:=by
  unfold dQ at h
  split at h
  ·split at h
   ·cases h
   ·rename_i h2;omega
  ·cases h
 have d:c.1.getD 0 0=102→c.2.1.length≤20:=fun e=>EO h e
 have b:rD c=true:=by
  unfold dQ at h
  split at h
  ·assumption
  ·cases h
 obtain⟨key,v,g⟩:=c
 unfold rD at b
 rw[aI] at b
 obtain⟨b,-⟩:=b
 match key,b with
 | k::s::n,b=>
  simp only[aI,cd,bY] at b
  obtain⟨⟨i,rfl⟩,f⟩:=b
  rcases i with rfl|rfl
  ·exact⟨n,f,.inl ⟨rfl,d rfl⟩,a⟩
  ·exact⟨n,f,.inr rfl,a⟩
theorem rT(n:aK):∀{rows:List Ch},(∀c∈rows,dQ c=0)→dY fk n (bL rows)=(dY ck (mX n) rows).map fun c=>(n,c.2.1)
 | [],_=>rfl
 | c::rows,h=>by
  obtain⟨m,-,b,-⟩:=qO (h c bO)
  have ih:=rT n (rows:=rows) fun x hx=>h x (aE _ hx)
  obtain⟨key,v,g⟩:=c
  rw[eZ]
  rcases b with⟨e,-⟩|e<;>(have e:key=_:=e;subst e)
  ·show dY fk n ((m,v)::bL rows)=_
   rw[eZ]
   by_cases a:m=n
   ·subst a;rw[ab rfl,ab rfl];rfl
   ·rw[aa a,aa (fun e=>a (by have e:mX m=mX n:=e;simpa using e))];exact ih
  ·rw[aa (fun e=>by have e:(100:UInt8)::47::m=102::47::n:=e;simp at e)]
   exact ih
theorem lr (i:eQ ck rows)(h:∀c∈rows,dQ c=0):eQ fk (bL rows):=by
 have a:∀c∈rows,∀f,Jd c=some f→c.1=mX f.1:=fun c hc f hf=>by
  obtain⟨m,-,a,-⟩:=qO (h c hc)
  obtain⟨key,v,g⟩:=c
  rcases a with⟨e,-⟩|e<;>(have e:key=_:=e;subst e)
  ·cases hf;rfl
  ·cases hf
 clear h
 induction rows with
 | nil=>exact List.Pairwise.nil
 | cons c rows ih=>
  have ih:=ih i.tail fun x hx=>a x (aE _ hx)
  unfold bL
  rw[jD]
  cases hc:Jd c with
  | none=>exact ih
  | some f=>
   refine dp.2 ⟨fun y b=>?_,ih⟩
   obtain⟨d,j,b⟩:=fX.1 b
   have k:=a c bO f hc
   have l:=a d (aE _ j) y b
   have:=i.head d j
   have this:c.1<d.1:=this
   rw[k,l] at this
   simpa [fR] using this
theorem fh (h:lJ rows)(d:lK rows=false):(bL rows).length≤20∧eQ fk (bL rows)∧∀f∈bL rows,i7 f.1=true∧f.2.length≤20:=by
 refine⟨?_,lr h.pj h.ok,fun f a=>?_⟩
 ·have e:∀rows:List Ch,(bL rows).length=jA rows:=fun rows=>by
   induction rows with
   | nil=>rfl
   | cons c rows ih=>
    unfold bL jA
    rw[jD,dC]
    unfold Jd
    by_cases b:c.1.getD 0 0=102
    ·rw[ab b,ab (by simpa using b)]
     exact congrArg (·+1) ih
    ·rw[aa b,aa (by simpa using b)]
     exact ih
  rw[e]
  unfold lK at d
  simp only[dM,aA] at d
  omega
 ·obtain⟨c,i,a⟩:=fX.1 a
  obtain⟨m,j,k,-⟩:=qO (h.ok c i)
  obtain⟨key,v,g⟩:=c
  rcases k with⟨e,h3⟩|e<;>(have e:key=_:=e;subst e)
  ·cases a;exact⟨j,h3⟩
  ·cases a
abbrev cF(f:bm):Ch:=(mX f.1,f.2,false)
abbrev cD(K:aK→Option iT)(n:aK):Ch:=(qm n,lQ ((K n).getD su),false)
theorem zw {l:List bm}(a:eQ ck rows)(h:∀c∈rows,dQ c=0)(b:eQ fk l)(d:∀k,(dY ck (mX k) rows).map (fun c=>(k,c.2.1))=dY fk k l):bL rows=l:=
 oZ (lr a h) b fun k=>(rT k h).trans (d k)
theorem Dm (h:lJ rows){c:Ch}(a:dQ c=0):lJ (jq rows c):=h.apply (c:=[c]) fun x hx=>by rw[aC.1 hx];exact a
theorem Cn (h:lJ rows){f:bm}(c:dQ (cF f)=0):bL (jq rows (cF f))=jY fk f (bL rows):=by
 have b:=Dm h c
 refine zw b.pj b.ok (ny (lr h.pj h.ok) f) fun k=>?_
 rw[pU]
 by_cases a:k=f.1
 ·subst a
  rw[ab rfl]
  exact(sM (key:=fk) f _).symm
 ·rw[aa (fun e=>a (by simpa using e)),my (key:=fk) f a]
  exact(rT k h.ok).symm
theorem Mc (h:lJ rows){n t:aK}(b:dQ (qm n,t,false)=0):bL (jq rows (qm n,t,false))=bL rows:=by
 have a:=Dm h b
 refine zw a.pj a.ok (lr h.pj h.ok) fun k=>?_
 rw[pU,aa (fun e=>by have e:(102:UInt8)::47::k=100::47::n:=e;simp at e)]
 exact(rT k h.ok).symm
theorem xu(rows:List Ch)(n t:aK)(g:Bool):gY (jq rows (mX n,t,g))=gY rows:=by
 funext k
 unfold gY
 rw[pU,aa (fun e=>by have e:(100:UInt8)::47::k=102::47::n:=e;simp at e)]
theorem Np(rows:List Ch)(n t:aK):gY (jq rows (qm n,t,false))=fun k=>if k=n then some (oh t).1 else gY rows k:=by
 funext k
 unfold gY
 rw[pU]
 by_cases a:k=n
 ·subst a;rw[ab rfl,ab rfl];rfl
 ·rw[aa (fun e=>a (by simpa using e)),aa a]
theorem LR{l:List Ch}(h:sR rows)(a:sR l):sR (dw rows l):=fun c hc=>by
 rcases rN hc with hc|⟨hc,-⟩
 ·exact h c hc
 ·exact a c hc
abbrev Pp(out:List bm)(K:aK→Option iT)(names:List aK):List Ch:=out.map cF++names.map (cD K)
theorem Cb:∀(out:List bm) {rows:List Ch} (_:lJ rows) (_:∀c∈out.map cF,dQ c=0),lJ (dw rows (out.map cF))∧bL (dw rows (out.map cF))=dE out (bL rows)∧gY (dw rows (out.map cF))=gY rows
 | [],_,h,_=>⟨h,rfl,rfl⟩
 | f::out,rows,h,hc=>by
  have a:=hc (cF f) bO
  obtain⟨b,d,e⟩:=Cb out (Dm h a) fun c hx=>hc c (aE _ hx)
  exact⟨b,d.trans (by rw[Cn h a];rfl),e.trans (xu _ _ _ _)⟩
theorem FG(K:aK→Option iT)(hK:∀n r,K n=some r→oh (lQ r)=(r,0)):∀(ns:List aK) {rows:List Ch} (_:lJ rows) (_:∀c∈ns.map (cD K),dQ c=0) (_:∀n∈ns,(K n).isSome=true),
  lJ (dw rows (ns.map (cD K)))∧bL (dw rows (ns.map (cD K)))=bL rows∧gY (dw rows (ns.map (cD K)))=fun k=>if k∈ns then K k else gY rows k
 | [],_,h,_,_=>⟨h,rfl,by funext k;simp;rfl⟩
 | n::ns,rows,h,hc,hs=>by
  have e:=hc (cD K n) bO
  obtain⟨a,b,f⟩:=FG K hK ns (Dm h e) (fun c hx=>hc c (aE _ hx)) fun m hm=>hs m (aE _ hm)
  refine⟨a,b.trans (Mc h e),f.trans ?_⟩
  obtain⟨r,d⟩:=dz.1 (hs n bO)
  funext k
  rw[Np]
  show(if k∈ns then K k else if k=n then some (oh (lQ ((K n).getD su))).1 else gY rows k)=_
  rw[d]
  by_cases a:k∈ns
  ·rw[ab a,ab (aE _ a)]
  ·rw[aa a]
   by_cases b:k=n
   ·subst b
    rw[ab rfl,ab bO,d,Option.getD_some,hK k r d]
   ·rw[aa b,aa (by simp[a,b])]
def oN(rows l:List Ch):List Ch×Int:=
 if 40<l.length then (rows,2) else if j4 l≠0 then (rows,j4 l) else if lK (dw rows l)=true then (rows,10) else (dw rows l,0)
theorem ni(rows l:List Ch):(oN rows l=(dw rows l,0)∧(∀c∈l,dQ c=0)∧lK (dw rows l)=false)∨((oN rows l).1=rows∧0<(oN rows l).2∧(oN rows l).2<11):=by
 unfold oN
 split
 ·exact .inr ⟨rfl,by simp,by simp⟩
 ·split
  ·rename_i h
   refine .inr ⟨rfl,?_,?_⟩
   ·have:=DL l;show 0<j4 l;omega
   ·have:=DL l;show j4 l<11;omega
  ·rename_i h
   split
   ·exact .inr ⟨rfl,by simp,by simp⟩
   ·rename_i hm
    exact .inl ⟨rfl,GY (by omega),by simpa using hm⟩
structure nu (rows:List Ch):Prop where
 jx:lJ rows
 E9:lK rows=false
 prs:sR rows
theorem nu.RS{l:List Ch}(h:nu rows)(a:(oN rows l).2=0→sR l):nu (oN rows l).1:=by
 rcases ni rows l with⟨e,h1,h2⟩|⟨e,-,-⟩
 ·rw[e] at a ⊢
  exact⟨h.jx.apply h1,h2,LR h.prs (a rfl)⟩
 ·rw[e];exact h
end Go.Proofs.YtpgmcijdcnnjpaaGreatDoor
