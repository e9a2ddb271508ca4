/- Lemmas for it. -/
import Derived.Test.YtpgmcijdcnnjpaaGreatDoorPk16
set_option linter.all false
set_option maxRecDepth 100000
set_option maxHeartbeats 1000000
namespace Go.Proofs.YtpgmcijdcnnjpaaGreatDoor
open Go Go.RowKit
variable {v w:World} {b c i k n uc:Nat} {f:aK→Option Value} {α:Type} {A uA:Option Addr} {gs:List dv} {u:List Nat} {G:dv} {l own:List bm} {K:List (aK×iT)} {os:List (fW×dv)}
def ja(K:List (aK×iT)):aK→Option iT:=K.foldl (fun f p s=>if s=p.1 then some p.2 else f s) fun _=>none
theorem rY(K:List (aK×iT))(p:aK×iT):ja (K++[p])=fun s=>if s=p.1 then some p.2 else ja K s:=by
 unfold ja
 rw[eW]
 try rfl
theorem J3{F:aK→Option (jy×iT)}(s:aK)(V:jy)(R:iT):Mj (fun k=>if k=s then some (V,R) else F k)=fun k=>if k=s then some (vJ V R) else Mj F k:=by
 funext k
 show Option.map _ (if k=s then some (V,R) else F k)=_
 split<;>rfl
structure PV (w:World) (b n:Nat) (K:List (aK×iT)) (F:aK→Option (jy×iT)):Prop where
 m:lZ w b n (Mj F)
 r:Ry w F
 k:∀s,(F s).map (·.2)=ja K s
theorem PV.ext{w v:World}{b n:Nat}{K:List (aK×iT)}{F:aK→Option (jy×iT)}(h:PV w b n K F)(a:bf w v):PV v b n K F:=⟨h.m.aP a id,h.r.ext a,h.k⟩
theorem lZ.row   (h:lZ w b n f)(a:al (fun q=>q=b) w v) {T:kJ α} {m:Nat}{xs:List α}(c:di T w A m xs):di T v A m xs:=
 ⟨c.1,fun h0=>by
  obtain⟨g,o,e,d,i⟩:=c.2 h0
  exact⟨g,o,e,bZ d a.size,fun k x hk j u hu=>h.cell a d (i k x hk j u hu)⟩⟩
theorem lZ.rcd   (h:lZ w b n f)(a:al (fun q=>q=b) w v){V:jy}{r:iT}(d:pz w V r):pz v V r:=⟨h.row a d.c,h.row a d.n,h.row a d.o⟩
theorem PV.put{w:World}{b n:Nat}{K:List (aK×iT)}{F:aK→Option (jy×iT)}(h:PV w b n K F)(d:n<maxLen)(s:aK)(f:s.length≤maxLen){V:jy}{R:iT}(g:pz w V R)(i:R.bD.length≤10000∧R.aN.length≤10000∧R.ou.length≤10000) :
  ∃w' F',(Instr.mapUpdate uj (.map (some b)) (S s) (vJ V R)).run Tryz.prog w=.ok () w'∧PV w' b (n+1) (K++[(s,R)]) F'∧al (fun q=>q=b) w w':=by
 obtain⟨w',j,l,c⟩:=h.m.put d s f (vJ V R)
 refine⟨w',fun k=>if k=s then some (V,R) else F k,j,⟨?_,fun t p e=>?_,fun t=>?_⟩,c⟩
 ·rw[J3];exact l
 ·by_cases a:t=s
  ·have e:(if t=s then some (V,R) else F t)=some p:=e
   rw[ab a] at e
   cases e
   exact⟨h.m.rcd c g,i⟩
  ·have e:(if t=s then some (V,R) else F t)=some p:=e
   rw[aa a] at e
   obtain⟨o,u⟩:=h.r t p e
   exact⟨h.m.rcd c o,u⟩
 ·rw[rY]
  show(if t=s then some (V,R) else F t).map _=if t=s then some R else ja K t
  by_cases a:t=s
  ·rw[ab a,ab a];rfl
  ·rw[aa a,aa a];exact h.k t
def PM(w:World)(R:(List bm×List (aK×iT))×Int)(e:Ending)(w':World):Prop:=
 bf w w'∧((R.2=0∧∃(A:Option Addr) (c b n:Nat) (F:aK→Option (jy×iT)),e=.returned (.tuple #[.slice A R.1.1.length c,.map (some b),.nilIface])∧di br w' A R.1.1.length R.1.1∧PV w' b n R.1.2 F∧w.heap.size≤b∧n≤1000) ∨
  (R.2≠0∧e=.returned (.tuple #[.slice none 0 0,.map none,eT R.2])))
theorem IZ    {out:List bm} (a:u[i]?=some k)(b:gs[k]?=some G) :
  eB gs (u.drop i) l out K=if G.ba=true then eB gs (u.drop (i+1)) l out K else if (gV l G).2≠0 then (([],[]),(gV l G).2)
   else eB gs (u.drop (i+1)) (dE (gV l G).1.1 l) (dE (gV l G).1.1 out) (K++[(G.targets.headD [],(gV l G).1.2)]):=by
 obtain⟨c,d⟩:=aw.1 a
 rw[cB c,d,eB,b]
theorem EN(own l:List bm)(f:bm):dE (own++[f]) l=jY fk f (dE own l):=by
 unfold dE
 rw[eW]
 try rfl
theorem th {j:Nat}{f:bm}(a:own[j]?=some f)(l:List bm):dE (own.take (j+1)) l=jY fk f (dE (own.take j) l):=by
 rw[aU,a]
 exact EN _ _ _
theorem Ob  (a:Uf G)(b:RO l):eQ fk (gV l G).1.1∧(gV l G).1.1.length≤100∧(∀f∈(gV l G).1.1,f.1.length≤10000∧f.2.length≤1000)∧(gV l G).1.2.Ku:=by
 have e:=mP l G
 have g:=yY (xs:=l) a.lt
 have h:su.Ku:=⟨by decide,by decide,by decide,(fun x hx=>by cases hx),(fun x hx=>by cases hx),(fun x hx=>by cases hx)⟩
 have d:(i6 l G).1.length≤100:=aJ e.2.1 a.c
 unfold gV
 split
 ·exact⟨List.Pairwise.nil,au _,(fun f b=>by cases b),h⟩
 ·split
  ·exact⟨List.Pairwise.nil,au _,(fun f b=>by cases b),h⟩
  ·exact⟨e.1,d,g,Cp b.x g a.c a.n d (fun x hx=>by have:=a.lc x hx;omega) a.ln⟩
theorem RO.put (h:RO l) (a:∀f∈own,f.1.length≤10000∧f.2.length≤1000)(b:l.length+own.length≤1000):RO (dE own l):=
 ⟨aJ (ma own l) b,jG own h.r,fun f hf=>(rP own hf).elim (a f) (h.x f)⟩
theorem Tr  (hE:GL w)     (hG:jW w A os gs) (hb:∀g∈gs,Uf g∧1≤g.targets.length∧g.bD.length≤3)
   (hu:di G9 w uA u.length u) (ej:u.length≤10) (bA:∀k∈u,k<gs.length) {lA:Option Addr} {lc:Nat}  (hl:di br w lA l.length l) (hf:RO l) (ek:l.length≤500) :
  Calls Tryz.prog 74 #[.slice A gs.length c,.slice uA u.length uc,.slice lA l.length lc] w (PM w (eB gs u l [] [])):=by
 have HG:=aj hG
 have HB:=aj hb
 have HU:=aj hu
 have dl:=aj bA
 have HE:=aj hE
 have HL:=aj hl
 have HF:=aj hf
 have dn:=@run_makeMap Tryz.prog
 obtain⟨w1,ak⟩:∃u,u=w.alloc (.map #[] 0):=⟨_,rfl⟩
 obtain⟨b,am⟩:∃b,b=w.heap.size:=⟨_,rfl⟩
 have M1:Hd (PV w1 b 0 [] fun _=>none):=⟨by rw[ak,am];exact lZ.made w,(fun s p e=>by cases e),fun s=>rfl⟩
 have X1:Hd (bf w w1):=by rw[ak];exact(al.refl No w).alloc _
 have b4:Hd (w.heap.size≤b):=ij am.symm
 clear hG hb hu bA hE hl hf
 go_enter Tryz.func74,Tryz.ntmps74
 go_upto_region 3 with fail
 rw[←ak,←am]
 clear ak am dn
 go_wp2_with fail
 go_loopw [22,9,2] (fun iv ov lv wr=>∃i:Nat,i≤u.length∧iv=.int .i64 i∧∃(D:Option Addr) (oc:Nat) (O:List bm) (z:Option Addr) (I:Nat) (L:List bm) (K:List (aK×iT)) (F:aK→Option (jy×iT)) (n:Nat),
  ov=.slice D O.length oc∧lv=.slice z L.length I∧di br wr D O.length O∧di br wr z L.length L∧eQ fk O∧O.length≤3*i∧RO L∧L.length≤l.length+3*i∧PV wr b n K F∧n≤i∧eB gs (u.drop i) L O K=eB gs u l [] []∧bf w wr) (fun iv _ _ _=>u.length-(intOf iv).toNat)
 case atStart=>exact⟨0,au _,rfl,none,0,[],lA,lc,l,[],_,0,rfl,rfl,di.none_,HL.ou.ext X1.ou,List.Pairwise.nil,aq _,HF.ou,by omega,M1.ou,aq _,rfl,X1.ou⟩
 case round=>
  clear M1 X1 HL HF
  obtain⟨i,hi,rfl,D,oc,O,z,I,L,K,F,n,rfl,rfl,hO,hL,b5,em,b6,en,hM,ep,b8,E⟩:=hrel
  have HO:=aj hO
  have HL:=aj hL
  have b9:=aj b5
  have J:=aj b6
  have HM:=aj hM
  have M:=aj b8
  have XR:=aj E
  clear hO hL b5 b6 hM b8 E
  by_cases ds:i<u.length
  ·obtain⟨bu,ou,k,rfl,a7,cu⟩:=v7 HU.ou ds
   have dt:k<gs.length:=dl.ou k (ah a7)
   obtain⟨bg,o,⟨⟨tA,tc,nA,nc,cA,cc⟩,G⟩,rfl,a8,c0,c1,c2,c3⟩:=kz HG.ou.row dt
   have a9:gs[k]?=some G:=by rw[←HG.ou.om,bP,a8];rfl
   obtain⟨ca,er,dA⟩:=HB.ou G (ah a9)
   have bb:=aj ca
   have ao:Hd (di cI w tA G.targets.length G.targets∧di cI w nA G.aN.length G.aN∧di cI w cA G.bD.length G.bD):=HG.ou.rr _ (ah a8)
   have N:=aj (IZ (l:=L) (out:=O) (K:=K) a7 a9)
   have e0:wr.cell? ⟨bu,ou+i,none⟩=some (.int .i64 (k:Int)):=cu ⟨wr,XR.ou⟩
   have q0:wr.cell? ⟨bg,o+k*4,none⟩=some (.slice tA G.targets.length tc):=c0 ⟨wr,XR.ou⟩
   have q1:wr.cell? ⟨bg,o+k*4+1,none⟩=some (.slice nA G.aN.length nc):=c1 ⟨wr,XR.ou⟩
   have q2:wr.cell? ⟨bg,o+k*4+2,none⟩=some (.slice cA G.bD.length cc):=c2 ⟨wr,XR.ou⟩
   have q3:wr.cell? ⟨bg,o+k*4+3,none⟩=some (.bool G.ba):=c3 ⟨wr,XR.ou⟩
   clear cu c0 c1 c2 c3 a8 a9 a7 ca
   go_upto_region 7 with fail
   obtain⟨w2,ap⟩:∃u,u=wr.alloc (.cells #[.slice tA G.targets.length tc,.slice nA G.aN.length nc,.slice cA G.bD.length cc,.bool G.ba] ia):=⟨_,rfl⟩
   obtain⟨b7,av⟩:∃g,g=wr.heap.size:=⟨_,rfl⟩
   rw[←ap,←av]
   have x2:bf wr w2:=by rw[ap];exact(al.refl No _).alloc _
   have B7:Hd (Cs w2 b7 ia #[.slice tA G.targets.length tc,.slice nA G.aN.length nc,.slice cA G.bD.length cc,.bool G.ba]):=by rw[ap,av];exact Cs.new _ _ _
   have X2:=aj (XR.ou.ae x2)
   have bc:=aj (HO.ou.ext x2)
   have aD:=aj (HL.ou.ext x2)
   have bd:=aj (HM.ou.ext x2)
   have es:Hd (wr.heap.size≤b7):=ij av.symm
   have y0:w2.cell? ⟨b7,0,none⟩=some (.slice tA G.targets.length tc):=B7.ou.cell 0
   have y1:w2.cell? ⟨b7,1,none⟩=some (.slice nA G.aN.length nc):=B7.ou.cell 1
   have y2:w2.cell? ⟨b7,2,none⟩=some (.slice cA G.bD.length cc):=B7.ou.cell 2
   have y3:w2.cell? ⟨b7,3,none⟩=some (.bool G.ba):=B7.ou.cell 3
   have P:Hd (Calls Tryz.prog 125 #[.agg #[.slice tA G.targets.length tc,.slice nA G.aN.length nc,.slice cA G.bD.length cc,.bool G.ba],.slice z L.length I] w2 (OG w2 L G)):=Vq (a:=⟨tA,tc,nA,nc,cA,cc⟩) (HE.ou.ext X2.ou) (ao.ou.1.ext X2.ou) (ao.ou.2.1.ext X2.ou) (ao.ou.2.2.ext X2.ou) bb.ou aD.ou J.ou
   clear ap av x2 q0 q1 q2 q3 e0 HO HL HM XR
   obtain⟨ph,cb⟩:∃b,b=G.ba:=⟨_,rfl⟩
   rw[←cb] at N y3 P B7
   clear cb
   cases ph with
   | true=>
    have ce:Hd (eB gs (u.drop (i+1)) L O K=eB gs u l [] []):=by rw[Hd,←M.ou,N.ou,ab rfl]
    go_wp2_with fail
    go_roundw
    case rel=>exact⟨i+1,by omega,by go_num,D,oc,O,z,I,L,K,F,n,rfl,rfl,bc.ou,aD.ou,b9.ou,by omega,J.ou,by omega,bd.ou,by omega,ce.ou,X2.ou⟩
    case measure=>simp[intOf];omega
   | false=>
    have Q:=aj (Ob bb.ou J.ou)
    have bi:=aj (show(gV L G).1.1.length≤3 by
     have:=(mP L G).2.1
     unfold gV
     split
     ·exact au _
     ·split
      ·exact au _
      ·exact aJ this dA)
    have y:Hd (Calls Tryz.prog 125 #[.agg #[.slice tA G.targets.length tc,.slice nA G.aN.length nc,.slice cA G.bD.length cc,.bool false],.slice z L.length I] w2 fun e w'=>∃(B:Option Addr) (d:Nat) (V:jy),e=.returned (.tuple #[.slice B (gV L G).1.1.length d,vJ V (gV L G).1.2,eT (gV L G).2])∧di br w' B (gV L G).1.1.length (gV L G).1.1∧pz w' V (gV L G).1.2∧bf w2 w'):=P.ou
    obtain⟨⟨⟨own,R⟩,f⟩,cf⟩:∃R,R=gV L G:=⟨_,rfl⟩
    rw[←cf] at Q bi y N
    have T:Hd (eB gs (u.drop i) L O K=if f≠0 then (([],[]),f) else eB gs (u.drop (i+1)) (dE own L) (dE own O) (K++[(G.targets.headD [],R)])):=by rw[Hd,N.ou,aa (by decide)]
    have et:own.length≤3:=bi.ou
    clear cf N P bi
    go_wp2_with fail
    refine y.ou.mono ?_
    rintro e u3 ⟨B,d,⟨p1,e1,p2,e2,p3,e3⟩,he,hw,hr,E⟩
    have he:e=.returned (.tuple #[.slice B own.length d,.agg #[.slice p1 R.bD.length e1,.slice p2 R.aN.length e2,.slice p3 R.ou.length e3],eT f]):=he
    subst he
    have X3:=aj (X2.ou.ae E)
    have HW:=aj (show di br u3 B own.length own from hw)
    have ch:=aj (show pz u3 ⟨p1,e1,p2,e2,p3,e3⟩ R from hr)
    have ci:=aj (B7.ou.aP E id)
    have cm:=aj (bc.ou.ext E)
    have cn:=aj (aD.ou.ext E)
    have co:=aj (bd.ou.ext E)
    clear hw hr E y y0 y1 y2 y3 bc aD bd B7
    go_upto_region 9 with fail
    obtain⟨w4,a0⟩:∃u,u=u3.alloc (.cells #[.slice p1 R.bD.length e1,.slice p2 R.aN.length e2,.slice p3 R.ou.length e3] pn):=⟨_,rfl⟩
    obtain⟨a1,U⟩:∃b,b=u3.heap.size:=⟨_,rfl⟩
    rw[←a0,←U]
    have x4:bf u3 w4:=by rw[a0];exact(al.refl No u3).alloc _
    have bk:Hd (Cs w4 a1 pn #[.slice p1 R.bD.length e1,.slice p2 R.aN.length e2,.slice p3 R.ou.length e3]):=by rw[a0,U];exact Cs.new _ _ _
    have X4:=aj (X3.ou.ae x4)
    have dT:=aj (HW.ou.ext x4)
    have cq:=aj (ch.ou.ext x4)
    have d2:=aj (ci.ou.aP x4 id)
    have cx:=aj (cm.ou.ext x4)
    have cy:=aj (cn.ou.ext x4)
    have cz:=aj (co.ou.ext x4)
    clear a0 U x4 HW ch ci cm cn co X3 X2
    by_cases hf:f=0
    case neg=>
     have HV:Hd (eB gs u l [] []=(([],[]),f)):=by rw[Hd,←M.ou,T.ou,ab hf]
     have HE:=aj (bS hf)
     rw[bS hf]
     go_wp2_with fail
     go_ret3
     rw[HV.ou]
     exact⟨X4.ou,.inr ⟨hf,by rw[HE.ou];rfl⟩⟩
    subst hf
    rw[cO]
    have c4:Hd (eB gs (u.drop (i+1)) (dE own L) (dE own O) (K++[(G.targets.headD [],R)])=eB gs u l [] []):=by rw[Hd,←M.ou,T.ou,aa (fun h=>h rfl)]
    clear T M
    go_wp2_with fail
    go_loopw [44,2,9] (fun jv lv ov wr=>∃j:Nat,j≤own.length∧jv=.int .i64 j∧∃(D:Option Addr) (oc:Nat) (z:Option Addr) (I:Nat),ov=.slice D (dE (own.take j) O).length oc∧lv=.slice z (dE (own.take j) L).length I ∧
     di br wr D (dE (own.take j) O).length (dE (own.take j) O)∧di br wr z (dE (own.take j) L).length (dE (own.take j) L)∧bf w4 wr) (fun jv _ _ _=>own.length-(intOf jv).toNat)
    case atStart=>exact⟨0,au _,rfl,D,oc,z,I,rfl,rfl,cx.ou,cy.ou,al.refl _ _⟩
    case round=>
     clear cx cy
     obtain⟨j,hj,rfl,D,oc,z,I,rfl,rfl,hO,hL,E⟩:=hrel
     have W:=aj hO
     have Y:=aj hL
     have H:=aj E
     clear hO hL E
     have c5:=ma (own.take j) L
     have c8:=ma (own.take j) O
     have ev:(own.take j).length≤j:=by rw[aH];omega
     have bn:=aj (jG (own.take j) J.ou.r)
     have a2:=aj (jG (own.take j) b9.ou)
     by_cases d3:j<own.length
     ·obtain⟨bw,ow,⟨fn,ft⟩,rfl,bo,d0,d1⟩:=jI dT.ou d3
      have a3:=aj (th bo L)
      have a4:=aj (th bo O)
      have g0:wr.cell? ⟨bw,ow+j*2,none⟩=some (S fn):=d0 ⟨wr,H.ou⟩
      have g1:wr.cell? ⟨bw,ow+j*2+1,none⟩=some (S ft):=d1 ⟨wr,H.ou⟩
      clear d0 d1 bo
      obtain⟨Lj,c9⟩:∃x,x=dE (own.take j) L:=⟨_,rfl⟩
      obtain⟨Oj,db⟩:∃x,x=dE (own.take j) O:=⟨_,rfl⟩
      rw[←c9] at Y c5 bn a3 ⊢
      rw[←db] at W c8 a2 a4 ⊢
      clear c9 db
      go_upto_region 14 with fail
      obtain⟨w5,a5⟩:∃u,u=wr.alloc (.cells #[S fn,S ft] 54):=⟨_,rfl⟩
      obtain⟨Z,ac⟩:∃b,b=wr.heap.size:=⟨_,rfl⟩
      rw[←a5,←ac]
      have x5:bf wr w5:=by rw[a5];exact(al.refl No wr).alloc _
      have bp:Hd (Cs w5 Z 54 #[S fn,S ft]):=by rw[a5,ac];exact Cs.new _ _ _
      have d4:=aj (H.ou.ae x5)
      have bs:=aj (FS (c:=I) (Y.ou.ext x5) (by omega) (fn,ft) bn.ou)
      have d5:=aj (W.ou.ext x5)
      have j0:w5.cell? ⟨Z,0,none⟩=some (S fn):=bp.ou.cell 0
      have j1:w5.cell? ⟨Z,1,none⟩=some (S ft):=bp.ou.cell 1
      obtain⟨Lk,dc⟩:∃x,x=jY fk (fn,ft) Lj:=⟨_,rfl⟩
      obtain⟨Ok,bv⟩:∃x,x=jY fk (fn,ft) Oj:=⟨_,rfl⟩
      rw[←dc] at bs a3
      rw[←bv] at a4
      have d6:=aj bv
      clear a5 ac x5 g0 g1 Y W dc bv
      go_wp2_with fail
      refine bs.ou.mono ?_
      rintro e u6 ⟨A6,c6,rfl,ag⟩
      have X6:=aj (d4.ou.ae ag.ext)
      have R6:=aj (ag.row (by decide))
      have bx:=aj (FS (c:=oc) (d5.ou.ext ag.ext) (by omega) (fn,ft) a2.ou)
      have ai:=bp.ou.aP ag.ext id
      clear j0 j1 ag bs
      rw[←d6.ou] at bx
      have j0:u6.cell? ⟨Z,0,none⟩=some (S fn):=ai.cell 0
      have j1:u6.cell? ⟨Z,1,none⟩=some (S ft):=ai.cell 1
      clear ai
      go_wp2_with fail
      refine bx.ou.mono ?_
      rintro e u7 ⟨A7,c7,rfl,a6⟩
      have X7:=aj (X6.ou.ae a6.ext)
      have R7:=aj (a6.row (by decide))
      have d7:=aj (R6.ou.ext a6.ext)
      clear a6 bx j0 j1
      go_wp2_with fail
      go_roundw
      case rel=>exact⟨j+1,by omega,by go_num,A7,c7,A6,c6,by rw[a4.ou],by rw[a3.ou],by rw[a4.ou];exact R7.ou,by rw[a3.ou];exact d7.ou,X7.ou⟩
      case measure=>simp[intOf];omega
     ·obtain rfl:j=own.length:=by omega
      rw[ay (aq _)] at W Y c5 c8 bn a2 ⊢
      obtain⟨bt,ot,t,d8,C,ct⟩:=dq ao.ou.1 (k:=0) (by omega)
      have dd:G.targets.headD []=t:=by
       cases htl:G.targets with
       | nil=>rw[htl] at C;cases C
       | cons p r=>rw[htl] at C;exact bB C
      subst d8
      have ex:t.length≤10000:=bb.ou.lt t (ah C)
      have xd:bf wr wr.drew:=(al.refl No _).drew
      obtain⟨w9,F',r1,r2,r3⟩:=((cz.ou.ext H.ou).ext xd).put (show n<maxLen by unfold maxLen;omega) t (by unfold maxLen;omega) ((cq.ou.ext H.ou).ext xd) (by have:=Q.ou.2.2.2;exact⟨by have:=this.c;omega,by have:=this.n;omega,by have:=this.o;omega⟩)
      have R2:=aj r2
      have de:Hd (eB gs (u.drop (i+1)) (dE own L) (dE own O) (K++[(t,R)])=eB gs u l [] []):=by rw[Hd,←dd];exact c4.ou
      have bz:=cz.ou.ext H.ou
      have X9:Hd (bf w w9):=((X4.ou.ae H.ou).ae xd).trans r3 fun q hq e=>by have e:q=b:=e;have:=b4.ou;omega
      have d9:Hd (di br w9 D (dE own O).length (dE own O)):=(bz.ext xd).m.row r3 (W.ou.ext xd)
      have eb:Hd (di br w9 z (dE own L).length (dE own L)):=(bz.ext xd).m.row r3 (Y.ou.ext xd)
      have eg:(Instr.mapUpdate uj (.map (some b)) (S t) (.agg #[.slice p1 R.bD.length e1,.slice p2 R.aN.length e2,.slice p3 R.ou.length e3])).run Tryz.prog wr.drew=.ok () w9:=r1
      have f0:∀ξ:X wr No,ξ.v.cell? ⟨b7,0,none⟩=some (.slice (some ⟨bt,ot,none⟩) G.targets.length tc):=(d2.ou.aP H.ou id).x id 0
      have f1:∀ξ:X wr No,ξ.v.cell? ⟨bt,ot,none⟩=some (S t):=fun ξ=>ct ⟨ξ.v,(X4.ou.ae H.ou).ae ξ.h⟩
      have f2:∀ξ:X wr No,ξ.v.cell? ⟨a1,0,none⟩=some (.slice p1 R.bD.length e1):=(bk.ou.aP H.ou id).x id 0
      have f3:∀ξ:X wr No,ξ.v.cell? ⟨a1,1,none⟩=some (.slice p2 R.aN.length e2):=(bk.ou.aP H.ou id).x id 1
      have f4:∀ξ:X wr No,ξ.v.cell? ⟨a1,2,none⟩=some (.slice p3 R.ou.length e3):=(bk.ou.aP H.ou id).x id 2
      have ei:0<G.targets.length:=by omega
      have dj:=aj (J.ou.put Q.ou.2.2.1 (by omega))
      have dk:Hd ((dE own L).length≤L.length+own.length∧(dE own O).length≤O.length+own.length):=⟨ma _ _,ma _ _⟩
      clear C ct dd xd r1 r2 r3 bz
      go_upto_region 17 with fail
      refine aV [6] 6 (Cl wr No) (by kernel_rfl) (by kernel_rfl) (Cl.of (al.refl _ _).drew) ?_
      refine dH ?_
      (refine bQ ?_;intro K hK)
      refine hK _ _ (fun hne=>absurd rfl hne) ?_
      clear hK K f0 f1 f2 f3 f4 eg
      refine bj ?_
      refine ar ?_
      go_wp2_with fail
      go_roundw
      case rel=>exact⟨i+1,by omega,by go_num,D,oc,dE own O,z,I,dE own L,_,F',n+1,rfl,rfl,d9.ou,eb.ou,a2.ou,by have:=dk.ou.2;omega,dj.ou,by have:=dk.ou.1;omega,R2.ou,by omega,de.ou,X9.ou⟩
      case measure=>simp[intOf];omega
  ·obtain rfl:i=u.length:=by omega
   have HV:Hd (eB gs u l [] []=((O,K),0)):=by rw[Hd,←M.ou,cr (aq _)];rfl
   go_wp2_with fail
   go_ret3
   rw[HV.ou]
   exact⟨XR.ou,.inl ⟨rfl,D,oc,b,n,F,rfl,HO.ou,HM.ou,b4.ou,by omega⟩⟩
theorem FH    (a:u[i]?=some k)(b:gs[k]?=some G):gC gs (u.take (i+1))=gC gs (u.take i)++if G.ba=true then [] else [G.targets.headD []]:=by
 unfold gC
 rw[aU,a,jf]
 congr 1
 simp only[jX,jD,List.filterMap_nil,s8,b]
 split<;>simp_all
theorem Hp(gs:List dv)(u:List Nat):(gC gs u).length≤u.length:=iA _ _
theorem J2      (hG:jW w A os gs) (hb:∀g∈gs,1≤g.targets.length)
   (hu:di G9 w uA u.length u) (ag:u.length≤1000) (H:∀k∈u,k<gs.length) :
  Calls Tryz.prog 45 #[.slice A gs.length c,.slice uA u.length uc] w fun e w'=>∃B d,e=.returned (.slice B (gC gs u).length d)∧bR cI 9 w w' B d (gC gs u):=by
 have O:=aj hG
 have HB:=aj hb
 have HU:=aj hu
 have P:=aj H
 clear hG hb hu H
 go_enter Tryz.func45,Tryz.ntmps45
 go_wp2_with fail
 go_loopw [10,5] (fun iv ov wr=>∃i:Nat,i≤u.length∧iv=.int .i64 i∧∃(B:Option Addr) (d:Nat) (ns:List aK),ov=.slice B ns.length d∧ns=gC gs (u.take i)∧ns.length≤i∧bR cI 9 w wr B d ns) (fun iv _ _=>u.length-(intOf iv).toNat)
 case atStart=>exact⟨0,au _,rfl,none,0,[],rfl,rfl,aq _,bR.nil _ _ _ _ (al.refl _ _)⟩
 case round=>
  obtain⟨i,hi,rfl,B,d,ns,rfl,I,ai,Q⟩:=hrel
  have a:=aj I
  have N:=aj Q
  have R:=aj Q.ext
  clear I Q
  by_cases T:i<u.length
  ·obtain⟨bu,ou,k,rfl,y,cu⟩:=v7 HU.ou T
   have U:k<gs.length:=P.ou k (ah y)
   obtain⟨bg,o,⟨⟨tA,tc,nA,nc,cA,cc⟩,G⟩,rfl,z,c0,c1,c2,c3⟩:=kz O.ou.row U
   have C:gs[k]?=some G:=by rw[←O.ou.om,bP,z];rfl
   have ak:=HB.ou G (ah C)
   have V:Hd (di cI w tA G.targets.length G.targets):=(O.ou.rr _ (ah z)).1
   obtain⟨bt,W,t,D,f,ct⟩:=dq V.ou (k:=0) (by omega)
   have J:G.targets.headD []=t:=by
    cases htl:G.targets with
    | nil=>rw[htl] at f;cases f
    | cons p r=>rw[htl] at f;exact bB f
   have D:tA=some ⟨bt,W,none⟩:=D
   subst D
   have s:=aj (FH y C)
   rw[J] at s
   have e0:wr.cell? ⟨bu,ou+i,none⟩=some (.int .i64 (k:Int)):=cu ⟨wr,R.ou⟩
   have q3:wr.cell? ⟨bg,o+k*4+3,none⟩=some (.bool G.ba):=c3 ⟨wr,R.ou⟩
   have ac:0<G.targets.length:=by omega
   obtain⟨x,E⟩:∃x:Nat→Prop,x=fun q=>(Value.slice B ns.length d).ownBlock=some q:=⟨_,rfl⟩
   have Y:=aj E
   have F:∀v,al x wr v→bf w v:=fun v hv=>R.ou.trans hv fun q hq e=>by rw[E] at e;have:=N.ou.new q e;omega
   have f0:∀ξ:X wr x,ξ.v.cell? ⟨bg,o+k*4,none⟩=some (.slice (some ⟨bt,W,none⟩) G.targets.length tc):=fun ξ=>c0 ⟨ξ.v,F _ ξ.h⟩
   have f1:∀ξ:X wr x,ξ.v.cell? ⟨bt,W,none⟩=some (S t):=fun ξ=>ct ⟨ξ.v,F _ ξ.h⟩
   obtain⟨ph,L⟩:∃b,b=G.ba:=⟨_,rfl⟩
   rw[←L] at s q3
   clear cu c0 c1 c2 c3 z C y f ct J E L F
   cases ph with
   | true=>
    have Z:Hd (gC gs (u.take (i+1))=ns):=by rw[Hd,s.ou,a.ou,ab rfl,cv]
    go_wp2_with fail
    go_roundw
    case rel=>exact⟨i+1,by omega,by go_num,B,d,ns,rfl,Z.ou.symm,by omega,N.ou⟩
    case measure=>simp[intOf];omega
   | false=>
    have Z:Hd (gC gs (u.take (i+1))=ns++[t]):=by rw[Hd,s.ou,a.ou,aa (by decide)]
    go_upto_region 6 with fail
    refine cj [8,9] (Cl wr x) (Cl.of (al.refl _ _)) ?_
    refine dH ?_
    (refine bQ ?_;intro K hK)
    have F6:=aj (N.ou.on ((al.refl No wr).alloc (.cells #[S t] 9)))
    refine hK _ _ (fun _=>Cl.of ((al.refl x wr).alloc _)) ?_
    clear hK K f0 f1
    refine bj ?_
    refine cH rfl rfl ?_
    intro K hK
    refine eO (v:=.slice B ns.length d) (n:=ns.length) (xs:=ns.flatMap cI.enc) p8 rfl rfl rfl F6.ou.own (iQ wr _ [S t]) (by simp[Value.oneCell']) (by omega) ?_
    intro B' d' w7 j l M
    have F7:Hd (bR cI 9 w w7 B' d' (ns++[t])):=F6.ou.grow (m:=1) (ys:=[t]) rfl j l M
    have O7:Hd (al x wr w7):=((al.refl x wr).alloc _).grown l fun g hg=>.inr (by rw[Y.ou];exact hg)
    refine hK _ _ (fun _=>Cl.of O7.ou) ?_
    clear hK K j l M
    refine bj ?_
    refine dH ?_
    refine ar ?_
    go_wp2_with fail
    go_roundw
    case rel=>exact⟨i+1,by omega,by go_num,B',d',ns++[t],by simp,Z.ou.symm,by simp;omega,F7.ou⟩
    case measure=>simp[intOf];omega
  ·obtain rfl:i=u.length:=by omega
   rw[ay (aq _)] at a
   go_wp2_with fail
   go_ret
   have h:=N.ou
   rw[a.ou] at h
   exact⟨B,d,by rw[a.ou];rfl,h⟩
theorem qG(gs:List dv):∀(u:List Nat) (l out:List bm) (K:List (aK×iT)),(eB gs u l out K).2=0→(eB gs u l out K).1.2.map (·.1)=K.map (·.1)++gC gs u
 | [],l,out,K,_=>by simp[eB,gC]
 | k::ks,l,out,K,h=>by
  rw[eB] at h ⊢
  have c:gC gs (k::ks)=(s8 gs k).toList++gC gs ks:=by
   unfold gC
   rw[jD]
   cases s8 gs k<;>rfl
  rw[c]
  cases hg:gs[k]? with
  | none=>
   rw[hg] at h
   simp only at h ⊢
   rw[qG gs ks _ _ _ h]
   simp[s8,hg]
  | some g=>
   rw[hg] at h
   simp only at h ⊢
   by_cases a:g.ba=true
   ·rw[ab a] at h ⊢
    rw[qG gs ks _ _ _ h]
    simp[s8,hg,a]
   ·rw[aa a] at h ⊢
    by_cases b:(gV l g).2≠0
    ·rw[ab b] at h;exact absurd h b
    ·rw[aa b] at h ⊢
     rw[qG gs ks _ _ _ h]
     simp[s8,hg,a]
theorem ya (m:gs.Pairwise fun a b=>∀t∈a.targets,t∉b.targets)(n:∀g∈gs,1≤g.targets.length) (o:u.Pairwise (·<·)):(gC gs u).Nodup:=by
 have p:∀(g:dv),1≤g.targets.length→g.targets.headD []∈g.targets:=fun g c=>by
  cases ht:g.targets with
  | nil=>rw[ht] at c;simp at c
  | cons a r=>simp
 have l:∀(k:Nat) (a:aK),s8 gs k=some a→∃g,gs[k]?=some g∧a∈g.targets:=fun k a h=>by
  unfold s8 at h
  cases c:gs[k]? with
  | none=>rw[c] at h;cases h
  | some g=>
   rw[c] at h
   simp only at h
   split at h
   ·cases h
   ·cases h
    exact⟨g,rfl,p g (n g (ah c))⟩
 refine List.Pairwise.filterMap (R:=(·<·)) (S:=(·≠·)) (s8 gs) (fun i j hij a ha b hb e=>?_) o
 obtain⟨g,c,d⟩:=l i a ha
 obtain⟨q,hq,f⟩:=l j b hb
 obtain⟨s,v⟩:=aw.1 c
 obtain⟨w,x⟩:=aw.1 hq
 have:=cL.1 m i j s w hij
 rw[v,x] at this
 exact this a d (e▸f)
theorem GE {P:List α→Prop}(b:P [])(c:∀K p,P K→P (K++[p]))(K:List α):P K:=by
 rw[←List.reverse_reverse K]
 generalize K.reverse=L
 induction L with
 | nil=>exact b
 | cons a L ih=>rw[List.reverse_cons];exact c _ _ ih
theorem ID(K:List (aK×iT)):∀(s:aK),s∉K.map (·.1)→ja K s=none:=by
 refine GE (P:=fun K=>∀(s:aK),s∉K.map (·.1)→ja K s=none) (fun s _=>rfl) (fun K p ih=>?_) K
 ·intro s a
  rw[rY]
  simp only[cU,du,eG,az,aC,not_or] at a
  show(if s=p.1 then some p.2 else ja K s)=none
  rw[aa a.2]
  exact ih s a.1
theorem wK(K:List (aK×iT)):(K.map (·.1)).Nodup→∀p∈K,ja K p.1=some p.2:=by
 refine GE (P:=fun K=>(K.map (·.1)).Nodup→∀p∈K,ja K p.1=some p.2) (fun _ p a=>by cases a) (fun K q ih=>?_) K
 ·intro b p a
  rw[rY]
  show(if p.1=q.1 then some q.2 else ja K p.1)=some p.2
  rw[cU,gu] at b
  rcases az.1 a with a|a
  ·rw[aa (fun e=>b.2.2 _ (cC a) _ (by simp) e)]
   exact ih b.1 p a
  ·obtain rfl:=aC.1 a
   rw[ab rfl]
theorem Io (b:(K.map (·.1)).Nodup)(s:aK):s∈K.map (·.1)↔(ja K s).isSome=true:=by
 constructor
 ·intro h
  obtain⟨p,c,rfl⟩:=cw.1 h
  rw[wK K b p c]
  try rfl
 ·intro h
  by_cases a:s∈K.map (·.1)
  ·exact a
  ·rw[ID K s a] at h;cases h
end Go.Proofs.YtpgmcijdcnnjpaaGreatDoor
