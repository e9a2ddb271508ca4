/- Lemmas for it. -/
import Derived.Test.YtpgmcijdcnnjpaaGreatDoorPk32
set_option linter.all false
set_option maxRecDepth 100000
set_option maxHeartbeats 8000000
namespace Go.Proofs.YtpgmcijdcnnjpaaGreatDoor
open Go Go.RowKit
variable {c:Ch} {b g lc n:Nat} {cs:Array Value} {A B lA:Option Addr} {H:aK→Option (jy×iT)} {Z:pq} {r:jZ} {d:Dk} {gs:List dv} {st:List Bool}
abbrev Pk:TypeId:=95
structure RB (F:Nat→Prop) (w:World) (xg sg:Nat) (lA:Option Addr) (lc b n:Nat) (H:aK→Option (jy×iT)) (rows:List Ch):Prop where
 cs:Cs w xg Pk #[pt sg,.slice lA (bL rows).length lc,.map (some b)]
 rb:∀v,al F w v→di br v lA (bL rows).length (bL rows)∧lZ v b n (Mj H)∧Ry v H
 nk:n≤1000
 hk:∀s,(H s).map (·.2)=gY rows s
theorem Hw{rows:List Ch}{k:Nat} (h:rows[k]?=some c):bL (rows.take (k+1))=bL (rows.take k)++(Jd c).toList:=by
 unfold bL
 rw[aU,h,jf]
 congr 1
theorem Kr{rows:List Ch}(d:eQ ck rows){k:Nat} (h:rows[k]?=some c)(n:aK):gY (rows.take (k+1)) n=if qm n=c.1 then some (oh c.2.1).1 else gY (rows.take k) n:=by
 obtain⟨f,e⟩:=aw.1 h
 unfold gY dY
 rw[aU,h,List.find?_append]
 by_cases a:qm n=c.1
 ·rw[ab a]
  have g:(rows.take k).find? (fun y=>decide (ck y=qm n))=none:=by
   refine eI.2 fun y hy=>?_
   obtain⟨j,i,b⟩:=iL hy
   rw[aH] at i
   rw[jh] at b
   have:=cL.1 d j k (by omega) f (by omega)
   rw[b,e] at this
   simp only[bh]
   intro l
   rw[l,a] at this
   exact pa this rfl
  rw[g]
  simp[a,kM]
 ·rw[aa a]
  have m:(some c).toList.find? (fun y=>decide (ck y=qm n))=none:=by
   simp[kM,Ne.symm a]
  rw[m,Option.or_none]
def TR(n:Nat)(v:Value):Nat→Prop:=fun q=>q<n∨v.ownBlock=some q
structure Uc (w wr:World) (xg sg b:Nat) (lA:Option Addr) (lc nk:Nat) (L:List bm) (H:aK→Option (jy×iT)):Prop where
 cs:Cs wr xg Pk #[pt sg,.slice lA L.length lc,.map (some b)]
 own:wr.ownsRow 0 54 2 (.slice lA L.length lc) L.length (L.flatMap br.enc)
 new:∀g,(Value.slice lA L.length lc).ownBlock=some g→w.heap.size≤g
 mp:lZ wr b nk (Mj H)
 rc:∀s p,H s=some p→UE (TR w.heap.size (.slice lA L.length lc)) wr p.1 p.2∧p.2.bD.length≤10000∧p.2.aN.length≤10000∧p.2.ou.length≤10000
theorem ON(s:aK):(oh s).1.bD.length≤10000∧(oh s).1.aN.length≤10000∧(oh s).1.ou.length≤10000:=by
 unfold oh
 split
 ·have a:=lC (s++[32]) false 32 3 (by omega)
  have b:=lC (km (s++[32]) false 32 3).1 (km (s++[32]) false 32 3).2.1 32 3 (by omega)
  have c:=lC (km (km (s++[32]) false 32 3).1 (km (s++[32]) false 32 3).2.1 32 3).1 (km (km (s++[32]) false 32 3).1 (km (s++[32]) false 32 3).2.1 32 3).2.1 32 2 (by omega)
  unfold wQ
  dsimp only
  rw[vh,aH,be,wi]
  omega
 ·exact⟨au _,au _,au _⟩
theorem lZ.zi{w:World} {f:aK→Option Value}{t:TypeId} (h:lZ w b n f)(a:Cs w g t cs):¬b=g:=by
 obtain⟨D,⟨e,c,d,_⟩,_⟩:=h
 rintro rfl
 unfold Cs at a
 rw[d] at a
 simp at a
theorem Uc.ext{w c u:World}{d f b:Nat} {g:Nat}{L:List bm} (h:Uc w c d f b lA lc g L H)(a:bf c u):Uc w u d f b lA lc g L H:=
 ⟨h.cs.aP a id,oH h.own a,h.new,h.mp.aP a id,fun s p e=>⟨(h.rc s p e).1.step (al.any a) fun _ e=>.inl e,(h.rc s p e).2⟩⟩
theorem NF {w0 w:World} (hE:sF w0) (bb:bf w0 w) {dg sg f N mn next E1 F1:Nat} {rows:List Ch}    (h:SV w0 w dg sg N mn next E1 F1 rows Z r d)
  {x1 x2:Value} (m:Cs w f Pk #[pt sg,x1,x2]) (bd:w0.heap.size≤f) (ak:nu rows) :
  Calls Tryz.prog 54 #[pt f] w fun e w'=>e=.returned .nilIface∧al (fun q=>q=f) w w'∧SV w0 w' dg sg N mn next E1 F1 rows Z r d ∧
   ∃z lc b n H,RB (fun q=>q<w.heap.size) w' f sg z lc b n H rows:=by
 have b7:=@run_makeMap Tryz.prog
 have HE:=aj hE
 have b8:=aj bb
 have bg:=aj h
 have HC:=aj m
 have b9:=aj bd
 have aD:=aj ak
 have bi:∀q,Z.fp r q→¬q=f:=fun q hq e=>pq.yV h.lv.st h.lv.dk m (by decide) (by decide) (by decide) (by decide) (by decide) (e▸hq)
 have bk:=aj bi
 have bn:Hd (∀g,(Value.slice Z.A Z.rows.length Z.c).ownBlock=some g→¬g=f):=aO h.lv.st.own m (by decide)
 have c2:=aj (Aa h.lv.st h.lv.dk)
 have c4:rows.length≤40:=(Ai ak.jx ak.E9).1
 obtain⟨b,hb⟩:∃b,b=w.heap.size:=⟨_,rfl⟩
 have HB:Hd (b=w.heap.size):=hb
 have c5:f<w.heap.size:=m.lt
 have bo:¬b=f:=by omega
 have y1:w.cell? ⟨f,1,none⟩=some x1:=m.cell 1
 have z1:=m.frozen 1
 have y2:((w.setCell ⟨f,1,none⟩ (.slice none 0 0)).alloc (.map #[] 0)).cell? ⟨f,2,none⟩=some x2:=((m.cM 1 (.slice none 0 0)).alloc _).cell 2
 have z2:=((m.cM 1 (.slice none 0 0)).alloc (.map #[] 0)).frozen 2
 have ca:(w.alloc (.map #[] 0)).cell? ⟨f,1,none⟩=some x1:=(m.alloc _).cell 1
 have cb:=(m.alloc (.map #[] 0)).frozen 1
 clear hE bb h bd ak bi hb
 go_enter Tryz.func54,Tryz.ntmps54
 go_upto_region 2 with fail
 obtain⟨wA,Q⟩:∃u,u=(w.setCell ⟨f,1,none⟩ (.slice none 0 0)).setCell ⟨f,2,none⟩ (.map (some w.heap.size)):=⟨_,rfl⟩
 rw[←Q]
 have OA:al (fun q=>q=f) w wA:=by rw[Q];exact((al.refl _ _).at_ 1 _).at_ 2 _
 have bp:wA.heap.size=w.heap.size:=by rw[Q];simp[World.setCell]
 have CA:Cs wA f Pk #[pt sg,.slice none 0 0,.map (some w.heap.size)]:=by rw[Q];exact(HC.ou.cM 1 _).cM 2 _
 obtain⟨w2,am⟩:∃u,u=wA.alloc (.map #[] 0):=⟨_,rfl⟩
 rw[←am]
 have xA:bf wA w2:=by rw[am];exact(al.refl No _).alloc _
 have a0:Hd (al (fun q=>q=f) w w2):=OA.ae xA
 have C2:Hd (Cs w2 f Pk #[pt sg,.slice none 0 0,.map (some b)]):=by rw[Hd,HB.ou];exact CA.aP xA id
 have M2:Hd (lZ w2 b 0 (Mj fun _=>none)):=by rw[Hd,HB.ou,←bp,am];exact lZ.made wA
 rw[←HB.ou]
 clear Q OA bp CA am xA y1 z1 y2 z2 ca cb b7 m
 have S2:=aj (bg.ou.aP a0.ou bk.ou bn.ou)
 have bs:=aj S2.ou.SN
 have k0:w2.cell? ⟨f,0,none⟩=some (pt sg):=C2.ou.cell 0
 go_wp2_with fail
 refine bs.ou.mono ?_
 rintro e y ⟨A3,c3,rfl,ao⟩
 have F3:=aj ao
 have X3:=aj ao.ext
 have ce:=aj (ao.row (by decide))
 clear ao bs k0
 have C3:=aj (C2.ou.aP X3.ou id)
 have M3:=aj (M2.ou.aP X3.ou id)
 have a1:=aj (a0.ou.ae X3.ou)
 have c6:w.heap.size≤y.heap.size:=a1.ou.size
 have cf:=M3.ou.lt
 clear C2 M2 a0 S2 X3 ce
 go_wp2_with fail
 go_loopw [20] (fun iv wr=>∃k:Nat,k≤rows.length∧iv=.int .i64 k∧∃(z:Option Addr) (lc nk:Nat) (L:List bm) (H:aK→Option (jy×iT)),L=bL (rows.take k)∧Uc y wr f sg b z lc nk L H∧nk≤k∧(∀s,(H s).map (·.2)=gY (rows.take k) s)∧al (fun q=>q=f∨q=b) y wr) (fun iv _=>rows.length-(intOf iv).toNat)
 case atStart=>exact⟨0,au _,rfl,none,0,0,[],fun _=>none,rfl,⟨C3.ou,World.ownsRow_nil _ _ _ _,(fun g hg=>by simp[Value.ownBlock] at hg),M3.ou,(fun s p e=>by cases e)⟩,aq _,fun _=>rfl,al.refl _ _⟩
 case round=>
  have bu:=C3.ou
  have N3:Hd (∀g,(Value.slice A3 rows.length c3).ownBlock=some g→¬g=f):=aO F3.ou.own bu (by decide)
  have ch:Hd (∀(g:Nat) (t:TypeId) (cs:Array Value),Cs y g t cs→¬b=g):=fun g t cs m=>M3.ou.zi m
  clear C3 M3 bu
  obtain⟨k,hk,rfl,z,lc,nk,L,H,hL,hI,c7,hH,hx⟩:=hrel
  have I0:=aj hI
  have HL:=aj hL
  have HH:=aj hH
  have XR:=aj hx
  have c8:L.length≤40:=by
   rw[hL]
   have h1:=iA Jd (rows.take k)
   have h2:=List.length_take_le k rows
   show(List.filterMap _ _).length≤_
   omega
  have a2:Hd (al (fun q=>q=f) w wr):=a1.ou.trans hx fun q hq e=>e.elim id fun e=>by have:=HB.ou;omega
  have ci:Hd (bf w0 wr):=b8.ou.trans a2.ou fun q hq e=>by have e:q=f:=e;have:=b9.ou;omega
  have cm:y.heap.size≤wr.heap.size:=hx.size
  clear hL hI hH hx
  by_cases cn:k<rows.length
  ·have hS:=di.jk (T:=fA) (by decide) (cl F3.ou.own XR.ou fun g hg e=>e.elim (N3.ou g hg) fun e=>by
    obtain⟨_,m⟩:=fI F3.ou.own hg
    exact ch.ou _ _ _ m e.symm)
   obtain⟨bc,B,⟨key,a,U⟩,rfl,V,d0,d1,d2⟩:=nK hS cn
   have a3:=qO (aD.ou.jx.ok _ (ah V))
   have bv:=aj (Hw V)
   have bw:=aj (Kr aD.ou.jx.pj V)
   have co:=aj (aD.ou.prs _ (ah V))
   obtain⟨j,cq,i,bx⟩:=a3
   have c9:j.length≤8:=re cq
   have bx:a.length≤300:=bx
   obtain⟨o,W⟩:∃u,u=wr.alloc (.cells #[S key,S a,.bool U] sD):=⟨_,rfl⟩
   obtain⟨g5,a4⟩:∃g,g=wr.heap.size:=⟨_,rfl⟩
   have x5:bf wr o:=by rw[W];exact(al.refl No _).alloc _
   have C5:Hd (Cs o g5 sD #[S key,S a,.bool U]):=by rw[W,a4];exact Cs.new _ _ _
   have X5:=aj x5
   have C:=aj (I0.ou.ext x5)
   have e0:wr.cell? ⟨bc,B+k*3,none⟩=some (S key):=d0 (X.here _ _)
   have e1:wr.cell? ⟨bc,B+k*3+1,none⟩=some (S a):=d1 (X.here _ _)
   have e2:wr.cell? ⟨bc,B+k*3+2,none⟩=some (.bool U):=d2 (X.here _ _)
   clear hS d0 d1 d2 V x5 I0
   go_upto_region 5 with fail
   rw[←W,←a4]
   clear W a4 e0 e1 e2
   rcases i with⟨i,-⟩|i
   ·have i:key=mX j:=i
    subst i
    have c0:o.cell? ⟨g5,0,none⟩=some (S (mX j)):=C5.ou.cell 0
    have q1:(((102:UInt8).toNat:Int)==102)=true:=rfl
    go_upto_region 6 with fail
    clear c0
    obtain⟨I,ap⟩:∃I:Nat→Prop,I=fun q=>(Value.slice z L.length lc).ownBlock=some q:=⟨_,rfl⟩
    have Y:¬I f:=fun e=>by rw[ap] at e;exact aO C.ou.own C.ou.cs (by decide) _ e rfl
    have ac:¬I g5:=fun e=>by rw[ap] at e;exact aO C.ou.own C5.ou (by decide) _ e rfl
    have m0:∀ξ:X o I,ξ.v.cell? ⟨f,1,none⟩=some (.slice z L.length lc):=C.ou.cs.x Y 1
    have m1:∀ξ:X o I,ξ.v.cell? ⟨g5,0,none⟩=some (S (mX j)):=C5.ou.x ac 0
    have m2:∀ξ:X o I,ξ.v.cell? ⟨g5,1,none⟩=some (S a):=C5.ou.x ac 1
    have D:=aj ap
    have ct:=aj Y
    clear ap Y ac
    (refine aV [11,12,15] 15 (Cl (o) (I)) (by kernel_rfl) (by kernel_rfl) (Cl.of (al.refl _ _).drew) ?_;refine bK ?_)
    (refine bQ ?_;intro K hK)
    refine hK _ _ (fun _=>Cl.of ((al.refl _ _).drew.alloc _)) ?_
    clear hK K
    refine bj ?_
    have x6:bf o (o.drew.alloc (.cells #[S j,S a] 54)):=(al.refl No _).drew.alloc _
    have I6:=aj (C.ou.ext x6)
    have O6:Hd (al I o (o.drew.alloc (.cells #[S j,S a] 54))):=(al.refl _ _).drew.alloc _
    clear x6
    refine cH rfl rfl ?_
    intro K hK
    refine eO (v:=.slice z L.length lc) (n:=L.length) (xs:=L.flatMap br.enc) sf rfl rfl rfl I6.ou.own (iQ o.drew _ [S j,S a]) (by simp[Value.oneCell']) (by omega) ?_
    intro A' c' l ag E bz
    have O7:Hd (al I o l):=O6.ou.grown E fun g hg=>.inr (by rw[D.ou];exact hg)
    have cu:Hd (al I _ l):=(al.refl I _).grown E fun g hg=>.inr (by rw[D.ou];exact hg)
    refine hK _ _ (fun _=>Cl.of O7.ou) ?_
    clear hK K
    refine bj ?_
    have C7:=aj (C.ou.cs.aP O7.ou ct.ou)
    have y1:l.cell? ⟨f,1,none⟩=some (.slice z L.length lc):=C7.ou.cell 1
    have z1:=C7.ou.frozen 1
    have a5:=aj ag
    have bA:=aj bz
    clear ag E bz
    refine bK ?_
    (refine bQ ?_;intro K hK)
    refine hK _ _ (fun hne=>absurd rfl hne) ?_
    clear hK K y1 z1 m0 m1 m2
    refine bj ?_
    refine ar ?_
    have a6:(L.length+1:Nat)=(L++[(j,a)]).length:=by simp
    have O8:al (fun q=>q=f) l (l.setCell ⟨f,1,none⟩ (.slice A' (L.length+1:Nat) c')):=(al.refl _ _).at_ 1 _
    have I8:Hd (Uc y (l.setCell ⟨f,1,none⟩ (.slice A' (L.length+1:Nat) c')) f sg b A' c' nk (L++[(j,a)]) H):=by
     have h1:∀q,(Value.slice A' (L++[(j,a)]).length c').ownBlock=some q→I q∨o.heap.size≤q:=fun q hq=>by
      rw[←a6] at hq
      rcases bA.ou with h|h
      ·exact .inl (by rw[D.ou];exact h.symm.trans hq)
      ·have h3:some (o.drew.alloc (.cells #[S j,S a] 54)).heap.size=some q:=h.symm.trans hq
       injection h3 with h3
       exact .inr (by rw[←h3];exact O6.ou.size)
     have W:y.heap.size≤o.heap.size:=aJ cm X5.ou.size
     have cx:¬I b:=fun e=>by
      rw[D.ou] at e
      obtain⟨_,m⟩:=fI C.ou.own e
      exact C.ou.mp.zi m rfl
     refine⟨?_,?_,fun q hq=>?_,(C.ou.mp.aP O7.ou cx).aP O8 bo,fun s p e=>⟨?_,(C.ou.rc s p e).2⟩⟩
     ·have:=C7.ou.cM 1 (.slice A' (L.length+1:Nat) c')
      rw[←a6]
      exact this
     ·have h2:=cl a5.ou O8 (aO a5.ou C7.ou (by decide))
      rw[af,bF]
      exact h2
     ·rcases h1 q hq with e|e
      ·exact C.ou.new q (by rw[D.ou] at e;exact e)
      ·omega
     ·refine(C.ou.rc s p e).1.step ((O7.ou.gU (G:=TR y.heap.size (.slice z L.length lc)) fun q _ e=>by rw[D.ou] at e;exact .inr e).trans O8 fun q _ e=>.inl (by have e:q=f:=e;omega)) ?_
      rintro q (e|e)
      ·exact .inl (.inl e)
      ·exact(h1 q e).imp (fun e=>.inr (by rw[D.ou] at e;exact e)) id
    have X8:Hd (al (fun q=>q=f∨q=b) y (l.setCell ⟨f,1,none⟩ (.slice A' (L.length+1:Nat) c'))):=(XR.ou.trans ((al.any X5.ou).trans O7.ou fun _ _ e=>e) fun q hq e=>by
     rw[D.ou] at e
     have:=C.ou.new q e
     omega).trans O8 fun _ _ e=>.inl e
    have a7:Hd (L++[(j,a)]=bL (rows.take (k+1))):=by rw[Hd,bv.ou,HL.ou];rfl
    have a8:Hd (∀s,(H s).map (·.2)=gY (rows.take (k+1)) s):=fun s=>by rw[bw.ou s,aa (fun e=>by have e:(100:UInt8)::47::s=102::47::j:=e;simp at e)];exact HH.ou s
    clear C I6 O6 O7 cu O8 C7 a5 bA a6
    go_wp2_with fail
    go_roundw
    case rel=>exact⟨k+1,by omega,by go_num,A',c',nk,L++[(j,a)],H,a7.ou,I8.ou,by omega,a8.ou,X8.ou⟩
    case measure=>simp[intOf];omega
   ·have i:key=qm j:=i
    subst i
    have c0:o.cell? ⟨g5,0,none⟩=some (S (qm j)):=C5.ou.cell 0
    have c1:o.cell? ⟨g5,1,none⟩=some (S a):=C5.ou.cell 1
    have q1:(((100:UInt8).toNat:Int)==102)=false:=rfl
    have b4:Hd ((oh a).2=0):=co.ou (by show(100:UInt8)≠102;decide)
    have hP:=Nx (HE.ou.ext (ci.ou.ae X5.ou)) a (by omega)
    rw[b4.ou] at hP
    obtain⟨R,hR⟩:∃R,R=(oh a).1:=⟨_,rfl⟩
    rw[←hR] at hP
    have HR:=aj hR
    have HP:Hd (Calls Tryz.prog 89 #[S a] o fun e w'=>∃J M O nc P B,e=.returned (.tuple #[.agg #[.slice J R.bD.length M,.slice O R.aN.length nc,.slice P R.ou.length B],.nilIface])∧RcF o w' ⟨J,M,O,nc,P,B⟩ R):=hP.mono fun e w' ⟨⟨J,M,O,nc,P,B⟩,h1,h2⟩=>⟨J,M,O,nc,P,B,h1,h2⟩
    clear hP hR
    go_upto_region 7 with fail
    go_wp2_with fail
    refine HP.ou.mono ?_
    rintro e u6 ⟨J,M,O,nc,P,B,rfl,hF⟩
    have RF:=aj hF
    have X6:=aj hF.1.ext
    obtain⟨l,av⟩:∃u,u=u6.alloc (.cells #[.slice J R.bD.length M,.slice O R.aN.length nc,.slice P R.ou.length B] pn):=⟨_,rfl⟩
    obtain⟨g7,E⟩:∃g,g=u6.heap.size:=⟨_,rfl⟩
    have x7:bf u6 l:=by rw[av];exact(al.refl No _).alloc _
    have C7:Hd (Cs l g7 pn #[.slice J R.bD.length M,.slice O R.aN.length nc,.slice P R.ou.length B]):=by rw[av,E];exact Cs.new _ _ _
    have X7:=aj (X6.ou.ae x7)
    have I7:=aj (C.ou.ext X7.ou)
    have D7:=aj (C5.ou.aP X7.ou id)
    have b5:=aj x7
    clear hF HP c0 c1 x7
    go_upto_region 10 with fail
    rw[←av,←E]
    clear av E
    have m0:∀ξ:X l No,ξ.v.cell? ⟨f,2,none⟩=some (.map (some b)):=I7.ou.cs.x id 2
    have m1:∀ξ:X l No,ξ.v.cell? ⟨g5,0,none⟩=some (S (qm j)):=D7.ou.x id 0
    have m2:∀ξ:X l No,ξ.v.cell? ⟨g7,0,none⟩=some (.slice J R.bD.length M):=C7.ou.x id 0
    have m3:∀ξ:X l No,ξ.v.cell? ⟨g7,1,none⟩=some (.slice O R.aN.length nc):=C7.ou.x id 1
    have m4:∀ξ:X l No,ξ.v.cell? ⟨g7,2,none⟩=some (.slice P R.ou.length B):=C7.ou.x id 2
    have xd:bf l l.drew:=(al.refl No _).drew
    obtain⟨w8,r1,r2,r3⟩:=(I7.ou.mp.aP xd id).put (by unfold maxLen;omega) j (by unfold maxLen;omega) (vJ ⟨J,M,O,nc,P,B⟩ R)
    have R2:=aj r2
    have O8:Hd (al (fun q=>q=b) l w8):=(al.any xd).trans r3 fun _ _ e=>e
    have cy:(Instr.mapUpdate uj (.map (some b)) (S j) (.agg #[.slice J R.bD.length M,.slice O R.aN.length nc,.slice P R.ou.length B])).run Tryz.prog l.drew=.ok () w8:=r1
    clear xd r1 r2 r3
    refine aV [8] 8 (Cl l No) (by kernel_rfl) (by kernel_rfl) (Cl.of (al.refl _ _).drew) ?_
    refine bK ?_
    (refine bQ ?_;intro K hK)
    refine hK _ _ (fun hne=>absurd rfl hne) ?_
    clear hK K m0 m1 m2 m3 m4 cy
    refine bj ?_
    refine ar ?_
    have db:b<y.heap.size:=cf
    have b6:=ON a
    have I8:Hd (Uc y w8 f sg b z lc (nk+1) L (fun s=>if s=j then some (⟨J,M,O,nc,P,B⟩,R) else H s)):=by
     refine⟨I7.ou.cs.aP O8.ou (fun e=>bo e.symm),cl I7.ou.own O8.ou (fun g hg e=>?_),I7.ou.new,?_,fun s p e=>?_⟩
     ·obtain⟨_,m⟩:=fI I7.ou.own hg
      exact I7.ou.mp.zi m (show g=b from e).symm
     ·rw[J3];exact R2.ou
     ·have cz:∀q,TR y.heap.size (.slice z L.length lc) q→TR y.heap.size (.slice z L.length lc) q∨l.heap.size≤q:=fun q e=>.inl e
      have hO:al (TR y.heap.size (.slice z L.length lc)) l w8:=O8.ou.gU fun q _ e=>.inl (by have e:q=b:=e;omega)
      by_cases hs:s=j
      ·rw[ab hs] at e
       cases e
       refine⟨UE.step (F:=TR y.heap.size (.slice z L.length lc)) (fun v hv=>?_) ((al.any b5.ou).trans hO fun _ _ e=>e) fun q e=>.inl e,by rw[HR.ou];exact b6⟩
       have ai:∀q,TR y.heap.size (.slice z L.length lc) q→q<o.heap.size:=fun q e=>by
        rcases e with e|e
        ·have:=X5.ou.size;omega
        ·obtain⟨_,m⟩:=fI C.ou.own e
         exact m.lt
       exact⟨Uv.fresh (by decide) RF.ou.1 ai v hv,Uv.fresh (by decide) RF.ou.2.1 ai v hv,Uv.fresh (by decide) RF.ou.2.2 ai v hv⟩
      ·rw[aa hs] at e
       exact⟨(I7.ou.rc s p e).1.step hO fun q e=>.inl e,(I7.ou.rc s p e).2⟩
    have X8:Hd (al (fun q=>q=f∨q=b) y w8):=(XR.ou.ae (X5.ou.ae X7.ou)).trans O8.ou fun _ _ e=>.inr e
    have a7:Hd (L=bL (rows.take (k+1))):=by rw[Hd,bv.ou,←HL.ou];simp[Jd]
    have a8:Hd (∀s,((fun s=>if s=j then some ((⟨J,M,O,nc,P,B⟩:jy),R) else H s) s).map (·.2)=gY (rows.take (k+1)) s):=fun s=>by
     rw[bw.ou s]
     show(if s=j then some ((⟨J,M,O,nc,P,B⟩:jy),R) else H s).map (·.2)=if qm s=qm j then some (oh a).1 else _
     by_cases hs:s=j
     ·rw[ab hs,ab (by rw[hs]),←HR.ou];rfl
     ·rw[aa hs,aa (fun e=>hs (by simpa using e))];exact HH.ou s
    clear C I7 D7 C7 X7 b5 RF O8 R2
    go_wp2_with fail
    go_roundw
    case rel=>exact⟨k+1,by omega,by go_num,z,lc,nk+1,L,_,a7.ou,I8.ou,by omega,a8.ou,X8.ou⟩
    case measure=>simp[intOf];omega
  ·obtain rfl:k=rows.length:=by omega
   have a9:rows.take rows.length=rows:=ay (aq _)
   rw[a9] at HL HH
   go_wp2_with fail
   go_ret
   have HI:=I0.ou
   have S9:=bg.ou.aP a2.ou bk.ou bn.ou
   have hL:=HL.ou
   subst hL
   have dc:w.heap.size≤y.heap.size:=a1.ou.size
   refine⟨rfl,a2.ou,S9,z,lc,b,nk,H,HI.cs,fun v hv=>⟨di.jk (by decide) (cl HI.own hv fun g hg e=>by have:=HI.new g hg;have e:g<w.heap.size:=e;omega),HI.mp.aP hv (fun e=>by have e:b<w.heap.size:=e;have:=HB.ou;omega),fun s p e=>⟨(HI.rc s p e).1 v (hv.gU fun q _ e=>.inl (by have e:q<w.heap.size:=e;omega)),(HI.rc s p e).2⟩⟩,by omega,HH.ou⟩
structure qt (w0 w:World) (dg xg k:Nat) (rows:List Ch) (fp G:Nat→Prop):Prop where
 x0:bf w0 w
 hx:w0.heap.size≤xg
 ok:nu rows
 gl:∀q,G q→q<w.heap.size
 st:∃(sg next:Nat) (Z:pq) (r:jZ) (d:Dk) (lA:Option Addr) (lc b n:Nat) (H:aK→Option (jy×iT)),fp=(fun q=>Z.fp r q∨q=xg)∧SV w0 w dg sg 100 56 next (k+1) (56*k+1) rows Z r d∧RB (fun q=>fp q∨G q) w xg sg lA lc b n H rows
def sr(w0 w w':World)(dg xg k:Nat)(rows:List Ch)(fp G:Nat→Prop):Prop:=∃fp',qt w0 w' dg xg k rows fp' G∧al fp w w'∧∀q,fp' q→fp q∨w.heap.size≤q
theorem RB.gU{F a:Nat→Prop}{w:World}{c d:Nat}{f:Option Addr}{lc b n:Nat}{H:aK→Option (jy×iT)}{rows:List Ch}(h:RB F w c d f lc b n H rows)(g:∀q,a q→F q):RB a w c d f lc b n H rows:=⟨h.cs,fun v hv=>h.rb v (hv.gU fun q _ e=>g q e),h.nk,h.hk⟩
theorem RB.step{F d:Nat→Prop}{w w':World}{a c:Nat}   {rows:List Ch}(h:RB F w a c lA lc b n H rows)(e:Cs w' a Pk #[pt c,.slice lA (bL rows).length lc,.map (some b)])(f:al F w w')(g:∀q,d q→F q∨w.heap.size≤q):RB d w' a c lA lc b n H rows:=
 ⟨e,fun v hv=>h.rb v (f.under hv g),h.nk,h.hk⟩
theorem SV.jl{w0 w:World}{dg b N c next e f a:Nat}{rows:List Ch}   (h:SV w0 w dg b N c next e f rows Z r d) (g:Cs w a Pk cs):¬Z.fp r a:=
 pq.yV h.lv.st h.lv.dk g (by decide) (by decide) (by decide) (by decide) (by decide)
section
variable {w0 w u:World} {dg xg k:Nat} {rows:List Ch} {fp G:Nat→Prop}
theorem qt.ext(h:qt w0 w dg xg k rows fp G)(a:bf w u):qt w0 u dg xg k rows fp G:=by
 obtain⟨f,g,i,j,l,next,Z,r,d,m,lc,b,n,H,rfl,o,c⟩:=h
 exact⟨f.ae a,g,i,fun q e=>bZ (j q e) a.size,l,next,Z,r,d,m,lc,b,n,H,rfl,o.ext a,c.step (c.cs.aP a id) (al.any a) fun q e=>.inl e⟩
theorem sr.here(h:qt w0 u dg xg k rows fp G)(a:bf w u):sr w0 w u dg xg k rows fp G:=⟨fp,h,al.any a,fun q e=>.inl e⟩
theorem sr.after{c:Nat}{a:List Ch}{w':World}(h:sr w0 u w' dg xg c a fp G)(d:bf w u):sr w0 w w' dg xg c a fp G:=by
 obtain⟨b,f,g,i⟩:=h
 exact⟨b,f,(al.any d).trans g fun _ _ e=>e,fun q e=>(i q e).imp id fun e=>aJ d.size e⟩
theorem qt.gU{a:Nat}(h:qt w0 w dg xg k rows fp G)(o:k≤a):qt w0 w dg xg a rows fp G:=by
 obtain⟨c,e,f,g,i,next,Z,r,d,j,lc,b,n,H,rfl,l,m⟩:=h
 exact⟨c,e,f,g,i,next,Z,r,d,j,lc,b,n,H,rfl,l.gU (by omega) (by omega),m⟩
theorem JA(rows:List Ch)(used:Nat)(c:List Ch):(KK rows used 56 c).1.1=(oN rows c).1∧(KK rows used 56 c).2=(oN rows c).2:=by
 unfold KK oN
 split
 ·exact⟨rfl,rfl⟩
 ·rename_i h
  split
  ·exact⟨rfl,rfl⟩
  ·by_cases a:lK (dw rows c)=true
   ·rw[ab a,ab (.inl a)];exact⟨rfl,rfl⟩
   ·rw[aa a,aa (fun e=>e.elim a fun e=>by omega)];exact⟨rfl,rfl⟩
theorem CY(I:sF w0)(h:qt w0 w dg xg k rows fp G)(hk:k≤1000000) {cap:Nat}{c:List Ch}(Y:∀v,al fp w v→di fA v A n c)(hn:n≤1000000)(M:∀x∈c,x.1.length≤1000∧x.2.1.length≤1000)(hp:(oN rows c).2=0→sR c) :
  Calls Tryz.prog 49 #[pt xg,.slice A n cap] w fun e w'=>e=.returned (eT (oN rows c).2)∧sr w0 w w' dg xg (k+1) (oN rows c).1 fp G:=by
 obtain⟨J,hx,ok,gl,K,next,Z,r,d,lA,lc,b,nn,H,rfl,s,hK⟩:=h
 have m:=s.SY I.ml (I.ml.ext J) J.size (by omega) (cap:=cap) (fun v hv=>Y v (hv.gU fun _ _ e=>.inl e)) hn M
 rw[(JA rows next c).1,(JA rows next c).2] at m
 have o:=aj m
 have g:=aj (ok.RS (l:=c) hp)
 have u:=aj (ni rows c)
 obtain⟨R,hR⟩:∃R,R=oN rows c:=⟨_,rfl⟩
 rw[←hR] at o g u ⊢
 obtain⟨a,f⟩:=R
 have HE:=aj I
 have N:=aj J
 have i:=aj hx
 have HS:=aj s
 have HK:=aj hK
 have k0:w.cell? ⟨xg,0,none⟩=some (pt K):=hK.cs.cell 0
 have O:=aj (s.jl hK.cs)
 have ac:=aj (Aa s.lv.st s.lv.dk)
 have ag:=aj hK.cs.lt
 have p:=aj gl
 clear m I J hx s hK Y hp hR ok
 go_enter Tryz.func49,Tryz.ntmps49
 go_wp2_with fail
 refine o.ou.mono ?_
 rintro e P ⟨rfl,h0,y,z,Q,B,j,C⟩
 have L:Hd (SV w0 P dg K 100 56 (KK rows next 56 c).1.2 (k+1+1) (56*(k+1)+1) a y z Q):=B.gU (aq _) (by omega)
 have t:=aj j
 have F1:=aj C
 have S:=aj (HK.ou.cs.aP j O.ou)
 have T:Hd (bf w0 P):=N.ou.trans j fun q hq e=>by have:=HS.ou.lv.fp q e;omega
 clear B j C o k0
 rcases u.ou with⟨e,-,-⟩|⟨e,h1,-⟩
 ·obtain⟨e1,rfl⟩:a=dw rows c∧f=0:=by injection e with e1 e2;exact⟨e1,e2⟩
  clear e h0
  rw[cO]
  have HL:=aj (NF HE.ou T.ou L.ou S.ou i.ou g.ou)
  go_wp2_with fail
  refine HL.ou.mono ?_
  rintro e u2 ⟨rfl,D,E,U,V,b2,n2,H2,F⟩
  have W:=aj D
  have S2:=aj E
  have K2:=aj F
  clear D E F HL
  go_wp2_with fail
  go_ret
  have X:∀q,((y.fp z q∨q=xg)∨G q)→q<P.heap.size:=fun q e=>by
   rcases e with(e|e)|e
   ·exact Aa L.ou.lv.st L.ou.lv.dk q e
   ·rw[e];exact S.ou.lt
   ·exact bZ (p.ou q e) t.ou.size
  refine⟨rfl,_,⟨T.ou.trans W.ou fun q hq e=>by have e:q=xg:=e;have:=i.ou;omega,i.ou,g.ou,fun q e=>bZ (p.ou q e) (aJ t.ou.size W.ou.size),K,_,y,z,Q,U,V,b2,n2,H2,rfl,S2.ou,K2.ou.gU X⟩,(t.ou.gU fun _ _ e=>.inl e).trans W.ou fun _ _ e=>.inr e,fun q e=>?_⟩
  rcases e with e|e
  ·exact(F1.ou q e).imp .inl id
  ·exact .inl (.inr e)
 ·have e:a=rows:=e
  have h1:0<f:=h1
  subst e
  rw[bS (by omega:f≠0)]
  go_wp2_with fail
  go_ret
  have hf:∀q,(y.fp z q∨q=xg)→(Z.fp r q∨q=xg)∨w.heap.size≤q:=fun q e=>by
   rcases e with e|e
   ·exact(F1.ou q e).imp .inl id
   ·exact .inl (.inr e)
  exact⟨by rw[bS (by omega:f≠0)];rfl,_,⟨T.ou,i.ou,g.ou,fun q e=>bZ (p.ou q e) t.ou.size,K,_,y,z,Q,lA,lc,b,nn,H,rfl,L.ou,HK.ou.step S.ou (t.ou.gU fun _ _ e=>.inl (.inl e)) fun q e=>e.elim (fun e=>(hf q e).imp .inl id) fun e=>.inl (.inr e)⟩,t.ou.gU fun _ _ e=>.inl e,hf⟩
theorem qt.lt(h:qt w0 w dg xg k rows fp G):∀q,fp q→q<w.heap.size:=by
 obtain⟨-,-,-,-,f,next,Z,r,d,g,lc,b,n,H,rfl,a,c⟩:=h
 intro q e
 rcases e with e|e
 ·exact Aa a.lv.st a.lv.dk q e
 ·rw[e];exact c.cs.lt
theorem JU{v:World}  (h:Cs v g sD #[S c.1,S c.2.1,.bool c.2.2]):di fA v (some ⟨g,0,none⟩) 1 [c]:=by
 refine⟨rfl,fun _=>⟨g,0,rfl,h.lt,fun k x hk j u hu=>?_⟩⟩
 cases k with
 | zero=>
  cases hk
  match j,hu with
  | 0,hu=>exact(h.cell 0).trans hu
  | 1,hu=>exact(h.cell 1).trans hu
  | 2,hu=>exact(h.cell 2).trans hu
 | succ k=>simp at hk
def wZ(rows:List Ch)(f:bm):List Ch×Int:=if qi f≠0 then (rows,qi f) else oN rows [cF f]
def EY(rows:List Ch)(n:aK):List Ch×Int:=if ji n (bL rows)=true then oN rows [(mX n,[],true)] else (rows,5)
theorem J4{n t:aK}{g:Bool}:sR [(mX n,t,g)]:=fun c hc=>by rw[aC.1 hc];intro h;exact absurd rfl h
theorem El(P:sF w0)(h:qt w0 w dg xg k rows fp G)(hk:k≤1000000)(f:bm)(Q:f.1.length≤900)(R:f.2.length≤900) :
  Calls Tryz.prog 24 #[pt xg,.agg #[S f.1,S f.2]] w fun e w'=>e=.returned (eT (wZ rows f).2)∧sr w0 w w' dg xg (k+1) (wZ rows f).1 fp G:=by
 obtain⟨s,i⟩:∃u,u=w.alloc (.cells #[S f.1,S f.2] 54):=⟨_,rfl⟩
 obtain⟨r,m⟩:∃g,g=w.heap.size:=⟨_,rfl⟩
 have T:bf w s:=by rw[i];exact(al.refl No w).alloc _
 have J:Hd (Cs s r 54 #[S f.1,S f.2]):=by rw[i,m];exact Cs.new _ _ _
 have o:=aj (fun v=>PP f v (by omega) (by omega))
 have j:Hd (wZ rows f=if qi f≠0 then (rows,qi f) else oN rows [cF f]):=rfl
 obtain⟨ff,t⟩:∃x,x=qi f:=⟨_,rfl⟩
 rw[←t] at o j
 have L:=aj (fun v=>Iw f.1 (by omega) v)
 have X1:=aj T
 have M:=aj h
 have HE:=aj P
 have y:∀q,fp q→¬q=r:=fun q e he=>by have:=h.lt q e;omega
 have z:=aj y
 obtain⟨b,d⟩:=f
 have Q:b.length≤900:=Q
 have R:d.length≤900:=R
 clear P h T t y
 go_enter Tryz.func24,Tryz.ntmps24
 go_upto_region 1 with fail
 rw[←i,←m]
 clear i m
 have k0:s.cell? ⟨r,0,none⟩=some (S b):=J.ou.cell 0
 have k1:s.cell? ⟨r,1,none⟩=some (S d):=J.ou.cell 1
 go_wp2_with fail
 refine(o.ou s).mono ?_
 rintro e B ⟨rfl,l⟩
 have X2:=aj l
 have U:=aj (J.ou.aP l id)
 have C:=aj (X1.ou.ae l)
 clear l o k0 k1
 by_cases F:ff=0
 case neg=>
  rw[bS F]
  go_wp2_with fail
  go_ret
  rw[j.ou,ab F]
  exact⟨by rw[bS F];rfl,sr.here ((M.ou.ext C.ou).gU (fN _)) C.ou⟩
 subst F
 rw[cO]
 have D:Hd (wZ rows (b,d)=oN rows [cF (b,d)]):=by rw[Hd,j.ou,aa (by simp)]
 have m0:∀ξ:X B fp,ξ.v.cell? ⟨r,0,none⟩=some (S b):=U.ou.x (fun e=>z.ou _ e rfl) 0
 have m1:∀ξ:X B fp,ξ.v.cell? ⟨r,1,none⟩=some (S d):=U.ou.x (fun e=>z.ou _ e rfl) 1
 clear j
 go_upto_region 4 with fail
 (refine aV [3,7,8] 100 (Cl (B) (fp)) (by kernel_rfl) (by kernel_rfl) (Cl.of (al.refl _ _).drew) ?_;refine bK ?_)
 (refine bQ ?_;intro K hK)
 refine(L.ou _).mono ?_
 rintro e H ⟨rfl,l⟩
 have N:Hd (bf B H):=(al.refl No B).drew.ae l
 refine⟨_,rfl,hK _ _ (fun _=>Cl.of (al.any N.ou)) ?_⟩
 clear hK K l
 refine bj ?_
 refine bK ?_
 (refine bQ ?_;intro K hK)
 obtain⟨V,a⟩:∃u,u=H.alloc (.cells #[S (mX b),S d,.bool false] sD):=⟨_,rfl⟩
 obtain⟨O,p⟩:∃g,g=H.heap.size:=⟨_,rfl⟩
 have W:bf H V:=by rw[a];exact(al.refl No _).alloc _
 have Y:Hd (Cs V O sD #[S (mX b),S d,.bool false]):=by rw[a,p];exact Cs.new _ _ _
 have I:=aj (N.ou.ae W)
 have E:=aj (CY (cap:=1) (A:=some ⟨O,0,none⟩) (n:=1) (c:=[cF (b,d)]) HE.ou (M.ou.ext (C.ou.ae I.ou)) hk (fun v hv=>JU (c:=cF (b,d)) (Y.ou.aP hv fun e=>by
  have Z:=M.ou.lt O e
  have h4:=(C.ou.ae N.ou).size
  omega)) (by omega) (fun x l=>by rw[aC.1 l];exact⟨by show b.length+2≤1000;omega,by show d.length≤1000;omega⟩) (fun _=>J4))
 refine hK _ _ (fun _=>by rw[←a];exact Cl.of (al.any I.ou)) ?_
 clear hK K W
 refine bj ?_
 rw[←a,←p]
 clear a p Y m0 m1
 refine bK ?_
 (refine bQ ?_;intro K hK)
 refine E.ou.mono ?_
 rintro e u5 ⟨rfl,hR⟩
 have R5:=aj hR
 refine⟨_,rfl,hK _ _ (fun _=>by
  obtain⟨ac,-,Z,-⟩:=R5.ou
  exact Cl.of ((al.any I.ou).trans Z fun _ _ e=>e)) ?_⟩
 clear hK K hR E
 refine bj ?_
 refine bK ?_
 refine ar ?_
 go_wp2_with fail
 go_ret
 rw[D.ou]
 exact⟨rfl,R5.ou.after (C.ou.ae I.ou)⟩
theorem kS(h:qt w0 w dg xg k rows fp G):Calls Tryz.prog 18 #[pt xg] w fun e w'=>∃A c,e=.returned (.slice A (bL rows).length c)∧bR br 54 w w' A c (bL rows):=by
 have s:=(fh h.ok.jx h.ok.E9).1
 obtain⟨-,-,-,-,t,next,Z,r,d,j,lc,b,n,H,rfl,l,a⟩:=h
 have f:=(a.rb w (al.refl _ _)).1
 have g:=aj (mD (c:=lc) f f.kR (by omega))
 have m:w.cell? ⟨xg,1,none⟩=some (.slice j (bL rows).length lc):=a.cs.cell 1
 clear f l a
 go_enter Tryz.func18,Tryz.ntmps18
 go_wp2_with fail
 refine g.ou.mono ?_
 rintro e u ⟨o,p,rfl,i⟩
 have q:=aj i
 clear i g m
 go_wp2_with fail
 go_ret
 exact⟨o,p,rfl,q.ou⟩
theorem Pe(E:sF w0)(h:qt w0 w dg xg k rows fp G)(N:k≤1000000)(n:aK)(X:n.length≤900) :
  Calls Tryz.prog 32 #[pt xg,S n] w fun e w'=>e=.returned (eT (EY rows n).2)∧sr w0 w w' dg xg (k+1) (EY rows n).1 fp G:=by
 have q:=aj h
 have O:=aj E
 have s:=(fh h.ok.jx h.ok.E9)
 have P:=s.1
 have f:Hd (EY rows n=if ji n (bL rows)=true then oN rows [(mX n,[],true)] else (rows,5)):=rfl
 have t:=aj (fun v=>Iw n (by omega) v)
 obtain⟨-,-,-,-,Y,next,Z,r,d,Q,lc,b,nn,H,y,R,z⟩:=h
 have p:=aj (um (c:=lc) (z.rb w (al.refl _ _)).1 (by omega) n s.2.1)
 obtain⟨T,l⟩:∃x,x=ji n (bL rows):=⟨_,rfl⟩
 obtain⟨gt,m⟩:∃x,x=ki n (bL rows):=⟨_,rfl⟩
 rw[←l] at p f
 rw[←m] at p
 have U:w.cell? ⟨xg,1,none⟩=some (.slice Q (bL rows).length lc):=z.cs.cell 1
 clear E s y R z l m
 go_enter Tryz.func32,Tryz.ntmps32
 go_wp2_with fail
 refine p.ou.mono ?_
 rintro e u2 ⟨rfl,i⟩
 have B:=aj i
 clear i p U
 cases T with
 | false=>
  go_wp2_with fail
  go_ret
  rw[f.ou,aa (by simp)]
  exact⟨rfl,sr.here ((q.ou.ext B.ou).gU (fN _)) B.ou⟩
 | true=>
  go_wp2_with fail
  refine(t.ou _).mono ?_
  rintro e C ⟨rfl,i⟩
  have F:=aj (B.ou.ae i)
  clear i
  obtain⟨I,a⟩:∃u,u=C.alloc (.cells #[S (mX n),S [],.bool true] sD):=⟨_,rfl⟩
  obtain⟨D,j⟩:∃g,g=C.heap.size:=⟨_,rfl⟩
  have J:bf C I:=by rw[a];exact(al.refl No _).alloc _
  have K:Hd (Cs I D sD #[S (mX n),S [],.bool true]):=by rw[a,j];exact Cs.new _ _ _
  have L:=aj (F.ou.ae J)
  have o:=aj (CY (cap:=1) (A:=some ⟨D,0,none⟩) (n:=1) (c:=[(mX n,[],true)]) O.ou (q.ou.ext L.ou) N (fun v hv=>JU (c:=(mX n,[],true)) (K.ou.aP hv fun e=>by
   have h3:=q.ou.lt D e
   have h4:=F.ou.size
   omega)) (by omega) (fun x i=>by rw[aC.1 i];exact⟨by show n.length+2≤1000;omega,by show 0≤1000;omega⟩) (fun _=>J4))
  clear J K
  go_wp2_with fail
  have V:(Value.string ⟨#[]⟩)=S []:=rfl
  rw[V,←a,←j]
  clear a j
  refine o.ou.mono ?_
  rintro e u5 ⟨rfl,M⟩
  have W:=aj M
  clear M o
  go_wp2_with fail
  go_ret
  rw[f.ou,ab (by trivial)]
  exact⟨rfl,W.ou.after L.ou⟩
theorem MN(m:sF w0)(h:qt w0 w dg xg k rows fp G)(M:k≤1000000) :
  Calls Tryz.prog 65 #[pt xg] w fun e w'=>e=.returned .nilIface∧sr w0 w w' dg xg (k+1) rows fp G:=by
 obtain⟨j,y,z,D,n,next,Z,r,d,E,lc,b,F,H,rfl,l,hK⟩:=h
 have a:=aj (l.save m.ml (m.ml.ext j) j.size (by omega))
 have I:=aj l
 have A:=aj hK
 have o:=aj j
 have p:=aj y
 have s:=aj z
 have t:=aj D
 have u:=aj (l.jl hK.cs)
 have k0:w.cell? ⟨xg,0,none⟩=some (pt n):=hK.cs.cell 0
 clear j y z l hK m
 go_enter Tryz.func65,Tryz.ntmps65
 go_wp2_with fail
 refine a.ou.mono ?_
 rintro e J ⟨rfl,v,x,B,c,f,g⟩
 have K:Hd (SV w0 J dg n 100 56 0 (k+1+1) (56*(k+1)+1) rows v x B):=c.gU (aq _) (by omega)
 have i:=aj f
 have L:=aj g
 clear c f g a k0
 go_wp2_with fail
 go_ret
 have C:∀q,(v.fp x q∨q=xg)→(Z.fp r q∨q=xg)∨w.heap.size≤q:=fun q e=>by
  rcases e with e|e
  ·exact(L.ou q e).imp .inl id
  ·exact .inl (.inr e)
 exact⟨rfl,_,⟨o.ou.trans i.ou fun q hq e=>by have:=I.ou.lv.fp q e;omega,p.ou,s.ou,fun q e=>bZ (t.ou q e) i.ou.size,n,_,v,x,B,E,lc,b,F,H,rfl,K.ou,A.ou.step (A.ou.cs.aP i.ou u.ou) (i.ou.gU fun _ _ e=>.inl (.inl e)) fun q e=>e.elim (fun e=>(C q e).imp .inl id) fun e=>.inl (.inr e)⟩,i.ou.gU fun _ _ e=>.inl e,C⟩
theorem ED(E:sF w0)(F:bf w0 w)(G:nu rows){next:Nat}{P:Nat→Prop}(m:Calls Tryz.prog 53 #[pt dg] w fun e w'=>∃c,e=.returned (.tuple #[pt c,.nilIface])∧bf w w'∧∃Z r d,SV w0 w' dg c 100 56 next (k+1) (56*k+1) rows Z r d∧∀b,Z.fp r b→P b∨w.heap.size≤b) :
  Calls Tryz.prog 28 #[pt dg] w fun e w'=>∃a,e=.returned (.tuple #[pt a,.nilIface])∧bf w w'∧∃fp',qt w0 w' dg a k rows fp' No∧∀q,fp' q→P q∨w.heap.size≤q:=by
 have n:=aj m
 have M:=aj E
 have l:=aj F
 have o:=aj G
 clear F G E m
 go_enter Tryz.func28,Tryz.ntmps28
 go_wp2_with fail
 refine n.ou.mono ?_
 rintro e z ⟨c,rfl,y,N,O,Q,p,s⟩
 have Y:=aj y
 have R:=aj s
 obtain⟨H,f⟩:∃u,u=z.alloc (.cells #[pt c,.slice none 0 0,.map none] Pk):=⟨_,rfl⟩
 obtain⟨a,h⟩:∃g,g=z.heap.size:=⟨_,rfl⟩
 have A:bf z H:=by rw[f];exact(al.refl No _).alloc _
 have I:Hd (Cs H a Pk #[pt c,.slice none 0 0,.map none]):=by rw[f,h];exact Cs.new _ _ _
 have B:=aj (p.ext A)
 have J:=aj (y.ae A)
 have i:Hd (w.heap.size≤a):=by rw[Hd,h];exact y.size
 have j:=aj l.ou.size
 have K:=aj (NF M.ou (l.ou.ae J.ou) B.ou I.ou (aJ j.ou i.ou) o.ou)
 clear y p s A n
 go_wp2_with fail
 rw[←f,←h]
 clear f h
 refine K.ou.mono ?_
 rintro e S ⟨rfl,t,v,C,D,b3,T,U,x⟩
 have V:=aj t
 have W:=aj v
 have X:=aj x
 clear t v x K
 go_wp2_with fail
 go_ret2
 have L:bf w S:=J.ou.trans V.ou fun q hq e=>by have e:q=a:=e;have:=i.ou;omega
 refine⟨a,rfl,L,_,⟨l.ou.ae L,aJ j.ou i.ou,o.ou,(fun q e=>e.elim),c,_,N,O,Q,C,D,b3,T,U,rfl,W.ou,X.ou.gU fun q e=>?_⟩,fun q e=>?_⟩
 ·rcases e with(e|e)|e
  ·exact Aa B.ou.lv.st B.ou.lv.dk q e
  ·rw[e];exact I.ou.lt
  ·exact e.elim
 ·rcases e with e|e
  ·exact R.ou q e
  ·exact .inr (by rw[e];exact i.ou)
theorem OX(c:sF w0)(h:qt w0 w dg xg k rows fp G) :
  Calls Tryz.prog 28 #[pt dg] w fun e w'=>∃xg',e=.returned (.tuple #[pt xg',.nilIface])∧bf w w'∧∃fp',qt w0 w' dg xg' k rows fp' No∧∀q,fp' q→fp q∨w.heap.size≤q:=by
 obtain⟨a,i,f,j,l,next,Z,r,d,m,lc,b,n,H,rfl,g,hK⟩:=h
 exact ED c a f ((g.open (c.ml.ext a) a.size).mono fun e w' ⟨sg',h1,h2,Z',r',d',h3,_,h5⟩=>⟨sg',h1,h2,Z',r',d',h3,fun b e=>(h5 b e).imp .inl id⟩)
end
theorem I1{w:World} {c d:Nat}{xs:List Nat}(j:di G9 w A n xs)(l:di G9 w B n xs)(C:n≤10000) :
  Calls Tryz.prog 51 #[.slice A n c,.slice B n d] w fun e w'=>e=.returned (.bool true)∧bf w w':=by
 have r:=aj j
 have t:=aj l
 clear j l
 go_enter Tryz.func51,Tryz.ntmps51
 go_wp2_with fail
 go_loopw [5] (fun i wr=>∃k:Nat,k≤n∧i=.int .i64 k∧bf w wr) (fun i _=>n-(intOf i).toNat)
 case atStart=>exact⟨0,au _,rfl,al.refl _ _⟩
 case round=>
  obtain⟨k,D,rfl,m⟩:=hrel
  have g:=aj m
  clear m
  by_cases f:k<n
  ·obtain⟨b,o,s,rfl,p,c1⟩:=v7 r.ou f
   obtain⟨u,x,y,rfl,a,q⟩:=v7 t.ou f
   obtain rfl:s=y:=by rw[p] at a;exact bB a
   have E:∀ξ:X wr No,ξ.v.cell? ⟨b,o+k,none⟩=some (.int .i64 (s:Int)):=fun ξ=>c1 ⟨ξ.v,g.ou.ae ξ.h⟩
   have F:∀ξ:X wr No,ξ.v.cell? ⟨u,x+k,none⟩=some (.int .i64 (s:Int)):=fun ξ=>q ⟨ξ.v,g.ou.ae ξ.h⟩
   clear p a c1 q
   have z:Hd (bf w wr.drew):=g.ou.drew
   go_upto_region 6 with fail
   refine aV [] 100 (Cl wr No) (by kernel_rfl) (by kernel_rfl) (Cl.of (al.refl _ _).drew) ?_
   refine dH ?_
   refine ar ?_
   go_wp2_with fail
   go_roundw
   case rel=>exact⟨k+1,by omega,by go_num,z.ou⟩
   case measure=>simp[intOf];omega
  ·obtain rfl:k=n:=by omega
   go_wp2_with fail
   go_ret
   exact⟨rfl,g.ou⟩
theorem Gy{w:World} {c d:Nat}{xs ys:List ((Option Addr×Nat)×List Nat)}{a:List (List Nat)}(h:Be w A xs a)(r:Be w B ys a)(P:a.length≤100)(m:∀u∈a,u.length≤100) :
  Calls Tryz.prog 25 #[.slice A a.length c,.slice B a.length d] w fun e w'=>e=.returned (.bool true)∧bf w w':=by
 have H:=aj h
 have K:=aj r
 have E:=aj m
 clear h r m
 go_enter Tryz.func25,Tryz.ntmps25
 go_wp2_with fail
 go_loopw [5] (fun i wr=>∃k:Nat,k≤a.length∧i=.int .i64 k∧bf w wr) (fun i _=>a.length-(intOf i).toNat)
 case atStart=>exact⟨0,au _,rfl,al.refl _ _⟩
 case round=>
  obtain⟨k,Q,rfl,s⟩:=hrel
  have n:=aj s
  clear s
  by_cases p:k<a.length
  ·obtain⟨b,o,⟨⟨C,t⟩,u⟩,rfl,f,c1⟩:=yK H.ou.1 p
   obtain⟨F,G,⟨⟨I,q⟩,x⟩,rfl,g,y⟩:=yK K.ou.1 p
   have j:a[k]?=some u:=by rw[←H.ou.2.2,bP,f];rfl
   have l:a[k]?=some x:=by rw[←K.ou.2.2,bP,g];rfl
   obtain rfl:u=x:=by rw[j] at l;exact bB l
   have J:=E.ou u (ah j)
   have L:=aj (fun z (hz:bf w z)=>I1 (c:=t) (d:=q) ((H.ou.2.1 _ (ah f)).ext hz) ((K.ou.2.1 _ (ah g)).ext hz) (by dsimp only;omega))
   have M:∀ξ:X wr No,ξ.v.cell? ⟨b,o+k,none⟩=some (.slice C u.length t):=fun ξ=>c1 ⟨ξ.v,n.ou.ae ξ.h⟩
   have N:∀ξ:X wr No,ξ.v.cell? ⟨F,G+k,none⟩=some (.slice I u.length q):=fun ξ=>y ⟨ξ.v,n.ou.ae ξ.h⟩
   clear f g c1 y j l
   go_upto_region 6 with fail
   refine aV [8] 100 (Cl wr No) (by kernel_rfl) (by kernel_rfl) (Cl.of (al.refl _ _).drew) ?_
   refine dH ?_
   (refine bQ ?_;intro K hK)
   refine(L.ou _ (n.ou.ae (al.refl No wr).drew)).mono ?_
   rintro e O ⟨rfl,m⟩
   have D:Hd (bf wr O):=(al.refl No wr).drew.ae m
   refine⟨_,rfl,hK _ _ (fun _=>Cl.of D.ou) ?_⟩
   clear hK K m M N
   refine bj ?_
   refine dH ?_
   refine ar ?_
   go_wp2_with fail
   go_roundw
   case rel=>exact⟨k+1,by omega,by go_num,n.ou.ae D.ou⟩
   case measure=>simp[intOf];omega
  ·obtain rfl:k=a.length:=by omega
   go_wp2_with fail
   go_ret
   exact⟨rfl,n.ou⟩
theorem oW  {r:Nat→Nat}:(dD gs st r).length≤gs.length:=by
 have h:=iA (pJ gs st r) (List.range gs.length)
 rwa [fD] at h
theorem Ag  {r:Nat→Nat}:∀u∈dD gs st r,u.length≤gs.length:=by
 intro u a
 obtain⟨p,_,rfl,_⟩:=lp a
 have:=dK (fun k=>pk st k&&decide (r k=p)) (List.range gs.length)
 rwa [fD] at this
end Go.Proofs.YtpgmcijdcnnjpaaGreatDoor
