/- Lemmas for it. -/
import Derived.Test.YtpgmcijdcnnjpaaGreatDoorPk08
set_option linter.all false
set_option maxRecDepth 100000
set_option maxHeartbeats 4000000
namespace Go.Proofs.YtpgmcijdcnnjpaaGreatDoor
open Go Go.RowKit
variable {Q:List lD} {w wr:World} {g k:Nat} {v:wR} {rs:List (fW×lR)} {m:Mk}
@[go_sem] theorem SF (A B:Option Addr) (n c m d:Nat) (w:World):(Instr.build kP #[(0,.slice A n c),(1,.slice B m d)]).run Tryz.prog w=.ok (.agg #[.slice A n c,.slice B m d,.slice none 0 0]) w:=run_build w kP _ _ (by kernel_rfl)
theorem Nz       (hm:Ml w)(h:qp Q w wr g v rs m)(hf:m.Fit k)(s:aK)(hs:s.length≤600) :
  Calls Tryz.prog 117 #[VY g,S s] wr (Ns Q w g (mH m s)):=by
 have P:=aj h
 have HM:=aj hm
 have HT:=aj (h.text hm hf.v hf.vt s hs)
 have HB:=aj (wW m.vars 6 s)
 have a5:m.rules.length≤10:=hf.r
 have HF:Hd (mH m s=if (oR m.vars 6 s).2≠0 then (m,(oR m.vars 6 s).2)
  else if (dB 58 (oR m.vars 6 s).1).2.2=false∨fP (dB 58 (oR m.vars 6 s).1).1=[] then (m,4)
  else if 2<(fP (dB 58 (oR m.vars 6 s).1).1).length∨3<(fP (dB 58 (oR m.vars 6 s).1).2.1).length∨m.rules.length=10 then (m,2)
  else if Jj (fP (dB 58 (oR m.vars 6 s).1).1) (fP (dB 58 (oR m.vars 6 s).1).2.1)=true then (⟨m.vars,m.rules++[⟨fP (dB 58 (oR m.vars 6 s).1).1,fP (dB 58 (oR m.vars 6 s).1).2.1,[]⟩],m.ba⟩,0)
  else (m,3)):=rfl
 have c0:wr.cell? ⟨g,0,none⟩=some (.slice v.vA m.vars.length v.vc):=h.rc.cell 0
 clear h hf hm
 generalize oR m.vars 6 s=ex at HF HT HB
 obtain⟨t,e⟩:=ex
 dsimp only at HF HT HB
 have bs:=HB.ou
 go_enter Tryz.func117,Tryz.ntmps117
 go_wp2_with fail
 refine HT.ou.mono ?_
 rintro e' w1 ⟨rfl,C⟩
 have P1:=aj (P.ou.ext C)
 clear C P HT c0
 by_cases he:e=0
 ·subst he
  rw[cO]
  have HC:=aj (Dz t 58 (by omega) (HM.ou.ext P1.ou.x))
  have R:=aj (qw 58 t)
  have z:=aj (HF.ou.trans (aa (fun h=>h rfl)))
  clear HF
  generalize dB 58 t=q at HC z R
  obtain⟨ta,tb,is⟩:=q
  dsimp only at HC z R
  have bd:ta.length≤600:=by have:=R.ou;omega
  have bg:tb.length≤600:=by have:=R.ou;omega
  have am:=aj (fun v=>JN ta (by omega) v)
  have ao:=aj (fun v=>JN tb (by omega) v)
  have ap:=aj (fun l (hl:l∈fP ta)=>yd hl)
  have av:=aj (fun l (hl:l∈fP tb)=>yd hl)
  have bi:=AK ta
  have bk:=AK tb
  generalize fP ta=T at am z ap bi
  generalize fP tb=N at ao z av bk
  go_wp2_with fail
  refine HC.ou.mono ?_
  rintro e' w2 ⟨rfl,C⟩
  have P2:=aj (P1.ou.ext C)
  clear C P1 HC
  go_wp2_with fail
  refine(am.ou _).mono ?_
  rintro e' w3 ⟨D,B,rfl,hT⟩
  have P3:=aj (P2.ou.ext hT.ext)
  have S3:=aj (P2.ou.ss.add P2.ou.x (x:=⟨D,B,T⟩) hT)
  have T3:=aj hT
  clear hT am P2
  go_wp2_with fail
  refine(ao.ou _).mono ?_
  rintro e' w4 ⟨G,nc,rfl,hN⟩
  have P4:=aj (P3.ou.ext hN.ext)
  have S4:=aj (S3.ou.add P3.ou.x (x:=⟨G,nc,N⟩) hN)
  have T4:=aj (T3.ou.on hN.ext)
  have N4:=aj hN
  clear hN ao P3 S3 T3
  obtain⟨I,aD⟩:∃g,g=w4.heap.size:=⟨_,rfl⟩
  obtain⟨H,V⟩:∃u,u=w4.alloc (.cells #[.slice D T.length B,.slice G N.length nc,.slice none 0 0] kP):=⟨_,rfl⟩
  have x5:bf w4 H:=by rw[V];exact(al.refl No w4).alloc _
  have C5:Hd (Cs H I kP #[.slice D T.length B,.slice G N.length nc,.slice none 0 0]):=by rw[V,aD];exact Cs.new _ _ _
  have W:=aj (P4.ou.ext x5)
  have S5:Hd (nQ w H (Q++⟨v.pA,v.pc,m.ba⟩::(rs++[((⟨D,B,G,nc,none,0⟩:fW),(⟨T,N,[]⟩:lR))]).flatMap oq)):=by
   have:=S4.ou.add P4.ou.x (x:=⟨none,0,[]⟩) (bR.nil cI 9 w4 H x5)
   have e:Q++(⟨v.pA,v.pc,m.ba⟩:lD)::(rs++[((⟨D,B,G,nc,none,0⟩:fW),(⟨T,N,[]⟩:lR))]).flatMap oq=Q++(⟨v.pA,v.pc,m.ba⟩:lD)::rs.flatMap oq++[⟨D,B,T⟩]++[⟨G,nc,N⟩]++[⟨none,0,[]⟩]:=by
    simp[bF]
   rw[Hd,e]
   exact this
  have T5:=aj ((T4.ou.on x5).row (by decide))
  have N5:=aj ((N4.ou.on x5).row (by decide))
  have bn:Hd (∀b,(Value.slice v.rA rs.length v.rc).ownBlock=some b→b≠I):=fun b hb e=>by
   obtain⟨_,hc⟩:=fI P4.ou.fr.own hb
   have:=hc.lt
   omega
  clear x5 P4 S4 T4 N4
  go_upto_region 6 with fail
  rw[←V,←aD]
  clear V aD
  have d0:H.cell? ⟨I,0,none⟩=some (.slice D T.length B):=C5.ou.cell 0
  have d1:H.cell? ⟨I,1,none⟩=some (.slice G N.length nc):=C5.ou.cell 1
  have c1:H.cell? ⟨g,1,none⟩=some (.slice v.rA m.rules.length v.rc):=by rw[←W.ou.rl];exact W.ou.rc.cell 1
  cases is with
  | false=>
   have A:Hd (mH m s=(m,4)):=z.ou.trans (ab (.inl rfl))
   go_wp2_with fail
   go_ret
   exact⟨v,rs,by rw[A.ou];rfl,by rw[A.ou];exact W.ou⟩
  | true=>
   by_cases h0:T.length=0
   ·have g0:decide ((T.length:Int)=0)=true:=by rw[aW];omega
    have A:Hd (mH m s=(m,4)):=z.ou.trans (ab (.inr (bM h0)))
    go_wp2_with fail
    go_ret
    exact⟨v,rs,by rw[A.ou];rfl,by rw[A.ou];exact W.ou⟩
   ·have g0:decide ((T.length:Int)=0)=false:=by rw[aA];omega
    have A:=aj (z.ou.trans (aa (by rintro(h|h);exact absurd h (by decide);exact h0 (by rw[h];rfl))))
    clear z
    have Y:Hd ((2<T.length∨3<N.length∨m.rules.length=10)→mH m s=(m,2)):=fun h=>A.ou.trans (ab h)
    by_cases h2:2<T.length
    ·have g2:decide ((2:Int)<(T.length:Int))=true:=by rw[aW];omega
     have d:=aj (Y.ou (.inl h2))
     go_wp2_with fail
     go_ret
     exact⟨v,rs,by rw[d.ou];rfl,by rw[d.ou];exact W.ou⟩
    ·have g2:decide ((2:Int)<(T.length:Int))=false:=by rw[aA];omega
     by_cases h3:3<N.length
     ·have g3:decide ((3:Int)<(N.length:Int))=true:=by rw[aW];omega
      have d:=aj (Y.ou (.inr (.inl h3)))
      go_wp2_with fail
      go_ret
      exact⟨v,rs,by rw[d.ou];rfl,by rw[d.ou];exact W.ou⟩
     ·have g3:decide ((3:Int)<(N.length:Int))=false:=by rw[aA];omega
      by_cases h4:m.rules.length=10
      ·have g4:decide ((m.rules.length:Int)=10)=true:=by rw[aW];omega
       have d:=aj (Y.ou (.inr (.inr h4)))
       go_wp2_with fail
       go_ret
       exact⟨v,rs,by rw[d.ou];rfl,by rw[d.ou];exact W.ou⟩
      ·have g4:decide ((m.rules.length:Int)=10)=false:=by rw[aA];omega
       have d:=aj (A.ou.trans (aa (by omega)))
       clear A Y
       have D0:∀ξ:X H No,ξ.v.cell? ⟨I,0,none⟩=some (.slice D T.length B):=C5.ou.x id 0
       have D1:∀ξ:X H No,ξ.v.cell? ⟨I,1,none⟩=some (.slice G N.length nc):=C5.ou.x id 1
       go_upto_region 10 with fail
       refine aV [2,5] 100 (Cl H No) (by kernel_rfl) (by kernel_rfl) (Cl.eU (X.here H No)) ?_
       refine dH ?_
       have hA:D=none→T.length=0:=fun e=>by
        obtain⟨b,o,e2,_⟩:=T5.ou.2 (by omega)
        rw[e] at e2
        cases e2
       have TD:=aj (T5.ou.ext ((al.refl No H).drew))
       (refine bQ ?_;intro K hK)
       refine(nO (c:=B) TD.ou hA (by omega)).mono ?_
       rintro e6 w6 ⟨A6,c6,rfl,a6⟩
       have F6:=aj (a6.from (al.refl No H).drew)
       refine⟨_,rfl,hK _ _ (fun _=>Cl.of F6.ou.ext) ?_⟩
       clear hK K a6 TD hA
       refine bj ?_
       refine dH ?_
       have N6:=aj (N5.ou.ext F6.ou.ext)
       refine cH rfl rfl ?_
       intro K hK
       refine eO (v:=.slice A6 T.length c6) (n:=T.length) (xs:=T.flatMap cI.enc) p8 rfl rfl rfl F6.ou.own (N6.ou.rd (by decide)) (qE N) (by omega) ?_
       intro A7 c7 w7 J a7 a8
       have F7:=aj (F6.ou.grow (ys:=N) rfl J a7 a8)
       refine hK _ _ (fun _=>Cl.of F7.ou.ext) ?_
       clear hK K J a7 a8 F6 N6 D0 D1 d0 d1 c1
       refine bj ?_
       refine dH ?_
       refine ar ?_
       have P7:=aj (W.ou.ext F7.ou.ext)
       have S7:=aj (S5.ou.ext F7.ou.ext)
       have C7:=aj (C5.ou.aP F7.ou.ext id)
       have T7:=aj (T5.ou.ext F7.ou.ext)
       have R7:Hd (di cI w7 A7 (T.length+N.length) (T++N)):=by
        have:=F7.ou.row (by decide)
        rw[af] at this
        exact this
       have bu:T.length+N.length≤c7:=by
        have q:=F7.ou.own
        rw[af] at q
        obtain⟨_,_,_,_,_,_,q,_⟩:=kU q (by omega) (by decide)
        exact q
       have ag:∀x∈T++N,x.length≤600:=fun x C=>by
        rcases az.1 C with C|C
        ·exact aJ (ap.ou x C) bd
        ·exact aJ (av.ou x C) bg
       have ai:=aj ag
       have M7:=aj (HM.ou.ext P7.ou.x)
       have a0:=aj (Sx (c:=B) T7.ou (by omega))
       have d0:w7.cell? ⟨I,0,none⟩=some (.slice D T.length B):=C7.ou.cell 0
       clear F7 W S5 C5 T5 N5 ag ap av
       have E:Hd (Jj T N=(oe (T.any tP) [] (T++N)&&!(T.any tP&&decide (1<T.length)))):=rfl
       generalize T.any tP=p at a0 E
       go_wp2_with fail
       refine a0.ou.mono ?_
       rintro e8 w8 ⟨rfl,C⟩
       have X8:=aj C
       clear C a0 d0
       go_wp2_with fail
       go_loopw [76] (fun i wr=>∃j:Nat,j≤T.length+N.length∧i=.int .i64 j∧oe p [] (T++N)=oe p ((T++N).take j) ((T++N).drop j)∧∃ξ:X w7 No,wr=ξ.v) (fun i _=>T.length+N.length-(intOf i).toNat)
       case atStart=>exact⟨0,au _,rfl,rfl,⟨w8,X8.ou⟩,rfl⟩
       case round=>
        obtain⟨j,hj,rfl,hO,ξ,rfl⟩:=hrel
        have HO:=aj hO
        clear hO
        by_cases a9:j<T.length+N.length
        ·obtain⟨b,o,x,rfl,C,cx⟩:=dq (w:=w7) R7.ou a9
         have HX:=aj C
         have y:Hd (oe p [] (T++N)=(xy x&&!iH ((T++N).take j) x&&(p||!tP x)&&oe p ((T++N).take (j+1)) ((T++N).drop (j+1)))):=by
          rw[Hd,HO.ou,sY HX.ou,FT,nI HX.ou]
         have bv:j<c7:=by omega
         have bp:((j:Nat):Int)≤(c7:Int):=by omega
         have bw:x.length≤600:=ai.ou x (ah HX.ou)
         have Z:=aj (fun v (hv:bf w7 v)=>TL x (by omega) (M7.ou.ext hv))
         have a1:=aj (fun v (hv:bf w7 v)=>jr (c:=c7) ((R7.ou.take (Nat.le_of_lt a9)).ext hv) (by omega) x)
         have a2:=aj (fun v=>Co x v)
         clear C HO
         generalize xy x=b1 at Z y
         generalize iH ((T++N).take j) x=b2 at a1 y
         generalize tP x=b3 at a2 y
         cases b1 with
         | false=>
          go_wp2_with fail
          refine(Z.ou _ ξ.h).mono ?_
          rintro e9 u ⟨rfl,L⟩
          have U:=aj (ξ.h.ae L)
          clear L
          have f:Hd (mH m s=(m,3)):=d.ou.trans (aa (by rw[E.ou,y.ou];simp))
          go_wp2_with fail
          go_ret
          exact⟨v,rs,by rw[f.ou];rfl,by rw[f.ou];exact P7.ou.ext U.ou⟩
         | true=>
          go_wp2_with fail
          refine(Z.ou _ ξ.h).mono ?_
          rintro e9 u ⟨rfl,L⟩
          have U:=aj (ξ.h.ae L)
          clear L Z
          go_wp2_with fail
          refine(a1.ou _ U.ou).mono ?_
          rintro e9 u2 ⟨rfl,L⟩
          have U2:=aj (U.ou.ae L)
          clear L a1 U
          cases b2 with
          | true=>
           have f:Hd (mH m s=(m,3)):=d.ou.trans (aa (by rw[E.ou,y.ou];simp))
           go_wp2_with fail
           go_ret
           exact⟨v,rs,by rw[f.ou];rfl,by rw[f.ou];exact P7.ou.ext U2.ou⟩
          | false=>
           cases p with
           | true=>
            go_wp2_with fail
            go_roundw
            case rel=>exact⟨j+1,by omega,by go_num,by rw[y.ou];rfl,⟨_,U2.ou⟩,rfl⟩
            case measure=>simp[intOf];omega
           | false=>
            go_wp2_with fail
            refine(a2.ou _).mono ?_
            rintro e9 u3 ⟨rfl,L⟩
            have U3:=aj (U2.ou.ae L)
            clear L a2 U2
            cases b3 with
            | true=>
             have f:Hd (mH m s=(m,3)):=d.ou.trans (aa (by rw[E.ou,y.ou];simp))
             go_wp2_with fail
             go_ret
             exact⟨v,rs,by rw[f.ou];rfl,by rw[f.ou];exact P7.ou.ext U3.ou⟩
            | false=>
             go_wp2_with fail
             go_roundw
             case rel=>exact⟨j+1,by omega,by go_num,by rw[y.ou];rfl,⟨_,U3.ou⟩,rfl⟩
             case measure=>simp[intOf];omega
        ·obtain rfl:j=T.length+N.length:=by omega
         have y:Hd (oe p [] (T++N)=true):=by
          rw[Hd,HO.ou,cr (by rw[af];exact aq _)]
          try rfl
         have P9:=aj (P7.ou.ext ξ.h)
         have S9:=aj (S7.ou.ext ξ.h)
         have C9:=aj (C7.ou.aP ξ.h id)
         have d0:ξ.v.cell? ⟨I,0,none⟩=some (.slice D T.length B):=C9.ou.cell 0
         clear HO X8 P7 S7 C7
         by_cases a3:p=true∧1<T.length
         ·obtain⟨rfl,h1⟩:=a3
          have g1:decide ((1:Int)<(T.length:Int))=true:=by rw[aW];omega
          have f:Hd (mH m s=(m,3)):=d.ou.trans (aa (by rw[E.ou,y.ou,aM h1];simp))
          go_wp2_with fail
          go_ret
          exact⟨v,rs,by rw[f.ou];rfl,by rw[f.ou];exact P9.ou⟩
         ·have ak:p=false∨(p=true∧¬1<T.length):=by
           cases p with
           | false=>exact .inl rfl
           | true=>exact .inr ⟨rfl,fun h=>a3 ⟨rfl,h⟩⟩
          have f:Hd (mH m s=(⟨m.vars,m.rules++[⟨T,N,[]⟩],m.ba⟩,0)):=d.ou.trans (ab (by
           rw[E.ou,y.ou]
           rcases ak with e|⟨e,h1⟩
           ·rw[e];rfl
           ·rw[aG h1];simp))
          obtain⟨F,hF⟩:∃F:Nat→Prop,F=fun b=>(Value.slice v.rA rs.length v.rc).ownBlock=some b:=⟨_,rfl⟩
          have a4:¬F I:=by
           rw[hF]
           exact fun e=>bn.ou _ e rfl
          have bb:¬F g:=by
           rw[hF]
           exact fun e=>aO P9.ou.fr.own P9.ou.rc (by decide) _ e rfl
          obtain⟨wd,ac⟩:∃u,u=ξ.v.drew:=⟨_,rfl⟩
          have xd:bf ξ.v wd:=by rw[ac];exact(al.refl No _).drew
          have PD:=aj (P9.ou.ext xd)
          have SD:=aj (S9.ou.ext xd)
          have CD:=aj (C9.ou.aP xd id)
          have bx:rs.length≤10:=by rw[P9.ou.rl];exact a5
          have bo:=aj hF
          clear hF P9 S9 C9 xd y d E a3 ai R7 M7
          rcases ak with rfl|⟨rfl,h1⟩ <;>
          ·try have g1:decide ((1:Int)<(T.length:Int))=false:=by rw[aA];omega
           have D0:∀η:X wd F,η.v.cell? ⟨I,0,none⟩=some (.slice D T.length B):=CD.ou.x a4 0
           have D1:∀η:X wd F,η.v.cell? ⟨I,1,none⟩=some (.slice G N.length nc):=CD.ou.x a4 1
           have D2:∀η:X wd F,η.v.cell? ⟨I,2,none⟩=some (.slice none 0 0):=CD.ou.x a4 2
           have c1:∀η:X wd F,η.v.cell? ⟨g,1,none⟩=some (.slice v.rA rs.length v.rc):=PD.ou.rc.x bb 1
           go_upto_region 22 with fail
           refine aV [6,7,10] 10 (Cl wd F) (by kernel_rfl) (by kernel_rfl) (by rw[ac];exact Cl.of (al.refl _ _)) ?_
           rw[←ac]
           clear ac
           refine dH ?_
           (refine bQ ?_;intro K hK)
           have P6:=aj (PD.ou.ext ((al.refl No wd).alloc (.cells #[.slice D T.length B,.slice G N.length nc,.slice none 0 0] kP)))
           have S6:=aj (SD.ou.ext ((al.refl No wd).alloc (.cells #[.slice D T.length B,.slice G N.length nc,.slice none 0 0] kP)))
           refine hK _ _ (fun _=>Cl.of ((al.refl _ wd).alloc _)) ?_
           clear hK K
           refine bj ?_
           refine cH rfl rfl ?_
           intro K hK
           refine eO (v:=.slice v.rA rs.length v.rc) (n:=rs.length) (xs:=rs.flatMap vV.enc) UZ rfl rfl rfl P6.ou.fr.own (iQ wd _ [.slice D T.length B,.slice G N.length nc,.slice none 0 0]) (by simp[Value.oneCell']) (by omega) ?_
           intro A9 c9 w9 M O bc
           have P8:=aj (P6.ou.US (a:=⟨D,B,G,nc,none,0⟩) (r:=⟨T,N,[]⟩) S6.ou M O bc)
           have O8:Hd (al F wd w9):=((al.refl F wd).alloc (.cells #[.slice D T.length B,.slice G N.length nc,.slice none 0 0] kP)).grown O fun g hg=>.inr (by rw[bo.ou];exact hg)
           refine hK _ _ (fun _=>Cl.of O8.ou) ?_
           clear hK K
           refine bj ?_
           have C8:Cs w9 g kN #[.slice v.vA m.vars.length v.vc,.slice v.rA rs.length v.rc,.slice v.pA m.ba.length v.pc]:=PD.ou.rc.aP O8.ou bb
           have y0:w9.cell? ⟨g,1,none⟩=some (.slice v.rA rs.length v.rc):=C8.cell 1
           have z0:=C8.frozen 1
           clear C8 M O bc P6 S6
           refine dH ?_
           (refine bQ ?_;intro K hK)
           refine hK _ _ (fun hne=>absurd rfl hne) ?_
           clear hK K y0 z0
           refine bj ?_
           refine ar ?_
           go_wp2_with fail
           go_ret
           exact⟨_,_,by rw[f.ou];rfl,by rw[f.ou];exact P8.ou⟩
 ·have z:Hd (mH m s=(m,e)):=HF.ou.trans (ab he)
  rw[bS he]
  go_wp2_with fail
  go_ret
  exact⟨v,rs,by rw[z.ou,bS he];rfl,by rw[z.ou];exact P1.ou⟩
theorem MP(s p:aK)(w:World):Calls Tryz.prog 113 #[S s,S p] w fun e w'=>e=.returned (.tuple #[S (Lib.trimPrefix s p),.bool (Lib.hasPrefix s p)])∧bf w w':=by
 refine(Tryz.strings_CutPrefix ⟨s.toArray⟩ ⟨p.toArray⟩ w).mono ?_
 rintro e w' ⟨rfl,rfl⟩
 exact⟨rfl,al.refl _ _⟩
theorem yU(x c:UInt8):(((x.toNat:Int))==((c.toNat:Int)))=decide (x=c):=by
 rw[eu,bY,aW]
 exact⟨fun h=>im.1 (by omega),fun h=>by rw[h]⟩
theorem SM       (hm:Ml w)(h:qp Q w wr g v rs m)(Y:m.Fit k)(hk:k≤100000)(s:aK)(hs:s.length≤600) :
  Calls Tryz.prog 67 #[VY g,S s] wr (Ns Q w g (nX m s)):=by
 have P:=aj h
 cases s with
 | nil=>
  go_enter Tryz.func67,Tryz.ntmps67
  go_wp2_with fail
  go_ret
  exact⟨v,rs,rfl,P.ou⟩
 | cons x r=>
  have HF:=aj (rJ m x r)
  have O:=aj (KS hm h Y r (by simp at hs;omega))
  have I:=aj (fun u (l:qp Q w u g v rs m)=>Nz hm l Y (x::r) hs)
  have J:=aj (fun v=>MP (x::r) uG v)
  have R:=aj (fun v (hv:bf w v)=>Jg (x::r) Mo (by omega) (hm.ext hv))
  have hp:=Y.p
  have hv:=Y.v
  clear h Y
  by_cases K:x=35
  ·have q1:(((x.toNat:Int))==35)=true:=(yU x 35).trans (aM K)
   have C:=aj (HF.ou.trans (ab K))
   go_enter Tryz.func67,Tryz.ntmps67
   go_wp2_with fail
   go_ret
   exact⟨v,rs,by rw[C.ou];rfl,by rw[C.ou];exact P.ou⟩
  ·have q1:(((x.toNat:Int))==35)=false:=(yU x 35).trans (aG K)
   have C:=aj (HF.ou.trans (aa K))
   clear HF
   by_cases Z:x=9
   ·have q2:(((x.toNat:Int))==9)=true:=(yU x 9).trans (aM Z)
    have y:=aj (C.ou.trans (ab Z))
    subst Z
    go_enter Tryz.func67,Tryz.ntmps67
    go_wp2_with fail
    refine O.ou.mono ?_
    rintro e u ⟨v',T,rfl,hM⟩
    have M2:=aj hM
    clear hM O
    go_wp2_with fail
    go_ret
    exact⟨v',T,by rw[y.ou];rfl,by rw[y.ou];exact M2.ou⟩
   ·have q2:(((x.toNat:Int))==9)=false:=(yU x 9).trans (aG Z)
    have y:=aj (C.ou.trans (aa Z))
    clear C O
    have D:Hd (Lib.hasPrefix (x::r) uG=true→Lib.trimPrefix (x::r) uG=(x::r).drop 6):=fun h=>by
     unfold Lib.trimPrefix
     rw[ab h]
     try rfl
    generalize Lib.hasPrefix (x::r) uG=hp6 at J y D
    generalize Lib.trimPrefix (x::r) uG=name at J D
    go_enter Tryz.func67,Tryz.ntmps67
    go_wp2_with fail
    refine(J.ou _).mono ?_
    rintro e u ⟨rfl,l⟩
    have L:=aj (P.ou.ext l)
    clear l J P
    cases hp6 with
    | true=>
     have hn:name=(x::r).drop 6:=D.ou rfl
     have o:=aj (y.ou.trans (ab rfl))
     rw[←hn] at o
     have ai:name.length≤600:=by rw[hn,be];omega
     clear hn D y R I
     have E:=aj (fun v=>wS name v (by omega))
     have U:=aj (fun z (hv:bf u z)=>jr (c:=v.pc) (((L.ou.ss.f ⟨v.pA,v.pc,m.ba⟩ (by simp)).row (by decide)).ext hv) (by show m.ba.length≤_;omega) name)
     have d:Hd (nX m (x::r)=if i7 name=false∨iH m.ba name=true then (m,3) else (⟨m.vars,m.rules,m.ba++[name]⟩,0)):=o.ou
     clear o
     generalize i7 name=b1 at E d
     generalize iH m.ba name=b2 at U d
     cases b1 with
     | false=>
      have i:=aj (d.ou.trans (ab (.inl rfl)))
      go_wp2_with fail
      refine(E.ou _).mono ?_
      rintro e V ⟨rfl,l⟩
      have M:=aj (L.ou.ext l)
      clear l E L
      go_wp2_with fail
      go_ret
      exact⟨v,rs,by rw[i.ou];rfl,by rw[i.ou];exact M.ou⟩
     | true=>
      go_wp2_with fail
      refine(E.ou _).mono ?_
      rintro e V ⟨rfl,l⟩
      have M:=aj (L.ou.ext l)
      have U2:=aj l
      have c2:V.cell? ⟨g,2,none⟩=some (.slice v.pA m.ba.length v.pc):=M.ou.rc.cell 2
      clear l E L
      go_wp2_with fail
      refine(U.ou _ U2.ou).mono ?_
      rintro e u3 ⟨rfl,l⟩
      have N:=aj (M.ou.ext l)
      clear l U M U2 c2
      cases b2 with
      | true=>
       have i:=aj (d.ou.trans (ab (.inr rfl)))
       go_wp2_with fail
       go_ret
       exact⟨v,rs,by rw[i.ou];rfl,by rw[i.ou];exact N.ou⟩
      | false=>
       have i:=aj (d.ou.trans (aa (by simp)))
       clear d
       have c3:u3.cell? ⟨g,2,none⟩=some (.slice v.pA m.ba.length v.pc):=N.ou.rc.cell 2
       have F:=aj (N.ou.ext ((al.refl No u3).alloc (.cells #[S name] 9)))
       go_wp2_with (first|(at_builtin;go_must (refine dy (v:=.slice v.pA m.ba.length v.pc) (n:=m.ba.length) (xs:=m.ba.flatMap cI.enc) rfl p8 rfl rfl rfl (F.ou.ss.f ⟨v.pA,v.pc,m.ba⟩ (by simp)).own (iQ u3 _ [S name]) (by simp[Value.oneCell']) (by omega) ?_);intro A2 c2 w5 j A G;have P9:=aj (F.ou.Uu (t:=name) j A G);have W:=F.ou.rc.aP ((al.refl (fun b=>(Value.slice v.pA m.ba.length v.pc).ownBlock=some b) _).grown A fun g hg=>.inr hg) (fun e=>aO (F.ou.ss.f ⟨v.pA,v.pc,m.ba⟩ (by simp)).own F.ou.rc (by decide) _ e rfl);have z1:=W.frozen 2;have y1:w5.cell? ⟨g,2,none⟩=some (.slice v.pA m.ba.length v.pc):=W.cell 2;clear j A G W)|refine dN ?_)
       go_ret
       exact⟨_,_,by rw[i.ou];rfl,by rw[i.ou];exact P9.ou⟩
    | false=>
     have o:=aj (y.ou.trans (aa (by decide)))
     have ac:=Dy (x::r) Mo
     have ag:(x::r).length≤600:=hs
     have ak:=hm.ext L.ou.x
     have B:=aj (R.ou u L.ou.x)
     clear y D R
     generalize Lib.cut (x::r) Mo=q at B o ac
     obtain⟨a,b,is⟩:=q
     dsimp only at B o ac
     go_wp2_with fail
     refine B.ou.mono ?_
     rintro e u1 ⟨rfl,l⟩
     have M:=aj (L.ou.ext l)
     clear l B L
     cases is with
     | true=>
      have d:Hd (nX m (x::r)=if zq a=false then (m,3) else if m.vars.length=6 then (m,2) else (⟨m.vars++[(a,b)],m.rules,m.ba⟩,0)):=o.ou.trans (ab rfl)
      have X:=aj (fun v=>Sd a (by omega) v)
      clear o I
      generalize zq a=b1 at X d
      go_wp2_with fail
      refine(X.ou _).mono ?_
      rintro e V ⟨rfl,l⟩
      have N:=aj (M.ou.ext l)
      clear l X M
      cases b1 with
      | false=>
       have i:=aj (d.ou.trans (ab rfl))
       go_wp2_with fail
       go_ret
       exact⟨v,rs,by rw[i.ou];rfl,by rw[i.ou];exact N.ou⟩
      | true=>
       have i:=aj (d.ou.trans (aa (by decide)))
       have c3:V.cell? ⟨g,0,none⟩=some (.slice v.vA m.vars.length v.vc):=N.ou.rc.cell 0
       clear d
       by_cases h6:m.vars.length=6
       ·have g6:decide ((m.vars.length:Int)=6)=true:=by rw[aW];omega
        have H:=aj (i.ou.trans (ab h6))
        go_wp2_with fail
        go_ret
        exact⟨v,rs,by rw[H.ou];rfl,by rw[H.ou];exact N.ou⟩
       ·have g6:decide ((m.vars.length:Int)=6)=false:=by rw[aA];omega
        have H:=aj (i.ou.trans (aa h6))
        have F:=aj (N.ou.ext ((al.refl No V).alloc (.cells #[S a,S b] OP)))
        go_wp2_with (first|(at_builtin;go_must (refine dy (v:=.slice v.vA m.vars.length v.vc) (n:=m.vars.length) (xs:=m.vars.flatMap br.enc) rfl UU rfl rfl rfl F.ou.fv.own (iQ V _ [S a,S b]) (by simp[Value.oneCell']) (by omega) ?_);intro A2 c2 w5 j A G;have P9:=aj (F.ou.Vw (t:=(a,b)) j A G);have W:=F.ou.rc.aP ((al.refl (fun b=>(Value.slice v.vA m.vars.length v.vc).ownBlock=some b) _).grown A fun g hg=>.inr hg) (fun e=>aO F.ou.fv.own F.ou.rc (by decide) _ e rfl);have z1:=W.frozen 0;have y1:w5.cell? ⟨g,0,none⟩=some (.slice v.vA m.vars.length v.vc):=W.cell 0;clear j A G W)|refine dN ?_)
        go_ret
        exact⟨_,_,by rw[H.ou];rfl,by rw[H.ou];exact P9.ou⟩
     | false=>
      have d:=aj (o.ou.trans (aa (by decide)))
      go_wp2_with fail
      refine(I.ou _ M.ou).mono ?_
      rintro e V ⟨v',T,rfl,hM⟩
      have M2:=aj hM
      clear hM I
      go_wp2_with fail
      go_ret
      exact⟨v',T,by rw[d.ou];rfl,by rw[d.ou];exact M2.ou⟩
theorem Kv(b:List aK)(r:lR)(c:List lR)(a:List aK):vD b (r::c) a=if yE a r.targets=true then none else if px b r=true then vD b c (a++r.targets) else none:=rfl
theorem Ma(a ts:List aK)(t:aK):yE a (t::ts)=(iH a t||yE (a++[t]) ts):=rfl
def Sn(w:World)(r:Int)(e:Ending)(w':World):Prop:=e=.returned (eT r)∧bf w w'
theorem Lx    (h:pY w v rs m)(hr:m.rules.length≤10)(ht:∀x∈m.rules,1≤x.targets.length∧x.targets.length≤2)(hp:m.ba.length≤100000) :
  Calls Tryz.prog 68 #[Sz v m] w (Sn w (pH m)):=by
 obtain⟨vA,vc,rA,rc,pA,pc⟩:=v
 obtain⟨g1,O⟩:∃g,g=w.heap.size:=⟨_,rfl⟩
 obtain⟨w0,H⟩:∃u,u=w.alloc (.cells #[.slice vA m.vars.length vc,.slice rA m.rules.length rc,.slice pA m.ba.length pc] kN):=⟨_,rfl⟩
 have x0:bf w w0:=by rw[H];exact(al.refl No w).alloc _
 have C0:Hd (Cs w0 g1 kN #[.slice vA m.vars.length vc,.slice rA m.rules.length rc,.slice pA m.ba.length pc]):=by rw[H,O];exact Cs.new _ _ _
 have R0:=aj (h.ext x0)
 have X0:=aj x0
 have c1:w0.cell? ⟨g1,1,none⟩=some (.slice rA m.rules.length rc):=C0.ou.cell 1
 have a6:=aj ht
 have bg:rs.length=m.rules.length:=by rw[←h.rm,bH]
 have HF:Hd (pH m=match vD m.ba m.rules [] with|none=>3|some made=>if m.ba.all (iH made)=true then 0 else 3):=rfl
 clear x0 h ht
 show Calls _ _ #[.agg #[.slice vA m.vars.length vc,.slice rA m.rules.length rc,.slice pA m.ba.length pc]] _ _
 go_enter Tryz.func68,Tryz.ntmps68
 go_upto_region 1 with fail
 rw[←H,←O]
 clear H O
 go_wp2_with fail
 go_loopw [3,13] (fun z i wr=>∃j:Nat,j≤m.rules.length∧i=.int .i64 j∧∃L A' c',z=.slice A' L.length c'∧bR cI 9 w0 wr A' c' L∧L.length≤2*j∧vD m.ba m.rules []=vD m.ba (m.rules.drop j) L) (fun _ i _=>m.rules.length-(intOf i).toNat)
 case atStart=>exact⟨0,au _,rfl,[],none,0,rfl,bR.nil _ _ _ _ (al.refl _ _),aq _,rfl⟩
 case round=>
  obtain⟨j,hj,rfl,L,A',c',rfl,hL,bi,hO⟩:=hrel
  have G:=aj hL
  have HO:=aj hO
  clear hL hO c1
  by_cases a7:j<m.rules.length
  ·obtain⟨b,o,x,rfl,hx,hb,k0,k1,k2⟩:=tt R0.ou.fr a7
   obtain⟨⟨tA,tc,nA,nc,cA,cc⟩,r⟩:=x
   have P:m.rules[j]?=some r:=by rw[←R0.ou.rm,bP,hx];rfl
   have HX:=aj P
   have Q:=aj (R0.ou.rr _ (ah hx))
   have N:=a6.ou r (ah P)
   have q0:=k0 _ G.ou.ext
   have q1:=k1 _ G.ou.ext
   have R:=k2 _ G.ou.ext
   dsimp only at q0 q1 R Q
   clear hx P k0 k1 k2
   obtain⟨g5,A⟩:∃g,g=wr.heap.size:=⟨_,rfl⟩
   obtain⟨w1,I⟩:∃u,u=wr.alloc (.cells #[.slice tA r.targets.length tc,.slice nA r.aN.length nc,.slice cA r.bD.length cc] kP):=⟨_,rfl⟩
   have x1:bf wr w1:=by rw[I];exact(al.refl No wr).alloc _
   have C5:Hd (Cs w1 g5 kP #[.slice tA r.targets.length tc,.slice nA r.aN.length nc,.slice cA r.bD.length cc]):=by rw[I,A];exact Cs.new _ _ _
   have F1:=aj (G.ou.on x1)
   have d0:w1.cell? ⟨g5,0,none⟩=some (.slice tA r.targets.length tc):=C5.ou.cell 0
   have bk:Hd (w0.heap.size≤g5):=by rw[Hd,A];exact G.ou.ext.size
   go_upto_region 5 with fail
   rw[←I,←A]
   clear I A q0 q1 R
   have T:Hd (vD m.ba m.rules []=if yE L r.targets=true then none else if px m.ba r=true then vD m.ba (m.rules.drop (j+1)) (L++r.targets) else none):=by
    rw[Hd,HO.ou,sY HX.ou,Kv]
   clear HO
   go_wp2_with fail
   go_loopw [3,20] (fun z i wr=>∃k:Nat,k≤r.targets.length∧i=.int .i64 k∧∃A'' c'',z=.slice A'' (L++r.targets.take k).length c''∧bR cI 9 w0 wr A'' c'' (L++r.targets.take k)∧Cs wr g5 kP #[.slice tA r.targets.length tc,.slice nA r.aN.length nc,.slice cA r.bD.length cc]∧yE L r.targets=yE (L++r.targets.take k) (r.targets.drop k)) (fun _ i _=>r.targets.length-(intOf i).toNat)
   case atStart=>exact⟨0,au _,rfl,A',c',by simp,by simpa using F1.ou,C5.ou,by simp⟩
   case round=>
    clear F1 C5 d0
    obtain⟨k,hk,rfl,A2,V,rfl,ak,am,hD⟩:=hrel
    have C:=aj ak
    have C2:=aj am
    have HD:=aj hD
    clear ak am hD
    obtain⟨D,J⟩:∃l,l=L++r.targets.take k:=⟨_,rfl⟩
    rw[←J] at C HD ⊢
    have W:=aj J
    have bd:D.length≤2*j+2:=by
     rw[J,af,aH]
     have:=N.2
     omega
    clear J
    by_cases Y:k<r.targets.length
    ·have HS:=aj (Q.ou.1.ext C.ou.ext)
     obtain⟨b2,o2,t,rfl,ao,cx⟩:=dq HS.ou Y
     have Z:=aj ao
     have ac:Hd (yE L r.targets=(iH D t||yE (L++r.targets.take (k+1)) (r.targets.drop (k+1)))):=by
      rw[Hd,HD.ou,sY Z.ou,Ma,nI Z.ou,←aT,W.ou]
     have d:=aj (jr (c:=V) (C.ou.row (by decide)) (by omega) t)
     clear ao HD
     generalize iH D t=b1 at d ac
     have a8:wr.cell? ⟨b2,o2+k,none⟩=some (S t):=cx (X.here _ _)
     have ap:(D++[t])=L++r.targets.take (k+1):=by rw[W.ou,nI Z.ou,aT]
     have av:=aj ap
     clear cx ap
     go_wp2_with fail
     refine d.ou.mono ?_
     rintro e u ⟨rfl,y⟩
     have F3:=aj (C.ou.on y)
     have C3:=aj (C2.ou.aP y id)
     clear y d C C2 a8
     cases b1 with
     | true=>
      have s:Hd (pH m=3):=by rw[Hd,HF.ou,T.ou,ac.ou];rfl
      go_wp2_with fail
      go_ret
      exact⟨by rw[s.ou];rfl,X0.ou.ae F3.ou.ext⟩
     | false=>
      have F4:=aj (F3.ou.on ((al.refl No u).alloc (.cells #[S t] 9)))
      go_wp2_with (first|(at_builtin;go_must (refine dy (v:=.slice A2 D.length V) (n:=D.length) (xs:=D.flatMap cI.enc) rfl p8 rfl rfl rfl F4.ou.own (iQ u _ [S t]) (by simp[Value.oneCell']) (by omega) ?_);intro A4 c4 w5 E A aD;have F5:=aj (F4.ou.grow (ys:=[t]) rfl E A aD);have C5:=aj ((C3.ou.alloc (.cells #[S t] 9)).aP ((al.refl (fun b=>(Value.slice A2 D.length V).ownBlock=some b) _).grown A fun g hg=>.inr hg) (fun e=>aO F4.ou.own (C3.ou.alloc (.cells #[S t] 9)) (by decide) _ e rfl));clear E A aD)|refine dN ?_)
      go_roundw
      case rel=>exact⟨k+1,by omega,by go_num,A4,c4,by rw[←av.ou];simp,by rw[←av.ou];exact F5.ou,C5.ou,by rw[ac.ou];rfl⟩
      case measure=>simp[intOf];omega
    ·obtain rfl:k=r.targets.length:=by omega
     have ag:D=L++r.targets:=by rw[W.ou,ay (aq _)]
     have M:Hd (vD m.ba m.rules []=if px m.ba r=true then vD m.ba (m.rules.drop (j+1)) D else none):=by
      rw[Hd,T.ou,HD.ou,cr (aq _),ag]
      try rfl
     have a0:=aj ag
     clear HD T ag
     have a9:0<r.targets.length:=N.1
     have HS:=aj (Q.ou.1.ext C.ou.ext)
     obtain⟨b2,o2,t0,rfl,a1,ca⟩:=dq HS.ou a9
     rw[fK] at ca
     have CW:=aj (C0.ou.aP C.ou.ext id)
     have D1:∀ξ:X wr No,ξ.v.cell? ⟨g1,2,none⟩=some (.slice pA m.ba.length pc):=CW.ou.x id 2
     have D2:∀ξ:X wr No,ξ.v.cell? ⟨g5,0,none⟩=some (.slice (some ⟨b2,o2,none⟩) r.targets.length tc):=C2.ou.x id 0
     have D3:∀ξ:X wr No,ξ.v.cell? ⟨g5,2,none⟩=some (.slice cA r.bD.length cc):=C2.ou.x id 2
     have d:=aj (fun v (hv:bf wr v) k=>jr (c:=pc) ((R0.ou.fp.ext C.ou.ext).ext hv) (by omega) k)
     have B:Hd (px m.ba r=((iH m.ba t0==decide (r.bD.length=0))&&!(decide (1<r.targets.length)&&iH m.ba (r.targets.getD 1 [])))):=by
      have:r.targets.headD []=t0:=by
       rw[jC,List.head?_eq_getElem?,a1]
       try rfl
      rw[Hd,px,this]
     have F:=aj (fun v hv=>d.ou v hv t0)
     clear a1
     generalize iH m.ba t0=b1 at F B
     have a2:((r.bD.length:Int)==0)=decide (r.bD.length=0):=by
      rw[eu,bY,aW]
      omega
     obtain⟨R,a3⟩:∃q,q=decide (r.bD.length=0):=⟨_,rfl⟩
     rw[←a3] at a2 B
     clear a3
     by_cases hb:b1=R
     ·subst hb
      have bn:(b1 !=b1)=false:=by simp
      by_cases h1:1<r.targets.length
      ·have bb:decide ((1:Int)<(r.targets.length:Int))=true:=by rw[aW];omega
       obtain⟨b3,o3,t1,ai,a4,cb⟩:=dq HS.ou h1
       injection ai with ai
       injection ai with hA31 hA32
       subst hA31
       subst hA32
       have a:Hd (px m.ba r=!(iH m.ba t1)):=by
        have:r.targets.getD 1 []=t1:=by rw[aL,a4];rfl
        rw[Hd,B.ou,this,aM h1]
        simp
       have a5:=aj (fun v hv=>d.ou v hv t1)
       clear a4
       generalize iH m.ba t1=b3 at a5 a
       go_upto_region 12 with fail
       refine aV [6,24] 100 (Cl wr No) (by kernel_rfl) (by kernel_rfl) (Cl.eU (X.here wr No)) ?_
       refine dH ?_
       (refine bQ ?_;intro K hK)
       refine(F.ou _ ((al.refl No wr).drew)).mono ?_
       rintro e u ⟨rfl,y⟩
       have U:=aj (((al.refl No wr).drew).ae y)
       refine⟨_,rfl,hK _ _ (fun _=>Cl.of U.ou) ?_⟩
       clear hK K y
       refine bj ?_
       refine bK ?_
       (refine bQ ?_;intro K hK)
       refine(a5.ou _ U.ou).mono ?_
       rintro e u2 ⟨rfl,y⟩
       have U2:=aj (U.ou.ae y)
       refine⟨_,rfl,hK _ _ (fun _=>Cl.of U2.ou) ?_⟩
       clear hK K y
       refine bj ?_
       refine NV ?_
       refine ar ?_
       cases b3 with
       | true=>
        have s:Hd (pH m=3):=by rw[Hd,HF.ou,M.ou,a.ou];rfl
        go_wp2_with fail
        go_ret
        exact⟨by rw[s.ou];rfl,X0.ou.ae (C.ou.ext.ae U2.ou)⟩
       | false=>
        go_wp2_with fail
        go_roundw
        case rel=>exact⟨j+1,by omega,by go_num,D,A2,V,rfl,C.ou.on U2.ou,by omega,by rw[M.ou,a.ou,a0.ou];rfl⟩
        case measure=>simp[intOf];omega
      ·have bb:decide ((1:Int)<(r.targets.length:Int))=false:=by rw[aA];omega
       have a:Hd (px m.ba r=true):=by
        rw[Hd,B.ou,aG h1]
        simp
       go_upto_region 12 with fail
       refine aV [6,24] 100 (Cl wr No) (by kernel_rfl) (by kernel_rfl) (Cl.eU (X.here wr No)) ?_
       refine dH ?_
       (refine bQ ?_;intro K hK)
       refine(F.ou _ ((al.refl No wr).drew)).mono ?_
       rintro e u ⟨rfl,y⟩
       have U:=aj (((al.refl No wr).drew).ae y)
       refine⟨_,rfl,hK _ _ (fun _=>Cl.of U.ou) ?_⟩
       clear hK K y
       refine bj ?_
       refine bK ?_
       refine ar ?_
       go_wp2_with fail
       go_roundw
       case rel=>exact⟨j+1,by omega,by go_num,D,A2,V,rfl,C.ou.on U.ou,by omega,by rw[M.ou,a.ou,a0.ou];rfl⟩
       case measure=>simp[intOf];omega
     ·have bc:(b1=true∧R=false)∨(b1=false∧R=true):=by
       clear F B a2
       revert hb
       cases b1<;>cases R<;>simp
      rcases bc with⟨rfl,rfl⟩|⟨rfl,rfl⟩ <;>
      ·have a:Hd (px m.ba r=false):=by
        rw[Hd,B.ou]
        try rfl
       go_upto_region 12 with fail
       refine aV [6,24] 100 (Cl wr No) (by kernel_rfl) (by kernel_rfl) (Cl.eU (X.here wr No)) ?_
       refine NV ?_
       (refine bQ ?_;intro K hK)
       refine(F.ou _ ((al.refl No wr).drew)).mono ?_
       rintro e u ⟨rfl,y⟩
       have U:=aj (((al.refl No wr).drew).ae y)
       refine⟨_,rfl,hK _ _ (fun _=>Cl.of U.ou) ?_⟩
       clear hK K y
       refine bj ?_
       refine bK ?_
       refine ar ?_
       have s:Hd (pH m=3):=by rw[Hd,HF.ou,M.ou,a.ou];rfl
       go_wp2_with fail
       go_ret
       exact⟨by rw[s.ou];rfl,X0.ou.ae (C.ou.ext.ae U.ou)⟩
  ·obtain rfl:j=m.rules.length:=by omega
   have HC:Hd (pH m=if m.ba.all (iH L)=true then 0 else 3):=by
    rw[Hd,HF.ou,HO.ou,cr (aq _)]
    try rfl
   have CW:=aj (C0.ou.aP G.ou.ext id)
   have V:wr.cell? ⟨g1,2,none⟩=some (.slice pA m.ba.length pc):=CW.ou.cell 2
   have XW:=aj G.ou.ext
   have SL:=aj (G.ou.row (by decide))
   have SP:=aj (R0.ou.fp.ext G.ou.ext)
   dsimp only at SP
   clear HO CW G HF
   go_wp2_with fail
   go_loopw [65] (fun i wq=>∃k:Nat,k≤m.ba.length∧i=.int .i64 k∧(m.ba.take k).all (iH L)=true∧∃ξ:X wr No,wq=ξ.v) (fun i _=>m.ba.length-(intOf i).toNat)
   case atStart=>exact⟨0,au _,rfl,rfl,X.here _ _,rfl⟩
   case round=>
    obtain⟨k,hk,rfl,hT,ξ,rfl⟩:=hrel
    have HT:=aj hT
    clear hT V
    by_cases Y:k<m.ba.length
    ·obtain⟨b,o,f,rfl,hx,c0⟩:=dq (w:=wr) SP.ou Y
     have HX:=aj hx
     have d:=aj (fun v (hv:bf wr v)=>jr (c:=c') (SL.ou.ext hv) (by omega) f)
     obtain⟨p,hp⟩:∃p,iH L f=p:=⟨_,rfl⟩
     rw[hp] at d
     have HP:=aj hp
     clear hx hp
     go_wp2_with fail
     refine(d.ou _ ξ.h).mono ?_
     rintro e u ⟨rfl,y⟩
     have U:=aj (ξ.h.ae y)
     clear y d
     cases p with
     | true=>
      go_wp2_with fail
      go_roundw
      case rel=>exact⟨k+1,by omega,by go_num,by rw[nI HX.ou,List.all_append,HT.ou];simp[HP.ou],⟨_,U.ou⟩,rfl⟩
      case measure=>simp[intOf];omega
     | false=>
      have s:Hd (pH m=3):=HC.ou.trans (aa (fun h=>by
       have:=bJ.1 h f (ah HX.ou)
       rw[HP.ou] at this
       cases this))
      go_wp2_with fail
      go_ret
      exact⟨by rw[s.ou];rfl,X0.ou.ae (XW.ou.ae U.ou)⟩
    ·obtain rfl:k=m.ba.length:=by omega
     have s:Hd (pH m=0):=HC.ou.trans (ab (by
      have:=HT.ou
      rwa [ay (aq _)] at this))
     go_wp2_with fail
     go_ret
     exact⟨by rw[s.ou];rfl,X0.ou.ae (XW.ou.ae ξ.h)⟩
end Go.Proofs.YtpgmcijdcnnjpaaGreatDoor
