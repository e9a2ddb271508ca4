/- Lemmas for it. -/
import Derived.Test.YtpgmcijdcnnjpaaGreatDoorPk24
set_option linter.all false
set_option maxRecDepth 100000
set_option maxHeartbeats 8000000
namespace Go.Proofs.YtpgmcijdcnnjpaaGreatDoor
open Go Go.RowKit
variable {cap g g2 g3 n:Nat} {t:TypeId} {cs:Array Value} {A:Option Addr} {c:List Ch}
abbrev yp:TypeId:=120
abbrev xZ:TypeId:=122
abbrev GR:TypeId:=9
def yM(w0:Nat→Prop)(w:World):Prop:=∀b,w.heap.size≤b→w0 b
theorem yM.up{w0:Nat→Prop}{w w':World}(h:yM w0 w)(a:w.heap.size≤w'.heap.size):yM w0 w':=fun b hb=>h b (aJ a hb)
structure Fp (w0:Nat→Prop):Prop where
 no:¬w0 0
def yf(w0:Nat→Prop)(w:World):Nat→Prop:=fun b=>w0 b∧∃cs t,Cs w b t cs∧(t=yp∨t=GR∨t=xZ∨t=DQ)
def G7(w0:Nat→Prop)(w:World)(Pr:World→Prop):Prop:=∀u,al (yf w0 w) w u→Pr u
section
variable {w0:Nat→Prop} {w w' u:World} {Pr:World→Prop}
theorem G7.here(h:G7 w0 w Pr):Pr w:=h w (al.refl _ _)
theorem G7.step{F:Nat→Prop}(h:G7 w0 w Pr)(c:al F w w')(d:∀b,b<w.heap.size→F b→yf w0 w b):G7 w0 w' Pr:=fun u hu=>
 h u ((c.gU d).trans hu fun b hb hf=>by
  obtain⟨f,cs,t,g,i⟩:=hf
  by_cases a:yf w0 w b
  ·exact a
  ·exact⟨f,cs,t,(c.block b hb (fun e=>a (d b hb e))).symm.trans g,i⟩)
theorem G7.ext(h:G7 w0 w Pr)(a:bf w w'):G7 w0 w' Pr:=h.step a fun _ _ e=>e.elim
theorem yR{B a:Nat}{e:TypeId}{x:Value}{xs:List Value}(h:w.ownsRow B e a x n xs)(c:e≠yp)(d:e≠GR)(f:e≠xZ)(g:e≠DQ):G7 w0 w fun u=>u.ownsRow B e a x n xs:=fun u hu=>
 cl h hu fun b hb ⟨_,_,t,hc,ht⟩=>by
  rcases ht with rfl|rfl|rfl|rfl
  ·exact aO h hc c b hb rfl
  ·exact aO h hc d b hb rfl
  ·exact aO h hc f b hb rfl
  ·exact aO h hc g b hb rfl
end
theorem jl{w:World}{r:jZ}{d:Dk}(h:ef w r d)   (a:Cs w g t cs)(c:yp≠t)(b:GR≠t)(f:xZ≠t):¬r.fp g:=by
 rintro(e|e|e|e)
 ·subst e;exact Cs.oC h.cs a c rfl
 ·subst e;exact sy h.kept a b rfl
 ·subst e;exact sy h.now a b rfl
 ·exact sy h.wait a f e
theorem TP{w0:Nat→Prop}{w:World}{r:jZ}{d:Dk}(h:ef w r d)(c:∀b,r.fp b→w0 b):∀b,b<w.heap.size→r.fp b→yf w0 w b:=fun b _ hb=>by
 refine⟨c b hb,?_⟩
 rcases hb with e|e|e|e
 ·subst e;exact⟨_,_,h.cs,.inl rfl⟩
 ·subst e
  obtain⟨cur,a⟩:=fI h.kept rfl
  exact⟨_,_,a,.inr (.inl rfl)⟩
 ·subst e
  obtain⟨cur,a⟩:=fI h.now rfl
  exact⟨_,_,a,.inr (.inl rfl)⟩
 ·obtain⟨cur,a⟩:=fI h.wait e
  exact⟨_,_,a,.inr (.inr (.inl rfl))⟩
structure yi (w0:Nat→Prop) (w:World) (r:jZ) (l:eX) (d:Dk):Prop where
 dk:ef w r d
 lg:lh w l r.g
 fp:∀b,r.fp b→w0 b
 fg:w0 l.g
section
variable {w0:Nat→Prop} {w w':World} {r:jZ} {l:eX} {d d':Dk}
theorem yi.ext(h:yi w0 w r l d)(a:bf w w'):yi w0 w' r l d:=⟨h.dk.ext a,h.lg.ext a,h.fp,h.fg⟩
theorem yi.ng(h:yi w0 w r l d):¬r.fp l.g:=jl h.dk h.lg (by decide) (by decide) (by decide)
theorem yi.x(h:yi w0 w r l d):(∀ξ:X w r.fp,ξ.v.cell? ⟨l.g,0,none⟩=some (pt r.g))∧(∀ξ:X w r.fp,ξ.v.cell? ⟨l.g,1,none⟩=some (.int .i64 (l.from_:Nat)))∧(∀ξ:X w r.fp,ξ.v.cell? ⟨l.g,2,none⟩=some (.int .i64 (l.many:Nat)))∧(∀ξ:X w r.fp,ξ.v.cell? ⟨l.g,3,none⟩=some (.int .i64 (l.first:Nat)))∧(∀ξ:X w r.fp,ξ.v.cell? ⟨l.g,4,none⟩=some (.int .i64 (l.next:Nat))):=
 ⟨Cs.x h.lg h.ng 0,Cs.x h.lg h.ng 1,Cs.x h.lg h.ng 2,Cs.x h.lg h.ng 3,Cs.x h.lg h.ng 4⟩
theorem yi.UT{v:Value}{e:Ending}(h:yi w0 w r l d)(i:yM w0 w)(j:mY w r d' v e w'):e=.returned v∧∃a:jZ,a.g=r.g∧yi w0 w' a l d'∧al (yf w0 w) w w'∧al r.fp w w':=by
 obtain⟨k,a,m,f,c,n⟩:=j
 refine⟨k,a,f,⟨m,by rw[f];exact h.lg.aP c h.ng,fun b hb=>?_,h.fg⟩,c.gU (TP h.dk h.fp),c⟩
 rcases n b hb with h2|h2
 ·exact h.fp b h2
 ·exact i b h2
end
theorem Dc(d:Dk)(i:Int)(s:aK):(d.wr i s).now.length=d.now.length:=by
 unfold Dk.wr Dk.cJ Dk.written
 repeat' split
 all_goals simp
theorem oa(d:Dk)(i:Int)(s:aK):(d.wr i s).wait.length≤d.wait.length+1:=by
 unfold Dk.wr Dk.cJ Dk.written
 repeat' split
 all_goals simp
def rX:Int→Nat→List Ch→Dk→Dk×Int
 | _,_,[],d=>(d,0)
 | p,n,c::r,d=>if d.jJ p (eM 111 n (gE c))=0 then rX (p+1) (n+1) r (d.wr p (eM 111 n (gE c))) else (d.wr p (eM 111 n (gE c)),d.jJ p (eM 111 n (gE c)))
def ry(l:eX)(n:Nat)(d:Dk):Dk×Int:=if l.next+n+1<l.many then (d.wr ((l.from_+(l.next+n+1):Nat):Int) [],d.jJ ((l.from_+(l.next+n+1):Nat):Int) []) else (d,0)
def ed(l:eX)(c:List Ch)(d:Dk):Dk×Int:=
 if (rX ((l.from_+l.next:Nat):Int) (l.first+l.next) c d).2=0 then ry l c.length (rX ((l.from_+l.next:Nat):Int) (l.first+l.next) c d).1 else rX ((l.from_+l.next:Nat):Int) (l.first+l.next) c d
def MJ(w0:Nat→Prop)(w:World)(l:eX)(rg:Nat)(R:Dk×Int)(e:Ending)(w':World):Prop:=e=.returned (eT R.2)∧∃r',r'.g=rg∧yi w0 w' r' l R.1∧al (yf w0 w) w w'∧w.heap.size≤w'.heap.size
theorem al.G0{w0:Nat→Prop}{w u v:World}(h:al (yf w0 w) w u)(k:al (yf w0 u) u v):al (yf w0 w) w v:=
 h.trans k fun b hb hf=>by
  obtain⟨c,cs,t,d,e⟩:=hf
  by_cases a:yf w0 w b
  ·exact a
  ·exact⟨c,cs,t,(h.block b hb a).symm.trans d,e⟩
theorem al.tG{w0:Nat→Prop}{w u v:World}(h:bf w u)(k:al (yf w0 u) u v):al (yf w0 w) w v:=(al.any h:al (yf w0 w) w u).G0 k
theorem Fp.G0{w0:Nat→Prop}{w u:World}(a:Fp w0)(h:Ml w)(b:al (yf w0 w) w u):Ml u:=h.only b fun⟨h1,_⟩=>a.no h1
theorem qA(p:Int)(n:Nat)(c:Ch)(r:List Ch)(d:Dk):rX p n (c::r) d=if d.jJ p (eM 111 n (gE c))=0 then rX (p+1) (n+1) r (d.wr p (eM 111 n (gE c))) else (d.wr p (eM 111 n (gE c)),d.jJ p (eM 111 n (gE c))):=rfl
theorem KW(c:Ch):(gE c).length=c.1.length+c.2.1.length+2:=by
 unfold gE
 simp only[an,af]
theorem ti{α:Type}{xs:List α}{k:Nat}{x:α}(a:xs[k]?=some x):xs.drop k=x::xs.drop (k+1):=by
 have b:k<xs.length:=(aw.1 a).1
 rw[cB b,(aw.1 a).2]
theorem Vp {w0:Nat→Prop} {w:World} {r:jZ} {l:eX} {d:Dk} (ac:Fp w0) (ag:Ml w) (h:yi w0 w r l d) (h0:yM w0 w)    (hR:G7 w0 w fun u=>di fA u A c.length c) (hb:∀x∈c,dQ x=0∧x.1.length≤1000∧x.2.1.length≤1000)
  (hc:c.length≤100) (hw:d.wait.length≤1000) (hl:l.from_≤1000∧l.many≤1000∧l.next≤1000∧l.first≤1000000000000) :
  Calls Tryz.prog 187 #[pt l.g,.slice A c.length cap] w (MJ w0 w l r.g (ed l c d)):=by
 obtain⟨bb,bc,bd,bg⟩:=hl
 have H:=aj h
 have HR:=aj hR
 have HM:=aj ag
 have a2:=aj ac
 have HB:=aj hb
 have HF:Hd (ed l c d=if (rX ((l.from_+l.next:Nat):Int) (l.first+l.next) c d).2=0 then ry l c.length (rX ((l.from_+l.next:Nat):Int) (l.first+l.next) c d).1 else rX ((l.from_+l.next:Nat):Int) (l.first+l.next) c d):=rfl
 obtain⟨-,d1,-,-,d4⟩:=h.lg.x
 clear h hR ag hb ac
 go_enter Tryz.func187,Tryz.ntmps187
 go_upto_region 1 with fail
 (refine aV [] 100 (Cl (w) (No)) (by kernel_rfl) (by kernel_rfl) (Cl.eU (X.here w No)) ?_;refine dH ?_)
 all_goals (refine ar ?_)
 clear d1 d4
 obtain⟨w1,N⟩:∃u,u=w.drew:=⟨_,rfl⟩
 have V:bf w w1:=by rw[N];exact(al.refl No w).drew
 have W:=aj V
 have L1:=aj (H.ou.ext V)
 have R1:=aj (HR.ou.ext V)
 have M1:=aj (HM.ou.ext V)
 have ai:yM w0 w1:=yM.up h0 V.size
 rw[←N]
 clear N V
 go_wp2_with (refine lM ?_ ?_<;>intro hq)
 go_loopw [22] (fun i wr=>∃j:Nat,j≤c.length∧i=.int .i64 j∧∃n a,(n:jZ).g=r.g∧yi w0 wr n l a∧al (yf w0 w1) w1 wr∧w1.heap.size≤wr.heap.size∧G7 w0 wr (fun u=>di fA u A c.length c)∧Ml wr∧(a:Dk).wait.length≤1000+j∧rX ((l.from_+l.next:Nat):Int) (l.first+l.next) c d=rX ((l.from_+l.next+j:Nat):Int) (l.first+l.next+j) (c.drop j) a) (fun i _=>c.length-(intOf i).toNat)
 case atStart=>exact⟨0,au _,rfl,r,d,rfl,L1.ou,al.refl _ _,aq _,R1.ou,M1.ou,by omega,rfl⟩
 case round=>
  obtain⟨j,hj,rfl,n,a,wJ,hL,hO,p,ak,am,bi,hE⟩:=hrel
  have O:=aj hL
  have OO:=aj hO
  have RR:=aj ak
  have MM:=aj am
  have HE:=aj hE
  clear hL hO ak am hE L1 R1 M1
  by_cases a3:j<c.length
  ·obtain⟨b,o,m,rfl,hx,c0,c1,c2⟩:=nK RR.ou.here a3
   have HX:=aj hx
   obtain⟨L,a4,a5⟩:=HB.ou m (ah hx)
   have f:Hd (rX ((l.from_+l.next:Nat):Int) (l.first+l.next) c d=if a.jJ ((l.from_+l.next+j:Nat):Int) (eM 111 (l.first+l.next+j) (gE m))=0 then rX ((l.from_+l.next+j:Nat)+1:Int) (l.first+l.next+j+1) (c.drop (j+1)) (a.wr ((l.from_+l.next+j:Nat):Int) (eM 111 (l.first+l.next+j) (gE m))) else (a.wr ((l.from_+l.next+j:Nat):Int) (eM 111 (l.first+l.next+j) (gE m)),a.jJ ((l.from_+l.next+j:Nat):Int) (eM 111 (l.first+l.next+j) (gE m)))):=by
    rw[Hd,HE.ou,ti hx,qA]
   have ao:=KW m
   have P:Hd (∀v,bf wr v→Calls Tryz.prog 223 #[.agg #[S m.1,S m.2.1,.bool m.2.2]] v fun e w'=>e=.returned (.tuple #[S (gE m),.nilIface])∧bf v w'):=fun v hv=>by
    have:=Lr m (by omega) (by omega) (MM.ou.ext hv)
    unfold EX at this
    rw[L,ab rfl] at this
    exact this
   have D:Hd (∀v,Calls Tryz.prog 189 #[.int .u8 111,.int .i64 ((l.first:Int)+(l.next:Int)+(j:Int)),S (gE m)] v fun e w'=>e=.returned (S (eM 111 (l.first+l.next+j) (gE m)))∧bf v w'):=fun v=>by
    have:=JZ 111 (l.first+l.next+j) (gE m) (by omega) v
    rw[show((l.first+l.next+j:Nat):Int)=(l.first:Int)+(l.next:Int)+(j:Int) by omega] at this
    exact this
   have ap:=nB 111 (l.first+l.next+j) (gE m)
   obtain⟨key,q,k⟩:=m
   dsimp only at c0 c1 c2 ao a4 a5
   clear hx L HE
   generalize gE (key,q,k)=enc at P D f ap ao
   generalize eM 111 (l.first+l.next+j) enc=tx at D f ap
   obtain⟨g7,Q⟩:∃x,x=wr.heap.size:=⟨_,rfl⟩
   obtain⟨w7,E⟩:∃v,v=wr.alloc (.cells #[S key,S q,.bool k] sD):=⟨_,rfl⟩
   have x7:bf wr w7:=by rw[E];exact(al.refl No wr).alloc _
   have F:Cs w7 g7 sD #[S key,S q,.bool k]:=by rw[E,Q];exact Cs.new _ _ _
   have X7:=aj x7
   have q0:w7.cell? ⟨g7,0,none⟩=some (S key):=F.cell 0
   have q1:w7.cell? ⟨g7,1,none⟩=some (S q):=F.cell 1
   have q2:w7.cell? ⟨g7,2,none⟩=some (.bool k):=F.cell 2
   have a6:wr.cell? ⟨b,o+j*3,none⟩=some (S key):=c0 (X.here _ _)
   have a7:wr.cell? ⟨b,o+j*3+1,none⟩=some (S q):=c1 (X.here _ _)
   have a8:wr.cell? ⟨b,o+j*3+2,none⟩=some (.bool k):=c2 (X.here _ _)
   clear x7 F c0 c1 c2
   go_upto_region 5 with fail
   rw[←E,←Q]
   clear E Q a6 a7 a8
   go_wp2_with (refine dN ?_)
   refine(P.ou _ X7.ou).mono ?_
   rintro e u ⟨rfl,hu⟩
   have U:=aj (X7.ou.ae hu)
   have LU:=aj (O.ou.ext U.ou)
   clear hu P X7 q0 q1 q2
   obtain⟨Y,D1,D2,D3,D4⟩:=LU.ou.x
   have s:Hd (∀v,bf u v→Calls Tryz.prog 107 #[pt r.g,.int .i64 ((l.from_:Int)+(l.next:Int)+(j:Int)),S tx] v (mY v n (a.wr ((l.from_+l.next+j:Nat):Int) tx) (eT (a.jJ ((l.from_+l.next+j:Nat):Int) tx)))):=fun v hv=>by
    have:=oS (LU.ou.dk.ext hv) ((l.from_+l.next+j:Nat):Int) tx (by omega) (by omega)
    rw[wJ] at this
    rw[show(l.from_:Int)+(l.next:Int)+(j:Int)=((l.from_+l.next+j:Nat):Int) by omega]
    exact this
   rw[wJ] at Y
   go_upto_region 8 with fail
   (refine aV [19,20] 100 (Cl (u) (n.fp)) (by kernel_rfl) (by kernel_rfl) (Cl.eU (X.here u n.fp)) ?_;refine bK ?_)
   (refine bQ ?_;intro K hK)
   refine(D.ou _).mono ?_
   rintro e u2 ⟨rfl,hu⟩
   have Z:bf u u2:=(al.refl No u).drew.ae hu
   refine⟨_,rfl,hK _ _ (fun _=>Cl.of Z.any) ?_⟩
   clear hK K hu D
   refine bj ?_
   refine bK ?_
   (refine bQ ?_;intro K hK)
   refine(s.ou _ Z).mono ?_
   intro e u3 t
   obtain⟨rfl,r3,G,y,z,B⟩:=(LU.ou.ext Z).UT (yM.up ai (aJ p (aJ U.ou.size Z.size))) t
   have I:al (yf w0 wr) wr u3:=(U.ou.ae Z).tG z
   have R3:=aj (RR.ou.step I fun _ _ e=>e)
   have M3:Hd (Ml u3):=a2.ou.G0 MM.ou I
   have L3:=aj y
   have J:=aj I
   have S3:wr.heap.size≤u3.heap.size:=I.size
   refine⟨_,rfl,hK _ _ (fun _=>Cl.of ((Z.any:al n.fp u u2).trans B fun _ _ e=>e)) ?_⟩
   clear hK K t y z I B s Y D1 D2 D3 D4
   refine bj ?_
   refine bK ?_
   refine ar ?_
   have av:=oa a ((l.from_+l.next+j:Nat):Int) tx
   have a9:=Dk.uF a ((l.from_+l.next+j:Nat):Int) tx
   generalize a.wr ((l.from_+l.next+j:Nat):Int) tx=d2 at f L3 av
   generalize a.jJ ((l.from_+l.next+j:Nat):Int) tx=f2 at f a9 ⊢
   by_cases C:f2=0
   ·subst C
    have R:=aj (f.ou.trans (ab rfl))
    rw[cO]
    refine cS ?_
    go_roundw
    case rel=>exact⟨j+1,by omega,by go_num,r3,d2,by rw[G,wJ],L3.ou,OO.ou.G0 J.ou,by omega,R3.ou,M3.ou,by omega,by rw[R.ou];rfl⟩
    case measure=>simp[intOf];omega
   ·rw[bS C]
    have R:Hd (ed l c d=(d2,f2)):=by
     rw[Hd,HF.ou,f.ou.trans (aa C)]
     exact aa C
    refine cS ?_
    go_ret
    rw[R.ou]
    exact⟨by rw[bS C];rfl,r3,by rw[G,wJ],L3.ou,W.ou.tG (OO.ou.G0 J.ou),aJ W.ou.size (aJ p S3)⟩
  ·obtain rfl:j=c.length:=by omega
   have f:Hd (rX ((l.from_+l.next:Nat):Int) (l.first+l.next) c d=(a,0)):=by
    rw[Hd,HE.ou,cr (aq _)]
    try rfl
   have aD:Hd (ed l c d=ry l c.length a):=by
    rw[Hd,HF.ou,f.ou]
    exact ab rfl
   have a0:Hd (ry l c.length a=if l.next+c.length+1<l.many then (a.wr ((l.from_+(l.next+c.length+1):Nat):Int) [],a.jJ ((l.from_+(l.next+c.length+1):Nat):Int) []) else (a,0)):=rfl
   obtain⟨Y,D1,D2,D3,D4⟩:=O.ou.x
   have e2:wr.cell? ⟨l.g,2,none⟩=some (.int .i64 (l.many:Nat)):=Cs.cell O.ou.lg 2
   have e4:wr.cell? ⟨l.g,4,none⟩=some (.int .i64 (l.next:Nat)):=Cs.cell O.ou.lg 4
   rw[wJ] at Y
   clear HE f HF
   by_cases M:l.next+c.length+1<l.many
   ·have a1:decide ((l.next:Int)+(c.length:Int)+1<(l.many:Int))=true:=aM (by omega)
    have T:=aj (aD.ou.trans (a0.ou.trans (ab M)))
    have s:Hd (∀v,bf wr v→Calls Tryz.prog 107 #[pt r.g,.int .i64 ((l.from_:Int)+((l.next:Int)+(c.length:Int)+1)),S []] v (mY v n (a.wr ((l.from_+(l.next+c.length+1):Nat):Int) []) (eT (a.jJ ((l.from_+(l.next+c.length+1):Nat):Int) [])))):=fun v hv=>by
     have:=oS (O.ou.dk.ext hv) ((l.from_+(l.next+c.length+1):Nat):Int) [] (by simp) (by omega)
     rw[wJ] at this
     rw[show(l.from_:Int)+((l.next:Int)+(c.length:Int)+1)=((l.from_+(l.next+c.length+1):Nat):Int) by omega]
     exact this
    go_upto_region 14 with fail
    (refine aV [10] 100 (Cl (wr) (n.fp)) (by kernel_rfl) (by kernel_rfl) (Cl.eU (X.here wr n.fp)) ?_;refine bK ?_)
    (refine bQ ?_;intro K hK)
    refine(s.ou _ (al.refl No wr).drew).mono ?_
    intro e u3 t
    obtain⟨rfl,r3,G,y,z,B⟩:=(O.ou.ext (al.refl No wr).drew).UT (yM.up ai p) t
    have I:al (yf w0 wr) wr u3:=((al.refl No wr).drew).tG z
    have L3:=aj y
    have J:=aj I
    have S3:wr.heap.size≤u3.heap.size:=I.size
    refine⟨_,rfl,hK _ _ (fun _=>Cl.of ((al.any (al.refl No wr).drew:al n.fp wr wr.drew).trans B fun _ _ e=>e)) ?_⟩
    clear hK K t y z I B s Y D1 D2 D3 D4 e2 e4
    refine bj ?_
    refine bK ?_
    refine ar ?_
    refine cS ?_
    go_ret
    rw[T.ou]
    exact⟨rfl,r3,by rw[G,wJ],L3.ou,W.ou.tG (OO.ou.G0 J.ou),aJ W.ou.size (aJ p S3)⟩
   ·have a1:decide ((l.next:Int)+(c.length:Int)+1<(l.many:Int))=false:=aG (by omega)
    have T:=aj (aD.ou.trans (a0.ou.trans (aa M)))
    clear Y D1 D2 D3 D4
    refine cS ?_
    go_ret
    rw[T.ou]
    exact⟨rfl,n,wJ,O.ou,W.ou.tG OO.ou,aJ W.ou.size p⟩
theorem qu(d:Dk):d.fl.wait.length≤d.wait.length:=by
 unfold Dk.fl Dk.cJ Dk.pR
 repeat' split
 all_goals simp
theorem Bz:∀(c:List Ch) (p:Int) (n:Nat) (d:Dk),(rX p n c d).1.wait.length≤d.wait.length+c.length
 | [],_,_,d=>by simp[rX]
 | c::r,p,n,d=>by
  rw[qA]
  have a:=oa d p (eM 111 n (gE c))
  rw[an]
  split
  ·have:=Bz r (p+1) (n+1) (d.wr p (eM 111 n (gE c)))
   omega
  ·show(d.wr p (eM 111 n (gE c))).wait.length≤_
   omega
theorem BW(l:eX)(c:List Ch)(d:Dk):(ed l c d).1.wait.length≤d.wait.length+c.length+1:=by
 have a:=Bz c ((l.from_+l.next:Nat):Int) (l.first+l.next) d
 unfold ed
 split
 ·unfold ry
  split
  ·exact aJ (oa _ _ _) (by omega)
  ·exact aJ a (by omega)
 ·omega
def ea(l:eX)(n:Nat)(d:Dk):Dk×Int:=(d.wr ((l.from_+(l.next+n):Nat):Int) (eM 99 (l.first+(l.next+n)) (dU n)),d.jJ ((l.from_+(l.next+n):Nat):Int) (eM 99 (l.first+(l.next+n)) (dU n)))
def j4:List Ch→Int
 | []=>0
 | c::r=>if dQ c=0 then j4 r else dQ c
def kl(l:eX)(c:List Ch)(d:Dk):(eX×Dk)×Int:=
 if 40<c.length then ((l,d),2)
 else if l.many-l.next<c.length+1 then ((l,d),10)
 else if j4 c≠0 then ((l,d),j4 c)
 else if (ed l c d).2≠0 then ((l,(ed l c d).1),(ed l c d).2)
 else if (ed l c d).1.oK≠0 then ((l,(ed l c d).1.fl),(ed l c d).1.oK)
 else if (ea l c.length (ed l c d).1.fl).2≠0 then ((l,(ea l c.length (ed l c d).1.fl).1),(ea l c.length (ed l c d).1.fl).2)
 else if (ea l c.length (ed l c d).1.fl).1.oK≠0 then ((l,(ea l c.length (ed l c d).1.fl).1.fl),(ea l c.length (ed l c d).1.fl).1.oK)
 else (({ l with next:=l.next+c.length+1 },(ea l c.length (ed l c d).1.fl).1.fl),0)
theorem Cs.G0{w0:Nat→Prop}{w u:World}   (h:Cs w g t cs)(a:t≠yp)(b:t≠GR)(c:t≠xZ)(d:t≠DQ)(e:al (yf w0 w) w u):Cs u g t cs:=h.aP e fun⟨_,_,t',hc,ht⟩=>by
 rcases ht with rfl|rfl|rfl|rfl
 ·exact Cs.oC h hc a rfl
 ·exact Cs.oC h hc b rfl
 ·exact Cs.oC h hc c rfl
 ·exact Cs.oC h hc d rfl
abbrev Uh:TypeId:=152
abbrev Vd:TypeId:=3
theorem T2 {w0:Nat→Prop} {w:World} {r:jZ} {l:eX} {d:Dk} (a:Fp w0) (b:Ml w) (h:yi w0 w r l d) (m:yM w0 w)    (f:G7 w0 w fun u=>di fA u A c.length c) (i:∀x∈c,dQ x=0∧x.1.length≤1000∧x.2.1.length≤1000)
  (n:c.length≤100) (o:d.wait.length≤1000) (p:l.from_≤1000∧l.many≤1000∧l.next≤1000∧l.first≤1000000000000)  (j:Cs w g2 Uh #[pt l.g]) (k:Cs w g3 sh #[.slice A c.length cap]) :
  Calls Tryz.prog 186 #[pt g2,pt g3] w (MJ w0 w l r.g (ed l c d)):=by
 have q:=aj (Vp (cap:=cap) a b h m f i n o p)
 have t:w.cell? ⟨g2,0,none⟩=some (pt l.g):=j.cell 0
 have v:w.cell? ⟨g3,0,none⟩=some (.slice A c.length cap):=k.cell 0
 clear h f a b i j k
 go_enter Tryz.func186,Tryz.ntmps186
 go_wp2_with (refine dN ?_)
 refine q.ou.mono ?_
 rintro e u ⟨rfl,s⟩
 refine cS ?_
 go_ret
 exact⟨rfl,s⟩
theorem Tm {w0:Nat→Prop} {w:World} {r:jZ} {l:eX} {d:Dk} (h:yi w0 w r l d) (M:yM w0 w)   (hc:n≤100) (hw:d.wait.length≤10000) (N:l.from_≤1000∧l.many≤1000∧l.next≤1000∧l.first≤1000000000000)
  {p:Nat} (t:Cs w g2 Uh #[pt l.g]) (u:Cs w p Vd #[.int .i64 (l.next+n:Nat)]) (y:Cs w g3 sh #[.slice A n cap]) :
  Calls Tryz.prog 188 #[pt g2,pt p,pt g3] w (MJ w0 w l r.g (ea l n d)):=by
 obtain⟨O,P,Q,R⟩:=N
 have H:=aj h
 obtain⟨T,U,V,W,Y⟩:=h.x
 have E:¬r.fp g2:=jl h.dk t (by decide) (by decide) (by decide)
 have F:¬r.fp p:=jl h.dk u (by decide) (by decide) (by decide)
 have G:¬r.fp g3:=jl h.dk y (by decide) (by decide) (by decide)
 have Z:∀ξ:X w r.fp,ξ.v.cell? ⟨g2,0,none⟩=some (pt l.g):=t.x E 0
 have I:∀ξ:X w r.fp,ξ.v.cell? ⟨p,0,none⟩=some (.int .i64 ((l.next+n:Nat):Int)):=u.x F 0
 have E3:∀ξ:X w r.fp,ξ.v.cell? ⟨g3,0,none⟩=some (.slice A n cap):=y.x G 0
 have a:=aj (fun v=>DE n v)
 have s:Hd (ea l n d=(d.wr ((l.from_+(l.next+n):Nat):Int) (eM 99 (l.first+(l.next+n)) (dU n)),d.jJ ((l.from_+(l.next+n):Nat):Int) (eM 99 (l.first+(l.next+n)) (dU n)))):=rfl
 have z:=jd n
 generalize dU n=f4 at a s z
 obtain⟨q,hq⟩:∃q,q=l.next+n:=⟨_,rfl⟩
 rw[←hq] at I s
 have ac:q≤1100:=by omega
 have b:Hd (∀v,Calls Tryz.prog 189 #[.int .u8 99,.int .i64 ((l.first:Int)+(q:Int)),S f4] v fun e w'=>e=.returned (S (eM 99 (l.first+q) f4))∧bf v w'):=fun v=>by
  have:=JZ 99 (l.first+q) f4 (by omega) v
  rw[show((l.first+q:Nat):Int)=(l.first:Int)+(q:Int) by omega] at this
  exact this
 have B:=nB 99 (l.first+q) f4
 generalize eM 99 (l.first+q) f4=tx at b s B
 have f:Hd (∀v,bf w v→Calls Tryz.prog 107 #[pt r.g,.int .i64 ((l.from_:Int)+(q:Int)),S tx] v (mY v r (d.wr ((l.from_+q:Nat):Int) tx) (eT (d.jJ ((l.from_+q:Nat):Int) tx)))):=fun v hv=>by
  have:=oS (H.ou.dk.ext hv) ((l.from_+q:Nat):Int) tx (by omega) (by omega)
  rw[show(l.from_:Int)+(q:Int)=((l.from_+q:Nat):Int) by omega]
  exact this
 clear h t u y E F G hq V Y
 go_enter Tryz.func188,Tryz.ntmps188
 go_upto_region 1 with fail
 (refine aV [18,19,20] 100 (Cl (w) (r.fp)) (by kernel_rfl) (by kernel_rfl) (Cl.eU (X.here w r.fp)) ?_;refine bK ?_)
 (refine bQ ?_;intro K hK)
 refine(a.ou _).mono ?_
 rintro e u1 ⟨rfl,i⟩
 have C:bf w u1:=(al.refl No w).drew.ae i
 refine⟨_,rfl,hK _ _ (fun _=>Cl.of C.any) ?_⟩
 clear hK K i a
 refine bj ?_
 refine bK ?_
 (refine bQ ?_;intro K hK)
 refine(b.ou _).mono ?_
 rintro e J ⟨rfl,i⟩
 have c:bf w J:=C.ae i
 refine⟨_,rfl,hK _ _ (fun _=>Cl.of c.any) ?_⟩
 clear hK K i b C
 refine bj ?_
 refine bK ?_
 (refine bQ ?_;intro K hK)
 refine(f.ou _ c).mono ?_
 intro e u3 j
 obtain⟨rfl,r3,D,k,m,o⟩:=(H.ou.ext c).UT (yM.up M c.size) j
 have L:=aj (c.tG m)
 have L3:=aj k
 refine⟨_,rfl,hK _ _ (fun _=>Cl.of ((c.any:al r.fp w J).trans o fun _ _ e=>e)) ?_⟩
 clear hK K j k m o f T U W Z E3 I
 refine bj ?_
 refine bK ?_
 refine ar ?_
 refine cS ?_
 go_ret
 rw[s.ou]
 exact⟨rfl,r3,D,L3.ou,L.ou,L.ou.size⟩
theorem qM:∀(c:List Ch) (j:Nat),(∀x∈c.take j,dQ x=0)→j4 c=j4 (c.drop j)
 | [],j,_=>by simp
 | a::r,0,_=>rfl
 | a::r,j+1,h=>by
  have b:dQ a=0:=h a (by simp)
  show(if dQ a=0 then j4 r else dQ a)=j4 (r.drop j)
  rw[ab b]
  exact qM r j fun x hx=>h x (by rw[gO];exact aE _ hx)
def UW(w0:Nat→Prop)(w:World)(rg:Nat)(R:(eX×Dk)×Int)(e:Ending)(w':World):Prop:=e=.returned (eT R.2)∧∃r',r'.g=rg∧yi w0 w' r' R.1.1 R.1.2∧al (yf w0 w) w w'
abbrev VU:TypeId:=113
abbrev VQ(g2 g3 g8 dg:Nat):Array Value:=#[.func (.func 186) #[] #[pt g2,pt g3],.func (.func 108) #[pt dg] #[],.func (.func 188) #[] #[pt g2,pt g8,pt g3],.func (.func 108) #[pt dg] #[]]
structure UI (w0:Nat→Prop) (w wr:World) (r:jZ) (rg:Nat) (l:eX) (d:Dk) (g2 g3 g8 gA:Nat) (A:Option Addr) (cap:Nat) (c:List Ch):Prop where
 wJ:r.g=rg
 lw:yi w0 wr r l d
 o:al (yf w0 w) w wr
 c2:Cs wr g2 Uh #[pt l.g]
 c3:Cs wr g3 sh #[.slice A c.length cap]
 c8:Cs wr g8 Vd #[.int .i64 (l.next+c.length:Nat)]
 cA:Cs wr gA VU (VQ g2 g3 g8 rg)
 rb:G7 w0 wr fun u=>di fA u A c.length c
 ml:Ml wr
 sz:yM w0 wr
theorem UI.step{w0:Nat→Prop}{w b u:World}{r f:jZ}{i:Nat}{l:eX}{d j:Dk}{k m n p:Nat}{A:Option Addr}{cap:Nat}{c:List Ch}(q:Fp w0)(h:UI w0 w b r i l d k m n p A cap c)(s:f.g=r.g)(t:yi w0 u f l j)(a:al (yf w0 b) b u):UI w0 w u f i l j k m n p A cap c:=
 ⟨s.trans h.wJ,t,h.o.G0 a,h.c2.G0 (by decide) (by decide) (by decide) (by decide) a,h.c3.G0 (by decide) (by decide) (by decide) (by decide) a,h.c8.G0 (by decide) (by decide) (by decide) (by decide) a,h.cA.G0 (by decide) (by decide) (by decide) (by decide) a,h.rb.step a fun _ _ e=>e,q.G0 h.ml a,yM.up h.sz a.size⟩
def GC(l:eX)(c:List Ch)(d:Dk):Nat→Dk×Int
 | 0=>(d,0)
 | 1=>ed l c d
 | 2=>((ed l c d).1.fl,(ed l c d).1.oK)
 | 3=>ea l c.length (ed l c d).1.fl
 | _=>((ea l c.length (ed l c d).1.fl).1.fl,(ea l c.length (ed l c d).1.fl).1.oK)
theorem Ru {w0:Nat→Prop} {w:World} {r:jZ} {l:eX} {d:Dk} (a3:Fp w0) (a4:Ml w) (h:yi w0 w r l d) (h0:yM w0 w)    (hR:G7 w0 w fun u=>di fA u A n c) (hb:∀x∈c,x.1.length≤1000∧x.2.1.length≤1000)
  (hn:n≤1000000) (hw:d.wait.length≤1000) (hl:l.from_≤1000∧l.many≤1000∧l.next≤l.many∧l.first≤1000000000000) :
  Calls Tryz.prog 131 #[pt l.g,.slice A n cap] w (UW w0 w r.g (kl l c d)):=by
 obtain rfl:n=c.length:=hR.here.1.symm
 obtain⟨a5,av,m,a6⟩:=hl
 obtain⟨I,L⟩:∃x,x=w.heap.size:=⟨_,rfl⟩
 obtain⟨w1,E⟩:∃v,v=w.alloc (.cells #[pt l.g] Uh):=⟨_,rfl⟩
 obtain⟨P,f⟩:∃x,x=w1.heap.size:=⟨_,rfl⟩
 obtain⟨J,M⟩:∃v,v=w1.alloc (.cells #[.slice A c.length cap] sh):=⟨_,rfl⟩
 have x1:bf w w1:=by rw[E];exact(al.refl No w).alloc _
 have x2:bf w1 J:=by rw[M];exact(al.refl No w1).alloc _
 have hz:P=I+1:=by rw[f,L,E];simp
 have k2:Cs w1 I Uh #[pt l.g]:=by rw[E,L];exact Cs.new _ _ _
 have B2:Hd (Cs J I Uh #[pt l.g]):=k2.aP x2 id
 have B3:Hd (Cs J P sh #[.slice A c.length cap]):=by rw[M,f];exact Cs.new _ _ _
 have X2:=aj (x1.ae x2)
 have L2:=aj (h.ext X2.ou)
 have R2:=aj (hR.ext X2.ou)
 have M2:=aj (a4.ext X2.ou)
 have Q:=aj a3
 have HB:=aj hb
 have a7:yM w0 J:=yM.up h0 X2.ou.size
 have q2:J.cell? ⟨I,0,none⟩=some (pt l.g):=B2.ou.cell 0
 have q3:J.cell? ⟨P,0,none⟩=some (.slice A c.length cap):=B3.ou.cell 0
 clear h hR a4 a3 hb x1 x2 k2
 by_cases a8:40<c.length
 ·have bp:decide ((40:Int)<(c.length:Int))=true:=aM (by omega)
  have HA:Hd (kl l c d=((l,d),2)):=ab a8
  go_enter Tryz.func131,Tryz.ntmps131
  go_upto_region 1 with fail
  rw[←E,←L,←M,←hz]
  clear E L M f hz
  refine cS ?_
  go_ret
  rw[HA.ou]
  exact⟨rfl,r,rfl,L2.ou,al.any X2.ou⟩
 have bp:decide ((40:Int)<(c.length:Int))=false:=aG (by omega)
 have aD:Hd (kl l c d=if l.many-l.next<c.length+1 then ((l,d),10) else if j4 c≠0 then ((l,d),j4 c) else if (ed l c d).2≠0 then ((l,(ed l c d).1),(ed l c d).2)
  else if (ed l c d).1.oK≠0 then ((l,(ed l c d).1.fl),(ed l c d).1.oK)
  else if (ea l c.length (ed l c d).1.fl).2≠0 then ((l,(ea l c.length (ed l c d).1.fl).1),(ea l c.length (ed l c d).1.fl).2)
  else if (ea l c.length (ed l c d).1.fl).1.oK≠0 then ((l,(ea l c.length (ed l c d).1.fl).1.fl),(ea l c.length (ed l c d).1.fl).1.oK)
  else (({ l with next:=l.next+c.length+1 },(ea l c.length (ed l c d).1.fl).1.fl),0)):=aa a8
 have a9:=aj (fun(v:World) (hv:bf J v)=>Nb (L2.ou.lg.ext hv) av m)
 have Q2:∀ξ:X J No,ξ.v.cell? ⟨I,0,none⟩=some (pt l.g):=B2.ou.x id 0
 have Q3:∀ξ:X J No,ξ.v.cell? ⟨P,0,none⟩=some (.slice A c.length cap):=B3.ou.x id 0
 go_enter Tryz.func131,Tryz.ntmps131
 go_upto_region 1 with fail
 rw[←E,←L,←M,←hz]
 clear E L M f hz
 go_upto_region 3 with fail
 (refine aV [4] 100 (Cl (J) (No)) (by kernel_rfl) (by kernel_rfl) (Cl.eU (X.here J No)) ?_;refine bK ?_)
 (refine bQ ?_;intro K hK)
 refine(a9.ou _ (al.refl No J).drew).mono ?_
 rintro e u1 ⟨rfl,hu⟩
 have U1:Hd (bf J u1):=(al.refl No J).drew.ae hu
 refine⟨_,rfl,hK _ _ (fun _=>Cl.of U1.ou) ?_⟩
 clear hK K hu a9 Q2 Q3 q2 q3
 refine bj ?_
 refine dH ?_
 refine ar ?_
 have C2:=aj (B2.ou.aP U1.ou id)
 have C3:=aj (B3.ou.aP U1.ou id)
 have X3:=aj (X2.ou.ae U1.ou)
 have L3:=aj (L2.ou.ext U1.ou)
 have R3:=aj (R2.ou.ext U1.ou)
 have M3:=aj (M2.ou.ext U1.ou)
 have bs:yM w0 u1:=yM.up a7 U1.ou.size
 clear B2 B3 X2 L2 R2 M2 a7 U1
 by_cases R:l.many-l.next<c.length+1
 ·have gf:decide (((l.many-l.next:Nat):Int)<(c.length:Int)+1)=true:=aM (by omega)
  have T:=aj (aD.ou.trans (ab R))
  refine cS ?_
  go_ret
  rw[T.ou]
  exact⟨rfl,r,rfl,L3.ou,al.any X3.ou⟩
 have gf:decide (((l.many-l.next:Nat):Int)<(c.length:Int)+1)=false:=aG (by omega)
 have T:=aj (aD.ou.trans (aa R))
 have q3:u1.cell? ⟨P,0,none⟩=some (.slice A c.length cap):=C3.ou.cell 0
 clear aD
 rw[gf]
 go_wp2_with (refine lM ?_ ?_<;>intro hq)
 go_loopw [25] (fun i wr=>∃j:Nat,j≤c.length∧i=.int .i64 j∧bf u1 wr∧∀x∈c.take j,dQ x=0) (fun i _=>c.length-(intOf i).toNat)
 case atStart=>exact⟨0,au _,rfl,al.refl _ _,fun x V=>by simp at V⟩
 case round=>
  obtain⟨j,hj,rfl,bb,hz⟩:=hrel
  have XX:=aj bb
  have t:=aj hz
  clear bb hz q3
  by_cases bu:j<c.length
  ·obtain⟨b,o,ch,rfl,V,c0,c1,c2⟩:=nK (R3.ou.ext XX.ou).here bu
   have bc:=aj V
   obtain⟨bv,bw⟩:=HB.ou ch (ah V)
   have a0:=aj (fun(v:World) (hv:bf u1 v)=>qP (w:=v) ch (by omega) (by omega) (M3.ou.ext hv))
   have bx:=oL ch
   obtain⟨ac,W⟩:∃b,b=dQ ch:=⟨_,rfl⟩
   rw[←W] at a0 bx
   have bd:=aj W
   obtain⟨key,F,q⟩:=ch
   dsimp only at c0 c1 c2 bv bw
   have bz:wr.cell? ⟨b,o+j*3,none⟩=some (S key):=c0 (X.here _ _)
   have bA:wr.cell? ⟨b,o+j*3+1,none⟩=some (S F):=c1 (X.here _ _)
   have b4:wr.cell? ⟨b,o+j*3+2,none⟩=some (.bool q):=c2 (X.here _ _)
   obtain⟨g7,a1⟩:∃x,x=wr.heap.size:=⟨_,rfl⟩
   obtain⟨w7,y⟩:∃v,v=wr.alloc (.cells #[S key,S F,.bool q] sD):=⟨_,rfl⟩
   have N:bf wr w7:=by rw[y];exact(al.refl No wr).alloc _
   have G:Cs w7 g7 sD #[S key,S F,.bool q]:=by rw[y,a1];exact Cs.new _ _ _
   have X7:=aj (XX.ou.ae N)
   have p0:w7.cell? ⟨g7,0,none⟩=some (S key):=G.cell 0
   have p1:w7.cell? ⟨g7,1,none⟩=some (S F):=G.cell 1
   have p2:w7.cell? ⟨g7,2,none⟩=some (.bool q):=G.cell 2
   clear N G c0 c1 c2 V W
   go_upto_region 8 with fail
   rw[←y,←a1]
   clear y a1 bz bA b4
   go_wp2_with (refine dN ?_)
   refine(a0.ou _ X7.ou).mono ?_
   rintro e u ⟨rfl,hu⟩
   have U:=aj (X7.ou.ae hu)
   clear hu a0 X7 p0 p1 p2
   by_cases Y:ac=0
   ·subst Y
    rw[cO]
    refine cS ?_
    go_roundw
    case rel=>
     refine⟨j+1,by omega,by go_num,U.ou,fun x V=>?_⟩
     rw[aU,bc.ou] at V
     rcases az.1 V with h|h
     ·exact t.ou x h
     ·have:x=(key,F,q):=by simpa using h
      rw[this];exact bd.ou.symm
    case measure=>simp[intOf];omega
   ·rw[bS Y]
    have ag:Hd (j4 c=ac):=by
     rw[Hd,qM c j t.ou,ti bc.ou]
     show(if dQ (key,F,q)=0 then _ else dQ (key,F,q))=ac
     rw[←bd.ou,aa Y]
    have H:Hd (kl l c d=((l,d),ac)):=by
     rw[Hd,T.ou,ag.ou]
     exact ab Y
    refine cS ?_
    go_ret
    rw[H.ou]
    exact⟨by rw[bS Y];rfl,r,rfl,L3.ou.ext U.ou,al.any (X3.ou.ae U.ou)⟩
  ·obtain rfl:j=c.length:=by omega
   have bg:∀x∈c,dQ x=0:=by
    have:=t.ou
    rwa [ay (aq _)] at this
   have z:=aj bg
   have ag:Hd (j4 c=0):=by
    rw[Hd,qM c c.length t.ou,cr (aq _)]
    try rfl
   have H:Hd (kl l c d=if (ed l c d).2≠0 then ((l,(ed l c d).1),(ed l c d).2)
     else if (ed l c d).1.oK≠0 then ((l,(ed l c d).1.fl),(ed l c d).1.oK)
     else if (ea l c.length (ed l c d).1.fl).2≠0 then ((l,(ea l c.length (ed l c d).1.fl).1),(ea l c.length (ed l c d).1.fl).2)
     else if (ea l c.length (ed l c d).1.fl).1.oK≠0 then ((l,(ea l c.length (ed l c d).1.fl).1.fl),(ea l c.length (ed l c d).1.fl).1.oK)
     else (({ l with next:=l.next+c.length+1 },(ea l c.length (ed l c d).1.fl).1.fl),0)):=by
    rw[Hd,T.ou,ag.ou]
    exact aa (fun h=>h rfl)
   have Y2:=aj (C2.ou.aP XX.ou id)
   have Y3:=aj (C3.ou.aP XX.ou id)
   have LW:=aj (L3.ou.ext XX.ou)
   have RW:=aj (R3.ou.ext XX.ou)
   have MW:=aj (M3.ou.ext XX.ou)
   have XW:=aj (X3.ou.ae XX.ou)
   have bi:yM w0 wr:=yM.up bs XX.ou.size
   clear t bg ag T C2 C3 L3 R3 M3 X3 XX
   go_upto_region 12 with fail
   have Q2:∀ξ:X wr No,ξ.v.cell? ⟨I,0,none⟩=some (pt l.g):=Y2.ou.x id 0
   have Q3:∀ξ:X wr No,ξ.v.cell? ⟨P,0,none⟩=some (.slice A c.length cap):=Y3.ou.x id 0
   obtain⟨P0,-,-,-,P4⟩:=LW.ou.lg.x
   (refine aV [7,8] 100 (Cl (wr) (No)) (by kernel_rfl) (by kernel_rfl) (Cl.eU (X.here wr No)) ?_;refine bK ?_)
   (refine bQ ?_;intro K hK)
   obtain⟨w5,ai⟩:∃v,v=(wr.alloc (.cells #[.int .i64 0] Vd)).drew:=⟨_,rfl⟩
   obtain⟨O,ak⟩:∃x,x=wr.heap.size:=⟨_,rfl⟩
   have am:Cs w5 O Vd #[.int .i64 0]:=by rw[ai,ak];exact Cs.new _ _ _
   have x5:bf wr w5:=by rw[ai];exact((al.refl No wr).alloc _).drew
   have bk:wr.heap.size≤O:=by rw[ak];exact aq _
   rw[←ai,←ak]
   refine hK _ _ (fun _=>Cl.of x5) ?_
   clear hK K ai ak
   refine bj ?_
   have z5:=am.frozen 0
   have y5:w5.cell? ⟨O,0,none⟩=some (.int .i64 0):=am.cell 0
   refine bK ?_
   (refine bQ ?_;intro K hK)
   obtain⟨Z,ao⟩:∃v,v=w5.setCell ⟨O,0,none⟩ (.int .i64 ((l.next:Int)+(c.length:Int))):=⟨_,rfl⟩
   rw[←ao]
   have bn:Cs Z O Vd #[.int .i64 (l.next+c.length:Nat)]:=by
    have:=am.cM 0 (.int .i64 ((l.next:Int)+(c.length:Int)))
    rw[←ao] at this
    exact this
   have x6:bf wr Z:=x5.trans (show al (fun b=>b=O) w5 Z by rw[ao];exact(al.refl _ _).at_ _ _) fun b hb e=>by have e:b=O:=e;omega
   refine hK _ _ (fun _=>Cl.of x6) ?_
   clear hK K ao z5 y5 Q2 Q3 P0 P4
   refine bj ?_
   refine ar ?_
   have Z8:=aj bn
   have Z2:=aj (Y2.ou.aP x6 id)
   have Z3:=aj (Y3.ou.aP x6 id)
   have LV:=aj (LW.ou.ext x6)
   have RV:=aj (RW.ou.ext x6)
   have MV:=aj (MW.ou.ext x6)
   have XV:=aj (XW.ou.ae x6)
   have bo:yM w0 Z:=yM.up bi x6.size
   have Q2:∀ξ:X Z No,ξ.v.cell? ⟨I,0,none⟩=some (pt l.g):=Z2.ou.x id 0
   obtain⟨P0,-,-,-,-⟩:=LV.ou.lg.x
   clear bn am x5 x6 Y2 Y3 LW RW MW XW bi bk
   go_upto_region 13 with fail
   (refine aV [12] 100 (Cl (Z) (No)) (by kernel_rfl) (by kernel_rfl) (Cl.eU (X.here Z No)) ?_;refine bK ?_)
   (refine bQ ?_;intro K hK)
   obtain⟨gA,a2⟩:∃x,x=Z.heap.size:=⟨_,rfl⟩
   obtain⟨w7,y⟩:∃v,v=(Z.alloc (.cells (VQ I P O r.g) VU)).drew:=⟨_,rfl⟩
   have N:bf Z w7:=by rw[y];exact((al.refl No Z).alloc _).drew
   have G:Cs w7 gA VU (VQ I P O r.g):=by rw[y,a2];exact Cs.new _ _ _
   rw[←y,←a2]
   refine hK _ _ (fun _=>Cl.of N) ?_
   clear hK K y a2 Q2 P0
   refine bj ?_
   refine bK ?_
   refine ar ?_
   have ST:Hd (UI w0 w w7 r r.g l d I P O gA A cap c):=⟨rfl,LV.ou.ext N,al.any (XV.ou.ae N),Z2.ou.aP N id,Z3.ou.aP N id,Z8.ou.aP N id,G,RV.ou.ext N,MV.ou.ext N,yM.up bo N.size⟩
   clear N G LV XV Z2 Z3 Z8 RV MV bo
   refine cS ?_
   go_loopw [56] (fun i wr=>∃j:Nat,j≤4∧i=.int .i64 j∧(∀k,k≤j→(GC l c d k).2=0)∧∃r',UI w0 w wr r' r.g l (GC l c d j).1 I P O gA A cap c) (fun i _=>4-(intOf i).toNat)
   case atStart=>
    refine⟨0,by omega,rfl,fun k hk=>?_,r,ST.ou⟩
    have e:k=0:=Nat.le_zero.1 hk
    rw[e]
    try rfl
   case round=>
    obtain⟨j,hj,rfl,hz,r',hs⟩:=hrel
    have a:=aj hs
    have t:=aj hz
    clear hs hz ST
    have b9:=BW l c d
    have ca:=qu (ed l c d).1
    have b8:c.length≤40:=by omega
    rcases(by omega:j=0∨j=1∨j=2∨j=3∨j=4) with rfl|rfl|rfl|rfl|rfl
    ·have HC:=aj (T2 (d:=d) (cap:=cap) Q.ou a.ou.ml a.ou.lw a.ou.sz a.ou.rb (fun x V=>⟨z.ou x V,HB.ou x V⟩) (by omega) hw ⟨a5,av,by omega,a6⟩ a.ou.c2 a.ou.c3)
     have c4:wr.cell? ⟨gA,0,none⟩=some (.func (.func 186) #[] #[pt I,pt P]):=a.ou.cA.cell 0
     go_wp2_with (refine dN ?_)
     refine HC.ou.mono ?_
     rintro e u hr
     obtain⟨rfl,p,f,m,s⟩:=(show e=.returned (eT (ed l c d).2)∧∃p:jZ,p.g=r'.g∧yi w0 u p l (ed l c d).1∧al (yf w0 wr) wr u from⟨hr.1,hr.2.choose,hr.2.choose_spec.1,hr.2.choose_spec.2.1,hr.2.choose_spec.2.2.1⟩)
     have B:=aj (a.ou.step Q.ou f m s)
     clear hr f m s HC c4
     by_cases C:(ed l c d).2=0
     ·rw[C,cO]
      have z:Hd (∀k,k≤1→(GC l c d k).2=0):=fun k hk=>by
       by_cases e:k=1
       ·rw[e];exact C
       ·exact t.ou k (by omega)
      refine cS ?_
      go_roundw
      case rel=>exact⟨1,by omega,by go_num,z.ou,p,B.ou⟩
      case measure=>simp[intOf]
     ·have HE:=aj (bS C)
      have D:Hd (kl l c d=((l,(GC l c d 1).1),(GC l c d 1).2)):=by
       rw[Hd,H.ou]
       exact ab C
      rw[HE.ou]
      refine cS ?_
      go_ret
      rw[D.ou]
      exact⟨by show _=Ending.returned (eT ((ed l c d).2));rw[HE.ou];rfl,p,B.ou.wJ,B.ou.lw,B.ou.o⟩
    ·have HC:=aj (by have:=qQ a.ou.lw.dk;rw[a.ou.wJ] at this;exact this)
     have c4:wr.cell? ⟨gA,1,none⟩=some (.func (.func 108) #[pt r.g] #[]):=a.ou.cA.cell 1
     go_wp2_with (refine dN ?_)
     refine HC.ou.mono ?_
     rintro e u hr
     obtain⟨rfl,p,f,m,s⟩:=(show e=.returned (eT (ed l c d).1.oK)∧∃p:jZ,p.g=r'.g∧yi w0 u p l (ed l c d).1.fl∧al (yf w0 wr) wr u from by obtain⟨h1,p,h2,h3,h4,-⟩:=a.ou.lw.UT a.ou.sz hr;exact⟨h1,p,h2,h3,h4⟩)
     have B:=aj (a.ou.step Q.ou f m s)
     clear hr f m s HC c4
     by_cases C:(ed l c d).1.oK=0
     ·rw[C,cO]
      have z:Hd (∀k,k≤2→(GC l c d k).2=0):=fun k hk=>by
       by_cases e:k=2
       ·rw[e];exact C
       ·exact t.ou k (by omega)
      refine cS ?_
      go_roundw
      case rel=>exact⟨2,by omega,by go_num,z.ou,p,B.ou⟩
      case measure=>simp[intOf]
     ·have HE:=aj (bS C)
      have D:Hd (kl l c d=((l,(GC l c d 2).1),(GC l c d 2).2)):=by
       rw[Hd,H.ou]
       rw[aa (fun h=>h (show(ed l c d).2=0 from t.ou 1 (by omega)))]
       exact ab C
      rw[HE.ou]
      refine cS ?_
      go_ret
      rw[D.ou]
      exact⟨by show _=Ending.returned (eT ((ed l c d).1.oK));rw[HE.ou];rfl,p,B.ou.wJ,B.ou.lw,B.ou.o⟩
    ·have HC:=aj (Tm (d:=(ed l c d).1.fl) (n:=c.length) a.ou.lw a.ou.sz (by omega) (by omega) ⟨a5,av,by omega,a6⟩ a.ou.c2 a.ou.c8 a.ou.c3)
     have c4:wr.cell? ⟨gA,2,none⟩=some (.func (.func 188) #[] #[pt I,pt O,pt P]):=a.ou.cA.cell 2
     go_wp2_with (refine dN ?_)
     refine HC.ou.mono ?_
     rintro e u hr
     obtain⟨rfl,p,f,m,s⟩:=(show e=.returned (eT (ea l c.length (ed l c d).1.fl).2)∧∃p:jZ,p.g=r'.g∧yi w0 u p l (ea l c.length (ed l c d).1.fl).1∧al (yf w0 wr) wr u from⟨hr.1,hr.2.choose,hr.2.choose_spec.1,hr.2.choose_spec.2.1,hr.2.choose_spec.2.2.1⟩)
     have B:=aj (a.ou.step Q.ou f m s)
     clear hr f m s HC c4
     by_cases C:(ea l c.length (ed l c d).1.fl).2=0
     ·rw[C,cO]
      have z:Hd (∀k,k≤3→(GC l c d k).2=0):=fun k hk=>by
       by_cases e:k=3
       ·rw[e];exact C
       ·exact t.ou k (by omega)
      refine cS ?_
      go_roundw
      case rel=>exact⟨3,by omega,by go_num,z.ou,p,B.ou⟩
      case measure=>simp[intOf]
     ·have HE:=aj (bS C)
      have D:Hd (kl l c d=((l,(GC l c d 3).1),(GC l c d 3).2)):=by
       rw[Hd,H.ou]
       rw[aa (fun h=>h (show(ed l c d).2=0 from t.ou 1 (by omega)))]
       rw[aa (fun h=>h (show(ed l c d).1.oK=0 from t.ou 2 (by omega)))]
       exact ab C
      rw[HE.ou]
      refine cS ?_
      go_ret
      rw[D.ou]
      exact⟨by show _=Ending.returned (eT ((ea l c.length (ed l c d).1.fl).2));rw[HE.ou];rfl,p,B.ou.wJ,B.ou.lw,B.ou.o⟩
    ·have HC:=aj (by have:=qQ a.ou.lw.dk;rw[a.ou.wJ] at this;exact this)
     have c4:wr.cell? ⟨gA,3,none⟩=some (.func (.func 108) #[pt r.g] #[]):=a.ou.cA.cell 3
     go_wp2_with (refine dN ?_)
     refine HC.ou.mono ?_
     rintro e u hr
     obtain⟨rfl,p,f,m,s⟩:=(show e=.returned (eT (ea l c.length (ed l c d).1.fl).1.oK)∧∃p:jZ,p.g=r'.g∧yi w0 u p l (ea l c.length (ed l c d).1.fl).1.fl∧al (yf w0 wr) wr u from by obtain⟨h1,p,h2,h3,h4,-⟩:=a.ou.lw.UT a.ou.sz hr;exact⟨h1,p,h2,h3,h4⟩)
     have B:=aj (a.ou.step Q.ou f m s)
     clear hr f m s HC c4
     by_cases C:(ea l c.length (ed l c d).1.fl).1.oK=0
     ·rw[C,cO]
      have z:Hd (∀k,k≤4→(GC l c d k).2=0):=fun k hk=>by
       by_cases e:k=4
       ·rw[e];exact C
       ·exact t.ou k (by omega)
      refine cS ?_
      go_roundw
      case rel=>exact⟨4,by omega,by go_num,z.ou,p,B.ou⟩
      case measure=>simp[intOf]
     ·have HE:=aj (bS C)
      have D:Hd (kl l c d=((l,(GC l c d 4).1),(GC l c d 4).2)):=by
       rw[Hd,H.ou]
       rw[aa (fun h=>h (show(ed l c d).2=0 from t.ou 1 (by omega)))]
       rw[aa (fun h=>h (show(ed l c d).1.oK=0 from t.ou 2 (by omega)))]
       rw[aa (fun h=>h (show(ea l c.length (ed l c d).1.fl).2=0 from t.ou 3 (by omega)))]
       exact ab C
      rw[HE.ou]
      refine cS ?_
      go_ret
      rw[D.ou]
      exact⟨by show _=Ending.returned (eT ((ea l c.length (ed l c d).1.fl).1.oK));rw[HE.ou];rfl,p,B.ou.wJ,B.ou.lw,B.ou.o⟩
    ·have D:Hd (kl l c d=(({ l with next:=l.next+c.length+1 },(GC l c d 4).1),0)):=by
      rw[Hd,H.ou]
      rw[aa (fun h=>h (show(ed l c d).2=0 from t.ou 1 (by omega)))]
      rw[aa (fun h=>h (show(ed l c d).1.oK=0 from t.ou 2 (by omega)))]
      rw[aa (fun h=>h (show(ea l c.length (ed l c d).1.fl).2=0 from t.ou 3 (by omega)))]
      exact aa (fun h=>h (show(ea l c.length (ed l c d).1.fl).1.oK=0 from t.ou 4 (by omega)))
     have q2:wr.cell? ⟨I,0,none⟩=some (pt l.g):=a.ou.c2.cell 0
     have q8:wr.cell? ⟨O,0,none⟩=some (.int .i64 (l.next+c.length:Nat)):=a.ou.c8.cell 0
     have q4:wr.cell? ⟨l.g,4,none⟩=some (.int .i64 (l.next:Nat)):=Cs.cell a.ou.lw.lg 4
     have z4:=Cs.frozen a.ou.lw.lg 4
     obtain⟨w9,ap⟩:∃v,v=wr.setCell ⟨l.g,4,none⟩ (.int .i64 ((l.next:Int)+(c.length:Int)+1)):=⟨_,rfl⟩
     have b5:=aj ap
     have o9:al (fun b=>b=l.g) wr w9:=by rw[ap];exact(al.refl _ _).at_ _ _
     have l9:lh w9 { l with next:=l.next+c.length+1 } r'.g:=by
      have:=Cs.cM a.ou.lw.lg 4 (.int .i64 ((l.next:Int)+(c.length:Int)+1))
      rw[←ap] at this
      exact this
     have d9:ef w9 r' (GC l c d 4).1:=a.ou.lw.dk.aP o9 fun b hb e=>by
      have e:b=l.g:=e
      subst e
      exact a.ou.lw.ng hb
     have f9:al (yf w0 wr) wr w9:=o9.gU fun b _ e=>by
      have e:b=l.g:=e
      subst e
      exact⟨a.ou.lw.fg,_,_,a.ou.lw.lg,.inr (.inr (.inr rfl))⟩
     have b6:Hd (yi w0 w9 r' { l with next:=l.next+c.length+1 } (GC l c d 4).1):=⟨d9,l9,a.ou.lw.fp,a.ou.lw.fg⟩
     have b7:=aj (a.ou.o.G0 f9)
     have wJ:=a.ou.wJ
     clear ap o9 l9 d9 f9 a t
     refine cS ?_
     rw[←b5.ou]
     go_ret
     rw[D.ou]
     exact⟨rfl,r',wJ,b6.ou,b7.ou⟩
end Go.Proofs.YtpgmcijdcnnjpaaGreatDoor
