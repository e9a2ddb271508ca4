/- Lemmas for it. -/
import Derived.Test.YtpgmcijdcnnjpaaGreatDoorPk27
set_option linter.all false
set_option maxRecDepth 100000
set_option maxHeartbeats 4000000
namespace Go.Proofs.YtpgmcijdcnnjpaaGreatDoor
open Go Go.RowKit
variable {w:World} {dg i j k side:Nat} {base:List Ch} {out:List (List Ch)} {o:Oper} {a:Act} {K:Act→World→Prop} {Q:Exit→Act→World→Prop}
abbrev nC:TypeId:=154
structure pq where
 g:Nat
 h:V7
 l:eX
 A:Option Addr
 c:Nat
 rows:List Ch
abbrev jB(dg:Nat)(h:V7)(lv:Value)(rv:Value):Array Value:=#[pt dg,.int .i64 (h.bU:Nat),.int .i64 (h.side:Nat),.int .i64 (h.size:Nat),.int .i64 (h.first:Nat),lv,rv]
abbrev pq.cells(S:pq)(dg:Nat):Array Value:=jB dg S.h (pt S.l.g) (.slice S.A S.rows.length S.c)
structure gq (w:World) (S:pq) (dg:Nat):Prop where
 cs:Cs w S.g nC (S.cells dg)
 lg:lh w S.l dg
 own:w.ownsRow 0 sD 3 (.slice S.A S.rows.length S.c) S.rows.length (S.rows.flatMap fA.enc)
theorem gq.ext{w v:World}{S:pq}{dg:Nat}(h:gq w S dg)(a:bf w v):gq v S dg:=⟨h.cs.aP a id,h.lg.ext a,oH h.own a⟩
theorem gq.sl {S:pq} (h:gq w S dg):di fA w S.A S.rows.length S.rows:=di.jk (T:=fA) (by decide) h.own
def BA(s h:V7):V7:=if s.bU<h.bU then h else s
def Au(N:List aK):Nat→V7
 | 0=>⟨0,0,0,0⟩
 | j+1=>BA (Au N j) (pE (N.getD j []))
def Ty(N:List aK):V7:=Au N 2
def sB(N:List aK)(side k:Nat):aK:=((N.drop (2+side*21)).take k).flatten
structure Ng (h:V7):Prop where
 ep:h.bU<4294967296
 side:h.side≤1
 size:h.size≤7140
 fs:1≤h.first∧h.first<4294967296
theorem Q0{s:aK}(h:(pE s).bU≠0):Ng (pE s):=by
 unfold pE at h ⊢
 split at h
 ·exact absurd rfl h
 ·rename_i hc
  rw[aa hc]
  have a:=wP s 1
  have b:=wP s 13
  exact⟨a,by show ob s 5≤1;omega,by show ob s 9≤7140;omega,by show 1≤ob s 13∧ob s 13<4294967296;omega⟩
theorem JB(N:List aK):∀j,(Au N j).bU≠0→Ng (Au N j)
 | 0,h=>absurd rfl h
 | j+1,h=>by
  unfold Au BA at h ⊢
  split at h
  ·rename_i hc;rw[ab hc];exact Q0 h
  ·rename_i hc;rw[aa hc];exact JB N j h
theorem Bt{N:List aK} (h:2+side*21+k<N.length):sB N side (k+1)=sB N side k++N[2+side*21+k]:=by
 unfold sB
 rw[aU,cQ,aF h]
 simp
theorem Fm{N:List aK}(a:∀s∈N,s.length=340) (h:2+side*21+k≤N.length):(sB N side k).length=340*k:=by
 induction k with
 | zero=>simp[sB]
 | succ k ih=>
  rw[Bt (by omega),af,ih (by omega),a _ (ez _)]
  omega
def oy(base:List Ch)(out:List (List Ch)):List Ch:=out.foldl dw base
theorem Hi   {c:List Ch}(h:out[j]?=some c):oy base (out.take (j+1))=dw (oy base (out.take j)) c:=by
 unfold oy
 rw[aU,h,eW]
 try rfl
theorem Jb (h:eQ ck base):∀out:List (List Ch),eQ ck (oy base out):=fun out=>by
 unfold oy
 induction out generalizing base with
 | nil=>exact h
 | cons c r ih=>exact ih (sI h c)
theorem BE:∀(out:List (List Ch)) (base:List Ch),(oy base out).length≤base.length+out.flatten.length
 | [],base=>by simp[oy]
 | c::r,base=>by
  have a:=BE r (dw base c)
  have b:=uI base c
  show(oy (dw base c) r).length≤_
  simp only[List.flatten_cons,af]
  omega
theorem Av(first:Nat):∀(L:List aK) (i:Nat) (deed:List Ch) (o0:List (List Ch)) (nx:Nat),(ee first L i deed o0 nx).1.flatten.length≤o0.flatten.length+deed.length+L.length
 | [],i,deed,o0,nx=>by show o0.flatten.length≤_;omega
 | s::r,i,deed,o0,nx=>by
  rw[jt,an]
  cases hl:je s (first+i) with
  | none=>show o0.flatten.length≤_;omega
  | some kt=>
   obtain⟨k,t⟩:=kt
   dsimp only
   by_cases a:k=99
   ·rw[ab a]
    by_cases b:t=dU deed.length
    ·rw[ab b]
     have:=Av first r (i+1) [] (o0++[deed]) (i+1)
     simp only[jE,List.flatten_cons,List.flatten_nil,cv,af,bI] at this
     omega
    ·rw[aa b];show o0.flatten.length≤_;omega
   ·rw[aa a]
    cases lu t with
    | none=>show o0.flatten.length≤_;omega
    | some c=>
     have:=Av first r (i+1) (deed++[c]) o0 nx
     simp only[af,bE] at this
     dsimp only
     omega
def OpS(w:World)(dg:Nat)(H:V7)(N used:Nat)(rows:List Ch)(e:Ending)(w':World):Prop:=
 ∃g lg A c,e=.returned (.tuple #[pt g,.nilIface])∧gq w' ⟨g,H,⟨lg,44,N-44,H.first,used⟩,A,c,rows⟩ dg∧w.heap.size≤g∧w.heap.size≤lg∧bf w w'
@[go_sem] theorem Va (dg:Nat) (w:World):(Instr.build nC #[(0,pt dg)]).run Tryz.prog w=.ok (.agg #[pt dg,.int .i64 0,.int .i64 0,.int .i64 0,.int .i64 0,.pointer none,.slice none 0 0]) w:=run_build w nC _ _ (by kernel_rfl)
theorem PA  (hm:Ml w) {r:jZ} {d:Dk} (h:ef w r d) (Y:d.down=false) (hw:∀s∈d.now,s.length=340) (h1:50≤d.now.length) (h2:d.now.length≤120) {H:V7} (hH:Ty d.now=H) (he:H.bU≠0)  (M:lJ base) (cf:base.length≤1000)
  (ht:(sB d.now H.side 21).take H.size=eY base)  {used:Nat} (hs:ee H.first ((d.now.drop 44).take (d.now.length-44)) 0 [] [] 0=(out,used)) :
  Calls Tryz.prog 53 #[pt r.g] w (OpS w r.g H d.now.length used (oy base out)):=by
 have HD:=aj h
 have HM:=aj hm
 have HW:=aj hw
 have HH:=aj hH
 have HB:=aj M
 have HT:=aj ht
 have bd:=aj hs
 have F:Hd (Ng H):=by rw[Hd,←hH];exact JB d.now 2 (by show(Ty d.now).bU≠0;rw[hH];exact he)
 obtain⟨N,hN⟩:∃N,N=d.now.length:=⟨_,rfl⟩
 have Z:=aj hN
 have bg:=aj (Nl h)
 rw[Y] at bg
 have bi:Hd (∀v,bf w v→Calls Tryz.prog 82 #[pt r.g] v fun e u=>e=.returned (.int .i64 N)∧bf v u):=fun v hv=>by
  have:=qX (HD.ou.ext hv)
  rw[←Z.ou] at this
  exact this
 have bk:Hd (∀(v:World) (k:Nat),bf w v→k<N→Calls Tryz.prog 83 #[pt r.g,.int .i64 (k:Int)] v fun e u=>e=.returned (.tuple #[S (d.now.getD k []),.nilIface])∧bf v u):=fun v k hv hk=>by
  have:=OT (HD.ou.ext hv) (k:Int)
  rw[Y,aa dI,aa (by omega)] at this
  exact this
 have HL:Hd (∀k,k<N→(d.now.getD k []).length=340):=fun k hk=>by
  rw[aL,aF (by omega)]
  exact HW.ou _ (ez _)
 rw[←hN] at h1 h2
 have g1:decide ((N:Int)<50)=false:=aG (by omega)
 have c4:decide (N<50)=false:=aG (by omega)
 have a0:=aj Y
 clear h hm hw hH M ht hs Y hN
 go_enter Tryz.func53,Tryz.ntmps53
 go_wp2_with (refine dN ?_)
 refine bg.ou.mono ?_
 rintro e w1 ⟨rfl,f⟩
 have X1:=aj f
 have bn:=bi.ou w1 X1.ou
 clear f
 go_wp2_with (refine dN ?_)
 refine bn.mono ?_
 rintro e w2 ⟨rfl,f⟩
 have X2:=aj (X1.ou.ae f)
 clear f bn X1
 go_wp2_with (refine dN ?_)
 obtain⟨gs,ac⟩:∃x,x=w2.heap.size:=⟨_,rfl⟩
 obtain⟨w3,ag⟩:∃v,v=w2.alloc (.cells #[pt r.g,.int .i64 0,.int .i64 0,.int .i64 0,.int .i64 0,.pointer none,.slice none 0 0] nC):=⟨_,rfl⟩
 have bo:Hd (Cs w3 gs nC (jB r.g ⟨0,0,0,0⟩ (.pointer none) (.slice none 0 0))):=by rw[ag,ac];exact Cs.new _ _ _
 have X3:Hd (bf w w3):=by rw[ag];exact X2.ou.alloc _
 have E:Hd (w.heap.size≤gs):=by rw[ac];exact X2.ou.size
 rw[←ag,←ac]
 clear ag ac X2
 go_loopw [30] (fun i wr=>∃j:Nat,j≤2∧i=.int .i64 j∧Cs wr gs nC (jB r.g (Au d.now j) (.pointer none) (.slice none 0 0))∧bf w wr) (fun i _=>2-(intOf i).toNat)
 case atStart=>exact⟨0,au _,rfl,bo.ou,X3.ou⟩
 case round=>
  obtain⟨j,hj,rfl,bp,bs⟩:=hrel
  have CJ:=aj bp
  have XJ:=aj bs
  clear bp bs X3 bo
  by_cases a:j<2
  ·have a1:decide ((j:Int)<2)=true:=aM (by omega)
   have ap:decide (j<2)=true:=aM a
   have HR:=bk.ou wr j XJ.ou (by omega)
   have HO:=Nt (d.now.getD j []) (HL.ou j (by omega))
   have P:Hd (Au d.now (j+1)=if (Au d.now j).bU<(pE (d.now.getD j [])).bU then pE (d.now.getD j []) else Au d.now j):=rfl
   obtain⟨a2,z⟩:∃x,x=d.now.getD j []:=⟨_,rfl⟩
   rw[←z] at HR HO P
   obtain⟨h,hh⟩:∃h,h=pE a2:=⟨_,rfl⟩
   rw[←hh] at HO P
   clear z hh
   obtain⟨O,bu⟩:∃h,h=Au d.now j:=⟨_,rfl⟩
   rw[←bu] at P CJ
   clear bu
   go_wp2_with (refine dN ?_)
   refine HR.mono ?_
   rintro e u1 ⟨rfl,f⟩
   have X1:=aj (XJ.ou.ae f)
   have C1:=aj (CJ.ou.aP f id)
   clear f HR XJ CJ
   go_wp2_with (refine dN ?_)
   refine(HO u1).mono ?_
   rintro e V ⟨rfl,f⟩
   have X2:=aj (X1.ou.ae f)
   have C2:=aj (C1.ou.aP f id)
   clear f HO X1 C1
   go_upto_region 13 with fail
   obtain⟨gb,a3⟩:∃x,x=V.heap.size:=⟨_,rfl⟩
   obtain⟨u3,Q⟩:∃v,v=V.alloc (.cells #[.int .i64 (h.bU:Nat),.int .i64 (h.side:Nat),.int .i64 (h.size:Nat),.int .i64 (h.first:Nat)] o6):=⟨_,rfl⟩
   have B3:Hd (Cs u3 gb o6 h.cells):=by rw[Q,a3];exact Cs.new _ _ _
   have X3:Hd (bf w u3):=by rw[Q];exact X2.ou.alloc _
   have C3:Hd (Cs u3 gs nC (jB r.g O (.pointer none) (.slice none 0 0))):=by rw[Q];exact C2.ou.alloc _
   rw[←Q,←a3]
   clear Q a3 X2 C2
   have b0:∀ξ:X u3 No,ξ.v.cell? ⟨gb,0,none⟩=some (.int .i64 (h.bU:Nat)):=Cs.x B3.ou id 0
   have s1:∀ξ:X u3 No,ξ.v.cell? ⟨gs,1,none⟩=some (.int .i64 (O.bU:Nat)):=Cs.x C3.ou id 1
   (refine aV [] 100 (Cl (u3) (No)) (by kernel_rfl) (by kernel_rfl) (Cl.eU (X.here u3 No)) ?_;refine bK ?_)
   all_goals (refine ar ?_)
   clear b0 s1
   obtain⟨D,R⟩:∃v,v=u3.drew:=⟨_,rfl⟩
   have X4:Hd (bf w D):=by rw[R];exact X3.ou.drew
   have B4:Hd (Cs D gb o6 h.cells):=by rw[R];exact B3.ou
   have W:Hd (Cs D gs nC (jB r.g O (.pointer none) (.slice none 0 0))):=by rw[R];exact C3.ou
   rw[←R]
   clear R X3 B3 C3
   by_cases G:O.bU<h.bU
   ·have g4:decide ((O.bU:Int)<(h.bU:Int))=true:=aM (by omega)
    have ch:decide (O.bU<h.bU)=true:=aM G
    have a4:=aj (P.ou.trans (ab G))
    have b0:D.cell? ⟨gb,0,none⟩=some (.int .i64 (h.bU:Nat)):=B4.ou.cell 0
    have b1:D.cell? ⟨gb,1,none⟩=some (.int .i64 (h.side:Nat)):=B4.ou.cell 1
    have b2:D.cell? ⟨gb,2,none⟩=some (.int .i64 (h.size:Nat)):=B4.ou.cell 2
    have b3:D.cell? ⟨gb,3,none⟩=some (.int .i64 (h.first:Nat)):=B4.ou.cell 3
    have s1:D.cell? ⟨gs,1,none⟩=some (.int .i64 (O.bU:Nat)):=W.ou.cell 1
    have s2:D.cell? ⟨gs,2,none⟩=some (.int .i64 (O.side:Nat)):=W.ou.cell 2
    have s3:D.cell? ⟨gs,3,none⟩=some (.int .i64 (O.size:Nat)):=W.ou.cell 3
    have s4:D.cell? ⟨gs,4,none⟩=some (.int .i64 (O.first:Nat)):=W.ou.cell 4
    have z1:=W.ou.frozen 1
    have z2:=W.ou.frozen 2
    have z3:=W.ou.frozen 3
    have z4:=W.ou.frozen 4
    refine cS ?_
    obtain⟨u5,l⟩:∃v,v=((((D.setCell ⟨gs,1,none⟩ (.int .i64 (h.bU:Nat))).setCell ⟨gs,2,none⟩ (.int .i64 (h.side:Nat))).setCell ⟨gs,3,none⟩ (.int .i64 (h.size:Nat))).setCell ⟨gs,4,none⟩ (.int .i64 (h.first:Nat))):=⟨_,rfl⟩
    have C5:Hd (Cs u5 gs nC (jB r.g h (.pointer none) (.slice none 0 0))):=by
     have:=(((W.ou.cM 1 (.int .i64 (h.bU:Nat))).cM 2 (.int .i64 (h.side:Nat))).cM 3 (.int .i64 (h.size:Nat))).cM 4 (.int .i64 (h.first:Nat))
     simp only[ax,aR,aS] at this
     rw[l];exact this
    have X5:Hd (bf w u5):=by
     rw[l]
     exact(((X4.ou.setCell (p:=⟨gs,1,none⟩) (.inl E.ou) _).setCell (p:=⟨gs,2,none⟩) (.inl E.ou) _).setCell (p:=⟨gs,3,none⟩) (.inl E.ou) _).setCell (p:=⟨gs,4,none⟩) (.inl E.ou) _
    rw[←l]
    clear l
    go_roundw
    case rel=>exact⟨j+1,by omega,by go_num,by rw[a4.ou];exact C5.ou,X5.ou⟩
    case measure=>simp[intOf];omega
   ·have g4:decide ((O.bU:Int)<(h.bU:Int))=false:=aG (by omega)
    have ch:decide (O.bU<h.bU)=false:=aG G
    have a4:=aj (P.ou.trans (aa G))
    refine cS ?_
    go_roundw
    case rel=>exact⟨j+1,by omega,by go_num,by rw[a4.ou];exact W.ou,X4.ou⟩
    case measure=>simp[intOf];omega
  ·obtain rfl:j=2:=by omega
   have C5:Hd (Cs wr gs nC (jB r.g H (.pointer none) (.slice none 0 0))):=by
    have:=CJ.ou
    rw[show Au d.now 2=H from HH.ou] at this
    exact this
   have X5:=XJ
   clear CJ XJ
   have s1:wr.cell? ⟨gs,1,none⟩=some (.int .i64 (H.bU:Nat)):=C5.ou.cell 1
   have s2:∀ξ:X wr No,ξ.v.cell? ⟨gs,2,none⟩=some (.int .i64 (H.side:Nat)):=Cs.x C5.ou id 2
   have ge:((H.bU:Int)==0)=false:=by rw[bl];omega
   go_wp2_with (refine dN ?_)
   obtain⟨q0,bv⟩:∃q,q=2+H.side*21:=⟨_,rfl⟩
   have Hq:Hd (q0≤23∧(q0:Int)=(2:Int)+(H.side:Int)*21):=by have:=F.ou.side;exact⟨by omega,by omega⟩
   have a5:=aj bv
   clear bv
   obtain⟨Cf,U⟩:∃C:Nat→aK,C=sB d.now H.side:=⟨_,rfl⟩
   have ci:Hd (Cf 0=[]):=by rw[U];rfl
   have cm:Hd (∀k,k<21→Cf (k+1)=Cf k++d.now.getD (q0+k) []∧(Cf k).length=340*k):=fun k hk=>by
    have a:2+H.side*21+k<d.now.length:=by have:=Hq.ou.1;have:=a5.ou;have:=Z.ou;omega
    rw[U,a5.ou,aL,aF a]
    exact⟨Bt a,Fm HW.ou (by omega)⟩
   have cn:Hd ((Cf 21).length=7140):=by
    rw[U]
    exact Fm HW.ou (by have:=Hq.ou.1;have:=a5.ou;have:=Z.ou;omega)
   have bw:Hd ((Cf 21).take H.size=eY base):=by rw[U];exact HT.ou
   clear HT U s1
   obtain⟨wa,rfl⟩:∃x,x=wr:=⟨_,rfl⟩
   rw[show(((2:Nat):Int))=(2:Int) from rfl]
   go_loopw [64,9] (fun i t I=>∃k:Nat,k≤21∧i=.int .i64 k∧t=S (Cf k)∧bf wa I) (fun i _ _=>21-(intOf i).toNat)
   case atStart=>exact⟨0,au _,rfl,by rw[ci.ou],al.refl _ _⟩
   case round=>
    obtain⟨I,rfl⟩:∃x,x=wr:=⟨_,rfl⟩
    obtain⟨k,hk,rfl,rfl,bx⟩:=hrel
    have XK:=aj bx
    clear bx
    by_cases a:k<21
    ·have a1:decide ((k:Int)<21)=true:=aM (by omega)
     have ap:decide (k<21)=true:=aM a
     have HR:=bk.ou I (q0+k) (X5.ou.ae XK.ou) (by have:=Hq.ou.1;omega)
     rw[show((q0+k:Nat):Int)=(2:Int)+(H.side:Int)*21+(k:Int) by have:=Hq.ou.2;omega] at HR
     have ai:=aj (cm.ou k a)
     have a6:=HL.ou (q0+k) (by have:=Hq.ou.1;omega)
     obtain⟨a2,z⟩:∃x,x=d.now.getD (q0+k) []:=⟨_,rfl⟩
     rw[←z] at HR ai a6
     clear z
     have a7:=ai.ou.2
     obtain⟨tk,bz⟩:∃x,x=Cf k:=⟨_,rfl⟩
     rw[←bz] at ai a7 ⊢
     clear bz
     have co:=F.ou.side
     have c5:I.cell? ⟨gs,2,none⟩=some (.int .i64 (H.side:Nat)):=s2 ⟨I,XK.ou⟩
     have cA:tk.length+a2.length≤1000000:=by omega
     have c0:=aj a7
     have cq:=aj a6
     clear a7 a6
     go_wp2_with (refine dN ?_)
     refine HR.mono ?_
     rintro e u1 ⟨rfl,f⟩
     have X1:=aj (XK.ou.ae f)
     clear f HR
     refine cS ?_
     go_roundw
     case rel=>exact⟨k+1,by omega,by go_num,by rw[ai.ou.1],X1.ou⟩
     case measure=>simp[intOf];omega
    ·obtain rfl:k=21:=by omega
     have a8:=cn.ou
     have XV:=aj (X5.ou.ae XK.ou)
     have CV:=aj (C5.ou.aP XK.ou id)
     have s3:I.cell? ⟨gs,3,none⟩=some (.int .i64 (H.size:Nat)):=CV.ou.cell 3
     have c6:=F.ou.size
     obtain⟨ct,av⟩:∃x,x=Cf 21:=⟨_,rfl⟩
     rw[←av] at bw a8 ⊢
     clear av
     have c3:H.size≤ct.length:=by omega
     have c7:=aj a8
     have HP:=Nr (HM.ou.ext XV.ou) HB.ou cf
     clear a8 XK s2
     go_wp2_with (refine dN ?_)
     rw[bw.ou]
     refine HP.mono ?_
     rintro e w5 ⟨pA,pc,rfl,hF⟩
     have F5:=aj hF
     have X6:=aj (XV.ou.ae hF.ext)
     have C6:=aj (CV.ou.aP hF.ext id)
     clear hF HP XV CV s3
     go_upto_region 30 with fail
     have s4:∀ξ:X w5 No,ξ.v.cell? ⟨gs,4,none⟩=some (.int .i64 (H.first:Nat)):=Cs.x C6.ou id 4
     have bA:=bi.ou
     have b4:Hd (∀v,bf w v→Calls Tryz.prog 86 #[pt r.g,.int .i64 44,.int .i64 ((N:Int)-44),.int .i64 (H.first:Nat)] v (Nd v r.g 44 (N-44) H.first (out,used))):=fun v hv=>by
      have hf:=F.ou.fs
      have:=Kf (HM.ou.ext hv) (HD.ou.ext hv) a0.ou HW.ou 44 (N-44) H.first (by omega) (by have:=Z.ou;omega) (by omega) (by omega)
      rw[show(N-44:Nat)=d.now.length-44 by rw[Z.ou],bd.ou,←Z.ou] at this
      rw[show((N:Int)-44)=((N-44:Nat):Int) by omega]
      exact this
     have gN:50≤N:=h1
     refine aV [2,9] 100 (Cl w5 No) (by kernel_rfl) (by kernel_rfl) (Cl.eU (X.here w5 No)) ?_
     refine bK ?_
     (refine bQ ?_;intro K hK)
     refine(bA _ (X6.ou.drew)).mono ?_
     rintro e u1 ⟨rfl,f⟩
     have Y1:bf w5 u1:=(al.refl No w5).drew.ae f
     refine⟨_,rfl,hK _ _ (fun _=>Cl.of Y1) ?_⟩
     clear hK K f
     refine bj ?_
     refine bK ?_
     (refine bQ ?_;intro K hK)
     refine(b4.ou _ (X6.ou.ae Y1)).mono ?_
     rintro e V ⟨lg,oA,oc,ys,rfl,b5,b6,b7,b8,hx⟩
     have Y2:bf w5 V:=Y1.ae hx
     have cu:Hd (w.heap.size≤lg):=aJ (X6.ou.ae Y1).size b5
     refine⟨_,rfl,hK _ _ (fun _=>Cl.of Y2) ?_⟩
     clear hK K b4 bA
     refine bj ?_
     refine bK ?_
     refine ar ?_
     have X8:=aj (X6.ou.ae Y2)
     have C8:=aj (C6.ou.aP Y2 id)
     have F8:=aj (F5.ou.on Y2)
     have L8:=aj b6
     have D8:=aj b7
     have a9:=aj b8
     clear b5 b6 b7 b8 hx X6 Y1 Y2 C6 F5 s4
     have y0:V.cell? ⟨gs,5,none⟩=some (.pointer none):=C8.ou.cell 5
     have y1:V.cell? ⟨gs,6,none⟩=some (.slice none 0 0):=C8.ou.cell 6
     have z0:=C8.ou.frozen 5
     have z1:=C8.ou.frozen 6
     go_upto_region 34 with fail
     obtain⟨w9,ak⟩:∃v,v=(V.setCell ⟨gs,5,none⟩ (pt lg)).setCell ⟨gs,6,none⟩ (.slice pA base.length pc):=⟨_,rfl⟩
     have C9:Hd (Cs w9 gs nC (jB r.g H (pt lg) (.slice pA base.length pc))):=by
      have:=(C8.ou.cM 5 (pt lg)).cM 6 (.slice pA base.length pc)
      simp only[ax,aR,aS] at this
      rw[ak];exact this
     have O9:Hd (al (fun b=>b=gs) V w9):=by rw[ak];exact((al.refl _ _).at_ 5 _).at_ 6 _
     have X9:Hd (bf w w9):=X8.ou.trans O9.ou fun b M e=>by have:=E.ou;omega
     rw[←ak]
     clear ak y0 y1 z0 z1
     go_wp2_with fail
     have bb:Hd (ys.length≤120∧out.flatten.length≤120):=by
      have k1:=Av H.first ((d.now.drop 44).take (d.now.length-44)) 0 [] [] 0
      have k2:=(uK H.first ((d.now.drop 44).take (d.now.length-44)) 0 [] [] 0 1000 (fun x hx=>by cases hx) (by have:=Z.ou;simp;omega)).2
      rw[bd.ou] at k1 k2
      have k3:=congrArg List.length a9.ou
      have:=Z.ou
      simp only[bH,bI,List.flatten_nil,aH,be] at k1 k2 k3
      exact⟨by omega,by omega⟩
     obtain⟨wb,rfl⟩:∃x,x=w9:=⟨_,rfl⟩
     go_loopw [129] (fun i wr=>∃j:Nat,j≤ys.length∧i=.int .i64 j∧∃A c L,L=oy base (out.take j)∧Cs wr gs nC (jB r.g H (pt lg) (.slice A L.length c))∧wr.ownsRow 0 sD 3 (.slice A L.length c) L.length (L.flatMap fA.enc)∧al (fun b=>b=gs) V wr∧bf w wr) (fun i _=>ys.length-(intOf i).toNat)
     case atStart=>exact⟨0,au _,rfl,pA,pc,base,rfl,C9.ou,cl F8.ou.own O9.ou fun b M e=>aO F8.ou.own C8.ou (by decide) b M e,O9.ou,X9.ou⟩
     case round=>
      obtain⟨I,rfl⟩:∃x,x=wr:=⟨_,rfl⟩
      obtain⟨j,hj,rfl,A1,c1,L,hL,b9,aD,ho,hx⟩:=hrel
      have am:=aj hL
      have CJ:=aj b9
      have WJ:=aj aD
      have OJ:=aj ho
      have XJ:=aj hx
      clear hL b9 aD ho hx C9 O9 X9
      by_cases a:j<ys.length
      ·have a1:decide ((j:Int)<(ys.length:Int))=true:=aM (by omega)
       have ap:decide (j<ys.length)=true:=aM a
       have bc:Uy I oA ys.length ys:=⟨di.jk (T:=IH) (by decide) (cl D8.ou.row.own OJ.ou fun b M e=>aO D8.ou.row.own C8.ou (by decide) b M e),fun y hy=>di.jk (T:=fA) (by decide) (cl (D8.ou.own y hy) OJ.ou fun b M e=>aO (D8.ou.own y hy) C8.ou (by decide) b M e)⟩
       obtain⟨b,o,y,cx,ca,cy,cb⟩:=PX bc a
       subst cx
       obtain⟨⟨yA,yc⟩,J⟩:=y
       have q1:I.cell? ⟨b,o+j,none⟩=some (.slice yA J.length yc):=cb ⟨I,al.refl _ _⟩
       have s6:I.cell? ⟨gs,6,none⟩=some (.slice A1 L.length c1):=CJ.ou.cell 6
       have cc:out[j]?=some J:=by rw[←a9.ou,bP,ca];rfl
       have c8:L.length≤2000:=by
        have k1:=BE (out.take j) base
        have k2:out.flatten.length=(out.take j).flatten.length+(out.drop j).flatten.length:=by rw[←af,←jE,dX]
        have:=bb.ou.2
        rw[am.ou];omega
       have c9:J.length≤2000:=by
        have k2:J.length≤out.flatten.length:=(List.sublist_flatten_of_mem (ah cc)).length_le
        have:=bb.ou.2
        omega
       have HA:=Da (w:=I) (A:=A1) (B:=yA) (n:=L.length) (m:=J.length) (c:=c1) (d:=yc) (xs:=L) (ys:=J) (di.jk (T:=fA) (by decide) WJ.ou) (bc.2 _ (ah ca)) (by omega) (by omega) (by rw[am.ou];exact Jb HB.ou.pj _)
       have cz:=aj (Hi (base:=base) cc)
       have ce:=bb.ou.1
       clear cy cb bc
       go_wp2_with (refine dN ?_)
       refine HA.mono ?_
       rintro e D ⟨A2,c2,rfl,hF⟩
       have F2:=aj hF
       have C2:=aj (CJ.ou.aP hF.ext id)
       have t6:D.cell? ⟨gs,6,none⟩=some (.slice A1 L.length c1):=C2.ou.cell 6
       have z6:=C2.ou.frozen 6
       clear hF HA q1 s6
       refine cS ?_
       obtain⟨u5,l⟩:∃v,v=D.setCell ⟨gs,6,none⟩ (.slice A2 (dw L J).length c2):=⟨_,rfl⟩
       have C5:Hd (Cs u5 gs nC (jB r.g H (pt lg) (.slice A2 (dw L J).length c2))):=by
        have:=C2.ou.cM 6 (.slice A2 (dw L J).length c2)
        simp only[ax,aR,aS] at this
        rw[l];exact this
       have ao:al (fun b=>b=gs) D u5:=by rw[l];exact(al.refl _ _).at_ 6 _
       have O5:Hd (al (fun b=>b=gs) V u5):=(OJ.ou.ae F2.ou.ext).trans ao fun _ _ e=>e
       have X5:Hd (bf w u5):=(XJ.ou.ae F2.ou.ext).trans ao fun b M e=>by have:=E.ou;omega
       have W5:Hd (u5.ownsRow 0 sD 3 (.slice A2 (dw L J).length c2) (dw L J).length ((dw L J).flatMap fA.enc)):=cl F2.ou.own ao fun b M e=>aO F2.ou.own C2.ou (by decide) b M e
       rw[←l]
       clear l ao
       go_roundw
       case rel=>exact⟨j+1,by omega,by go_num,A2,c2,dw L J,by rw[cz.ou,am.ou],C5.ou,W5.ou,O5.ou,X5.ou⟩
       case measure=>simp[intOf];omega
      ·obtain rfl:j=ys.length:=by omega
       have a1:decide ((ys.length:Int)<(ys.length:Int))=false:=aG (by omega)
       go_wp2_with (refine lM ?_ ?_<;>intro hq)
       go_ret2
       refine⟨gs,lg,A1,c1,rfl,⟨?_,?_,?_⟩,E.ou,cu.ou,XJ.ou⟩
       all_goals
        have e1:L=oy base out:=by
         have:=am.ou
         rw[ay (by rw[←a9.ou];simp)] at this
         exact this
        subst e1
       ·exact CJ.ou
       ·show lh I ⟨lg,44,d.now.length-44,H.first,used⟩ r.g
        rw[←Z.ou]
        exact L8.ou.aP OJ.ou fun e=>Cs.oC L8.ou C8.ou (by decide) e
       ·exact WJ.ou
theorem Qf {S:pq} (h:gq w S dg)(d:S.rows.length≤1000) :
  Calls Tryz.prog 88 #[pt S.g] w fun e w'=>∃A c,e=.returned (.slice A S.rows.length c)∧bR fA 107 w w' A c S.rows:=by
 have a:=aj (Aw (c:=S.c) h.sl (h.sl.kR) (by omega))
 have f:w.cell? ⟨S.g,6,none⟩=some (.slice S.A S.rows.length S.c):=h.cs.cell 6
 clear h
 go_enter Tryz.func88,Tryz.ntmps88
 go_wp2_with (refine dN ?_)
 refine a.ou.mono ?_
 rintro e i ⟨A,c,rfl,b⟩
 refine cS ?_
 go_ret
 exact⟨A,c,rfl,b⟩
def jA(l:List Ch):Nat:=(l.filter fun x=>x.1.getD 0 0==102).length
def lK(l:List Ch):Bool:=decide (20<jA l)||decide (20<l.length-jA l)
theorem xo(l:List Ch):jA l≤l.length:=dK _ _
theorem GN{l:List Ch} {x:Ch}(h:l[j]?=some x):jA (l.take (j+1))=jA (l.take j)+if x.1.getD 0 0==102 then 1 else 0:=by
 unfold jA
 rw[aU,h,ib,af]
 congr 1
 by_cases a:(x.1.getD 0 0==102)=true
 ·simp only[jX,dC,a,if_true,List.filter_nil,bE]
 ·simp only[jX,dC,a,if_false,List.filter_nil,bI,cV]
theorem Sr {A:Option Addr}{n c:Nat}{rows:List Ch}(h:di fA w A n rows)(X:n≤10000)(F:∀x∈rows,0<x.1.length) :
  Calls Tryz.prog 129 #[.slice A n c] w fun e w'=>e=.returned (.bool (lK rows))∧bf w w':=by
 have M:=aj h
 have N:=aj F
 have B:=h.1
 have f:Hd (lK rows=(decide (20<jA rows)||decide (20<rows.length-jA rows))):=rfl
 clear h F
 go_enter Tryz.func129,Tryz.ntmps129
 go_wp2_with (refine lM ?_ ?_<;>intro hq)
 go_loopw [3,8] (fun m i wr=>∃j:Nat,j≤n∧i=.int .i64 j∧m=.int .i64 (jA (rows.take j):Nat)∧bf w wr) (fun _ i _=>n-(intOf i).toNat)
 case atStart=>exact⟨0,au _,rfl,by simp[jA],al.refl _ _⟩
 case round=>
  obtain⟨j,Y,rfl,rfl,u⟩:=hrel
  have k:=aj u
  clear u
  have p:=xo (rows.take j)
  by_cases v:j<n
  ·have C:decide ((j:Int)<(n:Int))=true:=aM (by omega)
   have G:decide (j<n)=true:=aM v
   obtain⟨b,o,x,D,y,H,I,J⟩:=nK M.ou v
   subst D
   have u:=N.ou _ (ah y)
   have r:=aj (GN y)
   obtain⟨key,O,K⟩:=x
   dsimp only at u
   have P:=H ⟨wr,k.ou⟩
   have Q:=I ⟨wr,k.ou⟩
   have R:=J ⟨wr,k.ou⟩
   dsimp only at P Q R
   clear H I J
   obtain⟨k0,S,rfl⟩:∃a l,key=a::l:=by
    match key,u with
    | a::l,_=>exact⟨a,l,rfl⟩
   have T:(rows.take j).length≤10000:=by rw[aH];omega
   obtain⟨m,z⟩:∃m,m=jA (rows.take j):=⟨_,rfl⟩
   rw[←z] at p r ⊢
   clear z
   have U:m≤10000:=by omega
   by_cases d:k0=102
   ·have q:((k0.toNat:Int)==102)=true:=by rw[d];rfl
    have s:Hd (jA (rows.take (j+1))=m+1):=by rw[Hd,r.ou,d];rfl
    subst d
    go_wp2_with fail
    go_roundw
    case rel=>exact⟨j+1,by omega,by go_num,by rw[s.ou];go_num,(k.ou.alloc _)⟩
    case measure=>simp[intOf];omega
   ·have q:((k0.toNat:Int)==102)=false:=by rw[show(102:Int)=((102:UInt8).toNat:Int) from rfl,BH];exact aG d
    have s:Hd (jA (rows.take (j+1))=m):=by
     rw[Hd,r.ou]
     have:((k0::S).getD 0 0==102)=false:=by show(k0==102)=false;rw[bl];exact d
     simp only[this,cV,if_false,fK]
    go_wp2_with fail
    go_roundw
    case rel=>exact⟨j+1,by omega,by go_num,by rw[s.ou],(k.ou.alloc _)⟩
    case measure=>simp[intOf];omega
  ·obtain rfl:j=n:=by omega
   have C:decide ((j:Int)<(j:Int))=false:=aG (by omega)
   have g:rows.take j=rows:=ay (by omega)
   rw[g] at p ⊢
   obtain⟨m,z⟩:∃m,m=jA rows:=⟨_,rfl⟩
   rw[←z] at p f ⊢
   clear z g
   by_cases L:20<m
   ·have V:decide ((20:Int)<(m:Int))=true:=aM (by omega)
    have t:decide (20<m)=true:=aM L
    have E:Hd (lK rows=true):=by rw[Hd,f.ou,t];rfl
    clear f
    go_wp2_with fail
    go_ret
    exact⟨by rw[E.ou];rfl,k.ou⟩
   ·have V:decide ((20:Int)<(m:Int))=false:=aG (by omega)
    have t:decide (20<m)=false:=aG L
    have W:((j:Int)-(m:Int))=((j-m:Nat):Int):=by omega
    have E:Hd (lK rows=decide ((20:Int)<(j:Int)-(m:Int))):=by rw[Hd,f.ou,t,B,iz,eu,aW,aW];omega
    clear f W
    go_wp2_with fail
    go_ret
    exact⟨by rw[E.ou];rfl,k.ou⟩
abbrev AI(l:Nat):Fence:=Fence.wide.inRound l
def vp(ops:Array Oper):Bool:=ops.all fun o=>match o.op with|.defer _=>false|_=>true
section
variable {P:Program} {ops:Array Oper} {C:World→Prop} {E:List Nat} {N:Nat} {l n:Nat}
theorem xJ(h:vp ops=true)  (a:ops[i]?=some o):∀c,o.op≠.defer c:=fun c e=>by
 have:=iX.1 h o (fQ a)
 rw[e] at this
 cases this
theorem yF  (d:∀c,o.op≠.defer c)     {N:Value→World→Prop}
  (h:∀v w',N v w'→K (a.put o.dst v) w') (b:cT P o a w N):o.wpIn (AI l) n P a w K Q:=by
 refine⟨fun f _=>trivial,?_⟩
 rw[Oper.semAt_eq _ _ _ d]
 unfold cT at b
 generalize (execOp a.eval o).run P w=r at *
 unfold fe at b
 split at b
 ·exact h _ _ b
 ·exact h _ _ b
 ·refine⟨fun h=>(by cases h),?_⟩
  exact CallsIn.inRound l (callsIn_wide.2 (b.mono fun e w ⟨v,he,hn⟩=>by subst he;exact h _ _ hn))
 ·exact b.elim
theorem wH(p:vp ops=true)    {q:Act→World→Prop}(g:C w)(h:∀a w,(i≠N→C w)→K a w→q a w)(b:gP P ops C E N i K a w):wpOpIn (AI l) n P ops Q i q a w:=by
 unfold gP at b
 unfold wpOpIn
 split
 ·rename_i e;simp only[e] at b;exact h _ _ (fun _=>g) b
 ·rename_i o e
  simp only[e] at b
  unfold iB at b
  split
  ·rename_i hw
   rw[ab hw] at b
   split at b
   ·exact yF (xJ p e) (fun v w' ⟨c,k⟩=>h _ _ c k) b
   ·obtain⟨s,v,hq,k⟩:=b
    have d:=hq w g
    have t:=fun f args w'=>lY (P:=P) s (ρ:=a.eval) (w:=w) (w':=w') (f:=f) (args:=args)
    refine⟨fun f _=>trivial,?_⟩
    rw[Oper.semAt_eq _ _ _ (xJ p e)]
    unfold Oper.quietAt at d
    generalize (execOp a.eval o).run P w=r at *
    unfold Oper.quietUpon at d
    split at d
    ·obtain⟨j,m⟩:=d;subst j;subst m;exact h _ _ (fun _=>g) k
    ·obtain⟨j,m⟩:=d;subst j;subst m;exact h _ _ (fun _=>g) k
    ·exact absurd rfl (t _ _ _)
    ·exact d.elim
  ·rename_i hw
   rw[aa hw] at b
   exact⟨fun f _=>trivial,h _ _ (fun _=>g) b⟩
theorem yz{md:Region.Mode}{c:Exit→Act→World→Prop}{b:Array Bool}  (d:Region.ready md ops b=[])(e:c .normal a w):∀fuel,wpAnyIn (AI l) n P md ops c fuel b a w
 | 0=>⟨d,e⟩
 | _+1=>⟨fun _=>e,fun i hi=>by rw[d] at hi;cases hi⟩
theorem pS{md:Region.Mode}(c:vp ops=true){d:Exit→Act→World→Prop}:∀(fuel:Nat) (listed:Array Bool) (a:Act) (w:World),C w →
  kX P md ops C E N (fun a w=>d .normal a w) fuel listed a w→wpAnyIn (AI l) n P md ops d fuel listed a w
 | 0,_,_,_,_,h=>h
 | fuel+1,_,_,_,hw,h=>⟨h.1,fun i hi=>wH c hw (fun a' w' hC' k=>by
  by_cases b:i=N
  ·rw[ab b] at k
   exact yz k.1 k.2 fuel
  ·rw[aa b] at k
   exact pS c fuel _ a' w' (hC' b) k) (h.2 i hi)⟩
theorem CR {id:Nat}    {L:List Oper} (E:List Nat) (N:Nat) (C:World→Prop) (d:P.follows .mixedOrders=true)
  (b:(vp L.toArray&&(Region.lexB .any L.toArray&&qV .any L.toArray E N&&wm .any L.toArray E))=true) (c:C w.drew)
  (h:fC P L.toArray C E N (fun a' w'=>Q .normal a' w') 0 L a w.drew):(Code.region id L.toArray true).wpIn (AI l) n P Q a w:=by
 simp only[aI] at b
 obtain⟨e,⟨b,f⟩,g⟩:=b
 simp only[Region.lexB,aI] at b
 refine wpIn_region_any d (pS e (C:=C) (E:=E) (N:=N) _ _ _ _ c ?_)
 have:=rK (C:=C) (E:=E) (N:=N) (md:=.any) b.1 f g L 0 (Array.replicate L.toArray.size false) a w.drew c (by simp) (by simp) (fun j _ hj=>by simp at hj;simp[hj]) (fun j hj=>by omega) (by simpa using b.2) h
 simpa using this
end
attribute [local go_sem] Oper.semAt_some
def Qd(Bs Bn:Nat)(W W':World):Prop:=W'.cell? ⟨Bs,0,none⟩=W.cell? ⟨Bs,0,none⟩∧W'.cell? ⟨Bn,0,none⟩=W.cell? ⟨Bn,0,none⟩
theorem Qd.trans{a b:Nat}{A B C:World}(h:Qd a b A B)(k:Qd a b B C):Qd a b A C:=⟨k.1.trans h.1,k.2.trans h.2⟩
def yl(L:Nat):Nat:=(L+339)/340
abbrev Sa(bb L k:Nat):Value:=.slice (some ⟨bb,340*k,none⟩) (min 340 (L-340*k):Nat) (min 340 (L-340*k):Nat)
abbrev QJ:Nat:=207
theorem KE (n:Nat) (hn:1≤n) (l f b j L cap:Nat) (N:L≤cap) (O:cap≤maxLen) (hL:L≤1000000) (J H:List Nat→World→Prop) (z:∀pre W,J pre W→J pre W.drew)
  (P:∀pre k W1,J pre W1→pre.length<yl L→YieldAt Fence.wide (n-1) Tryz.prog l #[Sa j L k] W1 fun e W'=>(e=.returned (.bool true)∧J (pre++[k]) W'∧Qd f b W1 W')∨(e=.returned (.bool false)∧H (pre++[k]) W'))
  (W:World) (A:W.cell? ⟨f,0,none⟩=some (.slice (some ⟨j,0,none⟩) L cap)) (B:W.cell? ⟨b,0,none⟩=some (.int .i64 340)) (Q:J [] W) :
  CallsIn Fence.wide n Tryz.prog QJ #[.func (.yield l) #[] #[],.pointer (some ⟨f,0,none⟩),.pointer (some ⟨b,0,none⟩)] W fun e W'=>(∃v,e=.returned v) ∧
   ((∃xs,xs=List.range (yl L)∧J xs W')∨(∃pre,(∃k,k≤yl L∧pre=List.range k)∧H pre W')):=by
 refine callsIn_of_wp Tryz.func207 rfl trivial ?_ rfl
 simp only[Tryz.ntmps207,eE,an,bI,Nat.reduceAdd,Nat.reduceSub,fq,fx,gr,fH,cW,dV]
 gi_wp2
 gi_loopw [4] (fun i wr=>∃k:Nat,k≤yl L∧i=.int .i64 ((340*k:Nat):Int)∧J (List.range k) wr∧Qd f b W wr) (fun i _=>1000000+340-(intOf i).toNat)
 case atStart=>exact⟨0,au _,rfl,Q,rfl,rfl⟩
 case round=>
  obtain⟨k,hk,rfl,m,c⟩:=hrel
  have g:=aj m
  have o:=aj c
  have w:wr.cell? ⟨f,0,none⟩=some (.slice (some ⟨j,0,none⟩) L cap):=c.1.trans A
  have p:wr.cell? ⟨b,0,none⟩=some (.int .i64 340):=c.2.trans B
  clear m c
  obtain⟨i,x⟩:∃i,i=340*k:=⟨_,rfl⟩
  have I:=aj x
  have d:k<yl L↔340*k<L:=by unfold yl;omega
  rw[←x]
  by_cases q:k<yl L
  ·have C:i<L:=by rw[x];exact d.1 q
   have D:decide ((i:Int)<(L:Int))=true:=aM (by omega)
   have r:decide (i<L)=true:=aM C
   clear x d
   gi_wp2
   have R:∀ξ:X wr No,ξ.v.cell? ⟨f,0,none⟩=some (.slice (some ⟨j,0,none⟩) L cap):=fun ξ=>(ξ.h.cell (World.block_lt_of_cell? _ _ w) id).trans w
   have S:∀ξ:X wr No,ξ.v.cell? ⟨b,0,none⟩=some (.int .i64 340):=fun ξ=>(ξ.h.cell (World.block_lt_of_cell? _ _ p) id).trans p
   have T:min (340:Int) ((L:Int)-(i:Int))=((min 340 (L-i):Nat):Int):=by omega
   have K:i<cap:=by omega
   refine wpIn_wide.2 ?_
   (refine aV [] 100 (Cl (wr) (No)) (by kernel_rfl) (by kernel_rfl) (Cl.eU (X.here wr No)) ?_;refine bK ?_)
   all_goals (refine ar ?_)
   first|rw[show(if ((L-i:Nat):Int)<340 then ((L-i:Nat):Int) else 340)=((min 340 (L-i):Nat):Int) by split<;>omega]|rw[show min (340:Int) ((L-i:Nat):Int)=((min 340 (L-i):Nat):Int) by omega]
   obtain⟨s,a⟩:∃v,v=wr.drew:=⟨_,rfl⟩
   have U:Hd (J (List.range k) s):=by rw[Hd,a];exact z _ _ g.ou
   have V:Hd (Qd f b W s):=by rw[a];exact o.ou
   have E:s.cell? ⟨f,0,none⟩=some (.slice (some ⟨j,0,none⟩) L cap):=by rw[a];exact w
   have t:s.cell? ⟨b,0,none⟩=some (.int .i64 340):=by rw[a];exact p
   rw[←a]
   clear a R S w p g o
   obtain⟨fn,tmps,y,M,F,Y⟩:=P _ k s U.ou (by rw[fD];exact q)
   unfold Sa at F
   rw[←I.ou] at F
   obtain⟨e,G⟩:∃e,e=min 340 (L-i):=⟨_,rfl⟩
   rw[←G] at F ⊢
   have Z:e≤340:=by omega
   have ac:i+e≤L:=by omega
   have ag:1≤e:=by omega
   have HE:=aj G
   have t1:i+e-i=e:=by omega
   have ai:i+e≤cap:=by omega
   have u:List.range (k+1)=List.range k++[k]:=jT
   clear G T
   gi_wp2
   refine Y.mono ?_
   rintro e3 W3 (⟨rfl,hJ3,hk3⟩|⟨rfl,hJx3⟩)
   ·have p:W3.cell? ⟨b,0,none⟩=some (.int .i64 340):=hk3.2.trans t
    have ak:i≤1000000:=by omega
    clear E t
    gi_wp2
    go_roundw
    case rel=>exact⟨k+1,by omega,(by rw[I.ou];first|go_num|(congr 1;omega)),(by rw[u];exact hJ3),V.ou.trans hk3⟩
    case measure=>simp[intOf]<;>omega
   ·gi_wp2
    refine bodyPost_ret (results_none rfl _ _ _) rfl ?_
    exact⟨⟨_,rfl⟩,.inr ⟨_,⟨k+1,by omega,u.symm⟩,hJx3⟩⟩
  ·obtain rfl:k=yl L:=by omega
   have D:decide ((i:Int)<(L:Int))=false:=aG (by have:=d;omega)
   have r:decide (i<L)=false:=aG (by have:=d;omega)
   gi_wp2
   go_end0
   exact⟨⟨_,rfl⟩,.inl ⟨_,rfl,g.ou⟩⟩
theorem MY(n:Nat)(b L cap:Nat)(w:World) :
  CallsIn Fence.wide n Tryz.prog 165 #[.slice (some ⟨b,0,none⟩) L cap,.int .i64 340] w fun e w'=>e=.returned (.func (.func QJ) #[] #[.pointer (some ⟨w.heap.size,0,none⟩),.pointer (some ⟨w.heap.size+1,0,none⟩)])∧w'=(w.alloc (.cells #[.slice (some ⟨b,0,none⟩) L cap] 233)).alloc (.cells #[.int .i64 340] 3):=by
 refine callsIn_of_wp Tryz.func165 rfl trivial ?_ rfl
 simp only[Tryz.ntmps165,eE,an,bI,Nat.reduceAdd,Nat.reduceSub,fq,fx,gr,fH,cW,dV]
 gi_wp2
 go_ret
 exact⟨rfl,rfl⟩
theorem FE(n:Nat)(j:1≤n)(a b f L cap:Nat)(g:L≤cap)(i:cap≤maxLen)(m:L≤1000000)(w:World)(c:w.cell? ⟨a,0,none⟩=some (.slice (some ⟨f,0,none⟩) L cap))(d:w.cell? ⟨b,0,none⟩=some (.int .i64 340)) :
  SeqStopsK Fence.wide n Tryz.prog QJ #[.pointer (some ⟨a,0,none⟩),.pointer (some ⟨b,0,none⟩)] (fun k:Nat=>#[Sa f L k]) (Qd a b) (fun xs=>xs=List.range (yl L)) (fun pre=>∃k,k≤yl L∧pre=List.range k) (yl L) w:=fun l J Jx W hW hJ _ hY h0=>
 KE n j l a b f L cap g i m J Jx (fun pre W1 h=>hJ pre W1 W1.drew none h ⟨rfl,rfl,rfl,aq _,fun _ _ _=>rfl⟩ (fun r e=>by cases e)) hY W ((hW.cell (p:=⟨a,0,none⟩) (World.block_lt_of_cell? _ _ c)).trans c) ((hW.cell (p:=⟨b,0,none⟩) (World.block_lt_of_cell? _ _ d)).trans d) h0
end Go.Proofs.YtpgmcijdcnnjpaaGreatDoor
