/- Lemmas for it. -/
import Derived.Test.YtpgmcijdcnnjpaaGreatDoorPk21
set_option linter.all false
set_option maxRecDepth 100000
set_option maxHeartbeats 4000000
namespace Go.Proofs.YtpgmcijdcnnjpaaGreatDoor
open Go Go.RowKit
@[go_sem] theorem Uj (w:World):(Instr.build pn #[]).run Tryz.prog w=.ok (.agg #[.slice none 0 0,.slice none 0 0,.slice none 0 0]) w:=run_build w pn _ _ (by kernel_rfl)
@[go_sem] theorem Un (s:ByteArray) (w:World):(Instr.build VC #[(0,.string s)]).run Tryz.prog w=.ok (.agg #[.string s,.bool false]) w:=run_build w VC _ _ (by kernel_rfl)
@[go_sem] theorem Ue (s:ByteArray) (w:World):(Instr.build 54 #[(0,.string s)]).run Tryz.prog w=.ok (.agg #[.string s,.string ⟨#[]⟩]) w:=run_build w 54 _ _ (by kernel_rfl)
def wQ(s:aK):iT×aK×Bool:=
 let n1:=km (s++[32]) false 32 3
 let n2:=km n1.1 n1.2.1 32 3
 let n3:=km n2.1 n2.2.1 32 2
 let k:=kB n1.2.2.toNat n3.1 n3.2.1
 let f:=jL (n2.2.2.toNat+n3.2.2.toNat) k.1 k.2.1
 (⟨k.2.2,f.2.2.take n2.2.2.toNat,f.2.2.drop n2.2.2.toNat⟩,f.1,f.2.1)
def xL(s:aK):Bool:=!(wQ s).2.2&&((wQ s).2.1==[])&&(lQ (wQ s).1==s)
def oh(s:aK):iT×Int:=if xL s=true then ((wQ s).1,0) else (su,4)
def RcF(w w':World)(v:jy)(r:iT):Prop:=bR cI 9 w w' v.cA v.cc r.bD∧bR br 54 w w' v.nA v.nc r.aN∧bR br 54 w w' v.oA v.oc r.ou
theorem Nx{w:World}(hE:sF w)(s:aK)(hs:s.length≤5000) :
  Calls Tryz.prog 89 #[S s] w fun e w'=>∃v,e=.returned (.tuple #[vJ v (oh s).1,eT (oh s).2])∧RcF w w' v (oh s).1:=by
 obtain⟨C,cf⟩:∃g,g=w.heap.size:=⟨_,rfl⟩
 obtain⟨E,ch⟩:∃g,g=w.heap.size+1:=⟨_,rfl⟩
 obtain⟨w1,a7⟩:∃w1,w1=w.alloc (.cells #[.slice none 0 0,.slice none 0 0,.slice none 0 0] pn):=⟨_,rfl⟩
 obtain⟨w2,bn⟩:∃w2,w2=w1.alloc (.cells #[S (s++[32]),.bool false] VC):=⟨_,rfl⟩
 have x1:bf w w1:=by rw[a7];exact(al.refl No w).alloc _
 have x2:bf w1 w2:=by rw[bn];exact(al.refl No w1).alloc _
 have cx:w1.heap.size=w.heap.size+1:=by rw[a7];simp
 have cy:Cs w1 C pn #[.slice none 0 0,.slice none 0 0,.slice none 0 0]:=by rw[a7,cf];exact Cs.new _ _ _
 have cz:sx w2 E (s++[32]) false:=by rw[bn,ch,←cx];exact Cs.new _ _ _
 have c3:=aj (cy.aP x2 id)
 have c4:=aj cz
 have ci:=aj (x1.ae x2)
 have c5:w.heap.size≤C∧w.heap.size≤E∧C≠E:=by omega
 obtain⟨d2,a1,a8⟩:=c5
 have HE:=aj hE
 have HP:Hd (oh s=if xL s=true then ((wQ s).1,0) else (su,4)):=rfl
 have ai:Hd (xL s=(!(wQ s).2.2&&((wQ s).2.1==[])&&(lQ (wQ s).1==s))):=rfl
 obtain⟨N1,bo⟩:∃n,n=km (s++[32]) false 32 3:=⟨_,rfl⟩
 obtain⟨N2,bp⟩:∃n,n=km N1.1 N1.2.1 32 3:=⟨_,rfl⟩
 obtain⟨Y,bs⟩:∃n,n=km N2.1 N2.2.1 32 2:=⟨_,rfl⟩
 have a2:Hd (wQ s=(⟨(kB N1.2.2.toNat Y.1 Y.2.1).2.2,(jL (N2.2.2.toNat+Y.2.2.toNat) (kB N1.2.2.toNat Y.1 Y.2.1).1 (kB N1.2.2.toNat Y.1 Y.2.1).2.1).2.2.take N2.2.2.toNat,(jL (N2.2.2.toNat+Y.2.2.toNat) (kB N1.2.2.toNat Y.1 Y.2.1).1 (kB N1.2.2.toNat Y.1 Y.2.1).2.1).2.2.drop N2.2.2.toNat⟩,
   (jL (N2.2.2.toNat+Y.2.2.toNat) (kB N1.2.2.toNat Y.1 Y.2.1).1 (kB N1.2.2.toNat Y.1 Y.2.1).2.1).1,(jL (N2.2.2.toNat+Y.2.2.toNat) (kB N1.2.2.toNat Y.1 Y.2.1).1 (kB N1.2.2.toNat Y.1 Y.2.1).2.1).2.1)):=by
  subst bs;subst bp;subst bo;rfl
 have f1:=lC (s++[32]) false 32 3 (by omega)
 have f2:=lC N1.1 N1.2.1 32 3 (by omega)
 have f3:=lC N2.1 N2.2.1 32 2 (by omega)
 rw[←bo] at f1
 rw[←bp] at f2
 rw[←bs] at f3
 have d3:(s++[32]).length≤5001:=by simp;omega
 have cm:Hd (∀v,bf w v→sx v E (s++[32]) false→Calls Tryz.prog 142 #[Br E,S [32],.int .i64 3] v (CP v E N1.1 N1.2.1 (.int .i64 N1.2.2))):=fun v hv h=>by rw[bo];exact vu hE hv a1 h (by omega) 32 3 (by omega)
 have cn:Hd (∀v,bf w v→sx v E N1.1 N1.2.1→Calls Tryz.prog 142 #[Br E,S [32],.int .i64 3] v (CP v E N2.1 N2.2.1 (.int .i64 N2.2.2))):=fun v hv h=>by rw[bp];exact vu hE hv a1 h (by omega) 32 3 (by omega)
 have co:Hd (∀v,bf w v→sx v E N2.1 N2.2.1→Calls Tryz.prog 142 #[Br E,S [32],.int .i64 2] v (CP v E Y.1 Y.2.1 (.int .i64 Y.2.2))):=fun v hv h=>by rw[bs];exact vu hE hv a1 h (by omega) 32 2 (by omega)
 clear bo bp bs
 obtain⟨s1,b1,na⟩:=N1
 obtain⟨s2,b2,nb⟩:=N2
 obtain⟨s3,b3,nc⟩:=Y
 dsimp only at f1 f2 f3 a2 cm cn co
 obtain⟨d4,d5,d6⟩:=f1
 obtain⟨d7,d8,d9⟩:=f2
 obtain⟨eb,eg,ei⟩:=f3
 obtain⟨a,rfl⟩:∃a:Nat,na=a:=⟨na.toNat,by omega⟩
 obtain⟨b,rfl⟩:∃a:Nat,nb=a:=⟨nb.toNat,by omega⟩
 obtain⟨c,rfl⟩:∃a:Nat,nc=a:=⟨nc.toNat,by omega⟩
 rw[dh,dh,dh] at a2
 have ej:s3.length≤5001:=by omega
 have e8:a≤3:=by omega
 have e9:b≤3:=by omega
 have fb:c≤2:=by omega
 clear d4 d5 d6 d7 d8 d9 eb eg ei d3 x1 x2 cx cy cz hE
 go_enter Tryz.func89,Tryz.ntmps89
 go_upto_region 2 with fail
 rw[←a7,←bn,←ch,←cf]
 clear a7 bn ch cf
 go_wp2_with (refine dN ?_)
 refine(cm.ou _ ci.ou c4.ou).mono ?_
 rintro e u1 ⟨rfl,q1,q2⟩
 have R1:=aj q1
 have X1:Hd (bf w u1):=ci.ou.trans q2 fun b hb e=>by have e:b=E:=e;omega
 have C1:=aj (c3.ou.aP q2 a8)
 clear q1 q2 cm c3 c4 ci
 go_wp2_with (refine dN ?_)
 refine(cn.ou _ X1.ou R1.ou).mono ?_
 rintro e u2 ⟨rfl,q1,q2⟩
 have R2:=aj q1
 have X2:Hd (bf w u2):=X1.ou.trans q2 fun b hb e=>by have e:b=E:=e;omega
 have C2:=aj (C1.ou.aP q2 a8)
 clear q1 q2 cn C1 R1 X1
 go_wp2_with (refine dN ?_)
 refine(co.ou _ X2.ou R2.ou).mono ?_
 rintro e u3 ⟨rfl,q1,q2⟩
 have R3:=aj q1
 have X3:Hd (bf w u3):=X2.ou.trans q2 fun b hb e=>by have e:b=E:=e;omega
 have C3:=aj (C2.ou.aP q2 a8)
 clear q1 q2 co C2 R2 X2
 obtain⟨I,bu⟩:∃g,g=u3.heap.size:=⟨_,rfl⟩
 obtain⟨u4,bv⟩:∃u,u=u3.alloc (.cells #[.slice none 0 0,.slice none 0 0,.slice none 0 0] pn):=⟨_,rfl⟩
 have P4:Hd (uP w u4 C E I s3 b3 ⟨none,0,none,0,none,0⟩ [] [] []):=by
  have x:bf u3 u4:=by rw[bv];exact(al.refl No u3).alloc _
  have e1:=X3.ou.ae x
  refine⟨R3.ou.ext x,?_,C3.ou.aP x id,bR.nil _ _ _ _ e1,bR.nil _ _ _ _ e1,bR.nil _ _ _ _ e1,fun g h=>by simp[Value.ownBlock] at h,d2,a1,?_,?_⟩
  ·rw[bv,bu];exact Cs.new _ _ _
  ·rw[bu];exact X3.ou.size
  ·have:=C3.ou.lt;omega
 go_upto_region 4 with fail
 rw[←bv,←bu]
 clear bv bu R3 X3 C3
 refine cS ?_
 go_loopw [22] (fun i wr=>∃j:Nat,j≤a∧i=.int .i64 j∧∃(t:aK) (Z:Bool) (cA:Option Addr) (cc:Nat) (cs:List aK),uP w wr C E I t Z ⟨cA,cc,none,0,none,0⟩ cs [] []∧cs.length=j∧t.length≤5001∧(∀x∈cs,x.length≤300) ∧
  kB a s3 b3=((kB (a-j) t Z).1,(kB (a-j) t Z).2.1,cs++(kB (a-j) t Z).2.2)) (fun i _=>a-(intOf i).toNat)
 case atStart=>exact⟨0,au _,rfl,s3,b3,none,0,[],P4.ou,rfl,ej,(fun x f=>by cases f),rfl⟩
 case round=>
  clear P4
  obtain⟨j,hj,rfl,t,Z,cA,cc,cs,hP,c6,ek,c7,hF⟩:=hrel
  have P:=aj hP
  have HF:=aj hF
  have c8:=aj c7
  clear hP hF c7
  by_cases c9:j<a
  ·obtain⟨m,hm⟩:∃m,a-j=m+1:=⟨a-j-1,by omega⟩
   have a3:Hd (kB a s3 b3=((kB m (lG t Z 300).1 (lG t Z 300).2.1).1,(kB m (lG t Z 300).1 (lG t Z 300).2.1).2.1,cs++(lG t Z 300).2.2::(kB m (lG t Z 300).1 (lG t Z 300).2.1).2.2)):=by rw[Hd,HF.ou,hm];rfl
   have am:a-(j+1)=m:=by omega
   have bw:=aj (fun v (hv:bf w v) (h:sx v E t Z)=>Pd HE.ou hv a1 h (by omega) 300 (by omega) (by omega))
   have f:=zX t Z 300 (by omega)
   generalize lG t Z 300=q at a3 bw f
   obtain⟨t',em,x⟩:=q
   dsimp only at a3 bw f
   obtain⟨fd,ff,fg⟩:=f
   subst c6
   have en:=P.ou.rc
   obtain⟨F,hF⟩:∃F:Nat→Prop,F=fun b=>b=E∨(Value.slice cA cs.length cc).ownBlock=some b:=⟨_,rfl⟩
   have db:¬F I:=by
    rw[hF]
    rintro(e|e)
    ·exact Cs.oC P.ou.rc P.ou.rd (by decide) e
    ·exact aO P.ou.fc.own P.ou.rc (by decide) _ e rfl
   obtain⟨wd,bx⟩:∃v,v=wr.drew:=⟨_,rfl⟩
   have PD:Hd (uP w wd C E I t Z ⟨cA,cc,none,0,none,0⟩ cs [] []):=by rw[bx];exact P.ou.ext (al.refl No _).drew
   have c0:∀ξ:X wd F,ξ.v.cell? ⟨I,0,none⟩=some (.slice cA cs.length cc):=PD.ou.rc.x db 0
   have dc:=aj hF
   clear en hF db HF
   go_upto_region 6 with fail
   refine aV [3,4,5,7] 7 (Cl wd F) (by kernel_rfl) (by kernel_rfl) (by rw[bx];exact Cl.of (al.refl _ _)) ?_
   rw[←bx]
   clear bx P
   refine bK ?_
   (refine bQ ?_;intro K hK)
   refine(bw.ou _ PD.ou.x PD.ou.rd).mono ?_
   rintro e u5 ⟨rfl,q1,q2⟩
   have P5:=aj (PD.ou.read q1 q2)
   have O5:Hd (al F wd u5):=q2.gU fun b _ e=>by rw[dc.ou];exact .inl e
   refine⟨_,rfl,hK _ _ (fun _=>Cl.of O5.ou) ?_⟩
   clear hK K q1 q2 PD bw
   refine bj ?_
   (refine bQ ?_;intro K hK)
   have P6:=aj (P5.ou.ext ((al.refl No u5).alloc (.cells #[S x] 9)))
   refine hK _ _ (fun _=>Cl.of (O5.ou.alloc _)) ?_
   clear hK K
   refine bj ?_
   refine cH rfl rfl ?_
   intro K hK
   refine eO (v:=.slice cA cs.length cc) (n:=cs.length) (xs:=cs.flatMap cI.enc) p8 rfl rfl rfl P6.ou.fc.own (iQ u5 _ [S x]) (by simp[Value.oneCell']) (by omega) ?_
   intro A' c' w5 d o H
   have P7:=aj (P6.ou.NH (t:=x) d o H)
   have O7:Hd (al F wd w5):=(O5.ou.alloc (.cells #[S x] 9)).grown o fun g hg=>.inr (by rw[dc.ou];exact .inr hg)
   refine hK _ _ (fun _=>Cl.of O7.ou) ?_
   clear hK K
   refine bj ?_
   have C7:Cs w5 I pn #[.slice cA cs.length cc,.slice none 0 0,.slice none 0 0]:=P6.ou.rc.aP ((al.refl (fun b=>(Value.slice cA cs.length cc).ownBlock=some b) _).grown o fun g hg=>.inr hg) (fun e=>aO P6.ou.fc.own P6.ou.rc (by decide) _ e rfl)
   have y0:w5.cell? ⟨I,0,none⟩=some (.slice cA cs.length cc):=C7.cell 0
   have z0:=C7.frozen 0
   clear C7 d o H P6 P5
   refine bK ?_
   (refine bQ ?_;intro K hK)
   refine hK _ _ (fun hne=>absurd rfl hne) ?_
   clear hK K y0 z0
   refine bj ?_
   refine ar ?_
   refine cS ?_
   go_roundw
   case rel=>exact⟨cs.length+1,by omega,by go_num,t',em,A',c',cs++[x],P7.ou,by simp,by omega,fun y hy=>(az.1 hy).elim (c8.ou y) (fun e=>by simp at e;rw[e];omega),by rw[am,a3.ou];simp⟩
   case measure=>simp[intOf];omega
  ·obtain rfl:j=a:=by omega
   have HK:Hd (kB j s3 b3=(t,Z,cs)):=by
    rw[Hd,HF.ou,gI]
    simp[kB]
   rw[HK.ou] at a2
   dsimp only at a2
   have dd:cs.length≤100:=by omega
   clear HF HK c9 c6
   have a0:Hd (jL (b+c) t Z=((jL (b+c-0) t Z).1,(jL (b+c-0) t Z).2.1,[]++(jL (b+c-0) t Z).2.2)):=rfl
   go_wp2_with (refine lM ?_ ?_<;>intro hq)
   go_loopw [35] (fun i wr=>∃k:Nat,k≤b+c∧i=.int .i64 k∧∃(y:aK) (W:Bool) (M O:Option Addr) (nc Q:Nat) (z B:List bm),uP w wr C E I y W ⟨cA,cc,M,nc,O,Q⟩ cs z B∧z.length+B.length=k∧(k≤b→B=[]∧O=none∧Q=0)∧(b≤k→z.length=b)∧y.length≤5001∧(∀x∈z++B,x.1.length≤5001∧x.2.length≤20) ∧
    jL (b+c) t Z=((jL (b+c-k) y W).1,(jL (b+c-k) y W).2.1,(z++B)++(jL (b+c-k) y W).2.2)) (fun i _=>b+c-(intOf i).toNat)
   case atStart=>exact⟨0,au _,rfl,t,Z,none,none,0,0,[],[],P.ou,rfl,fun _=>⟨rfl,rfl,rfl⟩,fun h=>by simp;omega,ek,(fun x f=>by cases f),a0.ou⟩
   case round=>
    clear a0 P
    obtain⟨k,hk,rfl,y,W,M,O,nc,Q,z,B,hP,ag,de,a9,fl,dj,dk⟩:=hrel
    have P0:=aj hP
    have a0:=aj dk
    have ao:=aj dj
    have bz:=aj de
    have ap:=aj a9
    clear hP dk dj de a9
    by_cases c9:k<b+c
    ·obtain⟨m,hm⟩:∃m,b+c-k=m+1:=⟨b+c-k-1,by omega⟩
     have am:b+c-(k+1)=m:=by omega
     have a3:Hd (jL (b+c) t Z=((jL m (qZ y W).1 (qZ y W).2.1).1,(jL m (qZ y W).1 (qZ y W).2.1).2.1,(z++B)++(qZ y W).2.2::(jL m (qZ y W).1 (qZ y W).2.1).2.2)):=by rw[Hd,a0.ou,hm];rfl
     have dl:=N7 y W
     have av:Hd (qZ y W=((lG (ik y W 32).1 (ik y W 32).2.1 20).1,(lG (ik y W 32).1 (ik y W 32).2.1 20).2.1||!i7 (ik y W 32).2.2,((ik y W 32).2.2,(lG (ik y W 32).1 (ik y W 32).2.1 20).2.2))):=rfl
     have HU:=aj (OD (HE.ou.ext P0.ou.x).ml P0.ou.rd (by omega) 32)
     have cq:=tq y W 32
     generalize ik y W 32=q at av HU cq
     obtain⟨y1,bA,l⟩:=q
     dsimp only at av HU cq
     have b4:=aj (fun v (hv:bf w v) (h:sx v E y1 bA)=>Pd HE.ou hv a1 h (by omega) 20 (by omega) (by omega))
     have bb:=zX y1 bA 20 (by omega)
     generalize lG y1 bA 20=q at av b4 bb
     obtain⟨y2,b5,A⟩:=q
     dsimp only at av b4 bb
     obtain⟨nb,a4⟩:∃b,b=i7 l:=⟨_,rfl⟩
     rw[←a4] at av
     have bc:Hd (∀v,Calls Tryz.prog 69 #[S l] v fun e w'=>e=.returned (.bool nb)∧bf v w'):=fun v=>by rw[a4];exact wS l v (by omega)
     obtain⟨N,R⟩:∃x,x=(b5||!nb):=⟨_,rfl⟩
     have a5:=aj R
     rw[←R] at av
     have a6:Hd (jL (b+c) t Z=((jL m y2 N).1,(jL m y2 N).2.1,(z++B)++(l,A)::(jL m y2 N).2.2)):=by rw[Hd,a3.ou,av.ou]
     clear a4 R a3 av dl a0
     obtain⟨e4,e5⟩:=cq
     obtain⟨ep,er,es⟩:=bb
     go_upto_region 11 with fail
     go_wp2_with fail
     refine HU.ou.mono ?_
     rintro e v1 ⟨rfl,q1,q2⟩
     have P1:=aj (P0.ou.read q1 q2)
     clear q1 q2 HU P0
     obtain⟨U,b6⟩:∃g,g=v1.heap.size:=⟨_,rfl⟩
     obtain⟨v2,b7⟩:∃u,u=v1.alloc (.cells #[S l,S []] 54):=⟨_,rfl⟩
     have dn:Hd (Cs v2 U 54 #[S l,S []]):=by rw[b7,b6];exact Cs.new _ _ _
     have ds:w.heap.size≤U:=by rw[b6];exact P1.ou.x.size
     have dt:C≠U:=by have:=P1.ou.rs.lt;omega
     have ac:E≠U:=by have:=Cs.lt P1.ou.rd;omega
     have dA:I≠U:=by have:=P1.ou.rc.lt;omega
     have et:=P1.ou.zC
     have P2:Hd (uP w v2 C E I y1 bA ⟨cA,cc,M,nc,O,Q⟩ cs z B):=by rw[b7];exact P1.ou.ext ((al.refl No v1).alloc _)
     obtain⟨dT,d0,d1⟩:=et
     have ev:Hd (∀b,(Value.slice cA cs.length cc).ownBlock=some b→¬b=U):=fun b hb e=>by have:=dT b hb;omega
     have ex:Hd (∀b,(Value.slice M z.length nc).ownBlock=some b→¬b=U):=fun b hb e=>by have:=d0 b hb;omega
     have eL:Hd (∀b,(Value.slice O B.length Q).ownBlock=some b→¬b=U):=fun b hb e=>by have:=d1 b hb;omega
     clear dT d0 d1 P1
     go_upto_region 12 with fail
     rw[←b7,←b6]
     clear b7 b6
     go_wp2_with fail
     refine(b4.ou _ P2.ou.x P2.ou.rd).mono ?_
     rintro e v3 ⟨rfl,q1,q2⟩
     have P3:=aj (P2.ou.read q1 q2)
     have b8:=aj (dn.ou.aP q2 (fun e=>ac e.symm))
     clear q1 q2 b4 P2 dn
     have k0:v3.cell? ⟨U,1,none⟩=some (S []):=b8.ou.cell 1
     have k1:=b8.ou.frozen 1
     obtain⟨v4,b9⟩:∃u,u=v3.setCell ⟨U,1,none⟩ (S A):=⟨_,rfl⟩
     have ak:Hd (Cs v4 U 54 #[S l,S A]):=by rw[b9];exact b8.ou.cM 1 (S A)
     have P4:Hd (uP w v4 C E I y2 b5 ⟨cA,cc,M,nc,O,Q⟩ cs z B):=by rw[b9];exact P3.ou.VL ((al.refl _ _).at_ 1 _) ds dt ac dA ev.ou ex.ou eL.ou
     clear b8 P3
     go_upto_region 13 with fail
     rw[←b9]
     clear b9 k0 k1
     have r1:v4.cell? ⟨E,1,none⟩=some (.bool b5):=Cs.cell P4.ou.rd 1
     have n1:v4.cell? ⟨U,0,none⟩=some (S l):=ak.ou.cell 0
     cases b5 with
     | true=>
      have R:N=true:=by rw[a5.ou];rfl
      have z4:=Cs.frozen P4.ou.rd 1
      obtain⟨G,L⟩:∃u,u=v4.setCell ⟨E,1,none⟩ (.bool true):=⟨_,rfl⟩
      have P6:Hd (uP w G C E I y2 N ⟨cA,cc,M,nc,O,Q⟩ cs z B):=by rw[L,R];exact P4.ou.read (Cs.cM P4.ou.rd 1 (.bool true)) ((al.refl _ _).at_ 1 _)
      have V:Hd (Cs G U 54 #[S l,S A]):=by rw[L];exact ak.ou.far (fun e=>ac e.symm) _
      clear bc a5
      go_upto_region 14 with fail
      rw[←L]
      clear L r1 n1 z4 P4 ak
      by_cases a9:k<b
      ·obtain⟨e1,e2,e3⟩:=bz.ou (by omega)
       subst e1;subst e2;subst e3
       have bg:decide ((k:Int)<(b:Int))=true:=by rw[aW];omega
       have y0:G.cell? ⟨I,1,none⟩=some (.slice M z.length nc):=P6.ou.rc.cell 1
       have m0:G.cell? ⟨U,0,none⟩=some (S l):=V.ou.cell 0
       have m1:G.cell? ⟨U,1,none⟩=some (S A):=V.ou.cell 1
       have J:=aj (P6.ou.ext ((al.refl No G).alloc (.cells #[S l,S A] 54)))
       have bi:z.length≤10:=by omega
       go_wp2_with (first|(at_builtin;go_must (refine dy (v:=.slice M z.length nc) (n:=z.length) (xs:=z.flatMap br.enc) rfl sf rfl rfl rfl J.ou.fn.own (iQ G _ [S l,S A]) (mE [(l,A)]) (by omega) ?_);intro A2 c2 w5 d o H;have P9:=aj (J.ou.GA (t:=(l,A)) rfl d o H);have O9:al (fun b=>(Value.slice M z.length nc).ownBlock=some b) (G.alloc (.cells #[S l,S A] 54)) w5:=(al.refl _ _).grown o fun g hg=>.inr hg;have C9:=J.ou.rc.aP O9 (fun e=>aO J.ou.fn.own J.ou.rc (by decide) _ e rfl);have z1:=C9.frozen 1;have y1:w5.cell? ⟨I,1,none⟩=some (.slice M z.length nc):=C9.cell 1;clear d o H O9 C9)|refine dN ?_)
       go_roundw
       case rel=>
        refine⟨k+1,by omega,by go_num,y2,N,A2,none,c2,0,z++[(l,A)],[],P9.ou,?_,fun _=>⟨rfl,rfl,rfl⟩,fun h=>?_,by omega,fun x f=>?_,?_⟩
        ·simp only[af,an,bI] at ag ⊢;omega
        ·simp only[af,an,bI] at ag ⊢;omega
        ·rw[cv] at f
         rcases az.1 f with f|f
         ·exact ao.ou x (by rw[cv];exact f)
         ·simp at f;rw[f];exact⟨by show l.length≤5001;omega,by show A.length≤20;omega⟩
        ·rw[am,a6.ou];simp
       case measure=>simp[intOf];omega
      ·have bg:decide ((k:Int)<(b:Int))=false:=by rw[aA];omega
       have ca:=ap.ou (by omega)
       have y0:G.cell? ⟨I,2,none⟩=some (.slice O B.length Q):=P6.ou.rc.cell 2
       have m0:G.cell? ⟨U,0,none⟩=some (S l):=V.ou.cell 0
       have m1:G.cell? ⟨U,1,none⟩=some (S A):=V.ou.cell 1
       have J:=aj (P6.ou.ext ((al.refl No G).alloc (.cells #[S l,S A] 54)))
       have bi:B.length≤10:=by omega
       go_wp2_with (first|(at_builtin;go_must (refine dy (v:=.slice O B.length Q) (n:=B.length) (xs:=B.flatMap br.enc) rfl sf rfl rfl rfl J.ou.fo.own (iQ G _ [S l,S A]) (mE [(l,A)]) (by omega) ?_);intro A2 c2 w5 d o H;have P9:=aj (J.ou.EA (t:=(l,A)) d o H);have O9:al (fun b=>(Value.slice O B.length Q).ownBlock=some b) (G.alloc (.cells #[S l,S A] 54)) w5:=(al.refl _ _).grown o fun g hg=>.inr hg;have C9:=J.ou.rc.aP O9 (fun e=>aO J.ou.fo.own J.ou.rc (by decide) _ e rfl);have z1:=C9.frozen 2;have y1:w5.cell? ⟨I,2,none⟩=some (.slice O B.length Q):=C9.cell 2;clear d o H O9 C9)|refine dN ?_)
       go_roundw
       case rel=>
        refine⟨k+1,by omega,by go_num,y2,N,M,A2,nc,c2,z,B++[(l,A)],P9.ou,?_,fun h=>absurd h (by omega),fun _=>ap.ou (by omega),by omega,fun x f=>?_,?_⟩
        ·simp only[af,an,bI] at ag ⊢;omega
        ·rw[←aT] at f
         rcases az.1 f with f|f
         ·exact ao.ou x f
         ·simp at f;rw[f];exact⟨by show l.length≤5001;omega,by show A.length≤20;omega⟩
        ·rw[am,a6.ou];simp
       case measure=>simp[intOf];omega
     | false=>
      cases nb with
      | true=>
       have R:N=false:=by rw[a5.ou];rfl
       have ct:∀ξ:X v4 (fun b=>b=E),ξ.v.cell? ⟨U,0,none⟩=some (S l):=ak.ou.x (fun e=>ac e.symm) 0
       refine cj [4,8,13] (Cl v4 (fun b=>b=E)) (Cl.of (al.refl _ _)) ?_
       refine bK ?_
       (refine bQ ?_;intro K hK)
       refine hK _ _ (fun _=>Cl.of (al.refl _ _)) ?_
       clear hK K
       refine bj ?_
       refine bK ?_
       (refine bQ ?_;intro K hK)
       refine(bc.ou _).mono ?_
       rintro e v5 ⟨rfl,hu⟩
       have P5:=aj (P4.ou.ext hu)
       have bk:=aj (ak.ou.aP hu id)
       have O5:Hd (bf v4 v5):=hu
       refine⟨_,rfl,hK _ _ (fun _=>Cl.of hu.any) ?_⟩
       clear hK K hu r1 n1 ct bc
       refine bj ?_
       refine bK ?_
       have z5:=Cs.frozen P5.ou.rd 1
       have r5:v5.cell? ⟨E,1,none⟩=some (.bool false):=Cs.cell P5.ou.rd 1
       obtain⟨G,L⟩:∃u,u=v5.setCell ⟨E,1,none⟩ (.bool false):=⟨_,rfl⟩
       have P6:Hd (uP w G C E I y2 N ⟨cA,cc,M,nc,O,Q⟩ cs z B):=by rw[L,R];exact P5.ou.read (Cs.cM P5.ou.rd 1 (.bool false)) ((al.refl _ _).at_ 1 _)
       have V:Hd (Cs G U 54 #[S l,S A]):=by rw[L];exact bk.ou.far (fun e=>ac e.symm) _
       have O6:Hd (al (fun b=>b=E) v4 G):=by rw[L];exact O5.ou.any.trans ((al.refl _ _).at_ 1 _) fun _ _ h=>h
       (refine bQ ?_;intro K hK)
       rw[←L]
       refine hK _ _ (fun _=>Cl.of O6.ou) ?_
       clear hK K z5 r5 L P5 bk P4 ak a5 O5 O6
       refine bj ?_
       refine ar ?_
       by_cases a9:k<b
       ·obtain⟨e1,e2,e3⟩:=bz.ou (by omega)
        subst e1;subst e2;subst e3
        have bg:decide ((k:Int)<(b:Int))=true:=by rw[aW];omega
        have y0:G.cell? ⟨I,1,none⟩=some (.slice M z.length nc):=P6.ou.rc.cell 1
        have m0:G.cell? ⟨U,0,none⟩=some (S l):=V.ou.cell 0
        have m1:G.cell? ⟨U,1,none⟩=some (S A):=V.ou.cell 1
        have J:=aj (P6.ou.ext ((al.refl No G).alloc (.cells #[S l,S A] 54)))
        have bi:z.length≤10:=by omega
        go_wp2_with (first|(at_builtin;go_must (refine dy (v:=.slice M z.length nc) (n:=z.length) (xs:=z.flatMap br.enc) rfl sf rfl rfl rfl J.ou.fn.own (iQ G _ [S l,S A]) (mE [(l,A)]) (by omega) ?_);intro A2 c2 w5 d o H;have P9:=aj (J.ou.GA (t:=(l,A)) rfl d o H);have O9:al (fun b=>(Value.slice M z.length nc).ownBlock=some b) (G.alloc (.cells #[S l,S A] 54)) w5:=(al.refl _ _).grown o fun g hg=>.inr hg;have C9:=J.ou.rc.aP O9 (fun e=>aO J.ou.fn.own J.ou.rc (by decide) _ e rfl);have z1:=C9.frozen 1;have y1:w5.cell? ⟨I,1,none⟩=some (.slice M z.length nc):=C9.cell 1;clear d o H O9 C9)|refine dN ?_)
        go_roundw
        case rel=>
         refine⟨k+1,by omega,by go_num,y2,N,A2,none,c2,0,z++[(l,A)],[],P9.ou,?_,fun _=>⟨rfl,rfl,rfl⟩,fun h=>?_,by omega,fun x f=>?_,?_⟩
         ·simp only[af,an,bI] at ag ⊢;omega
         ·simp only[af,an,bI] at ag ⊢;omega
         ·rw[cv] at f
          rcases az.1 f with f|f
          ·exact ao.ou x (by rw[cv];exact f)
          ·simp at f;rw[f];exact⟨by show l.length≤5001;omega,by show A.length≤20;omega⟩
         ·rw[am,a6.ou];simp
        case measure=>simp[intOf];omega
       ·have bg:decide ((k:Int)<(b:Int))=false:=by rw[aA];omega
        have ca:=ap.ou (by omega)
        have y0:G.cell? ⟨I,2,none⟩=some (.slice O B.length Q):=P6.ou.rc.cell 2
        have m0:G.cell? ⟨U,0,none⟩=some (S l):=V.ou.cell 0
        have m1:G.cell? ⟨U,1,none⟩=some (S A):=V.ou.cell 1
        have J:=aj (P6.ou.ext ((al.refl No G).alloc (.cells #[S l,S A] 54)))
        have bi:B.length≤10:=by omega
        go_wp2_with (first|(at_builtin;go_must (refine dy (v:=.slice O B.length Q) (n:=B.length) (xs:=B.flatMap br.enc) rfl sf rfl rfl rfl J.ou.fo.own (iQ G _ [S l,S A]) (mE [(l,A)]) (by omega) ?_);intro A2 c2 w5 d o H;have P9:=aj (J.ou.EA (t:=(l,A)) d o H);have O9:al (fun b=>(Value.slice O B.length Q).ownBlock=some b) (G.alloc (.cells #[S l,S A] 54)) w5:=(al.refl _ _).grown o fun g hg=>.inr hg;have C9:=J.ou.rc.aP O9 (fun e=>aO J.ou.fo.own J.ou.rc (by decide) _ e rfl);have z1:=C9.frozen 2;have y1:w5.cell? ⟨I,2,none⟩=some (.slice O B.length Q):=C9.cell 2;clear d o H O9 C9)|refine dN ?_)
        go_roundw
        case rel=>
         refine⟨k+1,by omega,by go_num,y2,N,M,A2,nc,c2,z,B++[(l,A)],P9.ou,?_,fun h=>absurd h (by omega),fun _=>ap.ou (by omega),by omega,fun x f=>?_,?_⟩
         ·simp only[af,an,bI] at ag ⊢;omega
         ·rw[←aT] at f
          rcases az.1 f with f|f
          ·exact ao.ou x f
          ·simp at f;rw[f];exact⟨by show l.length≤5001;omega,by show A.length≤20;omega⟩
         ·rw[am,a6.ou];simp
        case measure=>simp[intOf];omega
      | false=>
       have R:N=true:=by rw[a5.ou];rfl
       have ct:∀ξ:X v4 (fun b=>b=E),ξ.v.cell? ⟨U,0,none⟩=some (S l):=ak.ou.x (fun e=>ac e.symm) 0
       refine cj [4,8,13] (Cl v4 (fun b=>b=E)) (Cl.of (al.refl _ _)) ?_
       refine bK ?_
       (refine bQ ?_;intro K hK)
       refine hK _ _ (fun _=>Cl.of (al.refl _ _)) ?_
       clear hK K
       refine bj ?_
       refine bK ?_
       (refine bQ ?_;intro K hK)
       refine(bc.ou _).mono ?_
       rintro e v5 ⟨rfl,hu⟩
       have P5:=aj (P4.ou.ext hu)
       have bk:=aj (ak.ou.aP hu id)
       have O5:Hd (bf v4 v5):=hu
       refine⟨_,rfl,hK _ _ (fun _=>Cl.of hu.any) ?_⟩
       clear hK K hu r1 n1 ct bc
       refine bj ?_
       refine bK ?_
       have z5:=Cs.frozen P5.ou.rd 1
       have r5:v5.cell? ⟨E,1,none⟩=some (.bool false):=Cs.cell P5.ou.rd 1
       obtain⟨G,L⟩:∃u,u=v5.setCell ⟨E,1,none⟩ (.bool true):=⟨_,rfl⟩
       have P6:Hd (uP w G C E I y2 N ⟨cA,cc,M,nc,O,Q⟩ cs z B):=by rw[L,R];exact P5.ou.read (Cs.cM P5.ou.rd 1 (.bool true)) ((al.refl _ _).at_ 1 _)
       have V:Hd (Cs G U 54 #[S l,S A]):=by rw[L];exact bk.ou.far (fun e=>ac e.symm) _
       have O6:Hd (al (fun b=>b=E) v4 G):=by rw[L];exact O5.ou.any.trans ((al.refl _ _).at_ 1 _) fun _ _ h=>h
       (refine bQ ?_;intro K hK)
       rw[←L]
       refine hK _ _ (fun _=>Cl.of O6.ou) ?_
       clear hK K z5 r5 L P5 bk P4 ak a5 O5 O6
       refine bj ?_
       refine ar ?_
       by_cases a9:k<b
       ·obtain⟨e1,e2,e3⟩:=bz.ou (by omega)
        subst e1;subst e2;subst e3
        have bg:decide ((k:Int)<(b:Int))=true:=by rw[aW];omega
        have y0:G.cell? ⟨I,1,none⟩=some (.slice M z.length nc):=P6.ou.rc.cell 1
        have m0:G.cell? ⟨U,0,none⟩=some (S l):=V.ou.cell 0
        have m1:G.cell? ⟨U,1,none⟩=some (S A):=V.ou.cell 1
        have J:=aj (P6.ou.ext ((al.refl No G).alloc (.cells #[S l,S A] 54)))
        have bi:z.length≤10:=by omega
        go_wp2_with (first|(at_builtin;go_must (refine dy (v:=.slice M z.length nc) (n:=z.length) (xs:=z.flatMap br.enc) rfl sf rfl rfl rfl J.ou.fn.own (iQ G _ [S l,S A]) (mE [(l,A)]) (by omega) ?_);intro A2 c2 w5 d o H;have P9:=aj (J.ou.GA (t:=(l,A)) rfl d o H);have O9:al (fun b=>(Value.slice M z.length nc).ownBlock=some b) (G.alloc (.cells #[S l,S A] 54)) w5:=(al.refl _ _).grown o fun g hg=>.inr hg;have C9:=J.ou.rc.aP O9 (fun e=>aO J.ou.fn.own J.ou.rc (by decide) _ e rfl);have z1:=C9.frozen 1;have y1:w5.cell? ⟨I,1,none⟩=some (.slice M z.length nc):=C9.cell 1;clear d o H O9 C9)|refine dN ?_)
        go_roundw
        case rel=>
         refine⟨k+1,by omega,by go_num,y2,N,A2,none,c2,0,z++[(l,A)],[],P9.ou,?_,fun _=>⟨rfl,rfl,rfl⟩,fun h=>?_,by omega,fun x f=>?_,?_⟩
         ·simp only[af,an,bI] at ag ⊢;omega
         ·simp only[af,an,bI] at ag ⊢;omega
         ·rw[cv] at f
          rcases az.1 f with f|f
          ·exact ao.ou x (by rw[cv];exact f)
          ·simp at f;rw[f];exact⟨by show l.length≤5001;omega,by show A.length≤20;omega⟩
         ·rw[am,a6.ou];simp
        case measure=>simp[intOf];omega
       ·have bg:decide ((k:Int)<(b:Int))=false:=by rw[aA];omega
        have ca:=ap.ou (by omega)
        have y0:G.cell? ⟨I,2,none⟩=some (.slice O B.length Q):=P6.ou.rc.cell 2
        have m0:G.cell? ⟨U,0,none⟩=some (S l):=V.ou.cell 0
        have m1:G.cell? ⟨U,1,none⟩=some (S A):=V.ou.cell 1
        have J:=aj (P6.ou.ext ((al.refl No G).alloc (.cells #[S l,S A] 54)))
        have bi:B.length≤10:=by omega
        go_wp2_with (first|(at_builtin;go_must (refine dy (v:=.slice O B.length Q) (n:=B.length) (xs:=B.flatMap br.enc) rfl sf rfl rfl rfl J.ou.fo.own (iQ G _ [S l,S A]) (mE [(l,A)]) (by omega) ?_);intro A2 c2 w5 d o H;have P9:=aj (J.ou.EA (t:=(l,A)) d o H);have O9:al (fun b=>(Value.slice O B.length Q).ownBlock=some b) (G.alloc (.cells #[S l,S A] 54)) w5:=(al.refl _ _).grown o fun g hg=>.inr hg;have C9:=J.ou.rc.aP O9 (fun e=>aO J.ou.fo.own J.ou.rc (by decide) _ e rfl);have z1:=C9.frozen 2;have y1:w5.cell? ⟨I,2,none⟩=some (.slice O B.length Q):=C9.cell 2;clear d o H O9 C9)|refine dN ?_)
        go_roundw
        case rel=>
         refine⟨k+1,by omega,by go_num,y2,N,M,A2,nc,c2,z,B++[(l,A)],P9.ou,?_,fun h=>absurd h (by omega),fun _=>ap.ou (by omega),by omega,fun x f=>?_,?_⟩
         ·simp only[af,an,bI] at ag ⊢;omega
         ·rw[←aT] at f
          rcases az.1 f with f|f
          ·exact ao.ou x f
          ·simp at f;rw[f];exact⟨by show l.length≤5001;omega,by show A.length≤20;omega⟩
         ·rw[am,a6.ou];simp
        case measure=>simp[intOf];omega
    ·obtain rfl:k=b+c:=by omega
     have HK:Hd (jL (b+c) t Z=(y,W,z++B)):=by
      rw[Hd,a0.ou,gI]
      simp[jL]
     have a4:=ap.ou (by omega)
     have cb:Hd (wQ s=(⟨cs,z,B⟩,y,W)):=by
      rw[Hd,a2.ou,HK.ou]
      dsimp only
      rw[←a4,gX,fB]
     rw[cb.ou] at ai HP
     dsimp only at ai HP
     have e6:z.length≤5:=by omega
     have e7:B.length≤5:=by omega
     have ce:(⟨cs,z,B⟩:iT).Ku:=⟨dd,by show z.length≤100;omega,by show B.length≤100;omega,fun x f=>by have:=c8.ou x f;omega,fun x f=>by have:=ao.ou x (cE _ f);omega,fun x f=>by have:=ao.ou x (cN _ f);omega⟩
     have HL:=aj ce
     have cu:Hd (∀v,bf wr v→Calls Tryz.prog 76 #[.agg #[.slice cA cs.length cc,.slice M z.length nc,.slice O B.length Q]] v fun e w'=>e=.returned (S (lQ ⟨cs,z,B⟩))∧bf v w'):=fun v hv=>DC (v:=⟨cA,cc,M,nc,O,Q⟩) (r:=⟨cs,z,B⟩) (HE.ou.ext (P0.ou.x.ae hv)).t ⟨((P0.ou.fc.on hv).row (by decide)),((P0.ou.fn.on hv).row (by decide)),((P0.ou.fo.on hv).row (by decide))⟩ HL.ou
     clear bz ap HK a0 a2 cb ce ag a4
     cases W with
     | true=>
      have aD:Hd (xL s=false):=by rw[Hd,ai.ou];rfl
      have D:=P0
      have r0:wr.cell? ⟨E,0,none⟩=some (S y):=Cs.cell D.ou.rd 0
      have r1:wr.cell? ⟨E,1,none⟩=some (.bool true):=Cs.cell D.ou.rd 1
      have c0:wr.cell? ⟨I,0,none⟩=some (.slice cA cs.length cc):=D.ou.rc.cell 0
      have c1:wr.cell? ⟨I,1,none⟩=some (.slice M z.length nc):=D.ou.rc.cell 1
      have c2:wr.cell? ⟨I,2,none⟩=some (.slice O B.length Q):=D.ou.rc.cell 2
      have e0:wr.cell? ⟨C,0,none⟩=some (.slice none 0 0):=D.ou.rs.cell 0
      have e1:wr.cell? ⟨C,1,none⟩=some (.slice none 0 0):=D.ou.rs.cell 1
      have e2:wr.cell? ⟨C,2,none⟩=some (.slice none 0 0):=D.ou.rs.cell 2
      have z0:=D.ou.rs.frozen 0
      have z1:=D.ou.rs.frozen 1
      have z2:=D.ou.rs.frozen 2
      have HO:Hd (∀a b c,al (fun b=>b=C) wr (((wr.setCell ⟨C,0,none⟩ a).setCell ⟨C,1,none⟩ b).setCell ⟨C,2,none⟩ c)):=fun a b c=>(((al.refl _ _).at_ 0 a).at_ 1 b).at_ 2 c
      have HS:Hd (∀a b c,Cs (((wr.setCell ⟨C,0,none⟩ a).setCell ⟨C,1,none⟩ b).setCell ⟨C,2,none⟩ c) C pn #[a,b,c]):=fun a b c=>((D.ou.rs.cM 0 a).cM 1 b).cM 2 c
      have HX:Hd (∀u,al (fun b=>b=C) wr u→bf w u):=fun u f=>D.ou.x.trans f fun b hb e=>by have e:b=C:=e;omega
      have HR:Hd (oh s=(su,4)):=by rw[Hd,HP.ou,aD.ou];rfl
      refine cS ?_
      refine eP rfl rfl rfl (oQ (HS.ou _ _ _)) ?_
      rw[HR.ou]
      refine⟨⟨none,0,none,0,none,0⟩,rfl,bR.nil _ _ _ _ ?_,bR.nil _ _ _ _ ?_,bR.nil _ _ _ _ ?_⟩<;>exact HX.ou _ (HO.ou _ _ _)
     | false=>
      obtain⟨p,hp⟩:∃p,(y==([]:aK))=p:=⟨_,rfl⟩
      rw[hp] at ai
      cases p with
      | false=>
       have aD:Hd (xL s=false):=by rw[Hd,ai.ou];rfl
       have D:=P0
       have r0:wr.cell? ⟨E,0,none⟩=some (S y):=Cs.cell D.ou.rd 0
       have r1:wr.cell? ⟨E,1,none⟩=some (.bool false):=Cs.cell D.ou.rd 1
       have c0:wr.cell? ⟨I,0,none⟩=some (.slice cA cs.length cc):=D.ou.rc.cell 0
       have c1:wr.cell? ⟨I,1,none⟩=some (.slice M z.length nc):=D.ou.rc.cell 1
       have c2:wr.cell? ⟨I,2,none⟩=some (.slice O B.length Q):=D.ou.rc.cell 2
       have e0:wr.cell? ⟨C,0,none⟩=some (.slice none 0 0):=D.ou.rs.cell 0
       have e1:wr.cell? ⟨C,1,none⟩=some (.slice none 0 0):=D.ou.rs.cell 1
       have e2:wr.cell? ⟨C,2,none⟩=some (.slice none 0 0):=D.ou.rs.cell 2
       have z0:=D.ou.rs.frozen 0
       have z1:=D.ou.rs.frozen 1
       have z2:=D.ou.rs.frozen 2
       have HO:Hd (∀a b c,al (fun b=>b=C) wr (((wr.setCell ⟨C,0,none⟩ a).setCell ⟨C,1,none⟩ b).setCell ⟨C,2,none⟩ c)):=fun a b c=>(((al.refl _ _).at_ 0 a).at_ 1 b).at_ 2 c
       have HS:Hd (∀a b c,Cs (((wr.setCell ⟨C,0,none⟩ a).setCell ⟨C,1,none⟩ b).setCell ⟨C,2,none⟩ c) C pn #[a,b,c]):=fun a b c=>((D.ou.rs.cM 0 a).cM 1 b).cM 2 c
       have HX:Hd (∀u,al (fun b=>b=C) wr u→bf w u):=fun u f=>D.ou.x.trans f fun b hb e=>by have e:b=C:=e;omega
       have HR:Hd (oh s=(su,4)):=by rw[Hd,HP.ou,aD.ou];rfl
       refine cS ?_
       refine eP rfl rfl rfl (oQ (HS.ou _ _ _)) ?_
       rw[HR.ou]
       refine⟨⟨none,0,none,0,none,0⟩,rfl,bR.nil _ _ _ _ ?_,bR.nil _ _ _ _ ?_,bR.nil _ _ _ _ ?_⟩<;>exact HX.ou _ (HO.ou _ _ _)
      | true=>
       obtain⟨T,hT⟩:∃T,T=lQ ⟨cs,z,B⟩:=⟨_,rfl⟩
       rw[←hT] at cu ai
       clear hT
       obtain⟨q,hq⟩:∃q,(T==s)=q:=⟨_,rfl⟩
       rw[hq] at ai
       have m0:∀ξ:X wr No,ξ.v.cell? ⟨E,0,none⟩=some (S y):=Cs.x P0.ou.rd id 0
       have m1:∀ξ:X wr No,ξ.v.cell? ⟨E,1,none⟩=some (.bool false):=Cs.x P0.ou.rd id 1
       have m2:∀ξ:X wr No,ξ.v.cell? ⟨I,0,none⟩=some (.slice cA cs.length cc):=P0.ou.rc.x id 0
       have m3:∀ξ:X wr No,ξ.v.cell? ⟨I,1,none⟩=some (.slice M z.length nc):=P0.ou.rc.x id 1
       have m4:∀ξ:X wr No,ξ.v.cell? ⟨I,2,none⟩=some (.slice O B.length Q):=P0.ou.rc.x id 2
       go_upto_region 18 with fail
       refine cj [13] (Cl wr No) (Cl.of (al.refl _ _)) ?_
       refine bK ?_
       (refine bQ ?_;intro K hK);refine kF (X.here wr No) (cu.ou _ (al.refl _ _)) hK fun ξ1 Hξ1=>?_;clear hK K;refine bj ?_;refine bK ?_
       refine ar ?_
       have D:=aj (P0.ou.ext ξ1.h)
       clear m0 m1 m2 m3 m4 cu P0
       have r0:ξ1.v.cell? ⟨E,0,none⟩=some (S y):=Cs.cell D.ou.rd 0
       have r1:ξ1.v.cell? ⟨E,1,none⟩=some (.bool false):=Cs.cell D.ou.rd 1
       have c0:ξ1.v.cell? ⟨I,0,none⟩=some (.slice cA cs.length cc):=D.ou.rc.cell 0
       have c1:ξ1.v.cell? ⟨I,1,none⟩=some (.slice M z.length nc):=D.ou.rc.cell 1
       have c2:ξ1.v.cell? ⟨I,2,none⟩=some (.slice O B.length Q):=D.ou.rc.cell 2
       have e0:ξ1.v.cell? ⟨C,0,none⟩=some (.slice none 0 0):=D.ou.rs.cell 0
       have e1:ξ1.v.cell? ⟨C,1,none⟩=some (.slice none 0 0):=D.ou.rs.cell 1
       have e2:ξ1.v.cell? ⟨C,2,none⟩=some (.slice none 0 0):=D.ou.rs.cell 2
       have z0:=D.ou.rs.frozen 0
       have z1:=D.ou.rs.frozen 1
       have z2:=D.ou.rs.frozen 2
       have HO:Hd (∀a b c,al (fun b=>b=C) ξ1.v (((ξ1.v.setCell ⟨C,0,none⟩ a).setCell ⟨C,1,none⟩ b).setCell ⟨C,2,none⟩ c)):=fun a b c=>(((al.refl _ _).at_ 0 a).at_ 1 b).at_ 2 c
       have HS:Hd (∀a b c,Cs (((ξ1.v.setCell ⟨C,0,none⟩ a).setCell ⟨C,1,none⟩ b).setCell ⟨C,2,none⟩ c) C pn #[a,b,c]):=fun a b c=>((D.ou.rs.cM 0 a).cM 1 b).cM 2 c
       have HX:Hd (∀u,al (fun b=>b=C) ξ1.v u→bf w u):=fun u f=>D.ou.x.trans f fun b hb e=>by have e:b=C:=e;omega
       cases q with
       | false=>
        have aD:Hd (xL s=false):=by rw[Hd,ai.ou];rfl
        have HR:Hd (oh s=(su,4)):=by rw[Hd,HP.ou,aD.ou];rfl
        refine cS ?_
        refine eP rfl rfl rfl (oQ (HS.ou _ _ _)) ?_
        rw[HR.ou]
        refine⟨⟨none,0,none,0,none,0⟩,rfl,bR.nil _ _ _ _ ?_,bR.nil _ _ _ _ ?_,bR.nil _ _ _ _ ?_⟩<;>exact HX.ou _ (HO.ou _ _ _)
       | true=>
        have HR:Hd (oh s=(⟨cs,z,B⟩,0)):=by rw[Hd,HP.ou,ai.ou];rfl
        refine cS ?_
        refine eP rfl rfl rfl (oQ (HS.ou _ _ _)) ?_
        rw[HR.ou]
        have f:=HO.ou (.slice cA cs.length cc) (.slice M z.length nc) (.slice O B.length Q)
        have hE:=HX.ou _ f
        exact⟨⟨cA,cc,M,nc,O,Q⟩,rfl,D.ou.fc.aP f hE (aO D.ou.fc.own D.ou.rs (by decide)),D.ou.fn.aP f hE (aO D.ou.fn.own D.ou.rs (by decide)),D.ou.fo.aP f hE (aO D.ou.fo.own D.ou.rs (by decide))⟩
def Nc(u:Nat):aK:=if u<10 then [UInt8.ofNat (48+u)] else if u<100 then [UInt8.ofNat (48+u/10),UInt8.ofNat (48+u%10)] else [UInt8.ofNat (48+u/100),UInt8.ofNat (48+u/10%10),UInt8.ofNat (48+u%10)]
theorem KV(u:Nat)(h:u<1000):Lib.itoa (u:Int)=Nc u:=by
 rw[Lib.itoa_nonneg,Lib.decDigits,Nc]
 split
 ·rfl
 ·rw[Lib.decDigits]
  by_cases a:u<100
  ·rw[ab a,dif_pos (by omega)];rfl
  ·rw[aa a,dif_neg (by omega),Lib.decDigits,dif_pos (by omega),Nat.div_div_eq_div_mul];rfl
def Vs(u:Nat):Bool:=FD (Nc u)&&decide (EL (Nc u)=(u:Int))&&(Nc u).all fun c=>decide (c≠32)&&decide (c≠58)
theorem MR:∀u:Fin 321,Vs u.1=true:=by decide +kernel
theorem Mq(u:Nat)(h:u≤320):FD (Lib.itoa (u:Int))=true∧EL (Lib.itoa (u:Int))=(u:Int)∧(32:UInt8)∉Lib.itoa (u:Int)∧(58:UInt8)∉Lib.itoa (u:Int):=by
 have:=MR ⟨u,by omega⟩
 rw[KV u (by omega)]
 simp only[Vs,aI,bh,bJ] at this
 obtain⟨⟨b,c⟩,a⟩:=this
 exact⟨b,c,fun hm=>(a _ hm).1 rfl,fun hm=>(a _ hm).2 rfl⟩
theorem JK(c:UInt8):∀(a b:aK),c∉a→dB c (a++c::b)=(a,b,true)
 | [],b,_=>by simp[dB]
 | x::a,b,h=>by
  have d:x≠c:=fun e=>h (by simp[e])
  have ih:=JK c a b (fun hm=>h (aE _ hm))
  show dB c (x::(a++c::b))=_
  rw[dB,aa d,ih]
theorem GH(c:UInt8)(a b:aK)(h:c∉a):ik (a++c::b) false c=(b,false,a):=by
 unfold ik
 rw[JK c a b h]
 try rfl
theorem tD(u:Nat)(c:UInt8)(d:c=32∨c=58)(eA:Int)(h:u≤320)(e:(u:Int)≤eA)(b:aK):km (Lib.itoa (u:Int)++c::b) false c eA=(b,false,(u:Int)):=by
 obtain⟨f,a,j,k⟩:=Mq u h
 have g:c∉Lib.itoa (u:Int):=by rcases d with rfl|rfl<;>assumption
 have i:Ik (Lib.itoa (u:Int)) eA=true:=by
  unfold Ik
  rw[f,a,aM e,aM (show(0:Int)≤u by omega)]
  simp
 unfold km
 rw[GH c _ b g]
 dsimp only
 rw[ab i,a]
def Am(c:aK):aK:=Lib.itoa (c.length:Int)++58::(c++[32])
def yv(f:bm):aK:=f.1++32::(Lib.itoa (f.2.length:Int)++58::(f.2++[32]))
theorem Cx(t:aK)(eA:Int)(h:t.length≤320)(a:(t.length:Int)≤eA)(b:aK):lG (Am t++b) false eA=(b,false,t):=by
 have e:Am t++b=Lib.itoa (t.length:Int)++58::(t++32::b):=by simp[Am]
 unfold lG
 rw[e,tD t.length 58 (.inr rfl) eA h a]
 dsimp only
 rw[dh]
 have c:KQ (t++32::b) t.length=true:=by simp[KQ]
 rw[ab c,gX,←cX,fB]
 try rfl
theorem AH:∀(cs:List aK) (b:aK),(∀c∈cs,c.length≤300)→kB cs.length (cs.flatMap Am++b) false=(b,false,cs)
 | [],b,_=>rfl
 | c::cs,b,h=>by
  have a:=h c (by simp)
  have e:=Cx c 300 (by omega) (by omega) (cs.flatMap Am++b)
  have ih:=AH cs b (fun x hx=>h x (aE _ hx))
  rw[bN,aT,an,kB,e]
  dsimp only
  rw[ih]
theorem Gs(f:Bool):xQ 32 f=false:=by cases f<;>rfl
theorem sH:∀(s:aK) (i:Nat),lx s i=true→(32:UInt8)∉s
 | [],_,_=>by simp
 | c::r,i,h=>by
  rw[lx,aI] at h
  intro a
  rcases aY.1 a with e|a
  ·rw[←e,Gs] at h;exact absurd h.1 (by simp)
  ·exact sH r (i+1) h.2 a
theorem GU{s:aK}(h:i7 s=true):(32:UInt8)∉s:=by
 simp only[i7,aI] at h
 exact sH s 0 h.2
theorem LB(f:bm)(a:i7 f.1=true)(c:f.2.length≤20)(b:aK):qZ (yv f++b) false=(b,false,f):=by
 have e:yv f++b=f.1++32::(Am f.2++b):=by simp[yv,Am]
 unfold qZ
 rw[e,GH 32 _ _ (GU a)]
 dsimp only
 rw[Cx f.2 20 (by omega) (by omega),a]
 try rfl
theorem zh:∀(fs:List bm) (b:aK),(∀f∈fs,i7 f.1=true∧f.2.length≤20)→jL fs.length (fs.flatMap yv++b) false=(b,false,fs)
 | [],b,_=>rfl
 | f::fs,b,h=>by
  obtain⟨a,c⟩:=h f (by simp)
  have e:=LB f a c (fs.flatMap yv++b)
  have ih:=zh fs b (fun x hx=>h x (aE _ hx))
  rw[bN,aT,an,jL,e]
  dsimp only
  rw[ih]
theorem zu:∀cs:List aK,cs.flatMap zH++[32]=32::cs.flatMap Am
 | []=>rfl
 | c::cs=>by
  rw[bN,aT,zu cs]
  simp[zH,Am]
theorem AJ:∀fs:List bm,fs.flatMap EH++[32]=32::fs.flatMap yv
 | []=>rfl
 | f::fs=>by
  rw[bN,aT,AJ fs]
  simp[EH,yv]
theorem I2(r:iT):lQ r++[32]=Lib.itoa (r.bD.length:Int)++32::(Lib.itoa (r.aN.length:Int)++32::(Lib.itoa (r.ou.length:Int)++32::(r.bD.flatMap Am++(r.aN++r.ou).flatMap yv))):=by
 have a:r.bD.flatMap zH++(32::(r.aN++r.ou).flatMap yv)=32::(r.bD.flatMap Am++(r.aN++r.ou).flatMap yv):=by
  have:=congrArg (·++(r.aN++r.ou).flatMap yv) (zu r.bD)
  simpa using this
 unfold lQ
 rw[aT,aT,AJ,a]
 simp[LG]
theorem LK(r:iT)(j:r.bD.length≤3)(k:r.aN.length≤3)(l:r.ou.length≤2)(d:∀c∈r.bD,c.length≤300)(g:∀f∈r.aN,i7 f.1=true∧f.2.length≤20)(i:∀f∈r.ou,i7 f.1=true∧f.2.length≤20):oh (lQ r)=(r,0):=by
 have b:wQ (lQ r)=(r,[],false):=by
  unfold wQ
  rw[I2,tD _ 32 (.inl rfl) 3 (by omega) (by omega)]
  dsimp only
  rw[tD _ 32 (.inl rfl) 3 (by omega) (by omega)]
  dsimp only
  rw[tD _ 32 (.inl rfl) 2 (by omega) (by omega)]
  dsimp only
  rw[dh,dh,dh,AH _ _ d]
  dsimp only
  have e:jL (r.aN.length+r.ou.length) ((r.aN++r.ou).flatMap yv) false=([],false,r.aN++r.ou):=by
   have:=zh (r.aN++r.ou) [] (fun f hf=>by
    rcases az.1 hf with h|h
    ·exact g f h
    ·exact i f h)
   rwa [cv,af] at this
  rw[e]
  dsimp only
  rw[gX,fB]
 have a:xL (lQ r)=true:=by
  unfold xL
  rw[b]
  simp
 unfold oh
 rw[ab a,b]
end Go.Proofs.YtpgmcijdcnnjpaaGreatDoor
