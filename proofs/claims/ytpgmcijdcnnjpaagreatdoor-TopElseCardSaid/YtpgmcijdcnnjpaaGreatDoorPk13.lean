/- Lemmas for it. -/
import Derived.Test.YtpgmcijdcnnjpaaGreatDoorPk12
set_option linter.all false
set_option maxRecDepth 100000
set_option maxHeartbeats 4000000
namespace Go.Proofs.YtpgmcijdcnnjpaaGreatDoor
open Go Go.RowKit
variable {L:List Oper} {i:Nat} {o:Oper}
theorem al.qD{w u v:World}(h:bf w u)(k:Below w.heap.size u v):bf w v:=⟨k.os.trans h.os,k.tape.trans h.tape,k.output.trans h.output,aJ h.size k.size,fun b hb hn=>(k.block b hb).trans (h.block b hb hn)⟩
def qh(l:List aK):Nat:=(l.map List.length).sum
theorem Md{l:List aK}{K:Nat}(h:∀x∈l,x.length≤K):qh l≤l.length*K:=by
 unfold qh
 induction l with
 | nil=>simp
 | cons x l ih=>
  have a:=h x (by simp)
  have b:=ih fun y hy=>h y (aE _ hy)
  simp only[du,List.sum_cons,an,ey]
  omega
theorem SG{w:World}{A:Option Addr}{n cp:Nat}{l:List aK}(h:di cI w A n l)(hn:n≤5)(ap:n≤cp)(hl:∀x∈l,x.length≤1000000) :
  Calls Tryz.prog 237 #[.slice A n cp,S [32]] w fun e w'=>e=.returned (S (js l))∧bf w w':=by
 have Z:=h.1
 by_cases h0:n=0
 ·subst h0
  have ac:=h.Sq
  subst ac
  go_enter Tryz.func237,Tryz.ntmps237
  go_wp2_with fail
  go_ret
  exact⟨rfl,al.refl _ _⟩
 by_cases h1:n=1
 ·subst h1
  obtain⟨x,rfl⟩:∃x,l=[x]:=by
   match l,Z with
   | [x],_=>exact⟨x,rfl⟩
  obtain⟨t,o,s,rfl,c,f⟩:=dq h (k:=0) (by omega)
  obtain rfl:x=s:=bB c
  have g:w.cell? ⟨t,o,none⟩=some (S x):=f (X.here w No)
  clear h f c
  go_enter Tryz.func237,Tryz.ntmps237
  go_wp2_with fail
  go_ret
  exact⟨rfl,al.refl _ _⟩
 have H:=aj h
 have y:=aj hl
 clear h hl
 have hq:¬(9223372036854775807/((n:Int)-1)≤1):=by
  have:n=2∨n=3∨n=4∨n=5:=by omega
  rcases this with rfl|rfl|rfl|rfl<;>decide
 have av:(((n:Nat):Int)==0)=false:=by rw[bl];omega
 have aD:(((n:Nat):Int)==1)=false:=by rw[bl];omega
 have hz:¬((n:Int)-1=0):=by omega
 have p:∀k,qh (l.take k)≤5000000:=fun k=>by
  have h1:=Md (l:=l.take k) (K:=1000000) fun x c=>y.ou x (gj c)
  have h2:(l.take k).length≤5:=by rw[aH];omega
  have h3:(l.take k).length*1000000≤5*1000000:=fy _ h2
  omega
 have HS:=aj p
 clear p
 go_enter Tryz.func237,Tryz.ntmps237
 go_upto_region 12 with fail
 go_loopw [5,7,41] (fun x5 _ x41 wr=>∃k:Nat,k≤n∧x5=.int .i64 ((n-1+qh (l.take k):Nat):Int)∧x41=.int .i64 (k:Int)∧wr=w) (fun _ _ x41 _=>n-(intOf x41).toNat)
 case atStart=>exact⟨0,au _,by simp[qh];omega,rfl,rfl⟩
 case round=>
  obtain⟨k,hk,rfl,rfl,rfl⟩:=hrel
  have z:=HS.ou k
  by_cases q:k<n
  ·obtain⟨t,o,x,rfl,c,f⟩:=dq H.ou q
   have r:=y.ou x (ah c)
   have g:wr.cell? ⟨t,o+k,none⟩=some (S x):=f (X.here _ No)
   have B:qh (l.take (k+1))=qh (l.take k)+x.length:=by
    rw[aU,c];simp[qh]
   have C:=aj B
   obtain⟨T,hT⟩:∃T,T=qh (l.take k):=⟨_,rfl⟩
   rw[←hT] at C z ⊢
   clear hT B f c
   go_wp2_with fail
   all_goals try exact si
   go_roundw
   case rel=>exact⟨k+1,by omega,by rw[C.ou];go_num,by go_num,by trivial⟩
   case measure=>simp[intOf];omega
  ·obtain rfl:k=n:=by omega
   obtain⟨w,ag⟩:∃u,u=wr:=⟨_,rfl⟩
   subst ag
   clear hk q z
   have ai:=HS.ou k
   have ak:Hd (l.take k=l):=ay (by omega)
   rw[ak.ou] at ai ⊢
   obtain⟨N,hN⟩:∃N,N=k-1+qh l:=⟨_,rfl⟩
   rw[←hN]
   have a0:N≤5000010:=by omega
   obtain⟨w1,m⟩:∃u,u=w.alloc (.cells #[.pointer none,.slice none 0 0] oI):=⟨_,rfl⟩
   obtain⟨b,V⟩:∃b,b=w.heap.size:=⟨_,rfl⟩
   have X1:Hd (bf w w1):=by rw[m];exact(al.refl No w).alloc _
   have D:=aj (Tryz.Builder_Grow_fresh w.heap.size b N w1 (ij V.symm) (by rw[m,V];exact Cs.new _ _ _) X1.ou.size (by omega))
   clear hN
   go_upto_region 19 with fail
   rw[←m,←V]
   clear m V
   go_wp2_with fail
   refine D.ou.mono ?_
   rintro e E ⟨rfl,d,a⟩
   have W:Hd (bf w E):=X1.ou.qD a
   have F:Hd (Lib.IsBuilderF oI Ey w.heap.size b (Lib.byteCells []) E):=.inr (Lib.BuilderAtF.of d)
   clear d a D X1
   obtain⟨t,o,x,rfl,c,f⟩:=dq H.ou (k:=0) (by omega)
   have r:=y.ou x (ah c)
   have g:E.cell? ⟨t,o,none⟩=some (S x):=f ⟨E,W.ou⟩
   have G:Hd (l.take (0+1)=[x]):=by rw[aU,c];rfl
   have I:=aj (r8 w.heap.size b _ ⟨x.toArray⟩ E F.ou (by show(Lib.byteCells []).length+x.length≤140737488355328;simp[Lib.byteCells];omega) W.ou.size)
   clear f c
   go_wp2_with fail
   refine I.ou.mono ?_
   rintro e w3 ⟨rfl,d,a⟩
   have X3:Hd (bf w w3):=W.ou.qD a
   have J:Hd (Lib.IsBuilderF oI Ey w.heap.size b (Lib.byteCells (js (l.take (0+1)))) w3):=by rw[G.ou];exact d
   have L:∀j,(js (l.take j)).length≤10000000:=fun j=>by
    have h1:=rG (l:=l.take j) (K:=1000000) fun x c=>y.ou x (gj c)
    have h2:(l.take j).length≤5:=by rw[aH];omega
    have h3:(l.take j).length*(1000000+1)≤5*(1000000+1):=fy _ h2
    omega
   have am:=aj L
   clear d a I W F L G g r
   go_wp2_with fail
   go_loopw [65] (fun x65 wr=>∃j:Nat,j≤k-1∧x65=.int .i64 (j:Int)∧Lib.IsBuilderF oI Ey w.heap.size b (Lib.byteCells (js (l.take (j+1)))) wr∧bf w wr) (fun x65 _=>k-(intOf x65).toNat)
   case atStart=>exact⟨0,au _,rfl,J.ou,X3.ou⟩
   case round=>
    clear J X3
    obtain⟨j,hj,rfl,d,hX⟩:=hrel
    have HB:=aj d
    have v:=aj hX
    clear d hX
    by_cases q:j<k-1
    ·obtain⟨a1,o',x,M,c,f⟩:=dq H.ou (k:=j+1) (by omega)
     injection M with M
     injection M with M e2
     subst M;subst e2
     have r:=y.ou x (ah c)
     have g:wr.cell? ⟨t,o+1+j,none⟩=some (S x):=by rw[show o+1+j=o+(j+1) by omega];exact f ⟨wr,v.ou⟩
     have O:l.take (j+1)≠[]:=fun e=>by
      have:=congrArg List.length e
      rw[aH] at this
      have this:min (j+1) l.length=0:=this
      omega
     have HE:Hd (Lib.byteCells (js (l.take (j+1)))++Lib.strCells ⟨[32].toArray⟩++Lib.strCells ⟨x.toArray⟩=Lib.byteCells (js (l.take (j+1+1)))):=by
      rw[aU (i:=j+1),c,Option.toList,xz _ _ O,Lib.byteCells_append,aT]
      try rfl
     have a2:=am.ou (j+1)
     have P:=aj (r8 w.heap.size b _ ⟨[32].toArray⟩ wr HB.ou (by show(Lib.byteCells (js (l.take (j+1)))).length+1≤140737488355328;rw[Lib.byteCells_length];omega) v.ou.size)
     clear f c O
     go_wp2_with fail
     refine P.ou.mono ?_
     rintro e Y ⟨rfl,d,a⟩
     have Q:Hd (bf w Y):=v.ou.qD a
     have R:=aj (r8 w.heap.size b _ ⟨x.toArray⟩ Y d (by show(Lib.byteCells (js (l.take (j+1)))++Lib.strCells ⟨[32].toArray⟩).length+x.length≤140737488355328;rw[af,Lib.byteCells_length];show _+1+_≤_;omega) Q.ou.size)
     clear d a P HB v g
     go_wp2_with fail
     refine R.ou.mono ?_
     rintro e w6 ⟨rfl,d,a⟩
     have X6:Hd (bf w w6):=Q.ou.qD a
     have ao:Hd (Lib.IsBuilderF oI Ey w.heap.size b (Lib.byteCells (js (l.take (j+1+1)))) w6):=by rw[←HE.ou];exact d
     clear d a R Q
     go_wp2_with fail
     go_roundw
     case rel=>exact⟨j+1,by omega,by go_num,ao.ou,X6.ou⟩
     case measure=>simp[intOf];omega
    ·obtain rfl:j=k-1:=by omega
     have U:=aj (Tryz.Builder_String_any_k w.heap.size b _ wr HB.ou v.ou.size)
     go_wp2_with fail
     refine U.ou.mono ?_
     rintro e Y ⟨rfl,_,a,_⟩
     have Q:Hd (bf w Y):=v.ou.qD a
     have HE:Hd (l.take (k-1+1)=l):=ay (by omega)
     rw[HE.ou]
     clear a U
     go_wp2_with fail
     go_ret
     exact⟨rfl,Q.ou⟩
theorem Mu{w:World}{g:Nat}{t:TypeId}{l:List aK}(h:Cs w g t (l.map S).toArray):di cI w (some ⟨g,0,none⟩) l.length l:=
 ⟨rfl,fun _=>⟨g,0,rfl,h.lt,fun k x hx j u hu=>by
  obtain⟨rfl,rfl⟩:j=0∧u=S x:=by
   match j,hu with
   | 0,hu=>exact⟨rfl,(bB hu).symm⟩
  rw[h.cell,show 0+k*cI.size+0=k by simp[cI],aB,bP,hx]
  rfl⟩⟩
theorem TI {w:World} {At G:Option Addr} {Z j ct cn:Nat} {ts ns:List aK} (ht:di cI w At Z ts) (h1:1≤Z) (H:di cI w G j ns) (I:j≤5) (ac:j≤cn) (s a:aK) (hs:s.length≤1000)
  (h2:∀x∈ts,x.length≤1000) (F:∀x∈ns,x.length≤1000) (h4:a.length≤1000) :
  Calls Tryz.prog 219 #[S s,.slice At Z ct,.slice G j cn,S a] w fun e w'=>e=.returned (S (iS (qS (ts.headD []) (ns.headD []) (js ns) a) s))∧bf w w':=by
 have L:(js ns).length≤5005:=by
  have a1:=rG (l:=ns) (K:=1000) F
  have a2:ns.length*(1000+1)≤5*(1000+1):=fy _ (by rw[H.1];exact I)
  omega
 obtain⟨bb,o,x,rfl,C,c0⟩:=dq ht (k:=0) (by omega)
 have M:ts.headD []=x:=by
  match ts,C with
  | y::r,C=>exact bB C
 have ak:=h2 x (ah C)
 have am:∀ξ:X w No,ξ.v.cell? ⟨bb,o,none⟩=some (S x):=c0
 obtain⟨f,N⟩:∃f,f=ns.headD []:=⟨_,rfl⟩
 have ag:f.length≤1000:=by
  rw[N]
  match ns,F with
  | [],_=>exact au _
  | y::r,F=>exact F y (by simp)
 obtain⟨J,W⟩:∃J,J=js ns:=⟨_,rfl⟩
 have O:(iS (qS x f J a) s).length≤100000000:=by
  have a1:=xe (ER (K:=5005) (t:=x) (f:=f) (n:=J) (k:=a) (by omega) (by omega) (by rw[W];exact L) (by omega)) s
  have a2:s.length*(5005+1)≤1000*(5005+1):=fy _ hs
  omega
 have Y:Hd (∀u,bf w u→Calls Tryz.prog 237 #[.slice G j cn,S [32]] u fun e w'=>e=.returned (S J)∧bf u w'):=fun u hu=>by
  rw[W];exact SG (H.ext hu) I ac fun x C=>aJ (F x C) (by omega)
 rw[M,←N,←W]
 have HF:Hd (j=0∧f=[]∨0<j∧∃b2 B,G=some ⟨b2,B,none⟩∧w.cell? ⟨b2,B,none⟩=some (S f)):=by
  rcases fY j with h0|h0
  ·subst h0
   have:=H.Sq
   subst this
   exact .inl ⟨rfl,N⟩
  ·obtain⟨b2,B,y,e,hy,cy⟩:=dq H (k:=0) h0
   have:f=y:=by
    rw[N]
    match ns,hy with
    | z::r,hy=>exact bB hy
   exact .inr ⟨h0,b2,B,e,by rw[this];exact cy (X.here w No)⟩
 have HA:=aj O
 clear ht H h2 F C N W L c0 M O ag
 go_enter Tryz.func219,Tryz.ntmps219
 have m:j=0∧f=[]∨0<j∧∃b2 B,G=some ⟨b2,B,none⟩∧w.cell? ⟨b2,B,none⟩=some (S f):=HF.ou
 rcases m with⟨rfl,rfl⟩|⟨h0,b2,B,rfl,cf⟩
 ·go_upto_region 4 with fail
  clear HF
  (refine aV [5,7,8,10] 100 (Cl (w) (No)) (by kernel_rfl) (by kernel_rfl) (Cl.eU (X.here w No)) ?_;refine bK ?_)
  (refine bQ ?_;intro K hK)
  refine(Y.ou _ (al.refl No w).drew).mono ?_
  rintro e p ⟨rfl,d⟩
  have D:Hd (bf w p):=(al.refl No w).drew.ae d
  refine⟨_,rfl,hK _ _ (fun _=>Cl.of D.ou) ?_⟩
  clear hK K d Y
  refine bj ?_
  refine dH ?_
  (refine bQ ?_;intro K hK)
  suffices key:∀g,g=p.alloc (.cells ([[36,64],x,[36,60],[],[36,94],J,[36,42],a].map S).toArray 9)→K (.slice (some ⟨p.heap.size,0,none⟩) 8 8) g from key _ rfl
  intro g c
  have q:Hd (bf w g):=by rw[c];exact D.ou.alloc _
  have P:=aj (Fz (w:=g) (A:=some ⟨p.heap.size,0,none⟩) (cp:=8) (l:=[[36,64],x,[36,60],[],[36,94],J,[36,42],a]) (Mu (by rw[c];exact Cs.new _ _ _)))
  clear c
  refine hK _ _ (fun _=>Cl.of q.ou) ?_
  clear hK K D
  refine bj ?_
  refine dH ?_
  (refine bQ ?_;intro K hK)
  refine P.ou.mono ?_
  rintro e u3 ⟨r,A3,c3,rfl,Q,R,T,h⟩
  have E:Hd (bf w u3):=q.ou.ae h
  have U:=aj (Bw R T s (by omega) HA.ou)
  have ai:w.heap.size≤r:=aJ q.ou.size Q
  refine⟨_,rfl,hK _ _ (fun _=>Cl.of E.ou) ?_⟩
  clear hK K q R T h Q P
  refine bj ?_
  refine dH ?_
  (refine bQ ?_;intro K hK)
  refine U.ou.mono ?_
  rintro e u4 ⟨rfl,i⟩
  have V:Hd (bf w u4):=E.ou.trans i fun b hb e=>by have e:b=r:=e;omega
  refine⟨_,rfl,hK _ _ (fun _=>Cl.of V.ou) ?_⟩
  clear hK K E U i
  refine bj ?_
  refine dH ?_
  refine ar ?_
  go_wp2_with fail
  go_ret
  exact⟨rfl,V.ou⟩
 ·go_upto_region 4 with fail
  clear HF
  (refine aV [5,7,8,10] 100 (Cl (w) (No)) (by kernel_rfl) (by kernel_rfl) (Cl.eU (X.here w No)) ?_;refine bK ?_)
  (refine bQ ?_;intro K hK)
  refine(Y.ou _ (al.refl No w).drew).mono ?_
  rintro e p ⟨rfl,d⟩
  have D:Hd (bf w p):=(al.refl No w).drew.ae d
  refine⟨_,rfl,hK _ _ (fun _=>Cl.of D.ou) ?_⟩
  clear hK K d Y
  refine bj ?_
  refine dH ?_
  (refine bQ ?_;intro K hK)
  suffices key:∀g,g=p.alloc (.cells ([[36,64],x,[36,60],f,[36,94],J,[36,42],a].map S).toArray 9)→K (.slice (some ⟨p.heap.size,0,none⟩) 8 8) g from key _ rfl
  intro g c
  have q:Hd (bf w g):=by rw[c];exact D.ou.alloc _
  have P:=aj (Fz (w:=g) (A:=some ⟨p.heap.size,0,none⟩) (cp:=8) (l:=[[36,64],x,[36,60],f,[36,94],J,[36,42],a]) (Mu (by rw[c];exact Cs.new _ _ _)))
  clear c
  refine hK _ _ (fun _=>Cl.of q.ou) ?_
  clear hK K D
  refine bj ?_
  refine dH ?_
  (refine bQ ?_;intro K hK)
  refine P.ou.mono ?_
  rintro e u3 ⟨r,A3,c3,rfl,Q,R,T,h⟩
  have E:Hd (bf w u3):=q.ou.ae h
  have U:=aj (Bw R T s (by omega) HA.ou)
  have ai:w.heap.size≤r:=aJ q.ou.size Q
  refine⟨_,rfl,hK _ _ (fun _=>Cl.of E.ou) ?_⟩
  clear hK K q R T h Q P
  refine bj ?_
  refine dH ?_
  (refine bQ ?_;intro K hK)
  refine U.ou.mono ?_
  rintro e u4 ⟨rfl,i⟩
  have V:Hd (bf w u4):=E.ou.trans i fun b hb e=>by have e:b=r:=e;omega
  refine⟨_,rfl,hK _ _ (fun _=>Cl.of V.ou) ?_⟩
  clear hK K E U i
  refine bj ?_
  refine dH ?_
  refine ar ?_
  go_wp2_with fail
  go_ret
  exact⟨rfl,V.ou⟩
section
variable {P:Program} {ops:Array Oper} {md:Region.Mode} {C:World→Prop} {E:List Nat} {Q:Act→World→Prop}
def Af(md:Region.Mode)(ops:Array Oper)(listed:Array Bool)(i:Nat):Bool:=
 match ops[i]? with
 | none=>false
 | some oi=>!jS oi&&(List.range ops.size).all fun j=>j==i||listed.getD j true||(match ops[j]? with|none=>true|some oj=>oj.after.any (fun e=>Region.binds md e&&e.on==i)||oi.apart ops oj)
def mM(md:Region.Mode)(ops:Array Oper)(E:List Nat)(listed:Array Bool):Option Nat:=(Region.ready md ops listed).find? fun i=>!E.contains i&&Af md ops listed i
def qC(md:Region.Mode)(ops:Array Oper)(E:List Nat):Nat→Array Bool→Bool
 | 0,l=>(Region.ready md ops l).isEmpty
 | f+1,l=>match mM md ops E l with
  | some i=>qC md ops E f (l.setIfInBounds i true)
  | none=>!(Region.ready md ops l).isEmpty&&(Region.ready md ops l).all fun i=>E.contains i&&qC md ops E f (l.setIfInBounds i true)
def kh(P:Program)(md:Region.Mode)(ops:Array Oper)(C:World→Prop)(E:List Nat)(Q:Act→World→Prop):Nat→Array Bool→Act→World→Prop
 | 0,_,a,w=>Q a w
 | f+1,l,a,w=>match mM md ops E l with
  | some i=>gP P ops C E ops.size i (kh P md ops C E Q f (l.setIfInBounds i true)) a w
  | none=>∀i∈Region.ready md ops l,gP P ops C E ops.size i (kh P md ops C E Q f (l.setIfInBounds i true)) a w
theorem sX(p:Region.noSelect ops=true):∀(f:Nat) (l:Array Bool) (a:Act) (w:World),C w→qC md ops E f l=true→kh P md ops C E Q f l a w→kX P md ops C E ops.size Q f l a w
 | 0,l,a,w,_,hB,h=>⟨by simpa [qC] using hB,h⟩
 | f+1,l,a,w,hC,hB,h=>by
  have z:ops[ops.size]?=none:=dx (aq _)
  unfold qC at hB
  unfold kh at h
  cases hp:mM md ops E l with
  | some i=>
   rw[hp] at hB h
   simp only at hB h
   have n:=dL hp
   have d:=jb hp
   simp only[aI,eC] at d
   obtain⟨y,g⟩:=d
   unfold Af at g
   cases k:ops[i]? with
   | none=>rw[k] at g;cases g
   | some oi=>
    rw[k] at g
    simp only[aI,eC,bJ,dS,cd,bY] at g
    obtain⟨A,g⟩:=g
    obtain⟨v,B,hK⟩:=kC k y h
    have q:i<ops.size:=(bq.1 k).1
    refine l8 k y A (by omega) (fun _=>False) (fun j hj=>hj.elim) (.inl z) (Region.noSelect_spec p) f l a w hC (fun j hj=>hj.elim) (fun j oj hoj hji hun hno=>?_) n B
     (sX p f _ _ w hC hB hK)
    have r:j<ops.size:=(bq.1 hoj).1
    rcases g j r with(h'|h')|h'
    ·exact absurd h' hji
    ·rw[hun] at h';cases h'
    ·rw[hoj] at h'
     simp only[cd] at h'
     rcases h' with h'|h'
     ·obtain⟨e,s,t⟩:=ic.1 h'
      simp only[aI,bY] at t
      exact absurd t.2 (hno e s t.1)
     ·exact h'
  | none=>
   rw[hp] at hB h
   simp only[aI,eC,bJ] at hB h
   refine⟨fun s=>?_,fun i hi=>?_⟩
   ·rw[s] at hB;simp at hB
   ·obtain⟨u,x⟩:=hB.2 i hi
    have m:=h i hi
    obtain⟨_,o,k,_⟩:=mem_ready.1 hi
    have q:i<ops.size:=(bq.1 k).1
    have b:∀a' w',C w'→kh P md ops C E Q f (l.setIfInBounds i true) a' w' →
      (if i=ops.size then Region.ready md ops (l.setIfInBounds i true)=[]∧Q a' w' else kX P md ops C E ops.size Q f (l.setIfInBounds i true) a' w'):=fun a' w' c hK=>by
     rw[aa (by omega)]
     exact sX p f _ _ w' c x hK
    unfold gP at m ⊢
    simp only[k] at m ⊢
    unfold iB at m ⊢
    split
    ·rename_i hw
     rw[ab hw,ab u] at m
     exact iy (fun v w' ⟨c,hK⟩=>⟨c,b _ w' (c (by omega)) hK⟩) m
    ·rename_i hw
     rw[aa hw] at m
     exact b _ w hC m
theorem uE {id:Nat} {Q:Exit→Act→World→Prop} {a:Act} {w:World} {l:List Oper} (n:Nat) (E:List Nat) (C:World→Prop) (d:l.length=n) (e:P.follows .mixedOrders=true)
  (b:(Region.noSelect l.toArray&&qC .any l.toArray E n (Array.replicate n false))=true) (c:C w.drew)
  (h:kh P .any l.toArray C E (fun a' w'=>Q .normal a' w') n (Array.replicate n false) a w.drew):(Code.region id l.toArray true).wp P Q a w:=by
 subst d
 simp only[aI] at b
 refine wp_region_any e (lW (C:=C) (E:=E) (N:=l.toArray.size) _ _ _ _ c ?_)
 have:=sX b.1 l.length (Array.replicate l.length false) a _ c b.2 h
 simpa using this
variable {f:Nat} {l:Array Bool} {a:Act} {w:World}
theorem lE(h:Q a w):kh P md ops C E Q 0 l a w:=h
theorem bW    (c:mM md L.toArray E l=some i) (b:L[i]?=some o) (d:o.guard=none) (e:E.contains i=false) (g:jS o=false)
  (h:∀K:Act→Prop,(∀a',kh P md L.toArray C E Q f (l.setIfInBounds i true) a' w→K a')→o.quiet P a C K):kh P md L.toArray C E Q (f+1) l a w:=by
 rw[←aB] at b
 unfold kh
 rw[c]
 unfold gP iB
 simp only[b]
 rw[ab (jQ d),aa (by rw[e];exact dI)]
 exact⟨g,h _ fun _ h=>h⟩
theorem rR    (b:L[i]?=some o) (c:o.guard=none) (d:E.contains i=true) {R:Act→World→Prop}
  (h:∀K:Value→World→Prop,(∀v w',C w'→R (a.put o.dst v) w'→K v w')→cT P o a w K):gP P L.toArray C E L.toArray.size i R a w:=by
 rw[←aB] at b
 unfold gP iB
 simp only[b]
 rw[ab (jQ c),ab d]
 exact h _ fun _ _ h1 h2=>⟨fun _=>h1,h2⟩
theorem gB    (b:mM md L.toArray E l=none) (c:Region.ready md L.toArray l=[i]) (d:L[i]?=some o) (e:o.guard=none) (g:E.contains i=true)
  (h:∀K:Value→World→Prop,(∀v w',C w'→kh P md L.toArray C E Q f (l.setIfInBounds i true) (a.put o.dst v) w'→K v w')→cT P o a w K):kh P md L.toArray C E Q (f+1) l a w:=by
 unfold kh
 rw[b,c]
 simp only[aC,forall_eq]
 exact rR d e g h
theorem pP  {j:Nat} {b:Oper} (g:mM md L.toArray E l=none) (k:Region.ready md L.toArray l=[i,j]) (m:L[i]?=some o) (c:L[j]?=some b) (n:o.guard=none) (d:b.guard=none) (p:E.contains i=true) (e:E.contains j=true)
  (h:∀K:Value→World→Prop,(∀v w',C w'→kh P md L.toArray C E Q f (l.setIfInBounds i true) (a.put o.dst v) w'→K v w')→cT P o a w K)
  (q:∀K:Value→World→Prop,(∀v w',C w'→kh P md L.toArray C E Q f (l.setIfInBounds j true) (a.put b.dst v) w'→K v w')→cT P b a w K):kh P md L.toArray C E Q (f+1) l a w:=by
 unfold kh
 rw[g,k]
 simp only[aY,List.not_mem_nil,or_false,forall_eq_or_imp,forall_eq]
 exact⟨rR m n p h,rR c d e q⟩
end
end Go.Proofs.YtpgmcijdcnnjpaaGreatDoor
