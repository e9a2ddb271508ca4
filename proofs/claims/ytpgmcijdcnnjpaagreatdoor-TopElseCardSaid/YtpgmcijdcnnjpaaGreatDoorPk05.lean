/- Lemmas for it. -/
import Derived.Test.YtpgmcijdcnnjpaaGreatDoorPk04
set_option linter.all false
set_option maxRecDepth 100000
set_option maxHeartbeats 4000000
namespace Go.Proofs.YtpgmcijdcnnjpaaGreatDoor
open Go Go.RowKit
variable {w:World} {b c g n:Nat} {r:Mi} {ns:List aK} {xs:List bm} {A:Option Addr}
abbrev oP:TypeId:=174
def kG(t:TypeId)(w:World)(g:Nat)(o:Ov)(v:Value)(e:Ending)(w':World):Prop:=e=.returned v∧∃r',qN t w' g r' o∧al (fun b=>b=g) w w'
theorem kG.lO{t:TypeId}{w':World}  {o:Ov}{v:Value}{e:Ending}(h:qN t w g r o)(b:e=.returned v)(a:bf w w'):kG t w g o v e w':=⟨b,r,h.ext a,a.any⟩
theorem V0(s:aK)(w:World):Calls Tryz.prog 99 #[S s] w fun e w'=>e=.returned (S s)∧bf w w':=by
 go_enter Tryz.func99,Tryz.ntmps99
 go_wp2_with fail
 go_ret
 exact⟨rfl,al.refl _ _⟩
theorem TB    {o:Ov} (h:qN oP w g r o) (q:o.Small) (K:Nat) (hK:K≤maxLen) (a b:aK) (m:(o.rd a).length≤K) (C:a.length≤maxLen) (D:b.length≤maxLen) (F:aK→aK) (z:∀s,(F s).length≤s.length)
  (A:∀v,bf w v→∀s:aK,s.length≤K→Calls Tryz.prog 99 #[S s] v fun e w'=>e=.returned (S (F s))∧bf v w') :
  Calls Tryz.prog 98 #[pt g,S a,S b,.func (.func 99) #[] #[]] w (kG oP w g (o.two a b F).1 (eT (o.two a b F).2)):=by
 have p:=aj (wh h q a C)
 have k:Hd (o.two a b F=if o.rq a=0 then (o.wr b (F (o.rd a)),o.jJ b (F (o.rd a))) else (o,o.rq a)):=rfl
 have x:=aj (fun v (hv:bf w v)=>s7 (h.ext hv) q b (F (o.rd a)) D (by have:=z (o.rd a);omega))
 have i:=aj (fun v (hv:bf w v)=>A v hv (o.rd a) m)
 generalize o.rq a=f at p k
 generalize o.rd a=t at p k x i
 have H:=aj h
 clear h q A z m hK
 go_enter Tryz.func98,Tryz.ntmps98
 go_wp2_with (first|((first|refine aZ rfl ?_|refine bV (by kernel_rfl) (by kernel_rfl) ?_);(repeat' (first|refine fZ ?_|(refine gd ?_;intro hq)|(refine gg ?_ ?_<;>intro hq)));all_goals (refine ar ?_)))
 refine(p.ou).mono ?_;rintro e n ⟨rfl,d⟩;obtain⟨y,c⟩:∃ξ:X w No,ξ.v=n:=⟨⟨n,(X.here w No).h.ae d⟩,rfl⟩;subst c;have E:=aj d;clear d
 clear p
 by_cases l:f=0
 ·have j:Hd (o.two a b F=(o.wr b (F t),o.jJ b (F t))):=by rw[Hd,k.ou,ab l]
  subst l
  rw[cO]
  clear k
  go_wp2_with (first|((first|refine aZ rfl ?_|refine bV (by kernel_rfl) (by kernel_rfl) ?_);(repeat' (first|refine fZ ?_|(refine gd ?_;intro hq)|(refine gg ?_ ?_<;>intro hq)));all_goals (refine ar ?_)))
  refine(i.ou _ y.h).mono ?_;rintro e n ⟨rfl,d⟩;obtain⟨B,c⟩:∃ξ:X w No,ξ.v=n:=⟨⟨n,y.h.ae d⟩,rfl⟩;subst c;have G:=aj d;clear d
  clear i
  go_wp2_with (first|((first|refine aZ rfl ?_|refine bV (by kernel_rfl) (by kernel_rfl) ?_);(repeat' (first|refine fZ ?_|(refine gd ?_;intro hq)|(refine gg ?_ ?_<;>intro hq)));all_goals (refine ar ?_)))
  refine(x.ou _ B.h).mono ?_
  rintro e u ⟨rfl,d⟩
  have I:=aj d
  clear d x
  go_wp2_with (first|((first|refine aZ rfl ?_|refine bV (by kernel_rfl) (by kernel_rfl) ?_);(repeat' (first|refine fZ ?_|(refine gd ?_;intro hq)|(refine gg ?_ ?_<;>intro hq)));all_goals (refine ar ?_)))
  go_ret
  obtain⟨J,L,M⟩:=I.ou
  rw[j.ou]
  exact⟨rfl,J,L,B.h.any.trans M fun _ _ h=>h⟩
 ·have j:Hd (o.two a b F=(o,f)):=by rw[Hd,k.ou,aa l]
  have N:=aj (bS l)
  rw[bS l]
  clear k l
  go_wp2_with (first|((first|refine aZ rfl ?_|refine bV (by kernel_rfl) (by kernel_rfl) ?_);(repeat' (first|refine fZ ?_|(refine gd ?_;intro hq)|(refine gg ?_ ?_<;>intro hq)));all_goals (refine ar ?_)))
  go_ret
  rw[j.ou]
  exact kG.lO H.ou (by rw[N.ou];rfl) y.h
theorem MH    {o:Ov} (h:qN oP w g r o) (q:o.Small) (K:Nat) (hK:K≤maxLen) (a b:aK) (m:(o.rd a).length≤K) (C:a.length≤maxLen) (D:b.length≤maxLen) (F:aK→aK) (z:∀s,(F s).length≤s.length)
  (A:∀v,bf w v→∀s:aK,s.length≤K→Calls Tryz.prog 100 #[S s] v fun e w'=>e=.returned (S (F s))∧bf v w') :
  Calls Tryz.prog 98 #[pt g,S a,S b,.func (.func 100) #[] #[]] w (kG oP w g (o.two a b F).1 (eT (o.two a b F).2)):=by
 have p:=aj (wh h q a C)
 have k:Hd (o.two a b F=if o.rq a=0 then (o.wr b (F (o.rd a)),o.jJ b (F (o.rd a))) else (o,o.rq a)):=rfl
 have x:=aj (fun v (hv:bf w v)=>s7 (h.ext hv) q b (F (o.rd a)) D (by have:=z (o.rd a);omega))
 have i:=aj (fun v (hv:bf w v)=>A v hv (o.rd a) m)
 generalize o.rq a=f at p k
 generalize o.rd a=t at p k x i
 have H:=aj h
 clear h q A z m hK
 go_enter Tryz.func98,Tryz.ntmps98
 go_wp2_with (first|((first|refine aZ rfl ?_|refine bV (by kernel_rfl) (by kernel_rfl) ?_);(repeat' (first|refine fZ ?_|(refine gd ?_;intro hq)|(refine gg ?_ ?_<;>intro hq)));all_goals (refine ar ?_)))
 refine(p.ou).mono ?_;rintro e n ⟨rfl,d⟩;obtain⟨y,c⟩:∃ξ:X w No,ξ.v=n:=⟨⟨n,(X.here w No).h.ae d⟩,rfl⟩;subst c;have E:=aj d;clear d
 clear p
 by_cases l:f=0
 ·have j:Hd (o.two a b F=(o.wr b (F t),o.jJ b (F t))):=by rw[Hd,k.ou,ab l]
  subst l
  rw[cO]
  clear k
  go_wp2_with (first|((first|refine aZ rfl ?_|refine bV (by kernel_rfl) (by kernel_rfl) ?_);(repeat' (first|refine fZ ?_|(refine gd ?_;intro hq)|(refine gg ?_ ?_<;>intro hq)));all_goals (refine ar ?_)))
  refine(i.ou _ y.h).mono ?_;rintro e n ⟨rfl,d⟩;obtain⟨B,c⟩:∃ξ:X w No,ξ.v=n:=⟨⟨n,y.h.ae d⟩,rfl⟩;subst c;have G:=aj d;clear d
  clear i
  go_wp2_with (first|((first|refine aZ rfl ?_|refine bV (by kernel_rfl) (by kernel_rfl) ?_);(repeat' (first|refine fZ ?_|(refine gd ?_;intro hq)|(refine gg ?_ ?_<;>intro hq)));all_goals (refine ar ?_)))
  refine(x.ou _ B.h).mono ?_
  rintro e u ⟨rfl,d⟩
  have I:=aj d
  clear d x
  go_wp2_with (first|((first|refine aZ rfl ?_|refine bV (by kernel_rfl) (by kernel_rfl) ?_);(repeat' (first|refine fZ ?_|(refine gd ?_;intro hq)|(refine gg ?_ ?_<;>intro hq)));all_goals (refine ar ?_)))
  go_ret
  obtain⟨J,L,M⟩:=I.ou
  rw[j.ou]
  exact⟨rfl,J,L,B.h.any.trans M fun _ _ h=>h⟩
 ·have j:Hd (o.two a b F=(o,f)):=by rw[Hd,k.ou,aa l]
  have N:=aj (bS l)
  rw[bS l]
  clear k l
  go_wp2_with (first|((first|refine aZ rfl ?_|refine bV (by kernel_rfl) (by kernel_rfl) ?_);(repeat' (first|refine fZ ?_|(refine gd ?_;intro hq)|(refine gg ?_ ?_<;>intro hq)));all_goals (refine ar ?_)))
  go_ret
  rw[j.ou]
  exact kG.lO H.ou (by rw[N.ou];rfl) y.h
theorem Pb    {o:Ov} (h:qN oP w g r o) (x:o.Small) (K:Nat) (hK:K≤maxLen) (a b:aK) (m:(o.rd a).length≤K) (D:a.length≤maxLen) (E:b.length≤maxLen) (F:aK→aK) (A:∀s,(F s).length≤s.length) (p:Nat)
  (B:∀v,bf w v→∀s:aK,s.length≤K→Calls Tryz.prog 101 #[S s,.pointer (some ⟨p,0,none⟩)] v fun e w'=>e=.returned (S (F s))∧bf v w') :
  Calls Tryz.prog 98 #[pt g,S a,S b,.func (.func 101) #[] #[.pointer (some ⟨p,0,none⟩)]] w (kG oP w g (o.two a b F).1 (eT (o.two a b F).2)):=by
 have q:=aj (wh h x a D)
 have k:Hd (o.two a b F=if o.rq a=0 then (o.wr b (F (o.rd a)),o.jJ b (F (o.rd a))) else (o,o.rq a)):=rfl
 have y:=aj (fun v (hv:bf w v)=>s7 (h.ext hv) x b (F (o.rd a)) E (by have:=A (o.rd a);omega))
 have i:=aj (fun v (hv:bf w v)=>B v hv (o.rd a) m)
 generalize o.rq a=f at q k
 generalize o.rd a=t at q k y i
 have H:=aj h
 clear h x B A m hK
 go_enter Tryz.func98,Tryz.ntmps98
 go_wp2_with (first|((first|refine aZ rfl ?_|refine bV (by kernel_rfl) (by kernel_rfl) ?_);(repeat' (first|refine fZ ?_|(refine gd ?_;intro hq)|(refine gg ?_ ?_<;>intro hq)));all_goals (refine ar ?_)))
 refine(q.ou).mono ?_;rintro e n ⟨rfl,d⟩;obtain⟨z,c⟩:∃ξ:X w No,ξ.v=n:=⟨⟨n,(X.here w No).h.ae d⟩,rfl⟩;subst c;have G:=aj d;clear d
 clear q
 by_cases l:f=0
 ·have j:Hd (o.two a b F=(o.wr b (F t),o.jJ b (F t))):=by rw[Hd,k.ou,ab l]
  subst l
  rw[cO]
  clear k
  go_wp2_with (first|((first|refine aZ rfl ?_|refine bV (by kernel_rfl) (by kernel_rfl) ?_);(repeat' (first|refine fZ ?_|(refine gd ?_;intro hq)|(refine gg ?_ ?_<;>intro hq)));all_goals (refine ar ?_)))
  refine(i.ou _ z.h).mono ?_;rintro e n ⟨rfl,d⟩;obtain⟨C,c⟩:∃ξ:X w No,ξ.v=n:=⟨⟨n,z.h.ae d⟩,rfl⟩;subst c;have I:=aj d;clear d
  clear i
  go_wp2_with (first|((first|refine aZ rfl ?_|refine bV (by kernel_rfl) (by kernel_rfl) ?_);(repeat' (first|refine fZ ?_|(refine gd ?_;intro hq)|(refine gg ?_ ?_<;>intro hq)));all_goals (refine ar ?_)))
  refine(y.ou _ C.h).mono ?_
  rintro e u ⟨rfl,d⟩
  have J:=aj d
  clear d y
  go_wp2_with (first|((first|refine aZ rfl ?_|refine bV (by kernel_rfl) (by kernel_rfl) ?_);(repeat' (first|refine fZ ?_|(refine gd ?_;intro hq)|(refine gg ?_ ?_<;>intro hq)));all_goals (refine ar ?_)))
  go_ret
  obtain⟨L,M,N⟩:=J.ou
  rw[j.ou]
  exact⟨rfl,L,M,C.h.any.trans N fun _ _ h=>h⟩
 ·have j:Hd (o.two a b F=(o,f)):=by rw[Hd,k.ou,aa l]
  have O:=aj (bS l)
  rw[bS l]
  clear k l
  go_wp2_with (first|((first|refine aZ rfl ?_|refine bV (by kernel_rfl) (by kernel_rfl) ?_);(repeat' (first|refine fZ ?_|(refine gd ?_;intro hq)|(refine gg ?_ ?_<;>intro hq)));all_goals (refine ar ?_)))
  go_ret
  rw[j.ou]
  exact kG.lO H.ou (by rw[O.ou];rfl) z.h
theorem Sg   {o:Ov}(h:qN oP w g r o)(i:o.Small)(a:aK)(j:a.length≤maxLen) :
  Calls Tryz.prog 104 #[pt g,S a] w fun e w'=>e=.returned (eT (o.wX a))∧bf w w':=by
 have d:=aj (wh h i a j)
 have b:Hd (o.wX a=if o.rq a=0 then (if o.rd a==[] then 7 else 0) else o.rq a):=rfl
 generalize o.rq a=f at d b
 generalize o.rd a=t at d b
 clear h i
 go_enter Tryz.func104,Tryz.ntmps104
 go_wp2_with fail
 refine lL (X.here w No) (d.ou) fun ξ1 Hξ1=>?_
 clear d
 by_cases c:f=0
 ·subst c
  obtain⟨e,k⟩:∃e,(t==([]:aK))=e:=⟨_,rfl⟩
  rw[k] at b
  rw[cO]
  cases e <;>
  ·go_wp2_with fail
   go_ret
   exact⟨by rw[b.ou];rfl,ξ1.h⟩
 ·rw[bS c]
  have l:Hd (eT (o.wX a)=E f):=by rw[Hd,b.ou,aa c,bS c]
  clear c b
  go_wp2_with fail
  go_ret
  exact⟨by rw[l.ou];rfl,ξ1.h⟩
theorem Ov.Ah(o:Ov)(n:aK)(ns:List aK)(s:aK):o.j6 (n::ns) s=if o.rq n=0 then o.j6 ns (s++o.rd n) else ([],o.rq n):=rfl
theorem Ss   {o:Ov}(h:qN oP w g r o)(D:o.Small)(O:o.Tx)(b:aK)(P:b.length≤maxLen){B:Option Addr}{m d:Nat} (Q:di cI w B m ns)(hm:m≤10000)(p:∀x∈ns,x.length≤maxLen) :
  Calls Tryz.prog 103 #[pt g,S b,.slice B m d] w (kG oP w g (o.join b ns).1 (eT (o.join b ns).2)):=by
 have A:Hd (o.join b ns=if (o.j6 ns []).2=0 then (o.wr b (o.j6 ns []).1,o.jJ b (o.j6 ns []).1) else (o,(o.j6 ns []).2)):=rfl
 have E:=aj (fun v (hv:bf w v) (a:aK) (ha:a.length≤maxLen)=>wh (h.ext hv) D a ha)
 have F:=aj (fun v (hv:bf w v) (s:aK) (G:s.length≤maxLen)=>s7 (h.ext hv) D b s P G)
 have I:=aj (Ov.If O)
 have H:=aj h
 have J:=aj p
 clear h D O P p
 go_enter Tryz.func103,Tryz.ntmps103
 go_wp2_with fail
 go_loopw [7,14] (fun t i wr=>∃j:Nat,j≤m∧i=.int .i64 j∧∃c:aK,t=S c∧c.length≤1000*j∧o.j6 ns []=o.j6 (ns.drop j) c∧∃ξ:X w No,wr=ξ.v) (fun _ i _=>m-(intOf i).toNat)
 case atStart=>exact⟨0,au _,rfl,[],rfl,aq _,rfl,X.here _ _,rfl⟩
 case round=>
  obtain⟨j,hj,rfl,c,rfl,W,R,ξ,rfl⟩:=hrel
  have C:=aj R
  clear R
  by_cases K:j<m
  ·obtain⟨b',o',x,rfl,L,c0⟩:=dq Q K
   have q:Hd (ns.drop j=x::ns.drop (j+1)):=by
    obtain⟨G,rfl⟩:=aw.1 L
    exact cB G
   have k:Hd (o.j6 ns []=if o.rq x=0 then o.j6 (ns.drop (j+1)) (c++o.rd x) else ([],o.rq x)):=by rw[Hd,C.ou,q.ou,Ov.Ah]
   have y:=J.ou x (ah L)
   have M:=I.ou x
   have z:=aj (E.ou _ ξ.h x y)
   generalize o.rq x=f at z k
   generalize o.rd x=t at z k M
   clear L y q C
   go_wp2_with fail
   refine lL ξ (z.ou) fun ξ1 Hξ1=>?_
   by_cases l:f=0
   ·have N:Hd (o.j6 ns []=o.j6 (ns.drop (j+1)) (c++t)):=by rw[Hd,k.ou,ab l]
    subst l
    rw[cO]
    clear k z
    go_wp2_with fail
    go_roundw
    case rel=>exact⟨j+1,by omega,by go_num,c++t,rfl,by rw[af];omega,N.ou,ξ1,rfl⟩
    case measure=>simp[intOf];omega
   ·have n:Hd (o.join b ns=(o,f)):=by
     rw[Hd,A.ou,k.ou,aa l]
     exact aa l
    have Y:=aj (bS l)
    rw[bS l]
    clear A l k z
    go_wp2_with fail
    go_ret
    rw[n.ou]
    exact kG.lO H.ou (by rw[Y.ou];rfl) ξ1.h
  ·have T:ns.drop j=[]:=dR (by rw[Q.1];omega)
   have n:Hd (o.join b ns=(o.wr b c,o.jJ b c)):=by
    rw[Hd,A.ou,C.ou,T]
    try rfl
   have U:=aj (F.ou _ ξ.h c (by unfold maxLen;omega))
   clear A C T
   go_wp2_with fail
   refine U.ou.mono ?_
   rintro e u ⟨rfl,V⟩
   have Z:=aj V
   clear V U
   go_wp2_with fail
   go_ret
   obtain⟨r',h1,h2⟩:=Z.ou
   rw[n.ou]
   exact⟨rfl,r',h1,ξ.h.any.trans h2 fun _ _ h=>h⟩
theorem NB(c:UInt8)(s:aK):Lib.count s [c]≤s.length:=by
 have a:=(n9 c _ s (aq _)).2
 have b:=oG c s
 omega
theorem Tf(x y:UInt8)(s:aK):sw [x] [y] s=s.map fun c=>if c=x then y else c:=by
 unfold sw
 refine iP fun c _=>?_
 by_cases h:c=x
 ·simp[h]
 ·rw[aa h,aa (by simpa using h)]
theorem Td (j:Ml w){p o:Nat}{q:List aK}(u:Cs w p 44 #[.slice (some ⟨b,o,none⟩) n c])(r:di cI w (some ⟨b,o,none⟩) n q)(C:n=5){x y:UInt8}(A:q[3]?=some [x])(B:q[4]?=some [y])(s:aK)(D:s.length≤1000) :
  Calls Tryz.prog 101 #[S s,.pointer (some ⟨p,0,none⟩)] w fun e w'=>e=.returned (S (sw [x] [y] s))∧bf w w':=by
 have L:∀ξ:X w No,ξ.v.cell? ⟨b,o+3,none⟩=some (S [x]):=by
  obtain⟨E,F,z,d,a,t⟩:=dq r (k:=3) (by omega)
  injection d with d
  injection d with f g
  subst f;subst g
  rw[A] at a
  injection a with a
  subst a
  exact t
 have M:∀ξ:X w No,ξ.v.cell? ⟨b,o+4,none⟩=some (S [y]):=by
  obtain⟨E,F,z,d,a,t⟩:=dq r (k:=4) (by omega)
  injection d with d
  injection d with f g
  subst f;subst g
  rw[B] at a
  injection a with a
  subst a
  exact t
 have N:∀ξ:X w No,ξ.v.cell? ⟨p,0,none⟩=some (.slice (some ⟨b,o,none⟩) n c):=u.x id 0
 have G:Hd (∀v,bf w v→Calls Tryz.prog 102 #[S s,S [x],S [y]] v fun e w'=>e=.returned (S (sw [x] [y] s))∧bf v w'):=fun v hv=>by
  obtain⟨m,j⟩:=j.ext hv
  have H:=NB x s
  refine(Tryz.strings_ReplaceAll ⟨s.toArray⟩ ⟨#[x]⟩ ⟨#[y]⟩ m v (iZ D (by omega)) j (by show 1≤1;omega) ?_).mono ?_
  ·have f:(⟨s.toArray⟩:ByteArray).size=s.length:=by simp[ByteArray.size]
   have g:Lib.countB ⟨s.toArray⟩ ⟨#[x]⟩=Lib.count s [x]:=rfl
   have I:(⟨#[y]⟩:ByteArray).size=1:=rfl
   rw[f,g,I]
   omega
  ·rintro e w' ⟨rfl,J⟩
   refine⟨?_,al.below J⟩
   rw[Tf,←yy]
 subst C
 clear u r A B j
 go_enter Tryz.func101,Tryz.ntmps101
 go_wp2_with fail
 refine aV [7] 100 (Cl w No) (by kernel_rfl) (by kernel_rfl) (Cl.of (al.refl _ _).drew) ?_
 obtain⟨l,i⟩:∃l:X w No,l.v=w.drew:=⟨⟨_,(al.refl _ _).drew⟩,rfl⟩
 rw[←i]
 clear i
 refine dH ?_
 (refine bQ ?_;intro K hK);refine kF l (G.ou _ l.h) hK fun ξ1 Hξ1=>?_;clear hK K;refine bj ?_;refine bK ?_
 refine ar ?_
 go_wp2_with fail
 go_ret
 exact⟨rfl,ξ1.h⟩
theorem zM(c:UInt8):∀(s:aK),∀x∈iG c s,x.length≤s.length
 | [],x,h=>by simp[iG] at h;subst h;simp
 | y::s,x,h=>by
  have ih:=zM c s
  rw[td] at h
  split at h
  ·rcases aY.1 h with rfl|h
   ·simp
   ·have:=ih x h;simp;omega
  ·cases hs:iG c s with
   | nil=>exact absurd hs (rH c s)
   | cons a l=>
    rw[hs] at h ih
    rcases aY.1 h with rfl|h
    ·have:=ih a bO;simp;omega
    ·have:=ih x (aE _ h);simp;omega
theorem Lw:iG 32 y7=[y7]:=by decide
theorem mI{a:aK}{i:Nat}{x:aK}(h:(iG 32 a)[i]?=some x):wd a i=x:=by unfold wd;rw[aL,h];rfl
theorem QD(s:aK):s.reverse.length≤s.length:=by simp
theorem Tn(x y s:aK):(sw x y s).length≤s.length:=by simp[sw]
theorem TQ(a:aK) (hm:Ml w)  {o:Ov}(h:qN oP w g r o)(hs:o.Small)(a6:∀k,(o.rd k).length≤maxLen)(ht:wd a 0=AD∨o.Tx)(hc:a.length≤1000) :
  Calls Tryz.prog 60 #[pt g,S a] w (kG oP w g (o.run a).1 (eT (o.run a).2)):=by
 have aD:=aj (Ji a (by omega) 32 hm)
 have HM:=aj hm
 have H:=aj h
 have V:=aj hs
 have a0:Hd (∀{x:aK},wd a 0=x→x≠AD→o.Tx):=fun P M=>ht.resolve_left (fun h3=>M (P.symm.trans h3))
 have bg:=aj a6
 clear a6
 have bw:=h.cs.lt
 obtain⟨Y,W⟩:∃Y,Y=iG 32 a:=⟨_,rfl⟩
 have a7:∀x∈Y,x.length≤1000:=fun x hx=>by rw[W] at hx;have:=zM 32 a x hx;omega
 have a8:Y≠[]:=by rw[W];exact rH _ _
 have ao:1≤Y.length:=by cases Y with|nil=>exact absurd rfl a8|cons _ _=>simp
 have bi:Y.length≤1001:=by rw[W];have:=oG 32 a;omega
 rw[←W] at aD
 have B:=aj W
 have F:=aj a7
 clear hm h hs ht W a7 a8
 go_enter Tryz.func60,Tryz.ntmps60
 go_wp2_with fail
 refine(aD.ou).mono ?_;rintro e uu ⟨A,c,rfl,hf⟩;obtain⟨ξ1,a9⟩:∃ξ:X w No,ξ.v=uu:=⟨⟨uu,(X.here w No).h.ae hf.ext⟩,rfl⟩;subst a9;have bk:=aj hf.ext;have F1:=aj hf;clear hf
 clear aD
 obtain⟨b,rest,rfl,_,_,_,bn,bx⟩:=kU F1.ou.own ao (by decide)
 have bo:=F1.ou.new b rfl
 have Z:=F1.ou.row (by decide)
 obtain⟨n,hn⟩:∃n,n=Y.length:=⟨_,rfl⟩
 go_upto_region 2 with fail
 rw[←hn] at Z ao bi bn ⊢
 obtain⟨p,hp⟩:∃p,p=ξ1.v.heap.size:=⟨_,rfl⟩
 obtain⟨m,ac⟩:∃u,u=ξ1.v.alloc (.cells #[.slice (some ⟨b,0,none⟩) n c] 44):=⟨_,rfl⟩
 have HP:Hd (Cs m p 44 #[.slice (some ⟨b,0,none⟩) n c]):=by rw[ac,hp];exact Cs.new _ _ _
 have O:Hd (bf w m):=by rw[ac];exact ξ1.h.alloc _
 have HR:Hd (di cI m (some ⟨b,0,none⟩) n Y):=by rw[ac];exact Z.ext ((al.refl No _).alloc _)
 have bb:p≠g:=by have:=ξ1.h.size;omega
 have bc:b≠g:=by omega
 rw[←ac,←hp]
 have HN:=aj hn
 clear ac hp hn Z bo F1 bk
 obtain⟨G,hG⟩:∃G:Nat→Prop,G=fun b=>b=g:=⟨_,rfl⟩
 have c0:∀ξ:X m G,ξ.v.cell? ⟨p,0,none⟩=some (.slice (some ⟨b,0,none⟩) n c):=HP.ou.x (by rw[hG];exact bb) 0
 have I:Hd (∀k s,Y[k]?=some s→∀ξ:X m G,ξ.v.cell? ⟨b,k,none⟩=some (S s)):=fun k s hk ξ=>by
  have bp:k<n:=by rw[HN.ou];exact(aw.1 hk).1
  obtain⟨b',o',z,he,hz,a1⟩:=dq HR.ou bp
  injection he with he
  injection he with e1 e2
  subst e1;subst e2
  rw[hk] at hz
  injection hz with hz
  subst hz
  have:=a1 (X.here m No)
  rw[bX] at this
  have bs:=World.block_lt_of_cell? _ _ this
  exact(ξ.h.cell (p:=⟨b,k,none⟩) bs (by rw[hG];exact bc)).trans this
 obtain⟨ζ,hζ⟩:∃ζ:X m G,ζ.v=m:=⟨X.here _ _,rfl⟩
 rw[←hζ]
 have HZ:Hd (∀v,bf ζ.v v→bf m v):=fun v hv=>by rw[←hζ];exact hv
 have E:Hd (bf m ζ.v):=by rw[hζ];exact al.refl _ _
 have ag:=aj hG
 clear hζ bb bc hG
 obtain⟨w0,T,rfl⟩:∃w0 T,Y=w0::T:=by
  cases Y with
  | nil=>rw[HN.ou] at ao;simp at ao
  | cons w0 T=>exact⟨w0,T,rfl⟩
 have d0:=I.ou 0 w0 rfl
 have q:Hd (wd a 0=w0):=mI (by rw[←B.ou];rfl)
 have J:Hd (nw a=n):=by rw[Hd,nw,←B.ou,←HN.ou]
 have L:Hd (w0≠y7→(a==y7)=false):=fun h=>by
  rw[bl]
  rintro rfl
  have:=B.ou
  rw[Lw] at this
  injection this with this
  exact h this
 by_cases h0:w0=Nq
 ·subst h0
  have ai:=L.ou (by decide)
  clear L
  by_cases D:2<n
  ·obtain⟨w1,i,r,rfl⟩:∃w1 i r,T=w1::i::r:=by
    have l:=HN.ou
    simp only[an] at l
    match T,l with
    | w1::i::r,_=>exact⟨w1,i,r,rfl⟩
    | [],l=>simp at l<;>omega
    | [_],l=>simp at l<;>omega
   have d1:=I.ou 1 w1 rfl
   have N:Hd (wd a 1=w1):=mI (by rw[←B.ou];rfl)
   have ak:=F.ou w1 (by simp)
   have d2:=I.ou 2 i rfl
   have U:Hd (wd a 2=i):=mI (by rw[←B.ou];rfl)
   have ap:=F.ou i (by simp)
   have d:Hd (o.run a=(o.wr w1 (kI a),o.jJ w1 (kI a))):=by
    unfold Hd Ov.run
    rw[q.ou,J.ou]
    rw[ab rfl];rw[ab D,N.ou]
   have bu:(kI a).length≤maxLen:=by unfold kI maxLen;rw[be];omega
   have CS:Hd (∀v,bf m v→Calls Tryz.prog 97 #[S a,S [32],.int .i64 3] v fun e w'=>∃A' c',e=.returned (.slice A' 3 c')∧di cI w' A' 3 [Nq,w1,kI a]∧bf v w'):=fun v hv=>by
    have:=Ot (by omega) 32 B.ou.symm (HM.ou.ext (O.ou.ae hv))
    rw[show kI a=a.drop (List.length Nq+List.length w1+2) by unfold kI;rw[q.ou,N.ou]]
    exact this
   have CW:Hd (∀v,bf m v→Calls Tryz.prog 96 #[pt g,S w1,S (kI a)] v (kG oP v g (o.wr w1 (kI a)) (eT (o.jJ w1 (kI a))))):=fun v hv=>s7 (H.ou.ext (O.ou.ae hv)) V.ou w1 (kI a) (by unfold maxLen;omega) bu
   go_upto_region 3 with fail
   refine aV [5,7,8] 100 (Cl m G) (by kernel_rfl) (by kernel_rfl) (Cl.of ζ.h.drew) ?_
   obtain⟨Q,t⟩:∃Q:X m G,Q.v=ζ.v.drew:=⟨⟨_,ζ.h.drew⟩,rfl⟩
   have C:Hd (bf m Q.v):=by rw[t];exact E.ou.drew
   rw[←t]
   clear t
   refine dH ?_
   (refine bQ ?_;intro K hK)
   refine(CS.ou _ C.ou).mono ?_
   rintro e u1 ⟨A',c',rfl,av,hx⟩
   obtain⟨b',o',z,rfl,hz,bd⟩:=dq av (k:=2) (by omega)
   obtain rfl:z=kI a:=by injection hz with hz;exact hz.symm
   have f2:u1.cell? ⟨b',o'+2,none⟩=some (S (kI a)):=bd (X.here _ _)
   have am:Hd (bf m u1):=C.ou.ae hx
   refine⟨_,rfl,hK _ _ (fun _=>Cl.of am.ou.any) ?_⟩
   clear hK K av bd hx
   obtain⟨μ1,rfl⟩:∃ξ:X m G,u1=ξ.v:=⟨⟨u1,am.ou.any⟩,rfl⟩
   refine bj ?_
   refine dH ?_
   (refine bQ ?_;intro K hK)
   refine hK _ _ (fun _=>⟨μ1,rfl⟩) ?_
   clear hK K f2
   refine bj ?_
   (refine bQ ?_;intro K hK)
   refine(CW.ou _ am.ou).mono ?_
   rintro e u ⟨rfl,r',P,M⟩
   have HH:=aj P
   have HO:=aj M
   have R:Hd (al G m u):=by rw[Hd,ag.ou];exact am.ou.any.trans M fun _ _ h=>h
   refine⟨_,rfl,hK _ _ (fun _=>Cl.of R.ou) ?_⟩
   clear hK K P M
   refine bj ?_
   refine dH ?_
   refine ar ?_
   go_wp2_with fail
   go_ret
   rw[d.ou]
   exact⟨rfl,r',HH.ou,(O.ou.ae am.ou).any.trans HO.ou fun _ _ h=>h⟩
  ·have d:Hd (o.run a=(o,4)):=by
    unfold Hd Ov.run
    rw[q.ou,J.ou]
    rw[ab rfl];rw[aa D]
   go_wp2_with fail
   go_ret
   rw[d.ou]
   exact kG.lO H.ou rfl (O.ou.ae E.ou)
 by_cases P:w0=MA
 ·subst P
  have ai:=L.ou (by decide)
  clear L
  by_cases D:n=3
  ·subst D
   obtain⟨w1,i,r,rfl⟩:∃w1 i r,T=w1::i::r:=by
    have l:=HN.ou
    simp only[an] at l
    match T,l with
    | w1::i::r,_=>exact⟨w1,i,r,rfl⟩
    | [],l=>simp at l<;>omega
    | [_],l=>simp at l<;>omega
   have d1:=I.ou 1 w1 rfl
   have N:Hd (wd a 1=w1):=mI (by rw[←B.ou];rfl)
   have ak:=F.ou w1 (by simp)
   have d2:=I.ou 2 i rfl
   have U:Hd (wd a 2=i):=mI (by rw[←B.ou];rfl)
   have ap:=F.ou i (by simp)
   have d:Hd (o.run a=o.two w1 i id):=by
    unfold Hd Ov.run
    rw[q.ou,J.ou]
    rw[aa (by decide)];rw[ab rfl];rw[ab rfl,N.ou,U.ou]
   have CW:Hd (∀v,bf m v→Calls Tryz.prog 98 #[pt g,S w1,S i,.func (.func 99) #[] #[]] v (kG oP v g (o.two w1 i id).1 (eT (o.two w1 i id).2))):=fun v hv=>TB (H.ou.ext (O.ou.ae hv)) V.ou 1000 (by unfold maxLen;omega) w1 i (Ov.If (a0.ou q.ou (by decide)) w1) (by unfold maxLen;omega) (by unfold maxLen;omega) id (fun s=>aq _) (fun v _ s _=>V0 s v)
   go_upto_region 5 with fail
   refine aV [7] 100 (Cl m G) (by kernel_rfl) (by kernel_rfl) (Cl.of ζ.h.drew) ?_
   obtain⟨Q,t⟩:∃Q:X m G,Q.v=ζ.v.drew:=⟨⟨_,ζ.h.drew⟩,rfl⟩
   have C:Hd (bf m Q.v):=by rw[t];exact E.ou.drew
   rw[←t]
   clear t
   refine dH ?_
   (refine bQ ?_;intro K hK)
   refine(CW.ou _ C.ou).mono ?_
   rintro e u ⟨rfl,r',P,M⟩
   have HH:=aj P
   have HO:=aj M
   have R:Hd (al G m u):=by rw[Hd,ag.ou];exact C.ou.any.trans M fun _ _ h=>h
   refine⟨_,rfl,hK _ _ (fun _=>Cl.of R.ou) ?_⟩
   clear hK K P M
   refine bj ?_
   refine dH ?_
   refine ar ?_
   go_wp2_with fail
   go_ret
   rw[d.ou]
   exact⟨rfl,r',HH.ou,(O.ou.ae C.ou).any.trans HO.ou fun _ _ h=>h⟩
  ·have d:Hd (o.run a=(o,4)):=by
    unfold Hd Ov.run
    rw[q.ou,J.ou]
    rw[aa (by decide)];rw[ab rfl];rw[aa D]
   have a2:((n:Int)==3)=false:=by rw[bl];omega
   go_wp2_with fail
   go_ret
   rw[d.ou]
   exact kG.lO H.ou rfl (O.ou.ae E.ou)
 by_cases M:w0=AD
 ·subst M
  have ai:=L.ou (by decide)
  clear L
  by_cases D:n=3
  ·subst D
   obtain⟨w1,i,r,rfl⟩:∃w1 i r,T=w1::i::r:=by
    have l:=HN.ou
    simp only[an] at l
    match T,l with
    | w1::i::r,_=>exact⟨w1,i,r,rfl⟩
    | [],l=>simp at l<;>omega
    | [_],l=>simp at l<;>omega
   have d1:=I.ou 1 w1 rfl
   have N:Hd (wd a 1=w1):=mI (by rw[←B.ou];rfl)
   have ak:=F.ou w1 (by simp)
   have d2:=I.ou 2 i rfl
   have U:Hd (wd a 2=i):=mI (by rw[←B.ou];rfl)
   have ap:=F.ou i (by simp)
   have d:Hd (o.run a=o.two w1 i List.reverse):=by
    unfold Hd Ov.run
    rw[q.ou,J.ou]
    rw[aa (by decide)];rw[aa (by decide)];rw[ab rfl];rw[ab rfl,N.ou,U.ou]
   have CW:Hd (∀v,bf m v→Calls Tryz.prog 98 #[pt g,S w1,S i,.func (.func 100) #[] #[]] v (kG oP v g (o.two w1 i List.reverse).1 (eT (o.two w1 i List.reverse).2))):=fun v hv=>MH (H.ou.ext (O.ou.ae hv)) V.ou maxLen (aq _) w1 i (bg.ou w1) (by unfold maxLen;omega) (by unfold maxLen;omega) List.reverse QD (fun v _ s h=>Mv s h v)
   go_upto_region 7 with fail
   refine aV [7] 100 (Cl m G) (by kernel_rfl) (by kernel_rfl) (Cl.of ζ.h.drew) ?_
   obtain⟨Q,t⟩:∃Q:X m G,Q.v=ζ.v.drew:=⟨⟨_,ζ.h.drew⟩,rfl⟩
   have C:Hd (bf m Q.v):=by rw[t];exact E.ou.drew
   rw[←t]
   clear t
   refine dH ?_
   (refine bQ ?_;intro K hK)
   refine(CW.ou _ C.ou).mono ?_
   rintro e u ⟨rfl,r',P,M⟩
   have HH:=aj P
   have HO:=aj M
   have R:Hd (al G m u):=by rw[Hd,ag.ou];exact C.ou.any.trans M fun _ _ h=>h
   refine⟨_,rfl,hK _ _ (fun _=>Cl.of R.ou) ?_⟩
   clear hK K P M
   refine bj ?_
   refine dH ?_
   refine ar ?_
   go_wp2_with fail
   go_ret
   rw[d.ou]
   exact⟨rfl,r',HH.ou,(O.ou.ae C.ou).any.trans HO.ou fun _ _ h=>h⟩
  ·have d:Hd (o.run a=(o,4)):=by
    unfold Hd Ov.run
    rw[q.ou,J.ou]
    rw[aa (by decide)];rw[aa (by decide)];rw[ab rfl];rw[aa D]
   have a2:((n:Int)==3)=false:=by rw[bl];omega
   go_wp2_with fail
   go_ret
   rw[d.ou]
   exact kG.lO H.ou rfl (O.ou.ae E.ou)
 by_cases h3:w0=M8
 ·subst h3
  have ai:=L.ou (by decide)
  clear L
  by_cases D:n=5
  ·subst D
   obtain⟨w1,i,w3,w4,r,rfl⟩:∃w1 i w3 w4 r,T=w1::i::w3::w4::r:=by
    have l:=HN.ou
    simp only[an] at l
    match T,l with
    | w1::i::w3::w4::r,_=>exact⟨w1,i,w3,w4,r,rfl⟩
    | [],l=>simp at l<;>omega
    | [_],l=>simp at l<;>omega
    | [_,_],l=>simp at l<;>omega
    | [_,_,_],l=>simp at l<;>omega
   have d1:=I.ou 1 w1 rfl
   have N:Hd (wd a 1=w1):=mI (by rw[←B.ou];rfl)
   have ak:=F.ou w1 (by simp)
   have d2:=I.ou 2 i rfl
   have U:Hd (wd a 2=i):=mI (by rw[←B.ou];rfl)
   have ap:=F.ou i (by simp)
   have d3:=I.ou 3 w3 rfl
   have a3:Hd (wd a 3=w3):=mI (by rw[←B.ou];rfl)
   have bz:=F.ou w3 (by simp)
   have d4:=I.ou 4 w4 rfl
   have a4:Hd (wd a 4=w4):=mI (by rw[←B.ou];rfl)
   have bA:=F.ou w4 (by simp)
   by_cases h3:w3.length=1
   ·by_cases h4:w4.length=1
    ·obtain⟨x,rfl⟩:∃x,w3=[x]:=List.length_eq_one_iff.1 h3
     obtain⟨y,rfl⟩:∃y,w4=[y]:=List.length_eq_one_iff.1 h4
     have d:Hd (o.run a=o.two w1 i (sw [x] [y])):=by
      unfold Hd Ov.run
      rw[q.ou,J.ou]
      rw[aa (by decide)];rw[aa (by decide)];rw[aa (by decide)];rw[ab rfl]
      rw[a3.ou,a4.ou,ab ⟨rfl,rfl,rfl⟩,N.ou,U.ou]
     have CW:Hd (∀v,bf m v→Calls Tryz.prog 98 #[pt g,S w1,S i,.func (.func 101) #[] #[.pointer (some ⟨p,0,none⟩)]] v (kG oP v g (o.two w1 i (sw [x] [y])).1 (eT (o.two w1 i (sw [x] [y])).2))):=fun v hv=>Pb (H.ou.ext (O.ou.ae hv)) V.ou 1000 (by unfold maxLen;omega) w1 i (Ov.If (a0.ou q.ou (by decide)) w1) (by unfold maxLen;omega) (by unfold maxLen;omega) (sw [x] [y]) (Tn _ _) p (fun u hu s hs=>Td (HM.ou.ext ((O.ou.ae hv).ae hu)) (HP.ou.aP (hv.ae hu) id) (HR.ou.ext (hv.ae hu)) rfl rfl rfl s hs)
     go_upto_region 9 with fail
     refine aV [8] 100 (Cl m G) (by kernel_rfl) (by kernel_rfl) (Cl.of ζ.h.drew) ?_
     obtain⟨Q,t⟩:∃Q:X m G,Q.v=ζ.v.drew:=⟨⟨_,ζ.h.drew⟩,rfl⟩
     have C:Hd (bf m Q.v):=by rw[t];exact E.ou.drew
     rw[←t]
     clear t
     refine dH ?_
     (refine bQ ?_;intro K hK)
     refine(CW.ou _ C.ou).mono ?_
     rintro e u ⟨rfl,r',P,M⟩
     have HH:=aj P
     have HO:=aj M
     have R:Hd (al G m u):=by rw[Hd,ag.ou];exact C.ou.any.trans M fun _ _ h=>h
     refine⟨_,rfl,hK _ _ (fun _=>Cl.of R.ou) ?_⟩
     clear hK K P M
     refine bj ?_
     refine dH ?_
     refine ar ?_
     go_wp2_with fail
     go_ret
     rw[d.ou]
     exact⟨rfl,r',HH.ou,(O.ou.ae C.ou).any.trans HO.ou fun _ _ h=>h⟩
    ·have d:Hd (o.run a=(o,4)):=by
      unfold Hd Ov.run
      rw[q.ou,J.ou]
      rw[aa (by decide)];rw[aa (by decide)];rw[aa (by decide)];rw[ab rfl]
      rw[a3.ou,a4.ou]
      exact aa (fun h=>h4 h.2.2)
     have hx:((w4.length:Int)==1)=false:=by rw[bl];omega
     go_wp2_with fail
     go_ret
     rw[d.ou]
     exact kG.lO H.ou rfl (O.ou.ae E.ou)
   ·have d:Hd (o.run a=(o,4)):=by
     unfold Hd Ov.run
     rw[q.ou,J.ou]
     rw[aa (by decide)];rw[aa (by decide)];rw[aa (by decide)];rw[ab rfl]
     rw[a3.ou,a4.ou]
     exact aa (fun h=>h3 h.2.1)
    have hx:((w3.length:Int)==1)=false:=by rw[bl];omega
    go_wp2_with fail
    go_ret
    rw[d.ou]
    exact kG.lO H.ou rfl (O.ou.ae E.ou)
  ·have d:Hd (o.run a=(o,4)):=by
    unfold Hd Ov.run
    rw[q.ou,J.ou]
    rw[aa (by decide)];rw[aa (by decide)];rw[aa (by decide)];rw[ab rfl]
    exact aa (fun h=>D h.1)
   have a2:((n:Int)==5)=false:=by rw[bl];omega
   go_wp2_with fail
   go_ret
   rw[d.ou]
   exact kG.lO H.ou rfl (O.ou.ae E.ou)
 by_cases h4:w0=Nu
 ·subst h4
  have ai:=L.ou (by decide)
  clear L
  by_cases D:2<n
  ·obtain⟨w1,i,r,rfl⟩:∃w1 i r,T=w1::i::r:=by
    have l:=HN.ou
    simp only[an] at l
    match T,l with
    | w1::i::r,_=>exact⟨w1,i,r,rfl⟩
    | [],l=>simp at l<;>omega
    | [_],l=>simp at l<;>omega
   have d1:=I.ou 1 w1 rfl
   have N:Hd (wd a 1=w1):=mI (by rw[←B.ou];rfl)
   have ak:=F.ou w1 (by simp)
   have d2:=I.ou 2 i rfl
   have U:Hd (wd a 2=i):=mI (by rw[←B.ou];rfl)
   have ap:=F.ou i (by simp)
   have d:Hd (o.run a=o.join w1 (i::r)):=by
    unfold Hd Ov.run
    rw[q.ou,J.ou]
    rw[aa (by decide)];rw[aa (by decide)];rw[aa (by decide)];rw[aa (by decide)];rw[ab rfl];rw[ab D,N.ou,←B.ou];rfl
   have av:Hd (∀v,bf m v→di cI v (some ⟨b,2,none⟩) (n-2) (i::r)):=fun v hv=>by
    have h0:=HR.ou.ext hv
    refine⟨by have:=HN.ou;simp only[an] at this ⊢;omega,fun _=>?_⟩
    obtain⟨b',o',he,bv,a1⟩:=h0.2 (by omega)
    injection he with he
    injection he with e1 e2
    subst e1;subst e2
    refine⟨b,2,rfl,bv,fun k x hk j u hu=>?_⟩
    have:=a1 (k+2) x (by simpa using hk) j u hu
    rw[show cI.size=1 from rfl] at this ⊢
    rw[show 2+k*1+j=0+(k+2)*1+j by omega]
    exact this
   have CW:Hd (∀v,bf m v→Calls Tryz.prog 103 #[pt g,S w1,.slice (some ⟨b,2,none⟩) (n-2) (c-2)] v (kG oP v g (o.join w1 (i::r)).1 (eT (o.join w1 (i::r)).2))):=fun v hv=>Ss (H.ou.ext (O.ou.ae hv)) V.ou (a0.ou q.ou (by decide)) w1 (by unfold maxLen;omega) (av.ou v hv) (by omega) (fun x hx=>by have:=F.ou x (aE _ (aE _ hx));unfold maxLen;omega)
   go_upto_region 11 with fail
   refine aV [6] 100 (Cl m G) (by kernel_rfl) (by kernel_rfl) (Cl.of ζ.h.drew) ?_
   obtain⟨Q,t⟩:∃Q:X m G,Q.v=ζ.v.drew:=⟨⟨_,ζ.h.drew⟩,rfl⟩
   have C:Hd (bf m Q.v):=by rw[t];exact E.ou.drew
   rw[←t]
   clear t
   refine dH ?_
   (refine bQ ?_;intro K hK)
   refine(CW.ou _ C.ou).mono ?_
   rintro e u ⟨rfl,r',P,M⟩
   have HH:=aj P
   have HO:=aj M
   have R:Hd (al G m u):=by rw[Hd,ag.ou];exact C.ou.any.trans M fun _ _ h=>h
   refine⟨_,rfl,hK _ _ (fun _=>Cl.of R.ou) ?_⟩
   clear hK K P M
   refine bj ?_
   refine dH ?_
   refine ar ?_
   go_wp2_with fail
   go_ret
   rw[d.ou]
   exact⟨rfl,r',HH.ou,(O.ou.ae C.ou).any.trans HO.ou fun _ _ h=>h⟩
  ·have d:Hd (o.run a=(o,4)):=by
    unfold Hd Ov.run
    rw[q.ou,J.ou]
    rw[aa (by decide)];rw[aa (by decide)];rw[aa (by decide)];rw[aa (by decide)];rw[ab rfl];rw[aa D]
   go_wp2_with fail
   go_ret
   rw[d.ou]
   exact kG.lO H.ou rfl (O.ou.ae E.ou)
 by_cases h5:w0=MB
 ·subst h5
  have ai:=L.ou (by decide)
  clear L
  by_cases D:n=2
  ·subst D
   obtain⟨w1,r,rfl⟩:∃w1 r,T=w1::r:=by
    have l:=HN.ou
    simp only[an] at l
    match T,l with
    | w1::r,_=>exact⟨w1,r,rfl⟩
    | [],l=>simp at l<;>omega
   have d1:=I.ou 1 w1 rfl
   have N:Hd (wd a 1=w1):=mI (by rw[←B.ou];rfl)
   have ak:=F.ou w1 (by simp)
   have d:Hd (o.run a=(o,o.wX w1)):=by
    unfold Hd Ov.run
    rw[q.ou,J.ou]
    rw[aa (by decide)];rw[aa (by decide)];rw[aa (by decide)];rw[aa (by decide)];rw[aa (by decide)];rw[ab rfl];rw[ab rfl,N.ou]
   have CW:Hd (∀v,bf m v→Calls Tryz.prog 104 #[pt g,S w1] v fun e w'=>e=.returned (eT (o.wX w1))∧bf v w'):=fun v hv=>Sg (H.ou.ext (O.ou.ae hv)) V.ou w1 (by unfold maxLen;omega)
   go_wp2_with fail
   refine(CW.ou _ E.ou).mono ?_
   rintro e u ⟨rfl,hu⟩
   have HU:=aj (E.ou.ae hu)
   clear hu
   go_wp2_with fail
   go_ret
   rw[d.ou]
   exact kG.lO H.ou rfl (O.ou.ae HU.ou)
  ·have d:Hd (o.run a=(o,4)):=by
    unfold Hd Ov.run
    rw[q.ou,J.ou]
    rw[aa (by decide)];rw[aa (by decide)];rw[aa (by decide)];rw[aa (by decide)];rw[aa (by decide)];rw[ab rfl];rw[aa D]
   have a2:((n:Int)==2)=false:=by rw[bl];omega
   go_wp2_with fail
   go_ret
   rw[d.ou]
   exact kG.lO H.ou rfl (O.ou.ae E.ou)
 have q0:(w0==Nq)=false:=by simpa using h0
 have q1:(w0==MA)=false:=by simpa using P
 have q2:(w0==AD)=false:=by simpa using M
 have q3:(w0==M8)=false:=by simpa using h3
 have q4:(w0==Nu)=false:=by simpa using h4
 have q5:(w0==MB)=false:=by simpa using h5
 have d:Hd (o.run a=if a=y7 then (o,7) else (o,4)):=by
  unfold Hd Ov.run
  rw[q.ou,aa h0,aa P,aa M,aa h3,aa h4,aa h5]
 clear h0 P M h3 h4 h5 L
 obtain⟨f,hf⟩:∃f,(a==y7)=f:=⟨_,rfl⟩
 have a5:Hd (o.run a=(o,if f then 7 else 4)):=by
  rw[Hd,d.ou]
  cases f with
  | true=>rw[ab (by simpa using hf)];rfl
  | false=>rw[aa (by simpa using hf)];rfl
 clear d
 cases f <;>
 ·go_wp2_with fail
  go_ret
  rw[a5.ou]
  exact kG.lO H.ou rfl (O.ou.ae E.ou)
structure dv where
 targets:List aK
 aN:List aK
 bD:List aK
 ba:Bool
 deriving DecidableEq
structure Hf where
 tA:Option Addr
 tc:Nat
 nA:Option Addr
 nc:Nat
 cA:Option Addr
 cc:Nat
def AE(v:Hf)(g:dv):Array Value:=#[.slice v.tA g.targets.length v.tc,.slice v.nA g.aN.length v.nc,.slice v.cA g.bD.length v.cc,.bool g.ba]
abbrev Rf(v:Hf)(g:dv):Value:=.agg (AE v g)
structure EU (w:World) (v:Hf) (g:dv):Prop where
 t:di cI w v.tA g.targets.length g.targets
 n:di cI w v.nA g.aN.length g.aN
 c:di cI w v.cA g.bD.length g.bD
theorem EU.ext{w u:World}{v:Hf}{g:dv}(h:EU w v g)(a:bf w u):EU u v g:=⟨h.t.ext a,h.n.ext a,h.c.ext a⟩
structure dv.Ku (g:dv):Prop where
 t:g.targets.length≤1000
 n:g.aN.length≤1000
 c:g.bD.length≤1000
 l:∀x∈g.bD,x.length≤1000
def Ov.runs(o:Ov):List aK→Ov×Int
 | []=>(o,0)
 | c::cs=>if (o.run c).2=0 then Ov.runs (o.run c).1 cs else ((o.run c).1,(o.run c).2)
def EW(xs:List bm)(g:dv):Ov:=⟨xs,[],g.aN,g.targets⟩
def i6(xs:List bm)(g:dv):List bm×Int:=
 if ((EW xs g).runs g.bD).2=0 then (if ((EW xs g).runs g.bD).1.own.length<g.targets.length then ([],5) else (((EW xs g).runs g.bD).1.own,0)) else ([],((EW xs g).runs g.bD).2)
theorem Ov.nq(o:Ov)(c:aK)(cs:List aK):o.runs (c::cs)=if (o.run c).2=0 then (o.run c).1.runs cs else ((o.run c).1,(o.run c).2):=rfl
theorem Jy(xs:List bm)(g:dv):(EW xs g).Fit xs g.aN g.targets 0:=⟨rfl,rfl,rfl,by simp[eQ,EW],aq _,fun f hf=>by cases hf⟩
theorem Od{k:aK} (h:∀f∈xs,f.2.length≤maxLen):(ki k xs).length≤maxLen:=by
 unfold ki
 cases hg:dY fk k xs with
 | none=>simp
 | some x=>exact h x (Cc hg)
theorem Ov.Fit.Tu {ts:List aK}{k:Nat}{o:Ov}(h:o.Fit xs ns ts k)(b:∀f∈xs,f.2.length≤maxLen)(a:aK):(o.rd a).length≤maxLen:=by
 unfold Ov.rd
 split
 ·exact aJ (uV h.tx) (by unfold maxLen;omega)
 ·split
  ·split
   ·exact Od (by rw[h.eb];exact b)
   ·simp
  ·simp
theorem T9 (hm:Ml w)   (Q:di br w A n xs)(hn:n≤10000)(hr:eQ fk xs)(V:∀f∈xs,f.2.length≤maxLen){v:Hf}{g:dv}(hg:EU w v g)(H:g.Ku)(W:(∀f∈xs,f.2.length≤1000)∨∀c∈g.bD,wd c 0=AD) :
  Calls Tryz.prog 36 #[.slice A n c,Rf v g] w fun e w'=>∃A' c',e=.returned (.tuple #[.slice A' (i6 xs g).1.length c',eT (i6 xs g).2])∧bR br 54 w w' A' c' (i6 xs g).1:=by
 obtain⟨Y,S,Z,nc,cA,cc⟩:=v
 obtain⟨w0,s⟩:∃w0,w0=w.alloc (.cells (AE ⟨Y,S,Z,nc,cA,cc⟩ g) 47):=⟨_,rfl⟩
 have z:bf w w0:=by rw[s];exact(al.refl No w).alloc _
 have T:Cs w0 w.heap.size 47 (AE ⟨Y,S,Z,nc,cA,cc⟩ g):=by rw[s];exact Cs.new _ _ _
 have d0:∀ξ:X w0 No,ξ.v.cell? ⟨w.heap.size,0,none⟩=some (.slice Y g.targets.length S):=T.x id 0
 have d1:∀ξ:X w0 No,ξ.v.cell? ⟨w.heap.size,1,none⟩=some (.slice Z g.aN.length nc):=T.x id 1
 have d2:∀ξ:X w0 No,ξ.v.cell? ⟨w.heap.size,2,none⟩=some (.slice cA g.bD.length cc):=T.x id 2
 have e0:w0.cell? ⟨w.heap.size,0,none⟩=some (.slice Y g.targets.length S):=T.cell 0
 have e1:w0.cell? ⟨w.heap.size,1,none⟩=some (.slice Z g.aN.length nc):=T.cell 1
 have ac:=aj z
 have HM:=aj (hm.ext z)
 have I:=aj (hg.ext z)
 have a7:=H.t
 have a8:=H.n
 have a9:=H.c
 have aD:=aj H.l
 have E:=aj (Ux (c:=c) (d:=nc) (e:=S) (Q.ext z) I.ou.n I.ou.t hn (by omega) (by omega))
 have a6:=Q.1
 have U:Hd (i6 xs g=if ((EW xs g).runs g.bD).2=0 then (if ((EW xs g).runs g.bD).1.own.length<g.targets.length then ([],5) else (((EW xs g).runs g.bD).1.own,0)) else ([],((EW xs g).runs g.bD).2)):=rfl
 have a0:Hd (∀k o,k≤10000→Ov.Fit xs g.aN g.targets k o→o.Small∧(∀k,(o.rd k).length≤maxLen)∧∀c∈g.bD,wd c 0=AD∨o.Tx):=fun k o hk B=>⟨B.small (by omega) (by omega) (by omega) hk hr,B.Tu V,fun c hc=>W.elim (fun h=>.inr (B.txs h)) fun h=>.inl (h c hc)⟩
 have ag:=aj (Jy xs g)
 obtain⟨F,J⟩:∃F,F=EW xs g:=⟨_,rfl⟩
 have ai:Hd (F=⟨xs,[],g.aN,g.targets⟩):=J
 rw[←J] at U ag
 generalize i6 xs g=R at U ⊢
 clear T z hm hg H Q hr W V J
 unfold AE at s
 show Calls _ _ #[_,.agg #[.slice Y g.targets.length S,.slice Z g.aN.length nc,.slice cA g.bD.length cc,.bool g.ba]] _ _
 go_enter Tryz.func36,Tryz.ntmps36
 go_upto_region 1 with fail
 rw[←s]
 clear s
 go_wp2_with fail
 refine E.ou.mono ?_
 rintro e u ⟨q,r,rfl,ho,K,hq⟩
 rw[←ai.ou] at ho
 have ak:=aj ho
 have HU:Hd (bf w0 u):=K
 clear ho K E ai
 obtain⟨ξ,rfl⟩:∃ξ:X w0 No,u=ξ.v:=⟨⟨u,HU.ou⟩,rfl⟩
 go_wp2_with fail
 go_loopw [20] (fun i wr=>∃j:Nat,j≤g.bD.length∧i=.int .i64 j∧∃r' m,qN oP wr q r' m∧m.Fit xs g.aN g.targets j∧F.runs g.bD=m.runs (g.bD.drop j)∧bf w0 wr) (fun i _=>g.bD.length-(intOf i).toNat)
 case atStart=>exact⟨0,au _,rfl,r,F,ak.ou,ag.ou,rfl,HU.ou⟩
 case round=>
  clear ak HU ξ
  obtain⟨j,hj,rfl,r',m,hO,hF,hJ,hX⟩:=hrel
  have HO:=aj hO
  have HF:=aj hF
  have HJ:=aj hJ
  obtain⟨ξ,rfl⟩:∃ξ:X w0 No,wr=ξ.v:=⟨⟨wr,hX⟩,rfl⟩
  clear hO hF hJ hX
  obtain⟨C,L,M⟩:=a0.ou j m (by omega) HF.ou
  by_cases a1:j<g.bD.length
  ·obtain⟨b,o,x,a2,K,c0⟩:=dq I.ou.c a1
   have am:Hd (g.bD.drop j=x::g.bD.drop (j+1)):=by
    obtain⟨H,rfl⟩:=aw.1 K
    exact cB H
   have ao:=aD.ou x (ah K)
   have p:=aj (TQ x (HM.ou.ext ξ.h) HO.ou C L (M x (ah K)) ao)
   have a:Hd (F.runs g.bD=if (m.run x).2=0 then (m.run x).1.runs (g.bD.drop (j+1)) else ((m.run x).1,(m.run x).2)):=by rw[Hd,HJ.ou,am.ou,Ov.nq]
   have N:=aj (HF.ou.run x)
   generalize m.run x=y at p a N
   obtain⟨o2,f⟩:=y
   dsimp only at p a N
   subst a2
   clear K am ao HJ C L M
   go_wp2_with fail
   refine p.ou.mono ?_
   rintro e u ⟨rfl,r2,Q,h2⟩
   have a3:=aj Q
   have O:Hd (bf w0 u):=ξ.h.trans h2 fun b hb e=>by omega
   clear Q h2 p
   obtain⟨ξ2,rfl⟩:∃ξ:X w0 No,u=ξ.v:=⟨⟨u,O.ou⟩,rfl⟩
   by_cases B:f=0
   ·have a4:Hd (F.runs g.bD=o2.runs (g.bD.drop (j+1))):=by rw[Hd,a.ou,ab B]
    subst B
    rw[cO]
    clear a
    go_wp2_with fail
    go_roundw
    case rel=>exact⟨j+1,by omega,by go_num,r2,o2,a3.ou,N.ou,a4.ou,O.ou⟩
    case measure=>simp[intOf];omega
   ·have ap:Hd (R=([],f)):=by
     rw[Hd,U.ou,a.ou,aa B]
     exact aa B
    have HE:=aj (bS B)
    rw[bS B]
    clear a U B
    go_wp2_with fail
    go_ret2
    rw[ap.ou]
    exact⟨none,0,by rw[HE.ou];rfl,bR.nil _ _ _ _ (ac.ou.ae O.ou)⟩
  ·obtain rfl:j=g.bD.length:=by omega
   have a:Hd (F.runs g.bD=(m,0)):=by rw[Hd,HJ.ou,ju];rfl
   have av:=aj (Vm rfl HO.ou C)
   have a5:=C.own
   have D:Hd (R=if m.own.length<g.targets.length then ([],5) else (m.own,0)):=by
    rw[Hd,U.ou,a.ou]
    exact ab rfl
   clear HJ a U C L M
   go_wp2_with fail
   refine av.ou.mono ?_
   rintro e u ⟨A2,c2,rfl,P⟩
   have F2:=aj (P.from (ac.ou.ae ξ.h))
   obtain⟨ξ3,rfl⟩:∃ξ:X w0 No,u=ξ.v:=⟨⟨u,ξ.h.ae P.ext⟩,rfl⟩
   clear P av
   generalize m.own=ys at F2 a5 D
   by_cases G:ys.length<g.targets.length
   ·rw[ab G] at D
    go_wp2_with fail
    go_ret2
    rw[D.ou]
    exact⟨none,0,rfl,bR.nil _ _ _ _ F2.ou.ext⟩
   ·rw[aa G] at D
    go_wp2_with fail
    go_ret2
    rw[D.ou]
    exact⟨A2,c2,rfl,F2.ou⟩
theorem Rv (b:Ml w)   (d:di br w A n xs)(h:n≤10000)(i:eQ fk xs)(a:∀f∈xs,f.2.length≤1000){v:Hf}{g:dv}(j:EU w v g)(k:g.Ku) :
  Calls Tryz.prog 36 #[.slice A n c,Rf v g] w fun e w'=>∃A' c',e=.returned (.tuple #[.slice A' (i6 xs g).1.length c',eT (i6 xs g).2])∧bR br 54 w w' A' c' (i6 xs g).1:=
 T9 b d h i (fun f hf=>aJ (a f hf) (by unfold maxLen;omega)) j k (.inl a)
structure iT where
 bD:List aK
 aN:List bm
 ou:List bm
def su:iT:=⟨[],[],[]⟩
structure jy where
 cA:Option Addr
 cc:Nat
 nA:Option Addr
 nc:Nat
 oA:Option Addr
 oc:Nat
abbrev pn:TypeId:=145
def vH(v:jy)(r:iT):Array Value:=#[.slice v.cA r.bD.length v.cc,.slice v.nA r.aN.length v.nc,.slice v.oA r.ou.length v.oc]
abbrev vJ(v:jy)(r:iT):Value:=.agg (vH v r)
structure pz (w:World) (v:jy) (r:iT):Prop where
 c:di cI w v.cA r.bD.length r.bD
 n:di br w v.nA r.aN.length r.aN
 o:di br w v.oA r.ou.length r.ou
theorem pz.ext{w u:World}{v:jy}{r:iT}(h:pz w v r)(a:bf w u):pz u v r:=⟨h.c.ext a,h.n.ext a,h.o.ext a⟩
structure iT.Ku (r:iT):Prop where
 c:r.bD.length≤100
 n:r.aN.length≤100
 o:r.ou.length≤100
 lc:∀x∈r.bD,x.length≤10000
 ln:∀x∈r.aN,x.1.length≤10000∧x.2.length≤10000
 lo:∀x∈r.ou,x.1.length≤10000∧x.2.length≤10000
theorem oQ  {x y z:Value}(h:Cs w b pn #[x,y,z]):(loadVar pn ⟨b,0,none⟩).run Tryz.prog w=.ok (.agg #[x,y,z]) w:=by
 have a:=h.cell 0
 have c1:=h.cell 1
 have c:=h.cell 2
 simp only[aB,aQ,aX] at a c1 c
 go_simp
end Go.Proofs.YtpgmcijdcnnjpaaGreatDoor
