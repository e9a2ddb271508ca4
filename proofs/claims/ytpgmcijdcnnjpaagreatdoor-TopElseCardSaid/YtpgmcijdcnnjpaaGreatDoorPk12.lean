/- Lemmas for it. -/
import Derived.Test.YtpgmcijdcnnjpaaGreatDoorPk11
import Derived.Stop.Asserts
import Derived.Test.YtpgmcijdcnnjpaaGreatDoorPk06
import Derived.Lib.SlBytesRow
set_option linter.all false
set_option maxRecDepth 100000
set_option maxHeartbeats 4000000
namespace Go.Proofs.YtpgmcijdcnnjpaaGreatDoor
open Go Go.RowKit
variable {v:vw} {l s:aK} {cp r:Nat} {A:Option Addr} {x0 x1 x2:Value}
structure Ad (w:World) (g t0 n1 t1 n2 n3 n4 n5:Nat) (gs:Array Value) (a b c d:aK):Prop where
 ok:Ra gs t0
 gen:Cs w g qK gs
 tab:Cs w t0 AM #[iW n1,.pointer none,.pointer none,.pointer none,.pointer none]
 c1:Cs w n1 np #[S [],.int .i64 0,S [],.pointer none,.slice (some ⟨t1,0,none⟩) 5 5]
 ct:Cs w t1 AM #[.pointer none,iW n5,iW n3,iW n2,iW n4]
 l2:Cs w n2 np (pB a 8)
 l3:Cs w n3 np (pB b 6)
 l4:Cs w n4 np (pB c 4)
 l5:Cs w n5 np (pB d 2)
section
variable {w u:World} {g t0 n1 t1 n2 n3 n4 n5:Nat} {gs:Array Value} {a b c d:aK}
theorem Ad.ext(h:Ad w g t0 n1 t1 n2 n3 n4 n5 gs a b c d)(e:bf w u):Ad u g t0 n1 t1 n2 n3 n4 n5 gs a b c d:=
 ⟨h.ok,h.gen.aP e id,h.tab.aP e id,h.c1.aP e id,h.ct.aP e id,h.l2.aP e id,h.l3.aP e id,h.l4.aP e id,h.l5.aP e id⟩
theorem Ad.root(h:Ad w g t0 n1 t1 n2 n3 n4 n5 gs a b c d)(x:UInt8):∃m:Nat,gs[6+x.toNat]?=some (.int .u8 m) ∧
  ((m=5∧x≠36)∨(m<5∧x=36∧w.cell? ⟨t0,m,none⟩=some (iW n1))∨(m<5∧x≠36∧w.cell? ⟨t0,m,none⟩=some (.pointer none))):=by
 by_cases e:x=36
 ·subst e;exact⟨0,h.ok.Uo,.inr (.inl ⟨by omega,rfl,h.tab.cell 0⟩)⟩
 by_cases f:x=42
 ·subst f;exact⟨1,h.ok.VS,.inr (.inr ⟨by omega,by decide,h.tab.cell 1⟩)⟩
 by_cases i:x=60
 ·subst i;exact⟨2,h.ok.VN,.inr (.inr ⟨by omega,by decide,h.tab.cell 2⟩)⟩
 by_cases j:x=64
 ·subst j;exact⟨3,h.ok.m64,.inr (.inr ⟨by omega,by decide,h.tab.cell 3⟩)⟩
 by_cases k:x=94
 ·subst k;exact⟨4,h.ok.VG,.inr (.inr ⟨by omega,by decide,h.tab.cell 4⟩)⟩
 ·exact⟨5,h.ok.mo x e f i j k,.inl ⟨rfl,e⟩⟩
theorem Ad.next(h:Ad w g t0 n1 t1 n2 n3 n4 n5 gs a b c d)(x:UInt8):∃m:Nat,gs[6+x.toNat]?=some (.int .u8 m) ∧
  ((m=5∧qS a b c d x=none)∨(m<5∧qS a b c d x=none∧w.cell? ⟨t1,m,none⟩=some (.pointer none)) ∨
   (m<5∧∃k t p,qS a b c d x=some t∧w.cell? ⟨t1,m,none⟩=some (iW k)∧Cs w k np (pB t p)∧(0:Int)<p)):=by
 by_cases l:x=36
 ·subst l;exact⟨0,h.ok.Uo,.inr (.inl ⟨by omega,rfl,h.ct.cell 0⟩)⟩
 by_cases e:x=42
 ·subst e;exact⟨1,h.ok.VS,.inr (.inr ⟨by omega,n5,d,2,rfl,h.ct.cell 1,h.l5,by decide⟩)⟩
 by_cases f:x=60
 ·subst f;exact⟨2,h.ok.VN,.inr (.inr ⟨by omega,n3,b,6,rfl,h.ct.cell 2,h.l3,by decide⟩)⟩
 by_cases i:x=64
 ·subst i;exact⟨3,h.ok.m64,.inr (.inr ⟨by omega,n2,a,8,rfl,h.ct.cell 3,h.l2,by decide⟩)⟩
 by_cases j:x=94
 ·subst j;exact⟨4,h.ok.VG,.inr (.inr ⟨by omega,n4,c,4,rfl,h.ct.cell 4,h.l4,by decide⟩)⟩
 ·exact⟨5,h.ok.mo x l e f i j,.inl ⟨rfl,by unfold qS;rw[aa i,aa f,aa j,aa e]⟩⟩
end
def LkR(w:World)(g n1:Nat)(v:vw)(s:aK)(x1 x6 x7 x8 x9 x10 x11:Value):Prop:=
 x6=S []∧x7=.int .i64 0∧x8=.bool false∧x9=.int .i64 0 ∧
 ((x1=S s∧x10=iW g∧x11=.int .i64 0)∨(∃r,s=36::r∧x1=S r∧x10=iW n1∧x11=.int .i64 1) ∨
  (∃r q,lN v s=none∧x1=S r∧x10=.pointer none∧x11=.int .i64 q∧0≤q∧q≤3) ∨
  (∃r t k p,lN v s=some t∧Cs w k np (pB t p)∧(0:Int)<p∧x1=S r∧x10=iW k∧x11=.int .i64 2))
def Cq(v:vw)(s:aK):Value:=match lN v s with|some t=>.tuple #[S t,.int .i64 2,.bool true]|none=>.tuple #[S [],.int .i64 0,.bool false]
theorem l7  (h:lN v s=none):Cq v s=.tuple #[S [],.int .i64 0,.bool false]:=by unfold Cq;rw[h]
theorem uT {t:aK}(h:lN v s=some t):Cq v s=.tuple #[S t,.int .i64 2,.bool true]:=by unfold Cq;rw[h]
theorem vk {x:UInt8}{r:aK}(h:x≠36):lN v (x::r)=none:=by
 cases r with
 | nil=>rfl
 | cons y r=>unfold lN;simp[h]
theorem zg {y:UInt8}{r:aK}:lN v (36::y::r)=v y:=by simp[lN]
theorem NQ{w:World}{g A u B J K L M:Nat}{gs:Array Value}{a b c d:aK}(h:Ad w g A u B J K L M gs a b c d)(s:aK)(Q:s.length≤1000000) :
  Calls Tryz.prog 327 #[iW g,S s,.bool false] w fun e w'=>e=.returned (Cq (qS a b c d) s)∧bf w w':=by
 have H:=aj h
 have R:∀ξ:X w No,ξ.v.cell? ⟨g,1,none⟩=some (.int .i64 0):=fun ξ=>(h.gen.x (F:=No) id 1 ξ).trans h.ok.p1
 have T:∀ξ:X w No,ξ.v.cell? ⟨g,2,none⟩=some (S []):=fun ξ=>(h.gen.x (F:=No) id 2 ξ).trans h.ok.p2
 have U:∀ξ:X w No,ξ.v.cell? ⟨g,4,none⟩=some (.slice (some ⟨A,0,none⟩) 5 5):=fun ξ=>(h.gen.x (F:=No) id 4 ξ).trans h.ok.p4
 have V:∀ξ:X w No,ξ.v.cell? ⟨g,5,none⟩=some (.int .i64 5):=fun ξ=>(h.gen.x (F:=No) id 5 ξ).trans h.ok.p5
 have W:∀ξ:X w No,ξ.v.cell? ⟨u,1,none⟩=some (.int .i64 0):=h.c1.x (F:=No) id 1
 have Y:∀ξ:X w No,ξ.v.cell? ⟨u,4,none⟩=some (.slice (some ⟨B,0,none⟩) 5 5):=h.c1.x (F:=No) id 4
 clear h
 go_enter Tryz.func327,Tryz.ntmps327
 go_wp2_with fail
 go_loopw [1,6,7,8,9,10,11] (fun x1 x6 x7 x8 x9 x10 x11 wr=>LkR w g u (qS a b c d) s x1 x6 x7 x8 x9 x10 x11∧∃ξ:X w No,wr=ξ.v) (fun _ _ _ _ _ _ x11 _=>3-(intOf x11).toNat)
 case atStart=>exact⟨⟨rfl,rfl,rfl,rfl,.inl ⟨rfl,rfl,rfl⟩⟩,X.here _ _,rfl⟩
 case round=>
  obtain⟨⟨rfl,rfl,rfl,rfl,N⟩,ξ,rfl⟩:=hrel
  rcases N with⟨rfl,rfl,rfl⟩|⟨r,hs1,rfl,rfl,rfl⟩|⟨r,q,hn,rfl,rfl,rfl,hq0,hq3⟩|⟨r,t,k,p,ht,n,D,rfl,rfl,rfl⟩
  ·cases s with
   | nil=>
    go_wp2_with fail
    go_ret3
    exact⟨congrArg Ending.returned (l7 rfl).symm,ξ.h⟩
   | cons x r=>
    obtain⟨m,z,E⟩:=H.ou.root x
    have G:x.toNat<256:=x.toNat_lt
    have O:∀ξ:X w No,ξ.v.cell? ⟨g,6+x.toNat,none⟩=some (.int .u8 m):=fun ξ=>(H.ou.gen.x (F:=No) id (6+x.toNat) ξ).trans z
    clear z
    go_upto_region 12 with fail
    (refine aV [] 100 (Cl (w) (No)) (by kernel_rfl) (by kernel_rfl) (Cl.eU ξ) ?_;refine bK ?_)
    all_goals (refine ar ?_)
    obtain⟨ζ,l⟩:∃ζ:X w No,ζ.v=ξ.v.drew:=⟨⟨ξ.v.drew,ξ.h.drew⟩,rfl⟩
    rw[←l]
    rcases E with⟨rfl,f⟩|⟨hm5,f,i⟩|⟨hm5,f,i⟩
    ·have j:=aj f
     clear l f
     go_wp2_with fail
     go_ret3
     exact⟨congrArg Ending.returned (l7 (vk j.ou)).symm,ζ.h⟩
    ·have i:ζ.v.cell? ⟨A,m,none⟩=some (iW u):=(ζ.h.cell (World.block_lt_of_cell? _ _ i) id).trans i
     have o:¬((m:Int)=5):=by omega
     have j:=aj f
     clear l f
     go_wp2_with fail
     go_roundw
     case rel=>exact⟨⟨rfl,rfl,rfl,rfl,.inr (.inl ⟨r,by rw[j.ou],rfl,rfl,rfl⟩)⟩,ζ,rfl⟩
     case measure=>simp[intOf]
    ·have i:ζ.v.cell? ⟨A,m,none⟩=some (.pointer none):=(ζ.h.cell (World.block_lt_of_cell? _ _ i) id).trans i
     have o:¬((m:Int)=5):=by omega
     have j:=aj f
     clear l f
     go_wp2_with fail
     go_roundw
     case rel=>exact⟨⟨rfl,rfl,rfl,rfl,.inr (.inr (.inl ⟨r,1,vk j.ou,rfl,rfl,rfl,by decide,by decide⟩))⟩,ζ,rfl⟩
     case measure=>simp[intOf]
  ·have C:=aj hs1
   clear hs1
   cases r with
   | nil=>
    go_wp2_with fail
    go_ret3
    exact⟨congrArg Ending.returned (l7 (by rw[C.ou];rfl)).symm,ξ.h⟩
   | cons x r=>
    obtain⟨m,z,E⟩:=H.ou.next x
    have G:x.toNat<256:=x.toNat_lt
    have O:∀ξ:X w No,ξ.v.cell? ⟨g,6+x.toNat,none⟩=some (.int .u8 m):=fun ξ=>(H.ou.gen.x (F:=No) id (6+x.toNat) ξ).trans z
    clear z
    go_upto_region 12 with fail
    (refine aV [] 100 (Cl (w) (No)) (by kernel_rfl) (by kernel_rfl) (Cl.eU ξ) ?_;refine bK ?_)
    all_goals (refine ar ?_)
    obtain⟨ζ,l⟩:∃ζ:X w No,ζ.v=ξ.v.drew:=⟨⟨ξ.v.drew,ξ.h.drew⟩,rfl⟩
    rw[←l]
    rcases E with⟨rfl,f⟩|⟨hm5,f,i⟩|⟨hm5,k,t,p,f,i,n,D⟩
    ·have j:=aj f
     clear l f
     go_wp2_with fail
     go_ret3
     exact⟨congrArg Ending.returned (l7 (by rw[C.ou,zg];exact j.ou)).symm,ζ.h⟩
    ·have i:ζ.v.cell? ⟨B,m,none⟩=some (.pointer none):=(ζ.h.cell (World.block_lt_of_cell? _ _ i) id).trans i
     have o:¬((m:Int)=5):=by omega
     have j:=aj f
     clear l f
     go_wp2_with fail
     go_roundw
     case rel=>exact⟨⟨rfl,rfl,rfl,rfl,.inr (.inr (.inl ⟨r,2,by rw[C.ou,zg];exact j.ou,rfl,rfl,rfl,by decide,by decide⟩))⟩,ζ,rfl⟩
     case measure=>simp[intOf]
    ·have i:ζ.v.cell? ⟨B,m,none⟩=some (iW k):=(ζ.h.cell (World.block_lt_of_cell? _ _ i) id).trans i
     have o:¬((m:Int)=5):=by omega
     have j:=aj (And.intro f (And.intro n D))
     have Z:=aj l
     clear l f n D
     go_wp2_with fail
     go_roundw
     case rel=>exact⟨⟨rfl,rfl,rfl,rfl,.inr (.inr (.inr ⟨r,t,k,p,by rw[C.ou,zg];exact j.ou.1,j.ou.2.1,j.ou.2.2,rfl,rfl,rfl⟩))⟩,ζ,rfl⟩
     case measure=>simp[intOf]
  ·have P:=aj hn
   clear hn
   go_wp2_with fail
   go_ret3
   exact⟨congrArg Ending.returned (l7 P.ou).symm,ξ.h⟩
  ·have I:=aj ht
   have l0:∀ξ:X w No,ξ.v.cell? ⟨k,0,none⟩=some (S t):=n.x (F:=No) id 0
   have l1:∀ξ:X w No,ξ.v.cell? ⟨k,1,none⟩=some (.int .i64 p):=n.x (F:=No) id 1
   have l2:∀ξ:X w No,ξ.v.cell? ⟨k,2,none⟩=some (S []):=n.x (F:=No) id 2
   have l4:∀ξ:X w No,ξ.v.cell? ⟨k,4,none⟩=some (.slice none 0 0):=n.x (F:=No) id 4
   clear ht n
   cases r with
   | nil=>
    go_wp2_with fail
    go_ret3
    exact⟨congrArg Ending.returned (uT I.ou).symm,ξ.h⟩
   | cons y r=>
    go_wp2_with fail
    go_ret3
    exact⟨congrArg Ending.returned (uT I.ou).symm,ξ.h⟩
abbrev FA:TypeId:=406
abbrev Ef:TypeId:=5
theorem FI:(Tryz.prog.info? Ef).map (fun i=>(i.zero,i.size,i.bytes))=some (some (.int .u8 0),1,1):=by kernel_rfl
structure LH (w u:World) (b:Nat) (A:Option Addr) (c:Nat) (l:aK):Prop where
 cs:Cs u b FA #[.slice A l.length c]
 own:u.ownsRow w.heap.size Ef 1 (.slice A l.length c) l.length (Lib.strCells ⟨l.toArray⟩)
 x:bf w u
 hb:w.heap.size≤b
theorem DF(l s:aK):Lib.strCells ⟨l.toArray⟩++Lib.strCells ⟨s.toArray⟩=Lib.strCells ⟨(l++s).toArray⟩:=by simp[Lib.strCells]
theorem LH.ext{w u v:World}{b:Nat} {c:Nat} (h:LH w u b A c l)(a:bf u v):LH w v b A c l:=⟨h.cs.aP a id,cl h.own a (fun _ _=>id),h.x.ae a,h.hb⟩
theorem uB{w u:World}{b:Nat} {c:Nat} (h:LH w u b A c l)(s:aK)(E:l.length+s.length≤1000000000) :
  Calls Tryz.prog 334 #[iW b,S s] u fun e u'=>e=.returned (.tuple #[.int .i64 s.length,.nilIface])∧∃j k,LH w u' b j k (l++s):=by
 obtain⟨y,z,p,q,r⟩:=info_parts FI
 have B:u.cell? ⟨b,0,none⟩=some (.slice A l.length c):=h.cs.cell 0
 have H:=aj h
 have i:=h.own
 have t:=h.x.size
 clear h
 go_enter Tryz.func334,Tryz.ntmps334
 go_wp2_with (at_builtin;refine Lib.wpList_append_own_string _ rfl _ _ 406 9 rfl w.heap.size Ef y Tryz.underlying406 Tryz.underlying9 z p q r _ _ _ rfl i ⟨s.toArray⟩ rfl ?c3 ?c4 ?c5 ?_)
 case c3=>show l.length+s.length≤maxLen;unfold maxLen;omega
 case c4=>show l.length+s.length≤140737488355328;omega
 case c5=>exact t
 intro F m a f _
 obtain⟨j,k,rfl⟩:=BS a
 rw[DF,←af] at a
 have v:∀g,(Value.slice A l.length c).ownBlock=some g→¬g=b:=aO H.ou.own H.ou.cs (by decide)
 have d:Cs m b FA #[.slice A l.length c]:=by
  unfold Cs
  rw[f.block b H.ou.cs.lt (fun e=>v b e.symm rfl)]
  exact H.ou.cs
 have G:m.cell? ⟨b,0,none⟩=some (.slice A l.length c):=d.cell 0
 have I:=d.frozen 0
 have C:Hd (∀n,n=(l++s).length→LH w (m.setCell ⟨b,0,none⟩ (.slice j n k)) b j k (l++s)):=fun n hn=>by
  subst hn
  have D:bf w m:=H.ou.x.grown f fun g hg=>.inl (by
   rcases H.ou.own.2 with⟨hv,_⟩|⟨g',cap,cur,hv,hb,_⟩
   ·rw[hv] at hg;simp[Value.ownBlock] at hg
   ·rw[hv] at hg;simp[Value.ownBlock] at hg;omega)
  have o:∀g,(Value.slice j (l++s).length k).ownBlock=some g→¬g=b:=aO a d (by decide)
  exact⟨d.cM 0 _,cl a ((al.refl (fun x=>x=b) m).at_ 0 _) o,D.setCell (.inl H.ou.hb) _,H.ou.hb⟩
 clear a f d i B
 go_wp2
 go_ret2
 exact⟨rfl,j,k,C.ou _ (af).symm⟩
theorem Qh(b:Nat)(w:World):Calls Tryz.prog 326 #[.iface 407 (iW b)] w fun e w'=>e=.returned (.iface 407 (iW b))∧w'=w:=by
 have a:∀u,(Instr.typeAssert (.iface 407 (iW b)) 409 411 true).run Tryz.prog u=.ok (.tuple #[.iface 407 (iW b),.bool true]) u:=fun u=>
  run_typeAssert_hasB Tryz.underlying411 (by kernel_rfl) (iW b) _ u
 go_enter Tryz.func326,Tryz.ntmps326
 go_wp2_with fail
 go_ret
 exact⟨rfl,rfl⟩
theorem Jo:((Tryz.prog.info? 407).bind fun i=>i.methods.find? fun m=>m.name == "WriteString").map (fun m=>(m.path.toList,m.func))=some ([],some (334,true)):=by kernel_rfl
theorem QR:(Tryz.prog.types.size==0)=false:=by kernel_rfl
theorem Vi(b:Nat)(w:World):(nilAhead (Tryz.prog.types.size+Made.depth) 407 (iW b) "WriteString").run Tryz.prog w=.ok (some false) w:=by
 obtain⟨m,c,a⟩:=gS.1 Jo
 obtain⟨i,d,e⟩:=jO.1 c
 obtain⟨n,f⟩:∃n,Tryz.prog.types.size+Made.depth=n+1:=⟨Tryz.prog.types.size+Made.depth-1,by have:=bl.1 QR;omega⟩
 simp only[Prod.mk.injEq] at a
 rw[f]
 simp[nilAhead,typeInfo,d,e,a.1,a.2,followBlind]
theorem Rw(k b:Nat)(w:World)(f:k≠0):(method k 407 (iW b) "WriteString").run Tryz.prog w=.ok (334,iW b) w:=by
 obtain⟨m,c,a⟩:=gS.1 Jo
 obtain⟨i,d,e⟩:=jO.1 c
 obtain⟨n,rfl⟩:∃n,k=n+1:=⟨k-1,by omega⟩
 simp only[Prod.mk.injEq] at a
 simp[method,typeInfo,d,e,a.1,a.2,follow,receiverAt,run_underlying Tryz.underlying407,Place.get]
theorem St(n:Int)(h:-9223372036854775808≤n∧n≤9223372036854775807):wrap64 n=n:=by unfold wrap64;omega
theorem Iu {w:World} {g t0 n1 t1 n2 n3 n4 n5:Nat} {gs:Array Value} {a b c d:aK} (h:Ad w g t0 n1 t1 n2 n3 n4 n5 gs a b c d) (s:aK) (hs:s.length≤1000000) (hL:(iS (qS a b c d) s).length≤100000000)
  {u:World} {J:Nat}  {cc:Nat} (hB:LH w u J A cc []) :
  Calls Tryz.prog 325 #[iW g,.iface 407 (iW J),S s] u fun e u'=>(∃v,e=.returned v)∧∃L M,LH w u' J L M (iS (qS a b c d) s):=by
 have H:=aj h
 have C:=aj hB
 clear h hB
 obtain⟨v,hv⟩:∃v,v=qS a b c d:=⟨_,rfl⟩
 have ag:Hd (∀(r:aK) u,r.length≤1000000→bf w u→Calls Tryz.prog 327 #[iW g,S r,.bool false] u fun e w'=>e=.returned (Cq v r)∧bf u w'):=fun r u hr hu=>by
  rw[hv];exact NQ (H.ou.ext hu) r hr
 rw[←hv] at hL ⊢
 have ai:=aj hL
 clear hv hL
 go_enter Tryz.func325,Tryz.ntmps325
 go_wp2_with fail
 refine(Qh J u).mono ?_
 rintro e u1 ⟨rfl,rfl⟩
 go_wp2_with fail
 go_loopw [6,7,9,10,11,12] (fun x6 x7 x9 x10 x11 x12 wr=>∃(i l:Nat) (q:Int) (B:aK) (L:Option Addr) (M:Nat),i≤s.length+1∧l≤i∧l≤s.length∧x6=.int .i64 (B.length:Int)∧x7=.nilIface∧x9=.int .i64 (l:Int)∧x10=.int .i64 q∧x11=.bool false∧x12=.int .i64 (i:Int)∧LH w wr J L M B∧iS v s=B++(s.take i).drop l++iS v (s.drop i)) (fun _ _ _ _ _ x12 _=>s.length+1-(intOf x12).toNat)
 case atStart=>exact⟨0,0,0,[],A,cc,by omega,aq _,au _,rfl,rfl,rfl,rfl,rfl,rfl,C.ou,by simp⟩
 case round=>
  clear C
  obtain⟨i,l,q,B,L,M,hi,bc,hl,rfl,rfl,rfl,rfl,rfl,rfl,hB,hE⟩:=hrel
  have C:=aj hB
  have HE:=aj hE
  have XW:=aj hB.x
  clear hB hE
  have g1:∀u,bf w u→u.cell? ⟨g,1,none⟩=some (.int .i64 0):=fun u hu=>(hu.cell H.ou.gen.lt id).trans ((H.ou.gen.cell 1).trans H.ou.ok.p1)
  have R:=g1 _ XW.ou
  have p:wr.cell? ⟨g,4,none⟩=some (.slice (some ⟨t0,0,none⟩) 5 5):=(XW.ou.cell H.ou.gen.lt id).trans ((H.ou.gen.cell 4).trans H.ou.ok.p4)
  have y:wr.cell? ⟨g,5,none⟩=some (.int .i64 5):=(XW.ou.cell H.ou.gen.lt id).trans ((H.ou.gen.cell 5).trans H.ou.ok.p5)
  rcases jg i s.length with hlt|heq|hgt
  ·have ak:(((i:Nat):Int)!=((s.length:Nat):Int))=true:=by rw[kT];omega
   have bd:s[i].toNat<256:=s[i].toNat_lt
   obtain⟨m,hm,hM⟩:=H.ou.root s[i]
   have cm:∀ξ:X wr No,ξ.v.cell? ⟨g,6+s[i].toNat,none⟩=some (.int .u8 m):=fun ξ=>(((XW.ou.trans ξ.h fun _ _ e=>e.elim)).cell H.ou.gen.lt id).trans ((H.ou.gen.cell _).trans hm)
   clear hm
   go_upto_region 7 with(first|refine dN ?_)
   (refine aV [] 100 (Cl (wr) (No)) (by kernel_rfl) (by kernel_rfl) (Cl.eU (X.here wr No)) ?_;refine bK ?_)
   all_goals (refine ar ?_)
   have am:s.drop i=s[i]::s.drop (i+1):=cB hlt
   have D:lN v (s.drop i)=none→iS v s=B++(s.take (i+1)).drop l++iS v (s.drop (i+1)):=fun hn=>by
    rw[HE.ou,yG hn hlt,aU,aF hlt]
    rw[List.drop_append_of_le_length (by rw[aH];omega)]
    simp
   have O:=aj D
   have T:=aj am
   obtain⟨N,U⟩:∃u,u=wr.drew:=⟨_,rfl⟩
   have j:Hd (LH w N J L M B):=by rw[U];exact C.ou.ext (al.refl No wr).drew
   have V:=aj j.ou.x
   rw[←U]
   clear U D am cm R p y C XW
   have p:N.cell? ⟨g,4,none⟩=some (.slice (some ⟨t0,0,none⟩) 5 5):=(V.ou.cell H.ou.gen.lt id).trans ((H.ou.gen.cell 4).trans H.ou.ok.p4)
   have y:N.cell? ⟨g,5,none⟩=some (.int .i64 5):=(V.ou.cell H.ou.gen.lt id).trans ((H.ou.gen.cell 5).trans H.ou.ok.p5)
   rcases hM with⟨rfl,hx⟩|⟨hm5,hx,P⟩|⟨hm5,hx,P⟩
   ·have HX:=aj hx
    clear hx
    go_wp2_with fail
    go_roundw
    case rel=>exact⟨i+1,l,q,B,L,M,by omega,by omega,hl,rfl,rfl,rfl,rfl,rfl,by go_num,j.ou,O.ou (by rw[T.ou];exact vk HX.ou)⟩
    case measure=>simp[intOf];omega
   ·have P:N.cell? ⟨t0,m,none⟩=some (iW n1):=(V.ou.cell (World.block_lt_of_cell? _ _ P) id).trans P
    have a2:¬((m:Int)=5):=by omega
    have HX:=aj hx
    clear hx
    go_upto_region 10 with(first|refine dN ?_)
    have f:=aj (ag.ou (s.drop i) N (by rw[be];omega) V.ou)
    obtain⟨t,ht⟩:∃t,t=lN v (s.drop i):=⟨_,rfl⟩
    have HT:=aj ht
    clear ht
    cases t with
    | none=>
     have f:Hd (Calls Tryz.prog 327 #[iW g,S (s.drop i),.bool false] N fun e w'=>e=.returned (.tuple #[S [],.int .i64 0,.bool false])∧bf N w'):=by
      have:=f.ou
      rwa [l7 HT.ou.symm] at this
     go_wp2_with fail
     refine f.ou.mono ?_
     rintro e w3 ⟨rfl,n⟩
     have o:=aj (j.ou.ext n)
     clear n f j V p y P
     go_wp2_with fail
     go_roundw
     case rel=>exact⟨i+1,l,q,B,L,M,by omega,by omega,hl,rfl,rfl,rfl,rfl,rfl,by go_num,o.ou,O.ou HT.ou.symm⟩
     case measure=>simp[intOf];omega
    | some t=>
     have f:Hd (Calls Tryz.prog 327 #[iW g,S (s.drop i),.bool false] N fun e w'=>e=.returned (.tuple #[S t,.int .i64 2,.bool true])∧bf N w'):=by
      have:=f.ou
      rwa [uT HT.ou.symm] at this
     obtain⟨ao,bg⟩:=zO HT.ou.symm
     have W:iS v s=(B++(s.take i).drop l++t)++iS v (s.drop (i+2)):=by rw[HE.ou,ao];simp
     have E:((B++(s.take i).drop l)++t).length≤100000000:=by
      have h1:=congrArg List.length W
      rw[af] at h1
      have:=ai.ou
      omega
     have a3:=aj W
     rw[af] at E
     have F:B.length+((s.take i).drop l).length≤100000000:=by
      rw[←af];omega
     have G:=aj (And.intro E F)
     clear ao W E F O T HE
     go_wp2_with fail
     refine f.ou.mono ?_
     rintro e w3 ⟨rfl,n⟩
     have o:=aj (j.ou.ext n)
     clear n f j V p y P
     have Q:=aj (uB (o.ou.ext (al.refl No w3).drew) ((s.take i).drop l) (by have:=G.ou.2;omega))
     go_upto_region 13 with(first|refine dN ?_)
     have a4:=Vi J
     (refine aV [6,8] 100 (Cl (w) (No)) (by kernel_rfl) (by kernel_rfl) (Cl.of o.ou.x.drew) ?_;refine bK ?_)
     (refine bQ ?_;intro K hK)
     refine hK _ _ (fun _=>Cl.of o.ou.x.drew) ?_
     clear hK K
     refine bj ?_
     have a5:=fun k u hk=>Rw k J u hk
     refine dH ?_
     (refine bQ ?_;intro K hK)
     refine Q.ou.mono ?_
     rintro e w4 ⟨rfl,A4,c4,z⟩
     refine⟨_,rfl,hK _ _ (fun _=>Cl.of z.x) ?_⟩
     clear hK K
     refine bj ?_
     refine dH ?_
     refine ar ?_
     have ap:=aj z
     have av:=aj (uB ap.ou t (by rw[af];have:=G.ou.1;rw[af] at this;omega))
     clear z Q o
     go_wp2_with fail
     refine av.ou.mono ?_
     rintro e w5 ⟨rfl,A5,c5,aD⟩
     have a6:=aj aD
     clear aD av ap
     have Y:((s.take i).drop l).length=i-l:=by rw[be,aH];omega
     have bi:B.length+(i-l)+t.length≤100000000:=by have:=G.ou.1;rw[af,Y] at this;exact this
     have a0:(B++(s.take i).drop l++t).length=B.length+(i-l)+t.length:=by rw[af,af,Y]
     clear Y
     have j:=aj a0
     clear a0
     go_wp2_with fail
     go_roundw
     case rel=>exact⟨i+2,i+2,_,B++(s.take i).drop l++t,A5,c5,by omega,aq _,by omega,by rw[j.ou,St _ (by rw[St _ (by omega)];omega),St _ (by omega)];go_num,rfl,by go_num,rfl,rfl,by go_num,a6.ou,by rw[show(s.take (i+2)).drop (i+2)=[] from dR (by rw[aH];omega),cv];exact a3.ou⟩
     case measure=>simp[intOf];omega
   ·have P:N.cell? ⟨t0,m,none⟩=some (.pointer none):=(V.ou.cell (World.block_lt_of_cell? _ _ P) id).trans P
    have a2:¬((m:Int)=5):=by omega
    have HX:=aj hx
    clear hx
    go_wp2_with fail
    go_roundw
    case rel=>exact⟨i+1,l,q,B,L,M,by omega,by omega,hl,rfl,rfl,rfl,rfl,rfl,by go_num,j.ou,O.ou (by rw[T.ou];exact vk HX.ou)⟩
    case measure=>simp[intOf];omega
  ·have f:Hd (Calls Tryz.prog 327 #[iW g,.string ByteArray.empty,.bool false] wr fun e w'=>e=.returned (.tuple #[S [],.int .i64 0,.bool false])∧bf wr w'):=by
    have:=ag.ou [] wr (by simp) XW.ou
    rwa [l7 rfl] at this
   have ak:(((i:Nat):Int)!=((s.length:Nat):Int))=false:=by rw[bne_eq_false_iff_eq];omega
   have bk:=aj heq
   clear g1 R p y
   go_wp2_with fail
   refine f.ou.mono ?_
   rintro e w3 ⟨rfl,n⟩
   have o:=aj (C.ou.ext n)
   clear n f C
   go_wp2_with fail
   go_roundw
   case rel=>exact⟨i+1,l,q,B,L,M,by omega,by omega,hl,rfl,rfl,rfl,rfl,rfl,by go_num,o.ou,by
    have h:=HE.ou
    rw[show s.take i=s from ay (by omega),show s.drop i=[] from dR (by omega)] at h
    rw[show s.take (i+1)=s from ay (by omega),show s.drop (i+1)=[] from dR (by omega)]
    exact h⟩
   case measure=>simp[intOf];omega
  ·obtain rfl:i=s.length+1:=by omega
   have Z:iS v s=B++s.drop l:=by
    have:=HE.ou
    rwa [show s.take (s.length+1)=s from ay (by omega),show s.drop (s.length+1)=[] from dR (by omega),show iS v []=[] from rfl,cv] at this
   have a1:=aj Z
   have I:B.length+(s.drop l).length≤100000000:=by
    have h1:=congrArg List.length Z
    rw[af] at h1
    have:=ai.ou
    omega
   have a7:=aj I
   clear Z HE I g1 R p y
   by_cases ac:l=s.length
   ·have a8:(((l:Nat):Int)!=((s.length:Nat):Int))=false:=by rw[bne_eq_false_iff_eq];omega
    have a9:=aj ac
    clear ac
    go_wp2_with fail
    go_ret2
    exact⟨⟨_,rfl⟩,L,M,by rw[a1.ou,a9.ou,ju,cv];exact C.ou⟩
   ·have a8:(((l:Nat):Int)!=((s.length:Nat):Int))=true:=by rw[kT];omega
    clear ac
    have Q:=aj (uB (C.ou.ext (al.refl No wr).drew) (s.drop l) (by have:=a7.ou;omega))
    have a4:=Vi J
    have a5:=fun k u hk=>Rw k J u hk
    go_upto_region 23 with(first|refine dN ?_)
    (refine aV [5,7] 100 (Cl (w) (No)) (by kernel_rfl) (by kernel_rfl) (Cl.of C.ou.x.drew) ?_;refine bK ?_)
    (refine bQ ?_;intro K hK)
    refine hK _ _ (fun _=>Cl.of C.ou.x.drew) ?_
    clear hK K
    refine bj ?_
    refine dH ?_
    (refine bQ ?_;intro K hK)
    refine Q.ou.mono ?_
    rintro e w4 ⟨rfl,A4,c4,z⟩
    refine⟨_,rfl,hK _ _ (fun _=>Cl.of z.x) ?_⟩
    clear hK K
    refine bj ?_
    refine dH ?_
    refine ar ?_
    go_wp2_with fail
    go_ret2
    exact⟨⟨_,rfl⟩,A4,c4,by rw[a1.ou];exact z⟩
theorem Ap(w:World):(callFunc 284 #[]).run Tryz.prog w=.ok (.value (.tuple #[])) w:=run_call_mark0 Tryz.func284 (by kernel_rfl) (by kernel_rfl) (by kernel_rfl) .disable (by kernel_rfl) w
theorem BO(w:World):(callFunc 286 #[]).run Tryz.prog w=.ok (.value (.tuple #[])) w:=run_call_mark0 Tryz.func286 (by kernel_rfl) (by kernel_rfl) (by kernel_rfl) .enable (by kernel_rfl) w
theorem Ii(a:Addr)(w:World):(callFunc 287 #[.pointer (some a)]).run Tryz.prog w=.ok (.value (.tuple #[])) w:=run_call_marked Tryz.func287 (by kernel_rfl) (by kernel_rfl) (by kernel_rfl) .acquire (by kernel_rfl) a w
theorem Jf(a:Addr)(w:World):(callFunc 289 #[.pointer (some a)]).run Tryz.prog w=.ok (.value (.tuple #[])) w:=run_call_marked Tryz.func289 (by kernel_rfl) (by kernel_rfl) (by kernel_rfl) .releaseMerge (by kernel_rfl) a w
theorem MS(a:Addr)(x:Value)(u:FrameMode)(w:World)(f:w.cell? a=some x)(g:w.frozen? a=false) :
  CallsD Tryz.prog 275 #[.pointer (some a),.bool true] u w fun e u' w'=>u'=u∧(e=.returned (.tuple #[])∧w'=w.drew.setCell a (.int .u32 1)):=by
 have b:w.drew.cell? a=some x:=by go_simp
 have c:w.drew.frozen? a=false:=by go_simp
 have d:=run_call_store (P:=Tryz.prog) Tryz.func280 (by kernel_rfl) (by kernel_rfl) (by kernel_rfl) (by kernel_rfl) (k:=.u32) (y:=1) b c
 go_enter_d Tryz.func275,Tryz.ntmps275
 go_wp2
 go_region_calls
 all_goals (go_end0;exact⟨rfl,rfl⟩)
theorem L4(a:Addr)(u:FrameMode)(w:World)(b:w.cell? a=some (.int .i32 1))(d:w.frozen? a=false) :
  CallsD Tryz.prog 274 #[.pointer (some a)] u w fun e u' w'=>u'=u∧(e=.returned (.tuple #[])∧w'=w.setCell a (.int .i32 0)):=by
 have g:=Ap
 have h:=BO
 have i:=Jf
 have c:=run_call_add (P:=Tryz.prog) Tryz.func290 (by kernel_rfl) (by kernel_rfl) (by kernel_rfl) .i32 (by kernel_rfl) (y:=-1) (s:=0) b d (by simp[go_sem];rfl)
 have f:=run_convert_to_unsafe (P:=Tryz.prog) (src:=381) (dst:=309) Tryz.underlying381 Tryz.underlying309 (by kernel_rfl) b
 go_enter_d Tryz.func274,Tryz.ntmps274
 go_wp2
 go_end0
 go_wp2
 go_end0
 exact⟨rfl,rfl⟩
theorem QP(a:Addr)(w:World)(c:w.cell? a=some (.int .i32 0))(f:w.frozen? a=false) :
  Calls Tryz.prog 273 #[.pointer (some a)] w fun e w'=>e=.returned (.tuple #[])∧w'=w.setCell a (.int .i32 1):=by
 have h:=Ap
 have i:=BO
 have j:=Ii
 have d:=run_call_cas_hit (P:=Tryz.prog) Tryz.func285 (by kernel_rfl) (by kernel_rfl) (by kernel_rfl) .i32 (by kernel_rfl) (y:=1) c f
 have b:(w.setCell a (.int .i32 1)).cell? a=some (.int .i32 1):=World.cell?_setCell_same w a _ c
 have g:=run_convert_to_unsafe (P:=Tryz.prog) (src:=381) (dst:=309) Tryz.underlying381 Tryz.underlying309 (by kernel_rfl) b
 go_enter Tryz.func273,Tryz.ntmps273
 go_wp2
 first|go_end0|(simp only[Exit.inBlock,Exit.then];refine bodyPost_ret (results_none rfl _ _ _) rfl ?_)|refine bodyPost_ret (results_none rfl _ _ _) rfl ?_
 go_wp2
 go_end0
 exact⟨rfl,rfl⟩
theorem Ua(n:Nat)(h:n≤1000000)(w:World):(Instr.makeSlice FA (.int .i64 0) (.int .i64 (n:Int))).run Tryz.prog w =
  .ok (.slice (some ⟨w.heap.size,0,none⟩) 0 n) (w.alloc (.cells (madeCells #[.int .u8 0] n) Ef)):=by
 obtain⟨a,c,d,e,f⟩:=info_parts FI
 have g:(a.bytes:Int)*(n:Int)≤281474976710656:=by rw[f];omega
 have b:=run_make (P:=Tryz.prog) w FA Ef a (.int .u8 0) Tryz.underlying406 c d .i64 .i64 0 n (by omega) (by omega) g (by omega)
 simp only[dh] at b
 rw[b,e]
 simp[Value.cells]
theorem LH.conv{w u:World}{b:Nat} {c:Nat} (h:LH w u b A c l):(convert FA 9 (.slice A l.length c)).run Tryz.prog u=.ok (S l) u:=by
 have d:(Lib.strCells ⟨l.toArray⟩).length=l.length:=by simp[Lib.strCells]
 rcases A with _|ad
 ·rcases h.own.2 with⟨hv,h0⟩|⟨g,cap,cur,hv,_⟩
  ·have:l=[]:=bM h0
   subst this
   exact run_convert_bytes_nil u FA Ef Tryz.underlying406 Tryz.underlying5 _ _ _ Tryz.underlying9
  ·injection hv with hv
   cases hv
 ·rcases h.own.2 with⟨hv,h0⟩|⟨g,cap,cur,hv,_⟩
  ·injection hv with hv
   cases hv
  ·injection hv with hv1 hv2 hv3
   injection hv1 with hv1
   subst hv1;subst hv3
   have:=Lib.run_convert_whole (P:=Tryz.prog) u FA Ef 9 Tryz.underlying406 Tryz.underlying5 Tryz.underlying9 g 0 ⟨l.toArray⟩ (fun i a=>by
    have a:i<l.length:=a
    rw[bX,World.ownsRow.cellAt h.own i (by omega)]
    simp[Lib.strCells,a]
    rfl) c
   exact this
theorem D9{w:World}{g v y z A B C D:Nat}{gs:Array Value}{a m c d:aK}(h:Ad w g v y z A B C D gs a m c d)(s:aK)(q:s.length≤1000000)(E:(iS (qS a m c d) s).length≤100000000) :
  Calls Tryz.prog 324 #[iW g,S s] w fun e w'=>e=.returned (S (iS (qS a m c d) s))∧bf w w':=by
 have n:=Ua s.length q w
 obtain⟨l,f⟩:∃u,u=w.alloc (.cells (madeCells #[.int .u8 0] s.length) Ef):=⟨_,rfl⟩
 obtain⟨F,i⟩:∃u,u=l.alloc (.cells #[.slice (some ⟨w.heap.size,0,none⟩) 0 s.length] FA):=⟨_,rfl⟩
 obtain⟨b,k⟩:∃b,b=w.heap.size+1:=⟨_,rfl⟩
 have o:LH w F b (some ⟨w.heap.size,0,none⟩) s.length []:=by
  have r:bf w l:=by rw[f];exact(al.refl No w).alloc _
  have k:b=l.heap.size:=by rw[k,f];simp
  have G:l.ownsRow w.heap.size Ef 1 (.slice (some ⟨w.heap.size,0,none⟩) 0 s.length) 0 []:=by
   refine⟨rfl,.inr ⟨w.heap.size,s.length,_,rfl,aq _,by rw[f];exact Cs.new _ _ _,au _,by unfold maxLen;omega,by simp[madeCells],rfl⟩⟩
  refine⟨by rw[i,k];exact Cs.new _ _ _,cl G (by rw[i];exact(al.refl No l).alloc _) (fun _ _=>id),by rw[i];exact r.alloc _,by rw[k];exact r.size⟩
 have H:=aj o
 have t:=aj (Iu h s q E o)
 clear h o
 go_enter Tryz.func324,Tryz.ntmps324
 go_upto_region 2 with fail
 rw[←f,←i,←k]
 clear f i k n
 go_wp2_with fail
 refine t.ou.mono ?_
 rintro e I ⟨⟨x,rfl⟩,J,K,j⟩
 have p:=aj j
 have M:I.cell? ⟨b,0,none⟩=some (.slice J (iS (qS a m c d) s).length K):=j.cs.cell 0
 have L:=j.conv
 clear j t H
 go_wp2_with fail
 go_ret
 exact⟨rfl,p.ou.x⟩
abbrev uO:TypeId:=334
abbrev tY:TypeId:=357
def KM(u:World)(g:Nat)(a b c d:aK):Prop:=∃t0 n1 t1 n2 n3 n4 n5 gs,Ad u g t0 n1 t1 n2 n3 n4 n5 gs a b c d
theorem tQ.on{w u v:World}{g j r:Nat}{gs:Array Value}{a b c d:aK}(z:Ra gs j)(h:tQ w g j gs a b c d 4 u)(f:al (fun x=>x=r) u v)(A:r<w.heap.size):KM v g a b c d:=by
 obtain⟨i,p,k,l,m,o,h,q,s,t,y⟩:∃i p k l m o,Qj w u g j gs #[.pointer none,iW o,iW l,iW k,iW m] i p∧qj w u i k a 8∧qj w u i l b 6∧qj w u i m c 4∧qj w u i o d 2:=h
 have ne:∀n,w.heap.size≤n→¬n=r:=fun n hn e=>by omega
 exact⟨j,i,p,k,l,m,o,gs,z,h.b.gen.aP f (ne _ h.b.hg),h.b.tab.aP f (ne _ h.b.ht),h.c1.aP f (ne _ h.h1),h.ct.aP f (ne _ h.h3),q.c.aP f (ne _ q.h),s.c.aP f (ne _ s.h),t.c.aP f (ne _ t.h),y.c.aP f (ne _ y.h)⟩
theorem Rb{w:World}   {a b c d:aK}(h:Cs w r uO #[x0,x1,x2,.nilIface,.slice A 8 cp])(i:di cI w A 8 [[36,64],a,[36,60],b,[36,94],c,[36,42],d]) :
  Calls Tryz.prog 267 #[iW r] w fun e w'=>∃g f,e=.returned (.iface tY (iW g))∧tQ w g f (lq (.slice (some ⟨f,0,none⟩) 5 5) 5 (mB 256)) a b c d 4 w':=by
 have u:w.cell? ⟨r,4,none⟩=some (.slice A 8 cp):=h.cell 4
 obtain⟨p,o,s,rfl,j,l⟩:=dq i (k:=0) (by omega)
 obtain rfl:[36,64]=s:=bB j
 have m:=aj (KC (cp:=cp) i)
 have q:w.cell? ⟨p,o,none⟩=some (S [36,64]):=l (X.here w No)
 clear h i l j
 go_enter Tryz.func267,Tryz.ntmps267
 go_wp2_with fail
 go_loopw [4,5] (fun x4 x5 wr=>x5=.int .i64 0∧wr=w) (fun _ _ _=>0)
 case atStart=>exact⟨rfl,rfl⟩
 case round=>
  obtain⟨rfl,rfl⟩:=hrel
  go_wp2_with fail
  refine m.ou.mono ?_
  rintro e v ⟨g,f,rfl,n⟩
  have t:=aj n
  clear n m
  go_wp2_with fail
  go_ret
  exact⟨g,f,rfl,t.ou⟩
theorem Ga{w:World}   {a b c d:aK}(h:Cs w r uO #[x0,x1,x2,.nilIface,.slice A 8 cp])(k:di cI w A 8 [[36,64],a,[36,60],b,[36,94],c,[36,42],d]) :
  Calls Tryz.prog 256 #[iW r] w fun e w'=>e=.returned (.tuple #[])∧∃g,Cs w' r uO #[x0,x1,x2,.iface tY (iW g),.slice none 0 0]∧KM w' g a b c d∧al (fun x=>x=r) w w':=by
 have l:=aj (Rb h k)
 have H:=aj h
 clear h k
 go_enter Tryz.func256,Tryz.ntmps256
 go_wp2_with fail
 refine l.ou.mono ?_
 rintro e f ⟨g,o,rfl,j⟩
 have i:=H.ou.aP j.x id
 have q:f.cell? ⟨r,3,none⟩=some .nilIface:=i.cell 3
 have s:f.cell? ⟨r,4,none⟩=some (.slice A 8 cp):=i.cell 4
 have t:=i.frozen 3
 have u:=i.frozen 4
 have m:Hd (al (fun x=>x=r) f ((f.setCell ⟨r,3,none⟩ (.iface tY (iW g))).setCell ⟨r,4,none⟩ (.slice none 0 0))):=((al.refl _ f).at_ 3 _).at_ 4 _
 have p:Hd (Cs ((f.setCell ⟨r,3,none⟩ (.iface tY (iW g))).setCell ⟨r,4,none⟩ (.slice none 0 0)) r uO #[x0,x1,x2,.iface tY (iW g),.slice none 0 0]):=(i.cM 3 _).cM 4 _
 have n:=aj j
 clear j i l
 go_wp2_with fail
 go_end0
 exact⟨rfl,g,p.ou,n.ou.on (RI o) m.ou H.ou.lt,n.ou.x.any.trans m.ou fun _ _ e=>e⟩
theorem Ki{w:World}(a:Addr)(x:Int)(h:w.cell? a=some (.int .u32 x)):Calls Tryz.prog 265 #[.pointer (some a)] w fun e w'=>e=.returned (.bool (x !=0))∧w'=w:=by
 have b:=run_call_load (P:=Tryz.prog) Tryz.func272 (by kernel_rfl) (by kernel_rfl) (by kernel_rfl) .u32 (by kernel_rfl) h
 go_enter Tryz.func265,Tryz.ntmps265
 go_wp2_with fail
 go_ret
 exact⟨rfl,rfl⟩
theorem KM.only{u v:World}{g:Nat}{a b c d:aK} {cs:Array Value}(h:KM u g a b c d)(i:Cs u r uO cs)(f:al (fun x=>x=r) u v):KM v g a b c d:=by
 obtain⟨j,k,l,m,o,p,q,gs,h⟩:=h
 have ne:∀{n t ds},Cs u n t ds→t≠uO→¬n=r:=fun hc ht e=>(hc.oC i ht) e
 exact⟨j,k,l,m,o,p,q,gs,h.ok,h.gen.aP f (ne h.gen (by decide)),h.tab.aP f (ne h.tab (by decide)),h.c1.aP f (ne h.c1 (by decide)),h.ct.aP f (ne h.ct (by decide)),h.l2.aP f (ne h.l2 (by decide)),h.l3.aP f (ne h.l3 (by decide)),h.l4.aP f (ne h.l4 (by decide)),h.l5.aP f (ne h.l5 (by decide))⟩
def Nk(w:World)(r:Nat)(x2:Value)(a b c d:aK)(w':World):Prop:=∃g,Cs w' r uO #[.int .u32 1,.int .i32 0,x2,.iface tY (iW g),.slice none 0 0]∧KM w' g a b c d∧al (fun x=>x=r) w w'
theorem Ts{w:World}   {a b c d:aK}(h:Cs w r uO #[.int .u32 0,.int .i32 0,x2,.nilIface,.slice A 8 cp])(s:∀v,al (fun x=>x=r) w v→di cI v A 8 [[36,64],a,[36,60],b,[36,94],c,[36,42],d]) :
  Calls Tryz.prog 266 #[iW r,.func (.func 256) #[iW r] #[]] w fun e w'=>e=.returned (.tuple #[])∧Nk w r x2 a b c d w':=by
 have E:w.cell? ⟨r,0,none⟩=some (.int .u32 0):=h.cell 0
 have F:w.cell? ⟨r,1,none⟩=some (.int .i32 0):=h.cell 1
 have G:=h.frozen 1
 obtain⟨m,i⟩:∃u,u=w.setCell ⟨r,1,none⟩ (.int .i32 1):=⟨_,rfl⟩
 have o:al (fun x=>x=r) w m:=by rw[i];exact(al.refl _ w).at_ 1 _
 have p:Cs m r uO #[.int .u32 0,.int .i32 1,x2,.nilIface,.slice A 8 cp]:=by rw[i];exact h.cM 1 _
 have k:=aj (Ki (w:=m) ⟨r,0,none⟩ 0 (p.cell 0))
 have l:=aj (Ga p (s m o))
 have t:=aj o
 have y:∀(x:Bool) (w:World),(Op.unary .not (.bool x)).run Tryz.prog w=.ok (.bool (!x)) w:=fun _ _=>rfl
 clear h s p o
 go_enter_defers Tryz.func266,Tryz.ntmps266
 go_wp2_with (go_at_call 273;refine(QP ⟨r,1,none⟩ _ (by go_simp) (by go_simp)).mono ?_;rintro e w' ⟨rfl,rfl⟩)
 rw[←i]
 clear i E F G
 refine k.ou.mono ?_
 rintro e u ⟨rfl,rfl⟩
 go_wp2_with fail
 refine l.ou.mono ?_
 rintro e j ⟨rfl,g,z,B,C⟩
 have H:Hd (al (fun x=>x=r) w j):=t.ou.trans C fun _ _ e=>e
 have n:=aj z
 have I:=aj B
 clear z B C l k t
 go_wp2_with fail
 refine leaves_cons (f:=275) (args:=#[.pointer (some ⟨r,0,none⟩),.bool true]) (by simp) (by simp[go_sem]) ?_
 refine(MS ⟨r,0,none⟩ (.int .u32 0) .returning _ (n.ou.cell 0) (n.ou.frozen 0)).mono ?_
 rintro e J L ⟨rfl,rfl,rfl⟩
 refine leaves_cons (f:=274) (args:=#[.pointer (some ⟨r,1,none⟩)]) (by simp[settle]) (by simp[go_sem]) ?_
 have q:Cs (j.drew.setCell ⟨r,0,none⟩ (.int .u32 1)) r uO #[.int .u32 1,.int .i32 1,x2,.iface tY (iW g),.slice none 0 0]:=n.ou.drew.cM 0 _
 refine(L4 ⟨r,1,none⟩ _ _ (q.cell 1) (q.frozen 1)).mono ?_
 rintro e J M ⟨rfl,rfl,rfl⟩
 have D:al (fun x=>x=r) j ((j.drew.setCell ⟨r,0,none⟩ (.int .u32 1)).setCell ⟨r,1,none⟩ (.int .i32 0)):=((al.refl _ j).drew.at_ 0 _).at_ 1 _
 have K:Hd (Nk w r x2 a b c d ((j.drew.setCell ⟨r,0,none⟩ (.int .u32 1)).setCell ⟨r,1,none⟩ (.int .i32 0))):=⟨g,q.cM 1 _,I.ou.only n.ou D,H.ou.trans D fun _ _ e=>e⟩
 simp[Leaves,settle,results,Tryz.results266]
 exact K.ou
theorem VH{w:World}   {a b c d:aK}(h:Cs w r uO #[.int .u32 0,.int .i32 0,x2,.nilIface,.slice A 8 cp])(g:∀v,al (fun x=>x=r) w v→di cI v A 8 [[36,64],a,[36,60],b,[36,94],c,[36,42],d]) :
  Calls Tryz.prog 255 #[iW r,.func (.func 256) #[iW r] #[]] w fun e w'=>e=.returned (.tuple #[])∧Nk w r x2 a b c d w':=by
 have f:=aj (Ki (w:=w) ⟨r,0,none⟩ 0 (h.cell 0))
 have i:=aj (Ts h g)
 have j:∀(x:Bool) (w:World),(Op.unary .not (.bool x)).run Tryz.prog w=.ok (.bool (!x)) w:=fun _ _=>rfl
 clear h g
 go_enter Tryz.func255,Tryz.ntmps255
 go_wp2_with fail
 refine f.ou.mono ?_
 rintro e u ⟨rfl,rfl⟩
 go_wp2_with fail
 refine i.ou.mono ?_
 rintro e m ⟨rfl,k⟩
 have l:=aj k
 clear k i f
 go_wp2_with fail
 go_end0
 exact⟨rfl,l.ou⟩
theorem MU:((Tryz.prog.info? tY).bind fun i=>i.methods.find? fun m=>m.name == "Replace").map (fun m=>(m.path.toList,m.func))=some ([],some (324,true)):=by kernel_rfl
theorem UY(k b:Nat)(w:World)(f:k≠0):(method k tY (iW b) "Replace").run Tryz.prog w=.ok (324,iW b) w:=by
 obtain⟨m,c,a⟩:=gS.1 MU
 obtain⟨i,d,e⟩:=jO.1 c
 obtain⟨n,rfl⟩:∃n,k=n+1:=⟨k-1,by omega⟩
 simp only[Prod.mk.injEq] at a
 simp[method,typeInfo,d,e,a.1,a.2,follow,receiverAt,run_underlying Tryz.underlying357,Place.get]
theorem Bw {w:World}    {a b c d:aK} (h:Cs w r uO #[.int .u32 0,.int .i32 0,x2,.nilIface,.slice A 8 cp]) (f:∀v,al (fun x=>x=r) w v→di cI v A 8 [[36,64],a,[36,60],b,[36,94],c,[36,42],d])
  (s:aK) (t:s.length≤1000000) (i:(iS (qS a b c d) s).length≤100000000) :
  Calls Tryz.prog 238 #[iW r,S s] w fun e w'=>e=.returned (S (iS (qS a b c d) s))∧al (fun x=>x=r) w w':=by
 have j:=aj (VH h f)
 have y:=aj i
 clear h f i
 have z:∀(fn:Fn) (first cap:Array Value) (w:World),(Instr.makeFunc fn first cap).run Tryz.prog w=.ok (.func fn first cap) w:=fun _ _ _ _=>rfl
 go_enter Tryz.func238,Tryz.ntmps238
 go_wp2_with fail
 refine j.ou.mono ?_
 rintro e B ⟨rfl,g,l,⟨E,F,G,H,I,J,K,gs,m⟩,n⟩
 have L:B.cell? ⟨r,3,none⟩=some (.iface tY (iW g)):=l.cell 3
 have o:=aj (D9 m s t y.ou)
 have p:=aj n
 have C:=fun k u hk=>UY k g u hk
 clear l m n j
 go_wp2_with fail
 refine o.ou.mono ?_
 rintro e M ⟨rfl,q⟩
 have D:=aj (p.ou.ae q)
 clear q o p
 go_wp2_with fail
 go_ret
 exact⟨rfl,D.ou⟩
theorem Kk(A:Option Addr)(n c:Nat)(w:World):(Instr.build uO #[(2,.slice A n c)]).run Tryz.prog w=.ok (.agg #[.int .u32 0,.int .i32 0,.int .u32 0,.nilIface,.slice A n c]) w:=run_build w uO _ _ (by kernel_rfl)
theorem Fz{w:World}  {l:List aK}(h:di cI w A 8 l) :
  Calls Tryz.prog 236 #[.slice A 8 cp] w fun e w'=>∃r a b,e=.returned (iW r)∧w.heap.size≤r∧Cs w' r uO #[.int .u32 0,.int .i32 0,.int .u32 0,.nilIface,.slice a 8 b]∧(∀v,al (fun x=>x=r) w' v→di cI v a 8 l)∧bf w w':=by
 have H:=aj h
 have p:=Kk
 have yS:(Tryz.prog.info? 9).map (fun i=>(i.zero,i.size,i.bytes))=some (some (.string ⟨#[]⟩),1,16):=by kernel_rfl
 have p8:Hd (tf Tryz.prog 44 9 1):=tf.mk' Tryz.underlying44 yS rfl (by omega) (by omega)
 clear h yS
 go_enter Tryz.func236,Tryz.ntmps236
 go_wp2_with (at_builtin;go_must (refine dy (v:=.slice none 0 0) (n:=0) (xs:=[]) rfl p8.ou rfl rfl rfl (World.ownsRow_nil _ _ _ _) (H.ou.rd (by decide)) (qE l) (by omega) ?_);intro a b d c f j)
 have F:bR cI 9 w d a b l:=(bR.nil cI 9 w w (al.refl _ _)).grow (ys:=l) H.ou.1 c f j
 have k:=H.ou.1
 refine bodyPost_ret (results_tmp rfl _ _ _) rfl ?_
 have m:∀g,(Value.slice a l.length b).ownBlock=some g→¬g=d.heap.size:=fun g f e=>by
  obtain⟨cur,o⟩:=fI F.own f
  have:=o.lt
  omega
 refine⟨d.heap.size,a,b,rfl,F.ext.size,Cs.new _ _ _,fun v hv=>?_,F.ext.alloc _⟩
 rw[←k]
 exact di.jk (T:=cI) (by decide) (cl (F.on ((al.refl No d).alloc _)).own hv m)
abbrev oI:TypeId:=267
abbrev Ey:TypeId:=5
theorem Fc:(Tryz.prog.info? oI).map (·.size)=some 2:=by kernel_rfl
theorem Nm:liesAt Tryz.prog Tryz.prog.depth oI (2/Tryz.prog.cellsOf oI) 0 oI 1=true:=by kernel_rfl
theorem QM:(Tryz.prog.info? Ey).map (fun i=>(i.zero,i.size,i.bytes))=some (some (.int .u8 0),1,1):=by kernel_rfl
theorem Pu(b:Nat)(w:World)(c:w.cell? ⟨b,0,none⟩=some (.pointer (some ⟨b,0,none⟩))) :
  Calls Tryz.prog 228 #[.pointer (some ⟨b,0,none⟩)] w fun e w'=>e=.returned (.tuple #[])∧w'=w:=by
 obtain⟨j,a,_⟩:=gS.1 Fc
 go_enter Tryz.func228,Tryz.ntmps228
 go_wp2
 rw[Lib.run_neq_ptr_same w _ Tryz.underlying265 a]
 go_wp2
 go_end0
 exact⟨rfl,rfl⟩
theorem NN(b:Nat)(w:World)(g:w.cell? ⟨b,0,none⟩=some (.pointer none))(a:w.shape? b=some (oI,2))(f:w.frozen? ⟨b,0,none⟩=false) :
  Calls Tryz.prog 228 #[.pointer (some ⟨b,0,none⟩)] w fun e w'=>e=.returned (.tuple #[])∧w'=w.setCell ⟨b,0,none⟩ (.pointer (some ⟨b,0,none⟩)):=by
 obtain⟨j,d,c⟩:=gS.1 Fc
 go_enter Tryz.func228,Tryz.ntmps228
 go_wp2
 rw[Lib.run_to_unsafe w ⟨b,0,none⟩ Tryz.underlying265 Tryz.underlying309 d (by rw[c];decide) a (Nat.zero_lt_succ 1)]
 simp only[Result.andThen]
 rw[Oper.upon_value]
 go_wp2
 rw[run_callFunc_extern Tryz.func250 (by kernel_rfl) (by kernel_rfl) (by kernel_rfl) (e:=Extern.AbiNoEscape.same) (by kernel_rfl)]
 rw[Lib.run_noEscape]
 simp only[Result.andThen]
 rw[Oper.upon_value]
 go_wp2
 rw[Lib.run_from_unsafe w ⟨b,0,none⟩ Tryz.underlying309 Tryz.underlying265 d a Nm]
 simp only[Result.andThen]
 rw[Oper.upon_value]
 go_wp2
 go_end0
 exact⟨rfl,rfl⟩
theorem VW(B b:Nat)(a:List Value)(w:World)(h:Lib.IsBuilderF oI Ey B b a w) :
  Calls Tryz.prog 228 #[.pointer (some ⟨b,0,none⟩)] w fun e w'=>e=.returned (.tuple #[])∧(Lib.BuilderAtF oI Ey B b (.pointer (some ⟨b,0,none⟩)) a w'∧Below B w w'):=by
 rcases h with h|h
 ·refine(NN b w h.cell0 h.shape h.frozen0).mono ?_
  rintro e w' ⟨rfl,rfl⟩
  exact⟨rfl,h.used _,(Below.refl B w).setCell (p:=⟨b,0,none⟩) h.1 _⟩
 ·refine(Pu b w h.cell0).mono ?_
  rintro e w' ⟨rfl,rfl⟩
  exact⟨rfl,h,Below.refl B _⟩
theorem r8(B b:Nat)(l:List Value)(s:ByteArray)(w:World)(h:Lib.IsBuilderF oI Ey B b l w)(x:l.length+s.size≤140737488355328)(C:B≤w.heap.size) :
  Calls Tryz.prog 202 #[.pointer (some ⟨b,0,none⟩),.string s] w fun e w'=>e=.returned (.tuple #[.int .i64 s.size,.nilIface])∧(Lib.IsBuilderF oI Ey B b (l++Lib.strCells s) w'∧Below B w w'):=by
 obtain⟨D,E,o,q,r⟩:=info_parts QM
 go_enter Tryz.func202,Tryz.ntmps202
 go_wp2_with (go_at_call 228;refine(VW B b l _ h).mono ?_)
 rintro e m ⟨rfl,F,j⟩
 obtain⟨y,v,d,i,t⟩:=F
 have H:m.cell? ⟨b,0,none⟩=some (.pointer (some ⟨b,0,none⟩)):=by rw[Lib.cell_of_heap d];rfl
 have c1:m.cell? ⟨b,1,none⟩=some v:=by rw[Lib.cell_of_heap d];rfl
 go_wp2_with (at_builtin;refine Lib.wpList_append_own_stringF _ rfl _ _ 233 9 rfl B Ey D Tryz.underlying233 Tryz.underlying9 E o q r _ _ _ rfl i s rfl ?c3 ?c4 ?c5 ?_)
 case c3=>unfold maxLen;omega
 case c4=>omega
 case c5=>have:=j.size;omega
 intro G n a c _
 have u:b<m.heap.size:=by
  rcases dm b m.heap.size with h'|h'
  ·exact h'
  ·simp[dx h'] at d
 have f:n.heap[b]?=some (.cells #[.pointer (some ⟨b,0,none⟩),v] oI (0,0)):=by
  rw[c.block b u (fun e=>t e.symm)]
  exact d
 have I:n.cell? ⟨b,0,none⟩=some (.pointer (some ⟨b,0,none⟩)):=by rw[Lib.cell_of_heap f];rfl
 have J:n.cell? ⟨b,1,none⟩=some v:=by rw[Lib.cell_of_heap f];rfl
 have K:n.frozen? ⟨b,1,none⟩=false:=Lib.frozen_of_heap f 1
 obtain⟨z,A,cap,rfl⟩:∃z A cap,G=.slice z A cap:=by
  rcases a.2 with⟨hv,_⟩|⟨g,cap,cur,fz,hv,_⟩
  ·exact⟨_,_,_,hv⟩
  ·exact⟨_,_,_,hv⟩
 go_wp2
 go_ret2
 refine⟨rfl,.inr ?_,?_⟩
 ·exact Lib.BuilderAtF.put (T:=oI) (e:=Ey) y f (bs':=l++Lib.strCells s) (by simpa [Lib.strCells_length] using a) (by decide)
 ·exact(j.grown c (by have:=j.size;omega) (fun k hk=>(i.lt k hk).1)).setCell (p:=⟨b,1,none⟩) y _
end Go.Proofs.YtpgmcijdcnnjpaaGreatDoor
