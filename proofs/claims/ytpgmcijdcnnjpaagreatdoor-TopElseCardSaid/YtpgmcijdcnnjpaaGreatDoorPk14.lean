/- Lemmas for it. -/
import Derived.Test.YtpgmcijdcnnjpaaGreatDoorPk10
import Derived.Test.YtpgmcijdcnnjpaaGreatDoorPk13
set_option linter.all false
set_option maxRecDepth 100000
set_option maxHeartbeats 8000000
namespace Go.Proofs.YtpgmcijdcnnjpaaGreatDoor
open Go Go.RowKit
variable {A A' lA:Option Addr} {c c' lc n:Nat} {w5:World} {t:aK} {xs:List aK} {rs:List (fW×lR)} {m:Mk} {l:List bm}
theorem LQ(s:aK):oz s [37]=s:=by
 unfold oz
 split
 ·rename_i h
  have:=mg 37 s h
  rw[aT]
  exact this.symm
 ·rfl
theorem Sl{w:World}(c:Ml w)(s t:aK)(i:s.length≤5000)(g:t.length≤5000):Calls Tryz.prog 159 #[S s,S [37],S t,.int .i64 1] w fun e w'=>e=.returned (S (oz s t))∧bf w w':=by
 obtain⟨m,c⟩:=c
 by_cases a:[37]=t
 ·subst a
  refine(Tryz.strings_Replace_none ⟨s.toArray⟩ ⟨#[37]⟩ ⟨#[37]⟩ 1 w (.inl rfl)).mono ?_
  rintro e w' ⟨rfl,rfl⟩
  exact⟨by rw[LQ],al.refl _ _⟩
 ·have b:(⟨s.toArray⟩:ByteArray).size=s.length:=by simp[ByteArray.size]
  have d:Lib.countB ⟨s.toArray⟩ ⟨#[37]⟩≤s.length:=by
   have j:Lib.countB ⟨s.toArray⟩ ⟨#[37]⟩=Lib.count s [37]:=rfl
   have k:=(n9 37 _ s (aq _)).2
   have l:=oG 37 s
   omega
  have f:Lib.countB ⟨s.toArray⟩ ⟨#[37]⟩*t.length≤5000*5000:=kb (by omega) g
  refine(Tryz.strings_Replace ⟨s.toArray⟩ ⟨#[37]⟩ ⟨t.toArray⟩ 1 m w (by rw[b];omega) c (by show 1≤1;omega) (by rw[b];show s.length+_*t.length≤_;omega)).mono ?_
  rintro e w' ⟨rfl,h⟩
  refine⟨?_,al.below h⟩
  rw[←vL s t (by rw[bl];exact a)]
theorem KU(A:Option Addr)(n c:Nat)(b:Bool)(w:World):(Instr.build ia #[(0,.slice A n c),(3,.bool b)]).run Tryz.prog w=.ok (.agg #[.slice A n c,.slice none 0 0,.slice none 0 0,.bool b]) w:=run_build w ia _ _ (by kernel_rfl)
abbrev IU(x:fW×lR):Array Value:=#[.slice x.1.tA x.2.targets.length x.1.tc,.slice x.1.nA x.2.aN.length x.1.nc,.slice x.1.cA x.2.bD.length x.1.cc]
abbrev UC:Array Value:=#[.slice none 0 0,.slice none 0 0,.slice none 0 0,.bool false]
structure Gr (w u:World) (b b5 b8:Nat) (L5:Array Value) (a:fW) (ts ns ks:List aK) (ph:Bool):Prop where
 cs:Cs u b ia #[.slice a.tA ts.length a.tc,.slice a.nA ns.length a.nc,.slice a.cA ks.length a.cc,.bool ph]
 c5:Cs u b5 kP L5
 c8:Cs u b8 ia UC
 ft:bR cI 9 w u a.tA a.tc ts
 fn:bR cI 9 w u a.nA a.nc ns
 fc:bR cI 9 w u a.cA a.cc ks
 hb:w.heap.size≤b
 h8:w.heap.size≤b8
 n8:b8≠b
 tn:∀g,(Value.slice a.tA ts.length a.tc).ownBlock=some g→(Value.slice a.nA ns.length a.nc).ownBlock≠some g
 tk:∀g,(Value.slice a.tA ts.length a.tc).ownBlock=some g→(Value.slice a.cA ks.length a.cc).ownBlock≠some g
 nk:∀g,(Value.slice a.nA ns.length a.nc).ownBlock=some g→(Value.slice a.cA ks.length a.cc).ownBlock≠some g
section
variable {w u v:World} {b b5 b8:Nat} {L5:Array Value} {a:fW} {ts ns ks:List aK} {ph:Bool}
theorem Gr.ext(h:Gr w u b b5 b8 L5 a ts ns ks ph)(c:bf u v):Gr w v b b5 b8 L5 a ts ns ks ph:=
 ⟨h.cs.aP c id,h.c5.aP c id,h.c8.aP c id,h.ft.on c,h.fn.on c,h.fc.on c,h.hb,h.h8,h.n8,h.tn,h.tk,h.nk⟩
theorem Gr.GA (h:Gr w u b b5 b8 L5 a ts ns ks ph)    
  (f:w5.ownsRow 0 9 1 (.slice A' (ns.length+1:Nat) c') (ns.length+1) (ns.flatMap cI.enc++[t].flatMap cI.enc)) (m:u.grownBy w5 (Value.slice a.nA ns.length a.nc).ownBlock)
  (c:(Value.slice A' (ns.length+1:Nat) c').ownBlock=(Value.slice a.nA ns.length a.nc).ownBlock∨(Value.slice A' (ns.length+1:Nat) c').ownBlock=some u.heap.size) :
  Gr w (w5.setCell ⟨b,1,none⟩ (.slice A' (ns.length+1:Nat) c')) b b5 b8 L5 { a with nA:=A',nc:=c' } ts (ns++[t]) ks ph:=by
 have i:al (fun g=>(Value.slice a.nA ns.length a.nc).ownBlock=some g) u w5:=(al.refl _ _).grown m fun g e=>.inr e
 have j:=h.fn.grow (ys:=[t]) rfl f m c
 have p:=h.ft.aP i j.ext (fun g h1 h2=>h.tn g h1 h2)
 have q:=h.fc.aP i j.ext (fun g h1 h2=>h.nk g h2 h1)
 have k:=h.cs.aP i (fun e=>aO h.fn.own h.cs (by decide) _ e rfl)
 have r:=h.c5.aP i (fun e=>aO h.fn.own h.c5 (by decide) _ e rfl)
 have s:=h.c8.aP i (fun e=>aO h.fn.own h.c8 (by decide) _ e rfl)
 have d:al (fun g=>g=b) w5 (w5.setCell ⟨b,1,none⟩ (.slice A' (ns.length+1:Nat) c')):=(al.refl _ _).at_ 1 _
 have n:bf w (w5.setCell ⟨b,1,none⟩ (.slice A' (ns.length+1:Nat) c')):=j.ext.trans d fun g m e=>by have e:g=b:=e;have:=h.hb;omega
 refine⟨?_,r.aP d (fun e=>Cs.oC r k (by decide) e),s.aP d h.n8,p.aP d n (aO p.own k (by decide)),j.aP d n (aO j.own k (by decide)),q.aP d n (aO q.own k (by decide)),h.hb,h.h8,h.n8,fun g h1 h2=>?_,h.tk,fun g h1 h2=>?_⟩
 ·have:=k.cM 1 (.slice A' (ns.length+1:Nat) c')
  rw[af]
  exact this
 ·rw[af] at h2
  rcases c with c|c
  ·exact h.tn g h1 (c.symm.trans h2)
  ·have l:some u.heap.size=some g:=c.symm.trans h2
   injection l with l
   obtain⟨cur,o⟩:=fI h.ft.own h1
   have:=o.lt
   omega
 ·rw[af] at h1
  rcases c with c|c
  ·exact h.nk g (c.symm.trans h1) h2
  ·have l:some u.heap.size=some g:=c.symm.trans h1
   injection l with l
   obtain⟨cur,o⟩:=fI h.fc.own h2
   have:=o.lt
   omega
theorem Gr.UF (h:Gr w u b b5 b8 L5 a ts ns ks ph)    
  (f:w5.ownsRow 0 9 1 (.slice A' (ks.length+1:Nat) c') (ks.length+1) (ks.flatMap cI.enc++[t].flatMap cI.enc)) (m:u.grownBy w5 (Value.slice a.cA ks.length a.cc).ownBlock)
  (c:(Value.slice A' (ks.length+1:Nat) c').ownBlock=(Value.slice a.cA ks.length a.cc).ownBlock∨(Value.slice A' (ks.length+1:Nat) c').ownBlock=some u.heap.size) :
  Gr w (w5.setCell ⟨b,2,none⟩ (.slice A' (ks.length+1:Nat) c')) b b5 b8 L5 { a with cA:=A',cc:=c' } ts ns (ks++[t]) ph:=by
 have i:al (fun g=>(Value.slice a.cA ks.length a.cc).ownBlock=some g) u w5:=(al.refl _ _).grown m fun g e=>.inr e
 have j:=h.fc.grow (ys:=[t]) rfl f m c
 have p:=h.ft.aP i j.ext (fun g h1 h2=>h.tk g h1 h2)
 have q:=h.fn.aP i j.ext (fun g h1 h2=>h.nk g h1 h2)
 have k:=h.cs.aP i (fun e=>aO h.fc.own h.cs (by decide) _ e rfl)
 have r:=h.c5.aP i (fun e=>aO h.fc.own h.c5 (by decide) _ e rfl)
 have s:=h.c8.aP i (fun e=>aO h.fc.own h.c8 (by decide) _ e rfl)
 have d:al (fun g=>g=b) w5 (w5.setCell ⟨b,2,none⟩ (.slice A' (ks.length+1:Nat) c')):=(al.refl _ _).at_ 2 _
 have n:bf w (w5.setCell ⟨b,2,none⟩ (.slice A' (ks.length+1:Nat) c')):=j.ext.trans d fun g m e=>by have e:g=b:=e;have:=h.hb;omega
 refine⟨?_,r.aP d (fun e=>Cs.oC r k (by decide) e),s.aP d h.n8,p.aP d n (aO p.own k (by decide)),q.aP d n (aO q.own k (by decide)),j.aP d n (aO j.own k (by decide)),h.hb,h.h8,h.n8,h.tn,fun g h1 h2=>?_,fun g h1 h2=>?_⟩
 ·have:=k.cM 2 (.slice A' (ks.length+1:Nat) c')
  rw[af]
  exact this
 ·rw[af] at h2
  rcases c with c|c
  ·exact h.tk g h1 (c.symm.trans h2)
  ·have l:some u.heap.size=some g:=c.symm.trans h2
   injection l with l
   obtain⟨cur,o⟩:=fI h.ft.own h1
   have:=o.lt
   omega
 ·rw[af] at h2
  rcases c with c|c
  ·exact h.nk g h1 (c.symm.trans h2)
  ·have l:some u.heap.size=some g:=c.symm.trans h2
   injection l with l
   obtain⟨cur,o⟩:=fI h.fn.own h1
   have:=o.lt
   omega
theorem Gr.VV (h:Gr w u b b5 b8 L5 a ts [] [] ph) (i:a.nA=none) (j:a.cA=none)    
  (d:bR cI 9 w w5 A' c' [t]) (k:bf u w5) :
  Gr w (w5.setCell ⟨b,0,none⟩ (.slice A' 1 c')) b b5 b8 L5 { a with tA:=A',tc:=c' } [t] [] [] ph:=by
 have g:=h.ext k
 have c:al (fun g=>g=b) w5 (w5.setCell ⟨b,0,none⟩ (.slice A' 1 c')):=(al.refl _ _).at_ 0 _
 have f:bf w (w5.setCell ⟨b,0,none⟩ (.slice A' 1 c')):=d.ext.trans c fun q hg e=>by have e:q=b:=e;have:=h.hb;omega
 refine⟨g.cs.cM 0 _,g.c5.aP c (fun e=>Cs.oC g.c5 g.cs (by decide) e),g.c8.aP c g.n8,d.aP c f (aO d.own g.cs (by decide)),g.fn.aP c f (aO g.fn.own g.cs (by decide)),g.fc.aP c f (aO g.fc.own g.cs (by decide)),g.hb,g.h8,g.n8,fun q _ h2=>?_,fun q _ h2=>?_,g.nk⟩
 ·simp[i,Value.ownBlock] at h2
 ·simp[j,Value.ownBlock] at h2
end
theorem Me{w u:World}(a:bf w u)(t:aK):bR cI 9 w (u.alloc (.cells #[S t] 9)) (some ⟨u.heap.size,0,none⟩) 1 [t]:=
 ⟨⟨rfl,.inr ⟨u.heap.size,1,#[S t],rfl,au _,Cs.new u _ _,aq _,by simp[maxLen],rfl,rfl⟩⟩,a.alloc _,fun g hg=>by simp[Value.ownBlock] at hg;have:=a.size;omega⟩
theorem Dt{w:World}{B:Nat}{e:TypeId}{a:Nat} {xs:List Value}(h:w.ownsRow B e a (.slice A n c) n xs):n≤c:=by
 rcases h.2 with⟨h1,h2⟩|⟨g,cap,cur,h1,_,_,h2,_⟩
 ·omega
 ·injection h1 with _ _ h3
  omega
theorem vx{w:World}{b:Nat}{x y z p:Value}(h:Cs w b ia #[x,y,z,p]):(loadVar ia ⟨b,0,none⟩).run Tryz.prog w=.ok (.agg #[x,y,z,p]) w:=by
 have a:=h.cell 0
 have c1:=h.cell 1
 have c:=h.cell 2
 have d:=h.cell 3
 simp only[aB,aQ,aX] at a c1 c d
 go_simp
def RL(w:World)(g:dv)(e:Ending)(w':World):Prop:=∃a:fW,e=.returned (AP (a,g))∧bR cI 9 w w' a.tA a.tc g.targets∧bR cI 9 w w' a.nA a.nc g.aN∧bR cI 9 w w' a.cA a.cc g.bD∧bf w w'
theorem VR {w:World} (bw:Ml w) {v:wR}   (hm:pY w v rs m) {x:fW×lR} (T:di cI w x.1.tA x.2.targets.length x.2.targets) (hn:di cI w x.1.nA x.2.aN.length x.2.aN) (hc:di cI w x.1.cA x.2.bD.length x.2.bD)
  (h1:1≤x.2.targets.length) (U:x.2.targets.length≤2) (h3:x.2.aN.length≤3) (h4:x.2.bD.length≤3) (l1:∀t∈x.2.targets,t.length≤100) (l2:∀t∈x.2.aN,t.length≤100) (l3:∀t∈x.2.bD,t.length≤100)
  (B f:aK) (l4:B.length≤200) (l5:f.length≤200) (db:m.ba.length≤100000) :
  Calls Tryz.prog 178 #[Sz v m,J6 x,S B,S f] w (RL w (gW m x.2 B f)):=by
 obtain⟨w1,ak⟩:∃u,u=w.alloc (.cells #[.slice v.vA m.vars.length v.vc,.slice v.rA m.rules.length v.rc,.slice v.pA m.ba.length v.pc] kN):=⟨_,rfl⟩
 obtain⟨w2,am⟩:∃u,u=w1.alloc (.cells #[.slice x.1.tA x.2.targets.length x.1.tc,.slice x.1.nA x.2.aN.length x.1.nc,.slice x.1.cA x.2.bD.length x.1.cc] kP):=⟨_,rfl⟩
 go_enter Tryz.func178,Tryz.ntmps178
 go_upto_region 1 with fail
 obtain⟨O,aD⟩:∃u,u=w2.alloc (.cells #[.slice none 0 0,.slice none 0 0,.slice none 0 0,.bool false] ia):=⟨_,rfl⟩
 rw[←ak,←am,←aD]
 obtain⟨b4,a0⟩:∃b,b=w.heap.size:=⟨_,rfl⟩
 obtain⟨b5,M⟩:∃b,b=w.heap.size+1:=⟨_,rfl⟩
 obtain⟨I,a3⟩:∃b,b=w.heap.size+1+1:=⟨_,rfl⟩
 rw[←a3,←M,←a0]
 have s1:w1.heap.size=w.heap.size+1:=by rw[ak];simp
 have s2:w2.heap.size=w.heap.size+1+1:=by rw[am];simp[s1]
 have x1:bf w w1:=by rw[ak];exact(al.refl No w).alloc _
 have x2:bf w1 w2:=by rw[am];exact(al.refl No w1).alloc _
 have x3:bf w2 O:=by rw[aD];exact(al.refl No w2).alloc _
 have C4:Cs O b4 kN #[.slice v.vA m.vars.length v.vc,.slice v.rA m.rules.length v.rc,.slice v.pA m.ba.length v.pc]:=(show Cs w1 b4 kN _ by rw[ak,a0];exact Cs.new _ _ _).aP (x2.ae x3) id
 have C5:Cs O b5 kP #[.slice x.1.tA x.2.targets.length x.1.tc,.slice x.1.nA x.2.aN.length x.1.nc,.slice x.1.cA x.2.bD.length x.1.cc]:=(show Cs w2 b5 kP _ by rw[am,M,←s1];exact Cs.new _ _ _).aP x3 id
 have C8:Cs O I ia #[.slice none 0 0,.slice none 0 0,.slice none 0 0,.bool false]:=by rw[aD,a3,←s2];exact Cs.new _ _ _
 have X3:Hd (bf w O):=(x1.ae x2).ae x3
 have HB:Hd (w.heap.size≤b4∧w.heap.size≤b5∧w.heap.size≤I):=by rw[a0,M,a3];exact⟨by omega,by omega,by omega⟩
 have HC:=aj (And.intro C4 (And.intro C5 C8))
 have HM:=aj (And.intro bw hm)
 have HX:=aj (And.intro T (And.intro hn hc))
 have HL:=aj (And.intro l1 (And.intro l2 l3))
 clear ak am aD a0 M a3 s1 s2 x1 x2 x3 C4 C5 C8 bw hm T hn hc l1 l2 l3
 obtain⟨bb,o,t0,hA,hx,c0⟩:=dq HX.ou.1 (k:=0) (by omega)
 have bx:x.2.targets.headD []=t0:=by
  cases htt:x.2.targets with
  | nil=>rw[htt] at hx;cases hx
  | cons y r=>rw[htt] at hx;exact bB hx
 have co:=aj bx
 have d5:∀ξ:X O No,ξ.v.cell? ⟨b5,0,none⟩=some (.slice (some ⟨bb,o,none⟩) x.2.targets.length x.1.tc):=fun ξ=>by rw[←hA];exact HC.ou.2.1.x (F:=No) id 0 ξ
 have d4:∀ξ:X O No,ξ.v.cell? ⟨b4,2,none⟩=some (.slice v.pA m.ba.length v.pc):=HC.ou.1.x (F:=No) id 2
 have dt:∀ξ:X O No,ξ.v.cell? ⟨bb,o,none⟩=some (S t0):=fun ξ=>c0 ⟨ξ.v,X3.ou.ae ξ.h⟩
 have a7:Hd (∀u,bf w u→Calls Tryz.prog 95 #[.slice (some ⟨bb,o,none⟩) x.2.targets.length x.1.tc] u fun e w'=>∃A' c',e=.returned (.slice A' x.2.targets.length c')∧bR cI 9 u w' A' c' x.2.targets):=fun u hu=>
  nO (c:=x.1.tc) (by rw[←hA];exact HX.ou.1.ext hu) (fun e=>by cases e) (by omega)
 obtain⟨V,ao⟩:∃b,b=iH m.ba t0:=⟨_,rfl⟩
 have a4:Hd (∀u,bf w u→Calls Tryz.prog 114 #[.slice v.pA m.ba.length v.pc,S t0] u fun e w'=>e=.returned (.bool V)∧bf u w'):=fun u hu=>by
  rw[ao];exact jr (c:=v.pc) (HM.ou.2.fp.ext hu) (by omega) t0
 have cq:=aj ao
 have cu:=KU
 have HA:=aj hA
 clear hx c0 bx ao hA
 go_cut [9] from 14 to 24 (fun p u=>∃s L c1,p=iW s∧Gr w u s b5 I (IU x) ⟨L,c1,none,0,none,0⟩ x.2.targets [] [] V)
 case first=>
  refine uE 13 [2,9,11,12] (Cl O No) rfl (by kernel_rfl) (by kernel_rfl) (Cl.eU (X.here O No)) ?_
  obtain⟨μ0,a8⟩:∃u,u=O.drew:=⟨_,rfl⟩
  have Y:Hd (bf O μ0):=by rw[a8];exact(al.refl No O).drew
  rw[←a8]
  clear a8
  (refine bW (i:=0) (by kernel_rfl) rfl rfl rfl rfl ?_;intro K hK;go_big_quiet_op;go_big_quiet_on);(refine bW (i:=1) (by kernel_rfl) rfl rfl rfl rfl ?_;intro K hK;go_big_quiet_op;go_big_quiet_on);(refine bW (i:=3) (by kernel_rfl) rfl rfl rfl rfl ?_;intro K hK;go_big_quiet_op;go_big_quiet_on);(refine bW (i:=4) (by kernel_rfl) rfl rfl rfl rfl ?_;intro K hK;go_big_quiet_op;go_big_quiet_on);(refine bW (i:=5) (by kernel_rfl) rfl rfl rfl rfl ?_;intro K hK;go_big_quiet_op;go_big_quiet_on);(refine bW (i:=6) (by kernel_rfl) rfl rfl rfl rfl ?_;intro K hK;go_big_quiet_op;go_big_quiet_on);(refine bW (i:=7) (by kernel_rfl) rfl rfl rfl rfl ?_;intro K hK;go_big_quiet_op;go_big_quiet_on);(refine bW (i:=8) (by kernel_rfl) rfl rfl rfl rfl ?_;intro K hK;go_big_quiet_op;go_big_quiet_on)
  refine pP (i:=2) (j:=11) (by kernel_rfl) (by kernel_rfl) rfl rfl rfl rfl rfl rfl ?_ ?_
  ·
   intro K hK
   go_simp
   refine(a7.ou _ (X3.ou.ae Y.ou)).mono ?_
   rintro e u1 ⟨L,c1,rfl,W⟩
   have F:Hd (bR cI 9 w u1 L c1 x.2.targets):=W.from (X3.ou.ae Y.ou)
   have Y:=aj (Y.ou.ae W.ext)
   refine⟨_,rfl,hK _ _ (Cl.of Y.ou) ?_⟩
   clear hK K W
   refine bj ?_
   refine pP (i:=9) (j:=11) (by kernel_rfl) (by kernel_rfl) rfl rfl rfl rfl rfl rfl ?_ ?_
   ·
    intro K hK
    go_simp
    refine(a4.ou _ (X3.ou.ae Y.ou)).mono ?_
    rintro e u2 ⟨rfl,H⟩
    have F:=aj (F.ou.on H)
    have Y:=aj (Y.ou.ae H)
    refine⟨_,rfl,hK _ _ (Cl.of Y.ou) ?_⟩
    clear hK K H
    refine bj ?_
    (refine bW (i:=10) (by kernel_rfl) rfl rfl rfl rfl ?_;intro K hK;go_big_quiet_op;go_big_quiet_on)
    refine gB (i:=11) (by kernel_rfl) (by kernel_rfl) rfl rfl rfl ?_
    intro K hK
    go_simp
    obtain⟨va,D⟩:∃u,u=(u2).alloc (.cells #[.slice none 0 0,.slice none 0 0,.slice none 0 0,.bool false] ia):=⟨_,rfl⟩
    obtain⟨s,z⟩:∃g,g=(u2).heap.size:=⟨_,rfl⟩
    have C:Hd (Cs va s ia #[.slice none 0 0,.slice none 0 0,.slice none 0 0,.bool false]):=by rw[D,z];exact Cs.new _ _ _
    have B9:Hd (w.heap.size≤s):=by rw[Hd,z];exact(X3.ou.ae Y.ou).size
    have B3:Hd (O.heap.size≤s):=by rw[Hd,z];exact Y.ou.size
    have N:bf u2 va:=by rw[D];exact(al.refl No _).alloc _
    have F:=aj (F.ou.on N)
    have Y:=aj (Y.ou.ae N)
    rw[←D,←z]
    refine hK _ _ (Cl.of Y.ou) ?_
    clear hK K D z N
    refine bj ?_
    refine gB (i:=12) (by kernel_rfl) (by kernel_rfl) rfl rfl rfl ?_
    intro K hK
    have k0:=C.ou.cell 0
    have k1:=C.ou.cell 1
    have k2:=C.ou.cell 2
    have k3:=C.ou.cell 3
    simp only[aB,aQ,aX] at k0 k1 k2 k3
    have z0:=C.ou.frozen 0
    have z1:=C.ou.frozen 1
    have z2:=C.ou.frozen 2
    have z3:=C.ou.frozen 3
    go_simp
    obtain⟨Z,E⟩:∃u,u=((((va).setCell ⟨s,0,none⟩ (.slice L x.2.targets.length c1)).setCell ⟨s,1,none⟩ (.slice none 0 0)).setCell ⟨s,2,none⟩ (.slice none 0 0)).setCell ⟨s,3,none⟩ (.bool V):=⟨_,rfl⟩
    have O9:al (fun q=>q=s) (va) Z:=by rw[E];exact((((al.refl _ _).at_ 0 _).at_ 1 _).at_ 2 _).at_ 3 _
    have C9:Cs Z s ia #[.slice L x.2.targets.length c1,.slice none 0 0,.slice none 0 0,.bool V]:=by rw[E];exact(((C.ou.cM 0 _).cM 1 _).cM 2 _).cM 3 _
    have x9:bf w Z:=(X3.ou.ae Y.ou).trans O9 fun q hq e=>by have e:q=s:=e;have:=B9.ou;omega
    have F9:bR cI 9 w Z L c1 x.2.targets:=⟨cl F.ou.own O9 (aO F.ou.own C.ou (by decide)),x9,F.ou.new⟩
    have y9:bf O Z:=Y.ou.trans O9 fun q hq e=>by have e:q=s:=e;have:=B3.ou;omega
    rw[←E]
    refine hK _ _ (Cl.of y9) ?_
    clear hK K E k0 k1 k2 k3 z0 z1 z2 z3
    refine bj ?_
    refine lE ?_
    go_wp2_with fail
    go_meet
    exact⟨s,L,c1,rfl,C9,HC.ou.2.1.aP y9 id,HC.ou.2.2.aP y9 id,F9,bR.nil _ _ _ _ x9,bR.nil _ _ _ _ x9,B9.ou,HB.ou.2.2,by have:=HC.ou.2.2.lt;have:=B3.ou;omega,fun q _ U=>by simp[Value.ownBlock] at U,fun q _ U=>by simp[Value.ownBlock] at U,fun q _ U=>by simp[Value.ownBlock] at U⟩
   ·
    intro K hK
    go_simp
    obtain⟨va,D⟩:∃u,u=(u1).alloc (.cells #[.slice none 0 0,.slice none 0 0,.slice none 0 0,.bool false] ia):=⟨_,rfl⟩
    obtain⟨s,z⟩:∃g,g=(u1).heap.size:=⟨_,rfl⟩
    have C:Hd (Cs va s ia #[.slice none 0 0,.slice none 0 0,.slice none 0 0,.bool false]):=by rw[D,z];exact Cs.new _ _ _
    have B9:Hd (w.heap.size≤s):=by rw[Hd,z];exact(X3.ou.ae Y.ou).size
    have B3:Hd (O.heap.size≤s):=by rw[Hd,z];exact Y.ou.size
    have N:bf u1 va:=by rw[D];exact(al.refl No _).alloc _
    have F:=aj (F.ou.on N)
    have Y:=aj (Y.ou.ae N)
    rw[←D,←z]
    refine hK _ _ (Cl.of Y.ou) ?_
    clear hK K D z N
    refine bj ?_
    refine gB (i:=9) (by kernel_rfl) (by kernel_rfl) rfl rfl rfl ?_
    intro K hK
    go_simp
    refine(a4.ou _ (X3.ou.ae Y.ou)).mono ?_
    rintro e u2 ⟨rfl,H⟩
    have F:=aj (F.ou.on H)
    have C:=aj (C.ou.aP H id)
    have Y:=aj (Y.ou.ae H)
    refine⟨_,rfl,hK _ _ (Cl.of Y.ou) ?_⟩
    clear hK K H
    refine bj ?_
    (refine bW (i:=10) (by kernel_rfl) rfl rfl rfl rfl ?_;intro K hK;go_big_quiet_op;go_big_quiet_on)
    refine gB (i:=12) (by kernel_rfl) (by kernel_rfl) rfl rfl rfl ?_
    intro K hK
    have k0:=C.ou.cell 0
    have k1:=C.ou.cell 1
    have k2:=C.ou.cell 2
    have k3:=C.ou.cell 3
    simp only[aB,aQ,aX] at k0 k1 k2 k3
    have z0:=C.ou.frozen 0
    have z1:=C.ou.frozen 1
    have z2:=C.ou.frozen 2
    have z3:=C.ou.frozen 3
    go_simp
    obtain⟨Z,E⟩:∃u,u=((((u2).setCell ⟨s,0,none⟩ (.slice L x.2.targets.length c1)).setCell ⟨s,1,none⟩ (.slice none 0 0)).setCell ⟨s,2,none⟩ (.slice none 0 0)).setCell ⟨s,3,none⟩ (.bool V):=⟨_,rfl⟩
    have O9:al (fun q=>q=s) (u2) Z:=by rw[E];exact((((al.refl _ _).at_ 0 _).at_ 1 _).at_ 2 _).at_ 3 _
    have C9:Cs Z s ia #[.slice L x.2.targets.length c1,.slice none 0 0,.slice none 0 0,.bool V]:=by rw[E];exact(((C.ou.cM 0 _).cM 1 _).cM 2 _).cM 3 _
    have x9:bf w Z:=(X3.ou.ae Y.ou).trans O9 fun q hq e=>by have e:q=s:=e;have:=B9.ou;omega
    have F9:bR cI 9 w Z L c1 x.2.targets:=⟨cl F.ou.own O9 (aO F.ou.own C.ou (by decide)),x9,F.ou.new⟩
    have y9:bf O Z:=Y.ou.trans O9 fun q hq e=>by have e:q=s:=e;have:=B3.ou;omega
    rw[←E]
    refine hK _ _ (Cl.of y9) ?_
    clear hK K E k0 k1 k2 k3 z0 z1 z2 z3
    refine bj ?_
    refine lE ?_
    go_wp2_with fail
    go_meet
    exact⟨s,L,c1,rfl,C9,HC.ou.2.1.aP y9 id,HC.ou.2.2.aP y9 id,F9,bR.nil _ _ _ _ x9,bR.nil _ _ _ _ x9,B9.ou,HB.ou.2.2,by have:=HC.ou.2.2.lt;have:=B3.ou;omega,fun q _ U=>by simp[Value.ownBlock] at U,fun q _ U=>by simp[Value.ownBlock] at U,fun q _ U=>by simp[Value.ownBlock] at U⟩
  ·
   intro K hK
   go_simp
   obtain⟨va,D⟩:∃u,u=(μ0).alloc (.cells #[.slice none 0 0,.slice none 0 0,.slice none 0 0,.bool false] ia):=⟨_,rfl⟩
   obtain⟨s,z⟩:∃g,g=(μ0).heap.size:=⟨_,rfl⟩
   have C:Hd (Cs va s ia #[.slice none 0 0,.slice none 0 0,.slice none 0 0,.bool false]):=by rw[D,z];exact Cs.new _ _ _
   have B9:Hd (w.heap.size≤s):=by rw[Hd,z];exact(X3.ou.ae Y.ou).size
   have B3:Hd (O.heap.size≤s):=by rw[Hd,z];exact Y.ou.size
   have N:bf μ0 va:=by rw[D];exact(al.refl No _).alloc _
   have Y:=aj (Y.ou.ae N)
   rw[←D,←z]
   refine hK _ _ (Cl.of Y.ou) ?_
   clear hK K D z N
   refine bj ?_
   refine gB (i:=2) (by kernel_rfl) (by kernel_rfl) rfl rfl rfl ?_
   intro K hK
   go_simp
   refine(a7.ou _ (X3.ou.ae Y.ou)).mono ?_
   rintro e u1 ⟨L,c1,rfl,W⟩
   have F:Hd (bR cI 9 w u1 L c1 x.2.targets):=W.from (X3.ou.ae Y.ou)
   have C:=aj (C.ou.aP W.ext id)
   have Y:=aj (Y.ou.ae W.ext)
   refine⟨_,rfl,hK _ _ (Cl.of Y.ou) ?_⟩
   clear hK K W
   refine bj ?_
   refine gB (i:=9) (by kernel_rfl) (by kernel_rfl) rfl rfl rfl ?_
   intro K hK
   go_simp
   refine(a4.ou _ (X3.ou.ae Y.ou)).mono ?_
   rintro e u2 ⟨rfl,H⟩
   have F:=aj (F.ou.on H)
   have C:=aj (C.ou.aP H id)
   have Y:=aj (Y.ou.ae H)
   refine⟨_,rfl,hK _ _ (Cl.of Y.ou) ?_⟩
   clear hK K H
   refine bj ?_
   (refine bW (i:=10) (by kernel_rfl) rfl rfl rfl rfl ?_;intro K hK;go_big_quiet_op;go_big_quiet_on)
   refine gB (i:=12) (by kernel_rfl) (by kernel_rfl) rfl rfl rfl ?_
   intro K hK
   have k0:=C.ou.cell 0
   have k1:=C.ou.cell 1
   have k2:=C.ou.cell 2
   have k3:=C.ou.cell 3
   simp only[aB,aQ,aX] at k0 k1 k2 k3
   have z0:=C.ou.frozen 0
   have z1:=C.ou.frozen 1
   have z2:=C.ou.frozen 2
   have z3:=C.ou.frozen 3
   go_simp
   obtain⟨Z,E⟩:∃u,u=((((u2).setCell ⟨s,0,none⟩ (.slice L x.2.targets.length c1)).setCell ⟨s,1,none⟩ (.slice none 0 0)).setCell ⟨s,2,none⟩ (.slice none 0 0)).setCell ⟨s,3,none⟩ (.bool V):=⟨_,rfl⟩
   have O9:al (fun q=>q=s) (u2) Z:=by rw[E];exact((((al.refl _ _).at_ 0 _).at_ 1 _).at_ 2 _).at_ 3 _
   have C9:Cs Z s ia #[.slice L x.2.targets.length c1,.slice none 0 0,.slice none 0 0,.bool V]:=by rw[E];exact(((C.ou.cM 0 _).cM 1 _).cM 2 _).cM 3 _
   have x9:bf w Z:=(X3.ou.ae Y.ou).trans O9 fun q hq e=>by have e:q=s:=e;have:=B9.ou;omega
   have F9:bR cI 9 w Z L c1 x.2.targets:=⟨cl F.ou.own O9 (aO F.ou.own C.ou (by decide)),x9,F.ou.new⟩
   have y9:bf O Z:=Y.ou.trans O9 fun q hq e=>by have e:q=s:=e;have:=B3.ou;omega
   rw[←E]
   refine hK _ _ (Cl.of y9) ?_
   clear hK K E k0 k1 k2 k3 z0 z1 z2 z3
   refine bj ?_
   refine lE ?_
   go_wp2_with fail
   go_meet
   exact⟨s,L,c1,rfl,C9,HC.ou.2.1.aP y9 id,HC.ou.2.2.aP y9 id,F9,bR.nil _ _ _ _ x9,bR.nil _ _ _ _ x9,B9.ou,HB.ou.2.2,by have:=HC.ou.2.2.lt;have:=B3.ou;omega,fun q _ U=>by simp[Value.ownBlock] at U,fun q _ U=>by simp[Value.ownBlock] at U,fun q _ U=>by simp[Value.ownBlock] at U⟩
 case rest=>
  obtain⟨s,L,c1,rfl,hG⟩:=hcut
  have G1:=aj hG
  clear hG a7 a4 d5 d4 dt cu
  obtain⟨ts,bz⟩:∃l,l=kA x.2 B f:=⟨_,rfl⟩
  have ap:=aj bz
  clear bz
  go_upto_region 2 with fail
  go_cut [9,26] from 25 to 26 (fun p c u=>p=iW s∧(∃cb,c=.bool cb∧(cb=true↔f≠[]))∧u=wc)
  case first=>
   by_cases ac:f=[]
   ·subst ac
    go_wp2_with fail
    go_meet
    exact⟨rfl,⟨false,rfl,by simp⟩,rfl⟩
   ·have q1:(f==([]:aK))=false:=by rw[bl];exact ac
    go_wp2_with fail
    go_meet
    exact⟨rfl,⟨true,rfl,by simp[ac]⟩,rfl⟩
  case rest=>
  obtain⟨rfl,⟨cb,rfl,bA⟩,cx⟩:=hcut
  subst cx
  have b6:=aj bA
  clear bA
  go_upto_if 26 with fail
  go_cut [9] from 27 to 29 (fun p u=>∃L c1,p=iW s∧Gr w u s b5 I (IU x) ⟨L,c1,none,0,none,0⟩ ts [] [] V)
  case first=>
   cases cb with
   | false=>
    have ac:f=[]:=Classical.byContradiction fun h=>absurd (b6.ou.2 h) (by decide)
    go_wp2_with fail
    go_meet
    exact⟨L,c1,rfl,by rw[ap.ou,ac];exact G1.ou⟩
   | true=>
    have ac:=b6.ou.1 rfl
    have cy:Hd (ts=[B]):=ap.ou.trans (aa ac)
    have k0:=G1.ou.cs.cell 0
    have z0:=G1.ou.cs.frozen 0
    simp only[aB,aQ,aX] at k0
    have G2:=aj (G1.ou.ext ((al.refl No wc).alloc (.cells #[S B] 9)))
    have k2:(wc.alloc (.cells #[S B] 9)).cell? ⟨s,0,none⟩=some (.slice L x.2.targets.length c1):=G2.ou.cs.cell 0
    have z2:=G2.ou.cs.frozen 0
    clear ac
    go_wp2_with fail
    go_meet
    exact⟨_,1,rfl,by rw[cy.ou];exact G1.ou.VV rfl rfl (Me G1.ou.ft.ext B) ((al.refl No wc).alloc _)⟩
  case rest=>
   obtain⟨A2,c2,rfl,hG⟩:=hcut
   have G2:=aj hG
   clear hG G1
   have b7:1≤ts.length:=by
    rw[ap.ou];unfold kA
    split
    ·exact h1
    ·exact aq 1
   have ca:Hd (∀t∈ts,t.length≤1000):=by
    rw[ap.ou];unfold kA
    split
    ·exact fun t T=>by have:=HL.ou.1 t T;omega
    ·intro t T;simp at T;rw[T];omega
   obtain⟨ce,a9⟩:∃A,A=x.1.nA:=⟨_,rfl⟩
   obtain⟨bc,bd⟩:∃A,A=x.1.cA:=⟨_,rfl⟩
   have cf:Hd (di cI w ce x.2.aN.length x.2.aN):=by rw[Hd,a9];exact HX.ou.2.1
   have cz:Hd (di cI w bc x.2.bD.length x.2.bD):=by rw[Hd,bd];exact HX.ou.2.2
   have d1:wc.cell? ⟨b5,1,none⟩=some (.slice ce x.2.aN.length x.1.nc):=by rw[a9];exact G2.ou.c5.cell 1
   have c4:Hd (∀u,Cs u b5 kP (IU x)→u.cell? ⟨b5,2,none⟩=some (.slice bc x.2.bD.length x.1.cc)):=fun u hu=>by rw[bd];exact hu.cell 2
   have ch:Hd (∀t,t.length≤1000→∀u,bf w u→Calls Tryz.prog 159 #[S t,S [37],S f,.int .i64 1] u fun e w'=>e=.returned (S (oz t f))∧bf u w'):=fun t T u hu=>Sl (HM.ou.1.ext hu) t f (by omega) (by omega)
   clear a9 bd
   go_wp2_with fail
   go_loopw [33] (fun i wr=>∃k:Nat,k≤x.2.aN.length∧i=.int .i64 k∧∃nA nc ns,ns=(x.2.aN.take k).map (fun n=>oz n f)∧Gr w wr s b5 I (IU x) ⟨A2,c2,nA,nc,none,0⟩ ts ns [] V) (fun i _=>x.2.aN.length-(intOf i).toNat)
   case atStart=>exact⟨0,au _,rfl,none,0,[],rfl,G2.ou⟩
   case round=>
    clear G2 d1
    obtain⟨k,hk,rfl,nA,nc,ns,bg,hG⟩:=hrel
    have G3:=aj hG
    have bi:=aj bg
    have a5:ns.length=k:=by rw[bg,bH,aH];omega
    clear hG bg
    by_cases av:k<x.2.aN.length
    ·obtain⟨bn,o,t,rfl,T,ct⟩:=dq cf.ou av
     have HT:=aj T
     have bk:t.length≤1000:=by have:=HL.ou.2.1 t (ah T);omega
     have bo:wr.cell? ⟨bn,o+k,none⟩=some (S t):=ct ⟨wr,G3.ou.ft.ext⟩
     clear T
     obtain⟨F,hF⟩:∃F:Nat→Prop,F=fun q=>(Value.slice nA ns.length nc).ownBlock=some q:=⟨_,rfl⟩
     have ag:¬F s:=by
      rw[hF]
      exact fun e=>aO G3.ou.fn.own G3.ou.cs (by decide) _ e rfl
     obtain⟨wd,P⟩:∃v,v=wr.drew:=⟨_,rfl⟩
     have GD:Hd (Gr w wd s b5 I (IU x) ⟨A2,c2,nA,nc,none,0⟩ ts ns [] V):=by rw[P];exact G3.ou.ext (al.refl No _).drew
     have c0:∀ξ:X wd F,ξ.v.cell? ⟨s,1,none⟩=some (.slice nA ns.length nc):=GD.ou.cs.x ag 1
     have bp:=aj hF
     have c6:=aj a5
     have c7:ns.length≤3:=by omega
     clear hF ag a5
     go_upto_region 7 with fail
     refine aV [4,5,6,8] 8 (Cl wd F) (by kernel_rfl) (by kernel_rfl) (by rw[P];exact Cl.of (al.refl _ _)) ?_
     rw[←P]
     clear P ct bo
     refine dH ?_
     (refine bQ ?_;intro K hK)
     refine(ch.ou t bk _ GD.ou.ft.ext).mono ?_
     rintro e u5 ⟨rfl,ai⟩
     have G5:=aj (GD.ou.ext ai)
     have O5:Hd (al F wd u5):=ai.gU fun b _ e=>e.elim
     refine⟨_,rfl,hK _ _ (fun _=>Cl.of O5.ou) ?_⟩
     clear hK K ai GD
     refine bj ?_
     obtain⟨y,hy⟩:∃y,y=oz t f:=⟨_,rfl⟩
     rw[←hy]
     have HY:=aj hy
     clear hy
     (refine bQ ?_;intro K hK)
     have G6:=aj (G5.ou.ext ((al.refl No u5).alloc (.cells #[S y] 9)))
     refine hK _ _ (fun _=>Cl.of (O5.ou.alloc _)) ?_
     clear hK K
     refine bj ?_
     refine cH rfl rfl ?_
     intro K hK
     refine eO (v:=.slice nA ns.length nc) (n:=ns.length) (xs:=ns.flatMap cI.enc) p8 rfl rfl rfl G6.ou.fn.own (iQ u5 _ [S y]) (by simp[Value.oneCell']) (by omega) ?_
     intro A' c' w5 J Q M
     have P7:=aj (G6.ou.GA (t:=y) J Q M)
     have O7:Hd (al F wd w5):=(O5.ou.alloc (.cells #[S y] 9)).grown Q fun g hg=>.inr (by rw[bp.ou];exact hg)
     refine hK _ _ (fun _=>Cl.of O7.ou) ?_
     clear hK K
     refine bj ?_
     have C7:=G6.ou.cs.aP ((al.refl (fun b=>(Value.slice nA ns.length nc).ownBlock=some b) _).grown Q fun g hg=>.inr hg) (fun e=>aO G6.ou.fn.own G6.ou.cs (by decide) _ e rfl)
     have y0:w5.cell? ⟨s,1,none⟩=some (.slice nA ns.length nc):=C7.cell 1
     have z0:=C7.frozen 1
     clear C7 J Q M G6 G5
     refine dH ?_
     (refine bQ ?_;intro K hK)
     refine hK _ _ (fun hne=>absurd rfl hne) ?_
     clear hK K y0 z0
     refine bj ?_
     refine ar ?_
     go_wp2_with fail
     go_roundw
     case rel=>exact⟨k+1,by omega,by go_num,A',c',ns++[y],by rw[bi.ou,HY.ou,aU,HT.ou];simp,P7.ou⟩
     case measure=>simp[intOf];omega
    ·obtain rfl:k=x.2.aN.length:=by omega
     have ci:Hd (ns=oE x.2 f):=by rw[Hd,bi.ou,ay (aq _)];rfl
     have c7:ns.length≤3:=by omega
     have c6:=aj a5
     have d2:wr.cell? ⟨b5,2,none⟩=some (.slice bc x.2.bD.length x.1.cc):=c4.ou wr G3.ou.c5
     have cm:Hd (∀t∈ns,t.length≤1000):=by
      rw[ci.ou]
      intro t T
      obtain⟨y,hy,rfl⟩:=cw.1 T
      have a1:=HL.ou.2.1 y hy
      have a2:=tM y f
      omega
     have a6:ns.length≤nc:=Dt G3.ou.fn.own
     have cn:Hd (∀c,c.length≤1000→∀u,di cI u A2 ts.length ts→di cI u nA ns.length ns→Calls Tryz.prog 219 #[S c,.slice A2 ts.length c2,.slice nA ns.length nc,S f] u fun e w'=>e=.returned (S (CG ts ns f c))∧bf u w'):=fun c hc u q1 q2=>
      TI q1 b7 q2 (by omega) a6 c f hc ca.ou cm.ou (by omega)
     clear a6 a5 av bi ch cf
     go_wp2_with fail
     go_loopw [49] (fun i wr=>∃j:Nat,j≤x.2.bD.length∧i=.int .i64 j∧∃cA cc R,R=(x.2.bD.take j).map (CG ts ns f)∧Gr w wr s b5 I (IU x) ⟨A2,c2,nA,nc,cA,cc⟩ ts ns R V) (fun i _=>x.2.bD.length-(intOf i).toNat)
     case atStart=>exact⟨0,au _,rfl,none,0,[],rfl,G3.ou⟩
     case round=>
      clear G3 d2
      obtain⟨j,hj,rfl,cA,cc,R,bs,hG⟩:=hrel
      have G:=aj hG
      have bu:=aj bs
      have bv:R.length=j:=by rw[bs,bH,aH];omega
      clear hG bs
      by_cases av:j<x.2.bD.length
      ·obtain⟨bn,o,t,rfl,T,ct⟩:=dq cz.ou av
       have HT:=aj T
       have bk:t.length≤1000:=by have:=HL.ou.2.2 t (ah T);omega
       have bo:wr.cell? ⟨bn,o+j,none⟩=some (S t):=ct ⟨wr,G.ou.ft.ext⟩
       clear T
       obtain⟨F,hF⟩:∃F:Nat→Prop,F=fun q=>(Value.slice cA R.length cc).ownBlock=some q:=⟨_,rfl⟩
       have ag:¬F s:=by
        rw[hF]
        exact fun e=>aO G.ou.fc.own G.ou.cs (by decide) _ e rfl
       obtain⟨wd,P⟩:∃v,v=wr.drew:=⟨_,rfl⟩
       have GD:Hd (Gr w wd s b5 I (IU x) ⟨A2,c2,nA,nc,cA,cc⟩ ts ns R V):=by rw[P];exact G.ou.ext (al.refl No _).drew
       have c0:∀ξ:X wd F,ξ.v.cell? ⟨s,0,none⟩=some (.slice A2 ts.length c2):=GD.ou.cs.x ag 0
       have c1:∀ξ:X wd F,ξ.v.cell? ⟨s,1,none⟩=some (.slice nA ns.length nc):=GD.ou.cs.x ag 1
       have c3:∀ξ:X wd F,ξ.v.cell? ⟨s,2,none⟩=some (.slice cA R.length cc):=GD.ou.cs.x ag 2
       have bp:=aj hF
       have dc:=aj bv
       have dd:R.length≤3:=by omega
       clear hF ag bv
       go_upto_region 12 with fail
       refine aV [8,9,10,12] 12 (Cl wd F) (by kernel_rfl) (by kernel_rfl) (by rw[P];exact Cl.of (al.refl _ _)) ?_
       rw[←P]
       clear P ct bo
       refine dH ?_
       (refine bQ ?_;intro K hK)
       refine(cn.ou t bk _ (GD.ou.ft.row (by decide)) (GD.ou.fn.row (by decide))).mono ?_
       rintro e u5 ⟨rfl,ai⟩
       have G5:=aj (GD.ou.ext ai)
       have O5:Hd (al F wd u5):=ai.gU fun b _ e=>e.elim
       refine⟨_,rfl,hK _ _ (fun _=>Cl.of O5.ou) ?_⟩
       clear hK K ai GD
       refine bj ?_
       obtain⟨y,hy⟩:∃y,y=CG ts ns f t:=⟨_,rfl⟩
       rw[←hy]
       have HY:=aj hy
       clear hy
       (refine bQ ?_;intro K hK)
       have G6:=aj (G5.ou.ext ((al.refl No u5).alloc (.cells #[S y] 9)))
       refine hK _ _ (fun _=>Cl.of (O5.ou.alloc _)) ?_
       clear hK K
       refine bj ?_
       refine cH rfl rfl ?_
       intro K hK
       refine eO (v:=.slice cA R.length cc) (n:=R.length) (xs:=R.flatMap cI.enc) p8 rfl rfl rfl G6.ou.fc.own (iQ u5 _ [S y]) (by simp[Value.oneCell']) (by omega) ?_
       intro A' c' w5 J Q M
       have P7:=aj (G6.ou.UF (t:=y) J Q M)
       have O7:Hd (al F wd w5):=(O5.ou.alloc (.cells #[S y] 9)).grown Q fun g hg=>.inr (by rw[bp.ou];exact hg)
       refine hK _ _ (fun _=>Cl.of O7.ou) ?_
       clear hK K
       refine bj ?_
       have C7:=G6.ou.cs.aP ((al.refl (fun b=>(Value.slice cA R.length cc).ownBlock=some b) _).grown Q fun g hg=>.inr hg) (fun e=>aO G6.ou.fc.own G6.ou.cs (by decide) _ e rfl)
       have y0:w5.cell? ⟨s,2,none⟩=some (.slice cA R.length cc):=C7.cell 2
       have z0:=C7.frozen 2
       clear C7 J Q M G6 G5
       refine dH ?_
       (refine bQ ?_;intro K hK)
       refine hK _ _ (fun hne=>absurd rfl hne) ?_
       clear hK K y0 z0
       refine bj ?_
       refine ar ?_
       go_wp2_with fail
       go_roundw
       case rel=>exact⟨j+1,by omega,by go_num,A',c',R++[y],by rw[bu.ou,HY.ou,aU,HT.ou];simp,P7.ou⟩
       case measure=>simp[intOf];omega
      ·obtain rfl:j=x.2.bD.length:=by omega
       have c9:Hd (R=x.2.bD.map (CG ts ns f)):=by rw[Hd,bu.ou,ay (aq _)]
       have HR:Hd (gW m x.2 B f=⟨ts,ns,R,V⟩):=by
        rw[Hd,c9.ou,ci.ou,ap.ou,cq.ou,←co.ou]
        try rfl
       have k0:wr.cell? ⟨s,0,none⟩=some (.slice A2 ts.length c2):=G.ou.cs.cell 0
       have k1:wr.cell? ⟨s,1,none⟩=some (.slice nA ns.length nc):=G.ou.cs.cell 1
       have k2:wr.cell? ⟨s,2,none⟩=some (.slice cA R.length cc):=G.ou.cs.cell 2
       have k3:wr.cell? ⟨s,3,none⟩=some (.bool V):=G.ou.cs.cell 3
       have e0:wr.cell? ⟨I,0,none⟩=some (.slice none 0 0):=G.ou.c8.cell 0
       have e1:wr.cell? ⟨I,1,none⟩=some (.slice none 0 0):=G.ou.c8.cell 1
       have e2:wr.cell? ⟨I,2,none⟩=some (.slice none 0 0):=G.ou.c8.cell 2
       have e3:wr.cell? ⟨I,3,none⟩=some (.bool false):=G.ou.c8.cell 3
       have z0:=G.ou.c8.frozen 0
       have z1:=G.ou.c8.frozen 1
       have z2:=G.ou.c8.frozen 2
       have z3:=G.ou.c8.frozen 3
       clear bv av bu cn
       have HO:Hd (∀a b c d,al (fun b=>b=I) wr ((((wr.setCell ⟨I,0,none⟩ a).setCell ⟨I,1,none⟩ b).setCell ⟨I,2,none⟩ c).setCell ⟨I,3,none⟩ d)):=fun a b c d=>((((al.refl _ _).at_ 0 a).at_ 1 b).at_ 2 c).at_ 3 d
       have HS:Hd (∀a b c d,Cs ((((wr.setCell ⟨I,0,none⟩ a).setCell ⟨I,1,none⟩ b).setCell ⟨I,2,none⟩ c).setCell ⟨I,3,none⟩ d) I ia #[a,b,c,d]):=fun a b c d=>(((G.ou.c8.cM 0 a).cM 1 b).cM 2 c).cM 3 d
       go_wp2_with fail
       have hl:=vx (HS.ou (.slice A2 ts.length c2) (.slice nA ns.length nc) (.slice cA R.length cc) (.bool V))
       have hO:=HO.ou (.slice A2 ts.length c2) (.slice nA ns.length nc) (.slice cA R.length cc) (.bool V)
       have hE:=G.ou.ft.ext.trans hO fun q hq e=>by have e:q=I:=e;have:=G.ou.h8;omega
       refine jN (p:=8) (ty:=ia) (ad:=⟨I,0,none⟩) rfl rfl rfl hl ?_
       rw[HR.ou]
       exact⟨⟨A2,c2,nA,nc,cA,cc⟩,rfl,G.ou.ft.aP hO hE (aO G.ou.ft.own G.ou.c8 (by decide)),G.ou.fn.aP hO hE (aO G.ou.fn.own G.ou.c8 (by decide)),G.ou.fc.aP hO hE (aO G.ou.fc.own G.ou.c8 (by decide)),hE⟩
structure SI (u:World) (g:Nat) (v:wR) (rs:List (fW×lR)) (m:Mk) (lA:Option Addr) (lc:Nat) (l:List bm):Prop where
 c0:u.cell? ⟨g,0,none⟩=some (.slice v.vA m.vars.length v.vc)
 c1:u.cell? ⟨g,1,none⟩=some (.slice v.rA m.rules.length v.rc)
 c2:u.cell? ⟨g,2,none⟩=some (.slice v.pA m.ba.length v.pc)
 c3:u.cell? ⟨g,3,none⟩=some (.slice lA l.length lc)
 mr:pY u v rs m
 fl:di br u lA l.length l
theorem SI.ext{u w:World}{g:Nat}{v:wR}{c:List (fW×lR)}{m:Mk}{d:Option Addr}{lc:Nat}{l:List bm}(h:SI u g v c m d lc l)(a:bf u w):SI w g v c m d lc l:=
 have b:g<u.heap.size:=World.block_lt_of_cell? _ _ h.c0
 ⟨(a.cell (p:=⟨g,0,none⟩) b id).trans h.c0,(a.cell (p:=⟨g,1,none⟩) b id).trans h.c1,(a.cell (p:=⟨g,2,none⟩) b id).trans h.c2,(a.cell (p:=⟨g,3,none⟩) b id).trans h.c3,h.mr.ext a,h.fl.ext a⟩
structure Ps (m:Mk) (l:List bm):Prop where
 r:m.rules.length≤100
 t:∀r∈m.rules,1≤r.targets.length∧r.targets.length≤2∧r.aN.length≤3∧r.bD.length≤3∧(∀x∈r.targets,x.length≤100)∧(∀x∈r.aN,x.length≤100)∧(∀x∈r.bD,x.length≤100)
 p:m.ba.length≤100000
 n:l.length≤900000
 o:eQ fk l
theorem JP{o:Option Nat}:decide (qo o≥0)=o.isSome:=by
 cases o with
 | none=>rfl
 | some k=>simp[qo]
theorem LO(a:List lR)(n:aK):(a.findIdx? fun r=>iH r.targets n).isSome=(oD a n).isSome:=by
 unfold oD
 rw[List.findIdx?_isSome,eu,iR,List.find?_isSome]
theorem Qq{u:World}{g:Nat}{v:wR}     (h:SI u g v rs m lA lc l)(f:Ps m l)(a:aK) :
  Calls Tryz.prog 181 #[.pointer (some ⟨g,0,none⟩),S a] u fun e w'=>e=.returned (.bool (qJ m l a))∧bf u w':=by
 have j:=aj (um (c:=lc) h.fl (aJ f.n (by omega)) a f.o)
 have y:=aj h
 have z:=aj (fun w (b:bf u w)=>zK (h.ext b).mr f.r (fun r hr=>by have:=(f.t r hr).2.1;omega) a)
 obtain⟨q,hq⟩:∃q,Nv l a=q:=⟨_,rfl⟩
 have x:Hd (qJ m l a=(q||(oD m.rules a).isSome)):=by rw[Hd,qJ,hq]
 have A:=h.c3
 have d:ji a l=q:=hq
 rw[d] at j
 clear h hq d
 go_enter Tryz.func181,Tryz.ntmps181
 go_wp2_with fail
 refine j.ou.mono ?_
 rintro e D ⟨rfl,b⟩
 have k:=aj (y.ou.ext b)
 have p:=aj b
 have E:=k.ou.c0
 have c1:=k.ou.c1
 have F:=k.ou.c2
 clear b j A
 cases q with
 | true=>
  go_wp2_with fail
  go_ret
  exact⟨by rw[x.ou];rfl,p.ou⟩
 | false=>
  go_wp2_with fail
  refine(z.ou _ p.ou).mono ?_
  rintro e G ⟨rfl,b⟩
  have B:=aj (p.ou.ae b)
  obtain⟨i,s⟩:∃i,i=qo (m.rules.findIdx? fun r=>iH r.targets a):=⟨_,rfl⟩
  rw[←s]
  have C:Hd (decide (i≥0)=(oD m.rules a).isSome):=by rw[s,JP,LO];rfl
  clear b s
  go_wp2_with fail
  go_ret
  exact⟨by rw[x.ou,←C.ou];rfl,B.ou⟩
theorem SW{u:World}{g b:Nat}{v:wR}     (h:SI u g v rs m lA lc l)(f:Ps m l)(j:u.cell? ⟨b,0,none⟩=some (.pointer (some ⟨g,0,none⟩)))(a:aK) :
  Calls Tryz.prog 180 #[S a,.pointer (some ⟨b,0,none⟩)] u fun e w'=>e=.returned (.bool (!qJ m l a))∧bf u w':=by
 have c:=aj (Qq h f a)
 clear h
 go_enter Tryz.func180,Tryz.ntmps180
 go_wp2_with fail
 refine c.ou.mono ?_
 rintro e k ⟨rfl,d⟩
 have i:=aj d
 clear d c
 go_wp2_with fail
 go_ret
 exact⟨rfl,i.ou⟩
theorem Tq {w:World}    (h:di cI w A n xs) (D:n≤100000) (p:aK→Bool) (cap:Array Value)
  (j:∀x,∀u,bf w u→Calls Tryz.prog 180 (#[S x]++cap) u fun e w'=>e=.returned (.bool (p x))∧bf u w') :
  Calls Tryz.prog 215 #[.slice A n c,.func (.func 180) #[] cap] w fun e w'=>e=.returned (.int .i64 (qo (xs.findIdx? p)))∧bf w w':=by
 have l:=aj h
 have a:=aj j
 clear h j
 go_enter Tryz.func215,Tryz.ntmps215
 go_wp2
 go_loopw [8] (fun i wr=>∃k:Nat,k≤n∧i=.int .i64 k∧(∀y∈xs.take k,p y=false)∧∃ξ:X w No,wr=ξ.v) (fun i _=>n-(intOf i).toNat)
 case atStart=>exact⟨0,au _,rfl,by simp,X.here _ _,rfl⟩
 case round=>
  obtain⟨k,E,rfl,m,ξ,rfl⟩:=hrel
  have d:=aj m
  clear m
  by_cases f:k<n
  ·obtain⟨b,o,x,rfl,r,F⟩:=dq l.ou f
   have s:=aj r
   have g:=aj (a.ou x _ ξ.h)
   obtain⟨q,hq⟩:∃q,p x=q:=⟨_,rfl⟩
   have t:=aj hq
   rw[hq] at g
   clear r hq
   go_wp2_with fail
   refine g.ou.mono ?_
   rintro e u ⟨rfl,z⟩
   have B:Hd (bf w u):=aj (ξ.h.ae z)
   clear z g
   cases q with
   | true=>
    go_wp2_with fail
    go_ret
    exact⟨by rw[uy d.ou s.ou t.ou];rfl,B.ou⟩
   | false=>
    go_wp2_with fail
    go_roundw
    case rel=>exact⟨k+1,by omega,by go_num,mV d.ou s.ou t.ou,⟨_,B.ou⟩,rfl⟩
    case measure=>simp[intOf];omega
  ·obtain rfl:k=n:=by omega
   go_wp2_with fail
   go_ret
   have C:=d.ou
   rw[ay (by rw[l.ou.1];exact aq _)] at C
   exact⟨by rw[uz C];rfl,ξ.h⟩
theorem Tw {w:World}    (h:di cI w A n xs) (g:n≤100000) (p:aK→Bool) (cap:Array Value)
  (d:∀x,∀u,bf w u→Calls Tryz.prog 180 (#[S x]++cap) u fun e w'=>e=.returned (.bool (p x))∧bf u w') :
  Calls Tryz.prog 174 #[.slice A n c,.func (.func 180) #[] cap] w fun e w'=>e=.returned (.bool (xs.any p))∧bf w w':=by
 have a:=aj (Tq (c:=c) h g p cap d)
 obtain⟨i,b⟩:∃i,i=qo (xs.findIdx? p):=⟨_,rfl⟩
 rw[←b] at a
 have j:Hd (decide (i≥0)=xs.any p):=by rw[b,JP,List.findIdx?_isSome];rfl
 clear h d b
 go_enter Tryz.func174,Tryz.ntmps174
 go_wp2_with fail
 refine a.ou.mono ?_
 rintro e u ⟨rfl,f⟩
 have k:=aj f
 clear a f
 go_wp2_with fail
 go_ret
 exact⟨by rw[←j.ou];rfl,k.ou⟩
end Go.Proofs.YtpgmcijdcnnjpaaGreatDoor
