/- Lemmas for it. -/
import Derived.Test.YtpgmcijdcnnjpaaGreatDoorPk05
import Derived.Lib.ItoaLen
set_option linter.all false
set_option maxRecDepth 100000
set_option maxHeartbeats 4000000
namespace Go.Proofs.YtpgmcijdcnnjpaaGreatDoor
open Go Go.RowKit
variable {A B:Option Addr} {c d g m n size:Nat} {l xs:List bm} {ys:List aK} {e t ty:TypeId} {α:Type} {r:iT} {P:Program} {a:Act} {fn:Func}
theorem sK{w:World}  {xs:List aK}(q:di cI w A n xs)(r:di cI w B m ys)(D:n≤10000)(E:m≤10000) :
  Calls Tryz.prog 29 #[.slice A n c,.slice B m d] w fun e w'=>e=.returned (.bool (decide (xs=ys)))∧bf w w':=by
 by_cases a:n=m
 ·subst a
  go_enter Tryz.func29,Tryz.ntmps29
  go_wp2
  go_loopw [5] (fun i wr=>∃k:Nat,k≤n∧i=.int .i64 k∧xs.take k=ys.take k∧∃ξ:X w No,wr=ξ.v) (fun i _=>n-(intOf i).toNat)
  case atStart=>exact⟨0,au _,rfl,rfl,X.here _ _,rfl⟩
  case round=>
   obtain⟨k,F,rfl,u,ξ,rfl⟩:=hrel
   have x:=aj u
   clear u
   by_cases g:k<n
   ·obtain⟨b,o,f,rfl,y,G⟩:=dq q g
    obtain⟨H,I,s,rfl,j,J⟩:=dq r g
    have z:=aj y
    have l:=aj j
    clear y j
    obtain⟨p,C⟩:∃p,(f==s)=p:=⟨_,rfl⟩
    cases p
    ·have t:Hd (f≠s):=by unfold Hd;simpa using C
     go_upto_region 6 with fail
     (refine aV [] 100 (Cl (w) (No)) (by kernel_rfl) (by kernel_rfl) (Cl.eU ξ) ?_;refine bK ?_)
     all_goals (refine ar ?_)
     go_wp2_with fail
     go_ret
     exact⟨fE (aG (GJ z.ou l.ou t.ou)).symm,ξ.h.drew⟩
    ·have t:Hd (f=s):=by unfold Hd;simpa using C
     go_upto_region 6 with fail
     (refine aV [] 100 (Cl (w) (No)) (by kernel_rfl) (by kernel_rfl) (Cl.eU ξ) ?_;refine bK ?_)
     all_goals (refine ar ?_)
     go_wp2_with fail
     go_roundw
     case rel=>exact⟨k+1,by omega,by go_num,qR x.ou z.ou l.ou t.ou,⟨_,ξ.h.drew⟩,rfl⟩
     case measure=>simp[intOf];omega
   ·go_wp2
    go_ret
    exact⟨fE (aM (rW x.ou q.1 r.1 (by omega))).symm,ξ.h⟩
 ·go_enter Tryz.func29,Tryz.ntmps29
  go_wp2
  ·go_ret
   exact⟨fE (aG (fun e=>a (by rw[←q.1,←r.1,e]))).symm,al.refl _ _⟩
theorem vO{w:World}  {ys:List bm}(l:di br w A n xs)(p:di br w B m ys)(u:n≤10000)(x:m≤10000) :
  Calls Tryz.prog 183 #[.slice A n c,.slice B m d] w fun e w'=>e=.returned (.bool (decide (xs=ys)))∧bf w w':=by
 by_cases a:n=m
 ·subst a
  go_enter Tryz.func183,Tryz.ntmps183
  go_wp2
  go_loopw [13] (fun i wr=>∃k:Nat,k≤n∧i=.int .i64 k∧xs.take k=ys.take k∧∃ξ:X w No,wr=ξ.v) (fun i _=>n-(intOf i).toNat)
  case atStart=>exact⟨0,au _,rfl,rfl,X.here _ _,rfl⟩
  case round=>
   obtain⟨k,y,rfl,q,ξ,rfl⟩:=hrel
   have r:=aj q
   clear q
   by_cases g:k<n
   ·obtain⟨b,o,f,rfl,s,z,c1⟩:=jI l g
    obtain⟨C,D,t,rfl,j,E,F⟩:=jI p g
    go_upto_region 6 with fail
    (refine aV [] 100 (Cl (w) (No)) (by kernel_rfl) (by kernel_rfl) (Cl.eU ξ) ?_;refine bK ?_)
    all_goals (refine ar ?_)
    cases hB:tU f.1 f.2 t.1 t.2
    ·go_wp2
     go_ret
     exact⟨fE (aG (GJ s j (yo hB))).symm,ξ.h.drew⟩
    ·go_wp2
     go_roundw
     case rel=>exact⟨k+1,by omega,by go_num,qR r.ou s j (Ar hB),⟨_,ξ.h.drew⟩,rfl⟩
     case measure=>simp[intOf];omega
   ·go_wp2
    go_ret
    exact⟨fE (aM (rW r.ou l.1 p.1 (by omega))).symm,ξ.h⟩
 ·go_enter Tryz.func183,Tryz.ntmps183
  go_wp2
  ·go_ret
   exact⟨fE (aG (fun e=>a (by rw[←l.1,←p.1,e]))).symm,al.refl _ _⟩
theorem Gh{w:World}  {xs:List aK}(q:di cI w A n xs)(r:di cI w B m ys)(D:n≤10000)(E:m≤10000) :
  Calls Tryz.prog 182 #[.slice A n c,.slice B m d] w fun e w'=>e=.returned (.bool (decide (xs=ys)))∧bf w w':=by
 by_cases a:n=m
 ·subst a
  go_enter Tryz.func182,Tryz.ntmps182
  go_wp2
  go_loopw [13] (fun i wr=>∃k:Nat,k≤n∧i=.int .i64 k∧xs.take k=ys.take k∧∃ξ:X w No,wr=ξ.v) (fun i _=>n-(intOf i).toNat)
  case atStart=>exact⟨0,au _,rfl,rfl,X.here _ _,rfl⟩
  case round=>
   obtain⟨k,F,rfl,u,ξ,rfl⟩:=hrel
   have x:=aj u
   clear u
   by_cases g:k<n
   ·obtain⟨b,o,f,rfl,y,G⟩:=dq q g
    obtain⟨H,I,s,rfl,j,J⟩:=dq r g
    have z:=aj y
    have l:=aj j
    clear y j
    obtain⟨p,C⟩:∃p,(f==s)=p:=⟨_,rfl⟩
    cases p
    ·have t:Hd (f≠s):=by unfold Hd;simpa using C
     go_upto_region 6 with fail
     (refine aV [] 100 (Cl (w) (No)) (by kernel_rfl) (by kernel_rfl) (Cl.eU ξ) ?_;refine bK ?_)
     all_goals (refine ar ?_)
     go_wp2_with fail
     go_ret
     exact⟨fE (aG (GJ z.ou l.ou t.ou)).symm,ξ.h.drew⟩
    ·have t:Hd (f=s):=by unfold Hd;simpa using C
     go_upto_region 6 with fail
     (refine aV [] 100 (Cl (w) (No)) (by kernel_rfl) (by kernel_rfl) (Cl.eU ξ) ?_;refine bK ?_)
     all_goals (refine ar ?_)
     go_wp2_with fail
     go_roundw
     case rel=>exact⟨k+1,by omega,by go_num,qR x.ou z.ou l.ou t.ou,⟨_,ξ.h.drew⟩,rfl⟩
     case measure=>simp[intOf];omega
   ·go_wp2
    go_ret
    exact⟨fE (aM (rW x.ou q.1 r.1 (by omega))).symm,ξ.h⟩
 ·go_enter Tryz.func182,Tryz.ntmps182
  go_wp2
  ·go_ret
   exact⟨fE (aG (fun e=>a (by rw[←q.1,←r.1,e]))).symm,al.refl _ _⟩
def oB(r q:iT):Bool:=decide (r.bD=q.bD)&&decide (r.aN=q.aN)&&decide (r.ou=q.ou)
theorem IY(r:iT):oB r r=true:=by simp[oB]
theorem JW:(Tryz.prog.info? 54).map (fun i=>(i.zero,i.size,i.bytes))=some (some (.agg #[.string ⟨#[]⟩,.string ⟨#[]⟩]),2,32):=by kernel_rfl
theorem sf:tf Tryz.prog 39 54 2:=tf.mk' Tryz.underlying39 JW rfl (by omega) (by omega)
theorem mE:∀(xs:List bm),∀u∈xs.flatMap br.enc,u.oneCell'=true:=by
 intro xs u b
 obtain⟨x,_,a⟩:=cG.1 b
 rcases aY.1 a with rfl|a
 ·rfl
 ·rcases aY.1 a with rfl|a
  ·rfl
  ·cases a
theorem fI{w:World}{B:Nat}  {x:Value}{xs:List Value}(h:w.ownsRow B e size x n xs) (a:x.ownBlock=some g):∃cur,Cs w g e cur:=by
 rcases h.2 with⟨rfl,_⟩|⟨g',cap,cur,rfl,hb,hh,_⟩
 ·simp[Value.ownBlock] at a
 ·simp[Value.ownBlock] at a
  subst a
  exact⟨cur,hh⟩
theorem aO{w:World}{B:Nat}  {x:Value}{xs:List Value}{cs:Array Value}(h:w.ownsRow B e size x n xs)(c:Cs w g t cs)(a:e≠t):∀b,x.ownBlock=some b→¬b=g:=by
 rintro b hb rfl
 obtain⟨cur,d⟩:=fI h hb
 exact Cs.oC d c a rfl
theorem fG{w:World}{B g:Nat} {a i:Nat}{x y:Value}{xs ys:List Value}(h:w.ownsRow B e size x n xs)(j:w.ownsRow g t a y i ys)(c:e≠t):∀b,x.ownBlock=some b→y.ownBlock≠some b:=by
 intro b k d
 obtain⟨cur,l⟩:=fI h k
 obtain⟨f,m⟩:=fI j d
 exact Cs.oC l m c rfl
theorem bR.aP {T:kJ α} {w a u:World}  {xs:List α}{F:Nat→Prop}(h:bR T t w a A c xs)(b:al F a u)(d:bf w u)(e:∀g,(Value.slice A xs.length c).ownBlock=some g→¬F g):bR T t w u A c xs:=⟨cl h.own b e,d,h.new⟩
theorem di.PK {T:kJ α}(d:∀x:α,∃s l,T.enc x=S s::l){w:World}   {xs:List α}(h:di T w A n xs){e f i:Option Addr}{j k m c1 p q:Nat}(r:Cs w g t #[.slice e j c1,.slice f k p,.slice i m q]) :
  ∀b o,A=some ⟨b,o,none⟩→0<n→b≠g:=by
 rintro b o rfl hn rfl
 obtain⟨v,y,x,c,_,z,a⟩:=h.get hn
 injection c with c
 injection c with he1 he2
 subst he1;subst he2
 obtain⟨s,l,u⟩:=d x
 have:=a 0 (S s) (by rw[u];rfl)
 rw[r.cell] at this
 match o,this with
 | 0,this=>simp at this
 | 1,this=>simp at this
 | 2,this=>simp at this
 | o+3,this=>simp at this
@[go_sem] theorem SU (A B:Option Addr) (n c m d:Nat) (w:World):(Instr.build pn #[(0,.slice A n c),(2,.slice B m d)]).run Tryz.prog w=.ok (.agg #[.slice A n c,.slice none 0 0,.slice B m d]) w:=run_build w pn _ _ (by kernel_rfl)
theorem La{w:World}  {cs:List Value}(h:Rd w A n 2 cs)(j:∀u∈cs,u.oneCell'=true)(k:A=none→n=0)(o:n≤1000000) :
  Calls Tryz.prog 47 #[.slice A n c] w fun e w'=>∃b d,e=.returned (.slice b n d)∧w'.ownsRow 0 54 2 (.slice b n d) n cs∧bf w w'∧∀g,(Value.slice b n d).ownBlock=some g→w.heap.size≤g:=by
 have p:=fun(W:World)=>Lib.run_eql_slice_nil (P:=Tryz.prog) W 39 54 A n c 0 0 Tryz.underlying39
 rcases A with _|ad
 ·obtain rfl:=k rfl
  obtain rfl:cs=[]:=bM (by simpa using h.1)
  go_enter Tryz.func47,Tryz.ntmps47
  go_wp2
  go_ret
  exact⟨none,0,rfl,World.ownsRow_nil _ _ _ _,al.refl _ _,fun g hg=>by simp[Value.ownBlock] at hg⟩
 ·have H:=aj h
  clear h
  go_enter Tryz.func47,Tryz.ntmps47
  go_wp2_with (at_builtin;go_must (refine dy (v:=.slice (some ⟨w.heap.size,0,none⟩) 0 0) (n:=0) (xs:=[]) rfl sf rfl rfl rfl (tH w _ _) (H.ou.alloc _) j (by omega) ?_);intro b d l a i f)
  go_ret
  rw[bX] at a f
  have m:bf w l:=((al.refl _ _).alloc (.cells #[] 54)).grown i (fun g hg=>by simp[Value.ownBlock] at hg;left;omega)
  refine⟨b,d,?_,by simpa using a,m,fun g hg=>?_⟩
  ·simp[bX]
  ·rcases f with h|h<;>rw[h] at hg<;>simp[Value.ownBlock] at hg<;>omega
theorem Lu{w:World}   (h:di br w A n xs)(d:A=none→n=0)(f:n≤1000000) :
  Calls Tryz.prog 47 #[.slice A n c] w fun e w'=>∃a b,e=.returned (.slice a xs.length b)∧bR br 54 w w' a b xs:=by
 have g:=h.1
 refine(La (h.rd (by decide)) (mE xs) d f).mono ?_
 rintro e w' ⟨a,b,rfl,i,j,k⟩
 subst g
 exact⟨a,b,rfl,i,j,k⟩
theorem kR {T:kJ α}{w:World}  {xs:List α}(h:di T w A n xs):A=none→n=0:=by
 rintro rfl
 by_cases a:0<n
 ·obtain⟨b,o,e,_⟩:=h.2 a
  cases e
 ·omega
def qk(l:List bm)(ns:List aK):List bm:=ns.flatMap fun n=>if ji n l=true then [(n,ki n l)] else []
theorem LZ(l:List bm){ns:List aK}{k:Nat}{x:aK}(a:ns[k]?=some x):qk l (ns.take (k+1))=qk l (ns.take k)++if ji x l=true then [(x,ki x l)] else []:=by
 unfold qk
 rw[aU,a,bF]
 simp
theorem zA(l:List bm)(ns:List aK):(qk l ns).length≤ns.length:=by
 induction ns with
 | nil=>exact aq _
 | cons n ns ih=>
  unfold qk at ih ⊢
  rw[bN,af,an]
  have:(if ji n l=true then [(n,ki n l)] else []).length≤1:=by split<;>simp
  omega
def jw(g:dv)(l out:List bm):iT:=⟨g.bD,qk l g.aN,out⟩
structure Po (b w:World) (g7:Nat) (x z:Value) (nA:Option Addr) (nc:Nat) (nd:List bm):Prop where
 rc:Cs w g7 pn #[x,.slice nA nd.length nc,z]
 fn:bR br 54 b w nA nc nd
 n7:b.heap.size≤g7
section
variable {b w u:World} {g7:Nat} {x z:Value} {nA:Option Addr} {nc:Nat} {nd:List bm}
theorem Po.ext(h:Po b w g7 x z nA nc nd)(a:bf w u):Po b u g7 x z nA nc nd:=⟨h.rc.aP a id,h.fn.on a,h.n7⟩
theorem Po.grow (h:Po b u g7 x z nA nc nd) {a:Option Addr} {c:Nat} {d:World} {t:bm}
  (f:d.ownsRow 0 54 2 (.slice a (nd.length+1:Nat) c) (nd.length+1) (nd.flatMap br.enc++[t].flatMap br.enc)) (j:u.grownBy d (Value.slice nA nd.length nc).ownBlock)
  (k:(Value.slice a (nd.length+1:Nat) c).ownBlock=(Value.slice nA nd.length nc).ownBlock∨(Value.slice a (nd.length+1:Nat) c).ownBlock=some u.heap.size) :
  Po b (d.setCell ⟨g7,1,none⟩ (.slice a (nd.length+1:Nat) c)) g7 x z a c (nd++[t]):=by
 have n:al (fun b=>(Value.slice nA nd.length nc).ownBlock=some b) u d:=(al.refl _ _).grown j fun g e=>.inr e
 have i:=h.fn.grow (ys:=[t]) rfl f j k
 have l:=h.rc.aP n (fun e=>aO h.fn.own h.rc (by decide) _ e rfl)
 have m:al (fun b=>b=g7) d (d.setCell ⟨g7,1,none⟩ (.slice a (nd.length+1:Nat) c)):=(al.refl _ _).at_ 1 _
 have o:bf b (d.setCell ⟨g7,1,none⟩ (.slice a (nd.length+1:Nat) c)):=i.ext.trans m fun b k e=>by have e:b=g7:=e;have:=h.n7;omega
 refine⟨?_,i.aP m o (aO i.own l (by decide)),h.n7⟩
 have:=l.cM 1 (.slice a (nd.length+1:Nat) c)
 rw[af]
 exact this
end
theorem Po.done {w b m:World} {a s:Nat} {d i f:Option Addr} {j nc k:Nat} {cs:List aK} {l c:List bm} (h:Po b m s (.slice d cs.length j) (.slice f c.length k) i nc l) (t:Cs b a pn #[.slice none 0 0,.slice none 0 0,.slice none 0 0]) (u:bf w b) (y:w.heap.size≤a)
  (v:di cI b d cs.length cs) (x:di br b f c.length c) :
  Cs (((m.setCell ⟨a,0,none⟩ (.slice d cs.length j)).setCell ⟨a,1,none⟩ (.slice i l.length nc)).setCell ⟨a,2,none⟩ (.slice f c.length k)) a pn #[.slice d cs.length j,.slice i l.length nc,.slice f c.length k] ∧
  pz (((m.setCell ⟨a,0,none⟩ (.slice d cs.length j)).setCell ⟨a,1,none⟩ (.slice i l.length nc)).setCell ⟨a,2,none⟩ (.slice f c.length k)) ⟨d,j,i,nc,f,k⟩ ⟨cs,l,c⟩ ∧
  bf w (((m.setCell ⟨a,0,none⟩ (.slice d cs.length j)).setCell ⟨a,1,none⟩ (.slice i l.length nc)).setCell ⟨a,2,none⟩ (.slice f c.length k)):=by
 have g:=t.aP h.fn.ext id
 have r:al (fun b=>b=a) m (((m.setCell ⟨a,0,none⟩ (.slice d cs.length j)).setCell ⟨a,1,none⟩ (.slice i l.length nc)).setCell ⟨a,2,none⟩ (.slice f c.length k)):=(((al.refl _ _).at_ 0 _).at_ 1 _).at_ 2 _
 have n:=v.ext h.fn.ext
 have p:=x.ext h.fn.ext
 have q:=h.fn.row (by decide)
 refine⟨((g.cM 0 (.slice d cs.length j)).cM 1 (.slice i l.length nc)).cM 2 (.slice f c.length k),⟨n.nW r fun b o e hp=>n.PK tN g b o e hp,q.nW r fun b o e hp=>q.PK me g b o e hp,p.nW r fun b o e hp=>p.PK me g b o e hp⟩,?_⟩
 exact(u.ae h.fn.ext).trans r fun b hb e=>by have e:b=a:=e;omega
theorem Ve{w:World}{gv:Hf}{g:dv}(hg:EU w gv g)  {out:List bm}(hl:di br w A l.length l)(ho:di br w B out.length out)(hr:eQ fk l)(h1:g.bD.length≤1000)(h2:g.aN.length≤1000)(h3:l.length≤1000)(h4:out.length≤1000) :
  Calls Tryz.prog 124 #[Rf gv g,.slice A l.length c,.slice B out.length d] w fun e w'=>∃v,e=.returned (vJ v (jw g l out))∧pz w' v (jw g l out)∧bf w w':=by
 obtain⟨tA,tc,nA,nc,V,O⟩:=gv
 obtain⟨g3,F⟩:∃g,g=w.heap.size:=⟨_,rfl⟩
 obtain⟨W,G⟩:∃g,g=w.heap.size+1:=⟨_,rfl⟩
 obtain⟨w0,p⟩:∃w0,w0=w.alloc (.cells (AE ⟨tA,tc,nA,nc,V,O⟩ g) 47):=⟨_,rfl⟩
 obtain⟨o,s⟩:∃o,o=w0.alloc (.cells #[.slice none 0 0,.slice none 0 0,.slice none 0 0] pn):=⟨_,rfl⟩
 have x0:bf w w0:=by rw[p];exact(al.refl No w).alloc _
 have x1:bf w0 o:=by rw[s];exact(al.refl No w0).alloc _
 have hz:w0.heap.size=w.heap.size+1:=by rw[p];simp
 have b3:Cs w0 g3 47 (AE ⟨tA,tc,nA,nc,V,O⟩ g):=by rw[p,F];exact Cs.new _ _ _
 have Y:=aj (b3.aP x1 id)
 have Z:Hd (Cs o W pn #[.slice none 0 0,.slice none 0 0,.slice none 0 0]):=by rw[s,G,←hz];exact Cs.new _ _ _
 have y:=aj (x0.ae x1)
 have ao:w.heap.size≤W:=by omega
 have d1:∀ξ:X o No,ξ.v.cell? ⟨g3,1,none⟩=some (.slice nA g.aN.length nc):=Y.ou.x id 1
 have d2:∀ξ:X o No,ξ.v.cell? ⟨g3,2,none⟩=some (.slice V g.bD.length O):=Y.ou.x id 2
 have HG:=aj (hg.ext y.ou)
 have ac:=aj (nO (c:=O) HG.ou.c (kR HG.ou.c) (by omega))
 have q:=aj (ho.ext y.ou)
 have ag:=aj (fun v (hv:bf o v) k=>um (c:=c) ((hl.ext y.ou).ext hv) (by omega) k hr)
 have H:Hd (jw g l out=⟨g.bD,qk l g.aN,out⟩):=rfl
 generalize jw g l out=R at H ⊢
 clear x0 x1 b3 hg hl ho hr
 unfold AE at p
 show Calls _ _ #[.agg #[.slice tA g.targets.length tc,.slice nA g.aN.length nc,.slice V g.bD.length O,.bool g.ba],_,_] _ _
 go_enter Tryz.func124,Tryz.ntmps124
 go_upto_region 1 with fail
 rw[←p,←s,←G,←F]
 clear p s G F hz
 obtain⟨ξ0,I⟩:∃ξ:X o No,ξ.v=o:=⟨X.here _ _,rfl⟩
 rw[←I]
 have D:Hd (Calls Tryz.prog 95 #[.slice V g.bD.length O] ξ0.v fun e w'=>∃A' c',e=.returned (.slice A' g.bD.length c')∧bR cI 9 o w' A' c' g.bD):=by rw[I];exact ac.ou
 clear I ac
 go_wp2_with fail
 refine D.ou.mono ?_
 rintro e u1 ⟨A1,c1,rfl,E⟩
 have F1:=aj E
 obtain⟨ξ1,rfl⟩:∃ξ:X o No,u1=ξ.v:=⟨⟨u1,E.ext⟩,rfl⟩
 have ai:=aj (Lu (c:=d) (q.ou.ext ξ1.h) (kR (q.ou.ext ξ1.h)) (by omega))
 clear E D q
 go_wp2_with fail
 refine ai.ou.mono ?_
 rintro e b ⟨A2,c2,rfl,E⟩
 have F2:=aj (F1.ou.on E.ext)
 have F3:=aj E
 have XB:Hd (bf o b):=ξ1.h.ae E.ext
 clear E ai F1
 obtain⟨J,K⟩:∃g,g=b.heap.size:=⟨_,rfl⟩
 obtain⟨b2,z⟩:∃u,u=b.alloc (.cells #[.slice A1 g.bD.length c1,.slice none 0 0,.slice A2 out.length c2] pn):=⟨_,rfl⟩
 have P0:Hd (Po b b2 J (.slice A1 g.bD.length c1) (.slice A2 out.length c2) none 0 []):=by
  have x:bf b b2:=by rw[z];exact(al.refl No b).alloc _
  refine⟨?_,bR.nil _ _ _ _ x,by omega⟩
  rw[z,K];exact Cs.new _ _ _
 go_upto_region 2 with fail
 rw[←z,←K]
 clear z K
 obtain⟨ξb,ak⟩:∃ξ:X o No,ξ.v=b2:=⟨⟨b2,XB.ou.ae P0.ou.fn.ext⟩,rfl⟩
 rw[←ak] at P0 ⊢
 clear ak
 go_wp2_with fail
 go_loopw [21] (fun i wr=>∃j:Nat,j≤g.aN.length∧i=.int .i64 j∧∃a f m,Po b wr J (.slice A1 g.bD.length c1) (.slice A2 out.length c2) a f m∧m=qk l (g.aN.take j)∧m.length≤j) (fun i _=>g.aN.length-(intOf i).toNat)
 case atStart=>exact⟨0,au _,rfl,none,0,[],P0.ou,by simp[qk],aq _⟩
 case round=>
  clear P0
  obtain⟨j,hj,rfl,a,f,m,hP,hN,av⟩:=hrel
  have P:=aj hP
  have Q:=aj hN
  obtain⟨ξ,rfl⟩:∃ξ:X o No,wr=ξ.v:=⟨⟨wr,XB.ou.ae hP.fn.ext⟩,rfl⟩
  clear hP hN
  by_cases ap:j<g.aN.length
  ·obtain⟨bb,oo,x,rfl,hx,c0⟩:=dq HG.ou.n ap
   have T:=aj (LZ l hx)
   have C:=aj (ag.ou _ ξ.h x)
   generalize ki x l=tx at T C
   generalize ji x l=is at T C
   clear hx
   go_wp2_with fail
   refine C.ou.mono ?_
   rintro e u ⟨rfl,hu⟩
   have P1:=aj (P.ou.ext hu)
   clear hu C P
   cases is with
   | false=>
    have L:Hd (m=qk l (g.aN.take (j+1))):=by rw[Hd,T.ou,←Q.ou];simp
    clear Q T
    go_wp2_with fail
    go_roundw
    case rel=>exact⟨j+1,by omega,by go_num,a,f,m,P1.ou,L.ou,by omega⟩
    case measure=>simp[intOf];omega
   | true=>
    have L:Hd (m++[(x,tx)]=qk l (g.aN.take (j+1))):=by rw[Hd,T.ou,←Q.ou];simp
    clear Q T
    have y0:u.cell? ⟨J,1,none⟩=some (.slice a m.length f):=P1.ou.rc.cell 1
    have P8:=aj (P1.ou.ext ((al.refl No u).alloc (.cells #[S x,S tx] 54)))
    go_wp2_with (first|(at_builtin;go_must (refine dy (v:=.slice a m.length f) (n:=m.length) (xs:=m.flatMap br.enc) rfl sf rfl rfl rfl P8.ou.fn.own (iQ u _ [S x,S tx]) (mE [(x,tx)]) (by omega) ?_);intro A3 c3 w5 r M am;have P9:=aj (P8.ou.grow (t:=(x,tx)) r M am);have O9:al (fun b=>(Value.slice a m.length f).ownBlock=some b) (u.alloc (.cells #[S x,S tx] 54)) w5:=(al.refl _ _).grown M fun g hg=>.inr hg;have C9:=P8.ou.rc.aP O9 (fun e=>aO P8.ou.fn.own P8.ou.rc (by decide) _ e rfl);have z9:=C9.frozen 1;have y9:w5.cell? ⟨J,1,none⟩=some (.slice a m.length f):=C9.cell 1;clear r M am O9 C9)|refine dN ?_)
    go_roundw
    case rel=>exact⟨j+1,by omega,by go_num,A3,c3,m++[(x,tx)],P9.ou,L.ou,by simp;omega⟩
    case measure=>simp[intOf];omega
  ·have HR:Hd (R=⟨g.bD,m,out⟩):=by
    have:=Q.ou
    rw[ay (by omega)] at this
    rw[Hd,H.ou,this]
   have c0:ξ.v.cell? ⟨J,0,none⟩=some (.slice A1 g.bD.length c1):=P.ou.rc.cell 0
   have aD:ξ.v.cell? ⟨J,1,none⟩=some (.slice a m.length f):=P.ou.rc.cell 1
   have a0:ξ.v.cell? ⟨J,2,none⟩=some (.slice A2 out.length c2):=P.ou.rc.cell 2
   have U:=aj (Z.ou.aP ξ.h id)
   have e0:ξ.v.cell? ⟨W,0,none⟩=some (.slice none 0 0):=U.ou.cell 0
   have e1:ξ.v.cell? ⟨W,1,none⟩=some (.slice none 0 0):=U.ou.cell 1
   have e2:ξ.v.cell? ⟨W,2,none⟩=some (.slice none 0 0):=U.ou.cell 2
   have z0:=U.ou.frozen 0
   have z1:=U.ou.frozen 1
   have z2:=U.ou.frozen 2
   have N:=aj (P.ou.done (w:=w) (Z.ou.aP XB.ou id) (y.ou.ae XB.ou) ao (F2.ou.row (by decide)) (F3.ou.row (by decide)))
   clear Q H
   go_wp2_with fail
   refine jN rfl rfl rfl (oQ N.ou.1) ?_
   rw[HR.ou]
   exact⟨⟨A1,c1,a,f,A2,c2⟩,rfl,N.ou.2.1,N.ou.2.2⟩
theorem TG{w:World}{v u:jy}{q:iT}(h:pz w v r)(g:pz w u q)(E:r.bD.length≤10000∧r.aN.length≤10000∧r.ou.length≤10000)(F:q.bD.length≤10000∧q.aN.length≤10000∧q.ou.length≤10000) :
  Calls Tryz.prog 123 #[vJ v r,vJ u q] w fun e w'=>e=.returned (.bool (oB r q))∧bf w w':=by
 obtain⟨G,s,H,nc,I,t⟩:=v
 obtain⟨J,y,mA,mc,L,z⟩:=u
 obtain⟨w0,b⟩:∃w0,w0=w.alloc (.cells (vH ⟨G,s,H,nc,I,t⟩ r) pn):=⟨_,rfl⟩
 obtain⟨a,f⟩:∃a,a=w0.alloc (.cells (vH ⟨J,y,mA,mc,L,z⟩ q) pn):=⟨_,rfl⟩
 have A:bf w w0:=by rw[b];exact(al.refl No w).alloc _
 have l:bf w0 a:=by rw[f];exact(al.refl No w0).alloc _
 have B:Cs w0 w.heap.size pn (vH ⟨G,s,H,nc,I,t⟩ r):=by rw[b];exact Cs.new _ _ _
 have M:=B.aP l id
 have O:w0.heap.size=w.heap.size+1:=by rw[b];simp
 have N:Cs a (w.heap.size+1) pn (vH ⟨J,y,mA,mc,L,z⟩ q):=by rw[f,←O];exact Cs.new _ _ _
 have i:=aj (A.ae l)
 have P:∀ξ:X a No,ξ.v.cell? ⟨w.heap.size,0,none⟩=some (.slice G r.bD.length s):=M.x id 0
 have Q:∀ξ:X a No,ξ.v.cell? ⟨w.heap.size,1,none⟩=some (.slice H r.aN.length nc):=M.x id 1
 have S:∀ξ:X a No,ξ.v.cell? ⟨w.heap.size,2,none⟩=some (.slice I r.ou.length t):=M.x id 2
 have T:∀ξ:X a No,ξ.v.cell? ⟨w.heap.size+1,0,none⟩=some (.slice J q.bD.length y):=N.x id 0
 have U:∀ξ:X a No,ξ.v.cell? ⟨w.heap.size+1,1,none⟩=some (.slice mA q.aN.length mc):=N.x id 1
 have V:∀ξ:X a No,ξ.v.cell? ⟨w.heap.size+1,2,none⟩=some (.slice L q.ou.length z):=N.x id 2
 have j:=aj (fun v (hv:bf a v)=>Gh (c:=s) (d:=y) ((h.c.ext i.ou).ext hv) ((g.c.ext i.ou).ext hv) E.1 F.1)
 have m:=aj (fun v (hv:bf a v)=>vO (c:=nc) (d:=mc) ((h.n.ext i.ou).ext hv) ((g.n.ext i.ou).ext hv) E.2.1 F.2.1)
 have C:=aj (fun v (hv:bf a v)=>vO (c:=t) (d:=z) ((h.o.ext i.ou).ext hv) ((g.o.ext i.ou).ext hv) E.2.2 F.2.2)
 have p:Hd (oB r q=(decide (r.bD=q.bD)&&decide (r.aN=q.aN)&&decide (r.ou=q.ou))):=rfl
 generalize oB r q=R at p ⊢
 generalize decide (r.bD=q.bD)=b1 at j p
 generalize decide (r.aN=q.aN)=b2 at m p
 generalize decide (r.ou=q.ou)=b3 at C p
 clear B M N A l h g E F
 unfold vH at b f
 show Calls _ _ #[.agg #[.slice G r.bD.length s,.slice H r.aN.length nc,.slice I r.ou.length t],.agg #[.slice J q.bD.length y,.slice mA q.aN.length mc,.slice L q.ou.length z]] _ _
 go_enter Tryz.func123,Tryz.ntmps123
 go_upto_region 1 with fail
 rw[←b,←f]
 clear b f O
 obtain⟨k,D⟩:∃ξ:X a No,ξ.v=a:=⟨X.here _ _,rfl⟩
 rw[←D]
 clear D
 cases b1 with
 | false=>
  refine cj [4] (Cl a No) (Cl.of k.h) ?_
  refine dH ?_
  (refine bQ ?_;intro K hK);refine kF k (j.ou _ k.h) hK fun ξ1 Hξ1=>?_;clear hK K;refine bj ?_;refine bK ?_
  refine ar ?_
  go_wp2_with fail
  go_ret
  exact⟨by rw[p.ou];rfl,i.ou.ae ξ1.h⟩
 | true=>
  cases b2 with
  | false=>
   refine cj [4,10] (Cl a No) (Cl.of k.h) ?_
   refine dH ?_
   (refine bQ ?_;intro K hK);refine kF k (j.ou _ k.h) hK fun ξ1 Hξ1=>?_;clear hK K;refine bj ?_;refine bK ?_
   (refine bQ ?_;intro K hK);refine kF ξ1 (m.ou _ ξ1.h) hK fun ξ2 Hξ2=>?_;clear hK K;refine bj ?_;refine bK ?_
   refine ar ?_
   go_wp2_with fail
   go_ret
   exact⟨by rw[p.ou];rfl,i.ou.ae ξ2.h⟩
  | true=>
   refine cj [4,10,17] (Cl a No) (Cl.of k.h) ?_
   refine dH ?_
   (refine bQ ?_;intro K hK);refine kF k (j.ou _ k.h) hK fun ξ1 Hξ1=>?_;clear hK K;refine bj ?_;refine bK ?_
   (refine bQ ?_;intro K hK);refine kF ξ1 (m.ou _ ξ1.h) hK fun ξ2 Hξ2=>?_;clear hK K;refine bj ?_;refine bK ?_
   (refine bQ ?_;intro K hK);refine kF ξ2 (C.ou _ ξ2.h) hK fun ξ3 Hξ3=>?_;clear hK K;refine bj ?_;refine bK ?_
   refine ar ?_
   cases b3 <;>
   ·go_wp2_with fail
    go_ret
    exact⟨by rw[p.ou];rfl,i.ou.ae ξ3.h⟩
theorem xx  {ops:Array Oper} {rest:List Oper} {Q:Exit→Act→World→Prop} {w:World} {o:Oper}  (c:o.guard=none) {d:TypeId} {i:TypeInfo} {z:Value} {l:IntKind} (n:P.underlying t=some (.slice e)) (f:P.underlying d=some (.int l))
  (p:P.info? e=some i) (q:i.zero=some z) {s x:Operand} (r:o.op=.call { callee:=.builtin .append,args:=#[s,x],argTypes:=#[t,d] })
   (u:a.eval s=.slice none 0 0) (v:a.eval x=.int .i64 (m:Int)) (y:0<m) (g:0<i.size) (j:i.bytes≤256) (k:m≤100000000)
  (h:∀cap,m≤cap→cap≤maxLen→wpList P ops Q rest (a.put o.dst (.slice (some ⟨w.heap.size,0,none⟩) m cap)) (w.drew.alloc (.cells ((Builtin.zeroCells z.cells m).toList++(Builtin.zeroCells z.cells (cap-m)).toList).toArray e))) :
  wpList P ops Q (o::rest) a w:=by
 have A:m*i.bytes≤100000000*256:=kb k j
 have b:=Lib.run_append_grow_zeros (P:=P) w t d o.type e i z .i64 l n f p q none 0 0 [] (run_firstCells_none w.drew i.size 0 0 0) m y g (by omega) (by omega) (by omega) (growslice_fits (by omega) (by rw[bX];omega))
 refine wpList_plain c fun K hK=>kk (N:=fun v' w'=>wpList P ops Q rest (a.put o.dst v') w') (fun _ _ h=>hK _ _ h) ?_
 unfold cT fe execOp
 simp only[r,resolve,invoke,builtin,Sem.run_bind,Sem.run_pure,Result.andThen_ok,fi,du,eG,u,v,b]
 have:=h (grownCap w (0+m) 0 e) (aJ (by omega) (grownCap_ge w _ _ _)) (grownCap_le_maxLen w _ _ e (by unfold maxLen;omega))
 have B:((Builtin.zeroCells z.cells m).toList++(Builtin.zeroCells z.cells (grownCap w (0+m) 0 e-m)).toList).toArray=([]:List Value).toArray++Builtin.zeroCells z.cells m++Builtin.zeroCells z.cells (grownCap w (0+m) 0 e-(0+m)):=by
  apply Array.ext'
  simp
 rw[B] at this
 simpa using this
theorem Tb(k:Nat)(o:k≤1000000)(w:World) :
  Calls Tryz.prog 185 #[.slice none 0 0,.int .i64 k] w fun e w'=>∃A' c',e=.returned (.slice A' 0 c')∧bR br 54 w w' A' c' []:=by
 obtain⟨i,c,d,f,h⟩:=info_parts JW
 rcases fY k with h0|h0
 ·subst h0
  go_enter Tryz.func185,Tryz.ntmps185
  refine cS ?_
  go_ret
  exact⟨none,0,rfl,bR.nil _ _ _ _ (al.refl _ _)⟩
 ·have j:=aj c
  have l:=aj d
  have p:=aj f
  have a:0<i.size:=by omega
  have h:i.bytes≤256:=by omega
  clear c d f
  go_enter Tryz.func185,Tryz.ntmps185
  go_wp2_with (first|(at_builtin;go_must (refine xx (m:=k) rfl Tryz.underlying39 Tryz.underlying3 j.ou l.ou rfl rfl rfl h0 a h (by omega) ?_);intro cap n b)|refine dN ?_)
  go_ret
  refine⟨_,cap,rfl,?_,(al.refl No w).drew.alloc _,fun g hg=>?_⟩
  ·exact iM (xs:=[]) (rest:=(Builtin.zeroCells #[.string ⟨#[]⟩,.string ⟨#[]⟩] k).toList++(Builtin.zeroCells #[.string ⟨#[]⟩,.string ⟨#[]⟩] (cap-k)).toList) (Cs.new _ _ _) (au _) (by simp)
    (by rw[cW,af,ir,ir,←Nat.add_mul];show(k+(cap-k))*2=cap*2;congr 1;omega) (au _) b
  ·simp[Value.ownBlock] at hg
   subst hg
   exact aq _
theorem M5 {w:World}{b n m c d:Nat} {ys:List bm}(r:Cs w b t #[.slice A n c,.slice B m d])(s:di br w A n xs)(y:di br w B m ys)(U:n≤1000)(V:m≤1000) :
  Calls Tryz.prog 127 #[.slice (some ⟨b,0,none⟩) 2 2] w fun e w'=>∃A' c',e=.returned (.slice A' (xs++ys).length c')∧bR br 54 w w' A' c' (xs++ys):=by
 have b0:∀ξ:X w No,ξ.v.cell? ⟨b,0,none⟩=some (.slice A n c):=r.x id 0
 have b1:∀ξ:X w No,ξ.v.cell? ⟨b,1,none⟩=some (.slice B m d):=r.x id 1
 have M:=aj s
 have N:=aj y
 have f:=s.1
 have o:=y.1
 have J:=aj (fun v=>Tb (n+m) (by omega) v)
 clear r s y
 go_enter Tryz.func127,Tryz.ntmps127
 go_wp2_with (refine lM ?_ ?_<;>intro hq)
 go_loopw [3,11] (fun z i wr=>∃k:Nat,k≤2∧i=.int .i64 k∧((k=0∧z=.int .i64 0)∨(k=1∧z=.int .i64 n)∨(k=2∧z=.int .i64 ((n+m:Nat):Int)))∧∃ξ:X w No,wr=ξ.v) (fun _ i _=>2-(intOf i).toNat)
 case atStart=>exact⟨0,by omega,rfl,.inl ⟨rfl,rfl⟩,X.here _ _,rfl⟩
 case round=>
  obtain⟨k,O,rfl,C,ξ,rfl⟩:=hrel
  rcases C with⟨rfl,rfl⟩|⟨rfl,rfl⟩|⟨rfl,rfl⟩
  ·have D:=b0 ξ
   have P:decide ((n:Int)<0)=false:=by rw[aA];omega
   go_wp2_with fail
   go_roundw
   case rel=>exact⟨1,by omega,rfl,.inr (.inl ⟨rfl,by simp⟩),ξ,rfl⟩
   case measure=>simp[intOf]
  ·have c1:=b1 ξ
   have P:decide ((n:Int)+(m:Int)<0)=false:=by rw[aA];omega
   go_wp2_with fail
   go_roundw
   case rel=>exact⟨2,by omega,rfl,.inr (.inr ⟨rfl,by simp⟩),ξ,rfl⟩
   case measure=>simp[intOf]
  ·go_wp2_with fail
   refine(J.ou _).mono ?_
   rintro e u ⟨Q,D,rfl,g⟩
   have R:=aj (g.from ξ.h)
   obtain⟨W,rfl⟩:∃ξ:X w No,u=ξ.v:=⟨⟨u,ξ.h.ae g.ext⟩,rfl⟩
   clear g J
   go_wp2_with fail
   go_loopw [6,27] (fun z i wr=>∃k:Nat,k≤2∧i=.int .i64 k∧∃L A' c',z=.slice A' L.length c'∧bR br 54 w wr A' c' L∧((k=0∧L=[])∨(k=1∧L=xs)∨(k=2∧L=xs++ys))) (fun _ i _=>2-(intOf i).toNat)
   case atStart=>exact⟨0,by omega,rfl,[],Q,D,rfl,R.ou,.inl ⟨rfl,rfl⟩⟩
   case round=>
    obtain⟨k,O,rfl,L,E,c1,rfl,g,C⟩:=hrel
    have p:=aj g
    obtain⟨q,rfl⟩:∃ξ:X w No,wr=ξ.v:=⟨⟨wr,g.ext⟩,rfl⟩
    clear g
    rcases C with⟨rfl,rfl⟩|⟨rfl,rfl⟩|⟨rfl,rfl⟩
    ·have D:=b0 q
     have K:=(M.ou.ext q.h).rd (by decide)
     have F:=aj K
     clear K
     go_wp2_with (first|(at_builtin;go_must (refine dy (v:=.slice E 0 c1) (n:=0) (xs:=[]) rfl sf rfl rfl rfl p.ou.own F.ou (mE xs) (by omega) ?_);intro G H S a j l)|refine dN ?_)
     go_roundw
     case rel=>
      have I:=p.ou.grow (ys:=xs) f a j l
      exact⟨1,by omega,rfl,xs,G,H,(by rw[f];try simp),by simpa using I,.inr (.inl ⟨rfl,rfl⟩)⟩
     case measure=>simp[intOf]
    ·have T:=b1 q
     have F:=aj ((N.ou.ext q.h).rd (by decide))
     go_wp2_with (first|(at_builtin;go_must (refine dy (v:=.slice E L.length c1) (n:=L.length) (xs:=L.flatMap br.enc) rfl sf rfl rfl rfl p.ou.own F.ou (mE ys) (by omega) ?_);intro G H S a j l)|refine dN ?_)
     go_roundw
     case rel=>
      have I:=p.ou.grow (ys:=ys) o a j l
      exact⟨2,by omega,rfl,L++ys,G,H,by rw[af,o,f],I,.inr (.inr ⟨rfl,rfl⟩)⟩
     case measure=>simp[intOf]
    ·go_wp2_with fail
     go_ret
     exact⟨E,c1,rfl,p.ou⟩
def zH(c:aK):aK:=[32]++Lib.itoa c.length++[58]++c
def EH(f:bm):aK:=[32]++f.1++[32]++Lib.itoa f.2.length++[58]++f.2
def LG(r:iT):aK:=Lib.itoa r.bD.length++[32]++Lib.itoa r.aN.length++[32]++Lib.itoa r.ou.length
def lQ(r:iT):aK:=LG r++r.bD.flatMap zH++(r.aN++r.ou).flatMap EH
theorem uW(n:Nat)(h:n≤1000000):(Lib.itoa (n:Int)).length≤21:=Lib.itoa_length_le _ (by omega) (by omega)
theorem DC{w:World}(hE:GL w){v:jy} (h:pz w v r)(y:r.Ku) :
  Calls Tryz.prog 76 #[vJ v r] w fun e w'=>e=.returned (S (lQ r))∧bf w w':=by
 obtain⟨cA,cc,J,nc,L,z⟩:=v
 obtain⟨w0,k⟩:∃w0,w0=w.alloc (.cells (vH ⟨cA,cc,J,nc,L,z⟩ r) pn):=⟨_,rfl⟩
 have p:bf w w0:=by rw[k];exact(al.refl No w).alloc _
 have hB:Cs w0 w.heap.size pn (vH ⟨cA,cc,J,nc,L,z⟩ r):=by rw[k];exact Cs.new _ _ _
 have d0:∀ξ:X w0 No,ξ.v.cell? ⟨w.heap.size,0,none⟩=some (.slice cA r.bD.length cc):=hB.x id 0
 have d1:∀ξ:X w0 No,ξ.v.cell? ⟨w.heap.size,1,none⟩=some (.slice J r.aN.length nc):=hB.x id 1
 have d2:∀ξ:X w0 No,ξ.v.cell? ⟨w.heap.size,2,none⟩=some (.slice L r.ou.length z):=hB.x id 2
 have ap:=aj p
 have HR:=aj (h.ext p)
 have bb:=y.c
 have bc:=y.n
 have bd:=y.o
 have av:=aj y.lc
 have N:=aj y.ln
 have O:=aj y.lo
 have P:Hd (∀(n:Nat) v,n≤1000000→bf w0 v→Calls Tryz.prog 126 #[.int .i64 (n:Int)] v fun e w'=>e=.returned (S (Lib.itoa (n:Int)))∧bf v w'):=fun n v hn hv=>Nj (n:Int) (by omega) (by omega) (hE.ext (p.ae hv))
 have aD:=uW r.bD.length (by omega)
 have a0:=uW r.aN.length (by omega)
 have a1:=uW r.ou.length (by omega)
 have A:=aj (fun v hv=>P.ou r.bD.length v (by omega) hv)
 have B:=aj (fun v hv=>P.ou r.aN.length v (by omega) hv)
 have C:=aj (fun v hv=>P.ou r.ou.length v (by omega) hv)
 have D:Hd (LG r=Lib.itoa r.bD.length++[32]++Lib.itoa r.aN.length++[32]++Lib.itoa r.ou.length):=rfl
 have a2:(LG r).length≤65:=by rw[D.ou];simp only[af,an,bI];omega
 have HT:Hd (lQ r=LG r++r.bD.flatMap zH++(r.aN++r.ou).flatMap EH):=rfl
 generalize LG r=hd at D a2 HT
 generalize Lib.itoa (r.bD.length:Int)=i1 at A D aD
 generalize Lib.itoa (r.aN.length:Int)=i2 at B D a0
 generalize Lib.itoa (r.ou.length:Int)=i3 at C D a1
 generalize lQ r=R at HT ⊢
 clear hB p h y hE
 unfold vH at k
 show Calls _ _ #[.agg #[.slice cA r.bD.length cc,.slice J r.aN.length nc,.slice L r.ou.length z]] _ _
 go_enter Tryz.func76,Tryz.ntmps76
 go_upto_region 1 with fail
 rw[←k]
 clear k
 obtain⟨ξ0,Q⟩:∃ξ:X w0 No,ξ.v=w0:=⟨X.here _ _,rfl⟩
 rw[←Q]
 clear Q
 go_upto_region 2 with fail
 refine aV [4,10,17] 100 (Cl w0 No) (by kernel_rfl) (by kernel_rfl) (Cl.of ξ0.h.drew) ?_
 obtain⟨μ0,T⟩:∃μ0:X w0 No,μ0.v=ξ0.v.drew:=⟨⟨_,ξ0.h.drew⟩,rfl⟩
 rw[←T]
 clear T
 refine dH ?_
 (refine bQ ?_;intro K hK);refine kF μ0 (A.ou _ μ0.h) hK fun μ1 Hμ1=>?_;clear hK K;refine bj ?_;refine bK ?_
 (refine bQ ?_;intro K hK);refine kF μ1 (B.ou _ μ1.h) hK fun μ2 Hμ2=>?_;clear hK K;refine bj ?_;refine bK ?_
 (refine bQ ?_;intro K hK);refine kF μ2 (C.ou _ μ2.h) hK fun μ3 Hμ3=>?_;clear hK K;refine bj ?_;refine bK ?_
 refine ar ?_
 have U:hd=i1++32::(i2++32::i3):=by rw[D.ou];simp
 have V:=aj U
 have W:Hd (∀(n:Nat),n≤1000000→(Lib.itoa (n:Int)).length≤21):=uW
 clear A B C D U
 go_wp2_with fail
 go_loopw [4,31] (fun s i wr=>∃j:Nat,j≤r.bD.length∧i=.int .i64 j∧∃a:aK,s=S a∧a=hd++(r.bD.take j).flatMap zH∧a.length≤65+10100*j∧∃ξ:X w0 No,wr=ξ.v) (fun _ i _=>r.bD.length-(intOf i).toNat)
 case atStart=>exact⟨0,au _,rfl,hd,by rw[V.ou],by simp,by omega,μ3,rfl⟩
 case round=>
  obtain⟨j,hj,rfl,a,rfl,Y,Z,ξ,rfl⟩:=hrel
  have E:=aj Y
  clear Y
  by_cases a3:j<r.bD.length
  ·obtain⟨b,o,x,rfl,f,c0⟩:=dq HR.ou.c a3
   have bg:=av.ou x (ah f)
   have G:=W.ou x.length (by omega)
   have l:=aj (fun v hv=>P.ou x.length v (by omega) hv)
   have HS:Hd ((r.bD.take (j+1)).flatMap zH=(r.bD.take j).flatMap zH++([32]++Lib.itoa x.length++[58]++x)):=by
    rw[Hd,aU,f,bF];simp[zH]
   generalize Lib.itoa (x.length:Int)=il at G l HS
   clear f
   go_wp2_with fail
   refine lL ξ (l.ou _ ξ.h) fun ξ1 Hξ1=>?_
   go_wp2_with fail
   go_roundw
   case rel=>exact⟨j+1,by omega,by go_num,_,rfl,by rw[HS.ou,E.ou];simp,by simp only[af,an];omega,ξ1,rfl⟩
   case measure=>simp[intOf];omega
  ·have a4:Hd (a=hd++r.bD.flatMap zH):=by
    have:=E.ou
    rw[ay (by omega)] at this
    exact this
   clear E
   obtain⟨u,hu⟩:∃u,u=ξ.v.alloc (.cells #[.slice J r.aN.length nc,.slice L r.ou.length z] 39):=⟨_,rfl⟩
   have q:bf ξ.v u:=by rw[hu];exact(al.refl No _).alloc _
   have g:Cs u ξ.v.heap.size 39 #[.slice J r.aN.length nc,.slice L r.ou.length z]:=by rw[hu];exact Cs.new _ _ _
   have HC:=aj (M5 (c:=nc) (d:=z) g (HR.ou.n.ext (ξ.h.ae q)) (HR.ou.o.ext (ξ.h.ae q)) (by omega) (by omega))
   have XU:Hd (bf w0 u):=ξ.h.ae q
   have ac:Hd (∀x∈r.aN++r.ou,x.1.length≤10000∧x.2.length≤10000):=fun x f=>by
    rcases az.1 f with f|f
    ·exact N.ou x f
    ·exact O.ou x f
   have a5:(r.aN++r.ou).length≤200:=by rw[af];omega
   generalize r.aN++r.ou=ys at HC HT ac a5
   have a6:Hd (a.length≤1020000):=by unfold Hd;omega
   clear q g Z N O V
   go_wp2_with fail
   rw[←hu]
   clear hu
   refine HC.ou.mono ?_
   rintro e H ⟨A',c',rfl,hf⟩
   have ag:Hd (bf w0 H):=XU.ou.ae hf.ext
   have F:=aj (hf.row (by decide))
   obtain⟨ζ,hζ⟩:∃ζ:X H No,ζ.v=H:=⟨X.here _ _,rfl⟩
   rw[←hζ]
   clear hf HC XU hζ
   go_wp2_with fail
   go_loopw [4,53] (fun s i wr=>∃j:Nat,j≤ys.length∧i=.int .i64 j∧∃m:aK,s=S m∧m=a++(ys.take j).flatMap EH∧m.length≤1020000+20100*j∧∃ξ:X H No,wr=ξ.v) (fun _ i _=>ys.length-(intOf i).toNat)
   case atStart=>exact⟨0,au _,rfl,a,rfl,by simp,by have:=a6.ou;omega,ζ,rfl⟩
   case round=>
    obtain⟨j,hj,rfl,m,rfl,Y,Z,M,rfl⟩:=hrel
    have E:=aj Y
    clear Y
    by_cases ai:j<ys.length
    ·obtain⟨b,o,x,rfl,f,c0,c1⟩:=jI F.ou ai
     obtain⟨a8,a9⟩:=ac.ou x (ah f)
     have G:=W.ou x.2.length (by omega)
     have l:=aj (fun v (hv:bf H v)=>P.ou x.2.length v (by omega) (ag.ou.ae hv))
     have HS:Hd ((ys.take (j+1)).flatMap EH=(ys.take j).flatMap EH++([32]++x.1++[32]++Lib.itoa x.2.length++[58]++x.2)):=by
      rw[Hd,aU,f,bF];simp[EH]
     generalize Lib.itoa (x.2.length:Int)=il at G l HS
     obtain⟨I,t⟩:∃u,u=M.v.alloc (.cells #[S x.1,S x.2] 54):=⟨_,rfl⟩
     have g:Cs I M.v.heap.size 54 #[S x.1,S x.2]:=by rw[t];exact Cs.new _ _ _
     have ak:Hd (bf H I):=by rw[t];exact M.h.alloc _
     have e0:∀ξ:X I No,ξ.v.cell? ⟨M.v.heap.size,0,none⟩=some (S x.1):=g.x id 0
     have e1:∀ξ:X I No,ξ.v.cell? ⟨M.v.heap.size,1,none⟩=some (S x.2):=g.x id 1
     clear f g
     go_upto_region 11 with fail
     rw[←t]
     clear t
     refine aV [9] 100 (Cl I No) (by kernel_rfl) (by kernel_rfl) (Cl.of (al.refl _ _).drew) ?_
     obtain⟨ν0,am⟩:∃ν0:X I No,ν0.v=I.drew:=⟨⟨_,(al.refl _ _).drew⟩,rfl⟩
     rw[←am]
     clear am
     refine dH ?_
     (refine bQ ?_;intro K hK);refine kF ν0 (l.ou _ (ak.ou.ae ν0.h)) hK fun ν1 Hν1=>?_;clear hK K;refine bj ?_;refine bK ?_
     refine ar ?_
     have a7:Hd (bf H ν1.v):=ak.ou.ae ν1.h
     go_wp2_with fail
     go_roundw
     case rel=>exact⟨j+1,by omega,by go_num,_,rfl,by rw[HS.ou,E.ou];simp,by simp only[af,an];omega,⟨_,a7.ou⟩,rfl⟩
     case measure=>simp[intOf];omega
    ·have ao:Hd (R=m):=by
      have:=E.ou
      rw[ay (by omega)] at this
      rw[Hd,HT.ou,this,a4.ou]
     clear E
     go_wp2_with fail
     go_ret
     rw[ao.ou]
     exact⟨rfl,ap.ou.ae (ag.ou.ae M.h)⟩
def Ov.Tg(ts:List aK)(o:Ov):Prop:=o.targets=ts∧∀f∈o.own,iH ts f.1=true∧f.2.length≤20
theorem Ov.Tg.wr{ts:List aK}{o:Ov}(h:o.Tg ts)(n s:aK):(o.wr n s).Tg ts:=by
 refine⟨(Ov.AC _ _ _).trans h.1,fun f hf=>?_⟩
 unfold Ov.wr at hf
 split at hf
 ·rename_i he
  rcases sO hf with rfl|hf
  ·unfold Ov.jJ at he
   rw[h.1] at he
   split at he
   ·rename_i hi
    split at he
    ·cases he
    ·exact⟨hi,by show s.length≤20;omega⟩
   ·cases he
  ·exact h.2 f hf
 ·exact h.2 f hf
theorem Ov.Tg.run{ts:List aK}{o:Ov}(h:o.Tg ts)(a:aK):(o.run a).1.Tg ts:=by
 unfold Ov.run Ov.two Ov.join
 repeat' split
 all_goals first
  | exact h.wr _ _
  | exact h
theorem Ov.Tg.runs{ts:List aK}:∀(cs:List aK) {o:Ov},o.Tg ts→(o.runs cs).1.Tg ts
 | [],_,h=>h
 | c::cs,o,h=>by
  rw[Ov.nq]
  split
  ·exact Ov.Tg.runs cs (h.run c)
  ·exact h.run c
theorem vI(xs:List bm)(g:dv):∀f∈(i6 xs g).1,iH g.targets f.1=true∧f.2.length≤20:=by
 intro f a
 have h:((EW xs g).runs g.bD).1.Tg g.targets:=Ov.Tg.runs g.bD ⟨rfl,fun f a=>by cases a⟩
 unfold i6 at a
 split at a
 ·split at a
  ·cases a
  ·exact h.2 f a
 ·cases a
theorem vR(xs:List bm)(g:dv):∀f∈(i6 xs g).1,iH g.targets f.1=true:=fun f hf=>(vI xs g f hf).1
def dE(own l:List bm):List bm:=own.foldl (fun l f=>jY fk f l) l
def gV(l:List bm)(g:dv):(List bm×iT)×Int:=
 if (i6 l g).2≠0 then (([],su),(i6 l g).2)
 else if 300<(lQ (jw g l (i6 l g).1)).length then (([],su),10)
 else (((i6 l g).1,jw g l (i6 l g).1),0)
def eB(gs:List dv):List Nat→List bm→List bm→List (aK×iT)→(List bm×List (aK×iT))×Int
 | [],_,out,kept=>((out,kept),0)
 | k::ks,l,out,kept=>match gs[k]? with
  | none=>eB gs ks l out kept
  | some g=>if g.ba=true then eB gs ks l out kept
   else if (gV l g).2≠0 then (([],[]),(gV l g).2)
   else eB gs ks (dE (gV l g).1.1 l) (dE (gV l g).1.1 out) (kept++[(g.targets.headD [],(gV l g).1.2)])
def s8(gs:List dv)(k:Nat):Option aK:=match gs[k]? with
 | some g=>if g.ba=true then none else some (g.targets.headD [])
 | none=>none
def gC(gs:List dv)(u:List Nat):List aK:=u.filterMap (s8 gs)
theorem ma:∀(own l:List bm),(dE own l).length≤l.length+own.length
 | [],l=>aq _
 | f::own,l=>by
  have a:=ma own (jY fk f l)
  have b:=mq (key:=fk) f l
  show(dE own (jY fk f l)).length≤_
  rw[an]
  omega
theorem jG:∀(own:List bm) {l:List bm},eQ fk l→eQ fk (dE own l)
 | [],_,h=>h
 | f::own,_,h=>jG own (ny h f)
theorem rP:∀(own:List bm) {l:List bm} {x:bm},x∈dE own l→x∈own∨x∈l
 | [],_,_,h=>.inr h
 | f::own,l,x,h=>by
  rcases rP own h with h|h
  ·exact .inl (aE _ h)
  ·rcases sO h with rfl|h
   ·exact .inl bO
   ·exact .inr h
theorem Ov.Fit.runs{xs:List bm}{ns ts:List aK}:∀(cs:List aK) {k:Nat} {o:Ov},o.Fit xs ns ts k→(o.runs cs).1.Fit xs ns ts (k+cs.length)
 | [],_,_,h=>h
 | c::cs,k,o,h=>by
  rw[Ov.nq,an]
  have a:=h.run c
  split
  ·have b:=Ov.Fit.runs cs a
   rw[show k+(cs.length+1)=k+1+cs.length by omega]
   exact b
  ·exact⟨a.eb,a.en,a.et,a.pj,(show(o.run c).1.own.length≤_ by have:=a.len;omega),a.tx⟩
theorem mP(xs:List bm)(g:dv):eQ fk (i6 xs g).1∧(i6 xs g).1.length≤g.bD.length∧∀f∈(i6 xs g).1,f.2.length≤1000:=by
 have h:=Ov.Fit.runs g.bD (Jy xs g)
 rw[bX] at h
 unfold i6
 split
 ·split
  ·exact⟨List.Pairwise.nil,au _,fun f hf=>by cases hf⟩
  ·exact⟨h.pj,h.len,h.tx⟩
 ·exact⟨List.Pairwise.nil,au _,fun f hf=>by cases hf⟩
theorem FB {t p u:Tmp} (h:fn.results=#[.tmp t,.cell p ty,.tmp u])(tmps:Array Value)(P:Program)(w:World) :
  (results fn tmps).run P w=((asAddr (tmps.getD p undef)).run P w).andThen fun a w₁=>((loadVar ty a).run P w₁).andThen fun v w₂=>.ok (.tuple #[tmps.getD t undef,v,tmps.getD u undef]) w₂:=by
 simp only[results,h]
 simp[Sem.run_bind,Result.andThen]
theorem rM   {R:Ending→World→Prop}  {w:World} {t p u:Tmp}  {ad:Addr} {v:Value} (h:fn.results=#[.tmp t,.cell p ty,.tmp u])
  (b:a.tmps.getD p undef=.pointer (some ad)) (c:a.defers=[]) (d:(loadVar ty ad).run P w=.ok v w) (e:R (.returned (.tuple #[a.tmps.getD t undef,v,a.tmps.getD u undef])) w):bodyPost P fn R .ret a w:=by
 refine bodyPost_ret (v:=.tuple #[a.tmps.getD t undef,v,a.tmps.getD u undef]) ?_ c e
 rw[FB h,b]
 simp[asAddr,Sem.run_pure,Result.andThen,d]
theorem Cp{own:List bm}{g:dv}(d:∀f∈l,f.1.length≤10000∧f.2.length≤1000)(b:∀f∈own,f.1.length≤10000∧f.2.length≤1000)(e:g.bD.length≤100)(h:g.aN.length≤100)(i:own.length≤100)(j:∀c∈g.bD,c.length≤10000)(k:∀n∈g.aN,n.length≤10000):(jw g l own).Ku:=by
 refine⟨e,aJ (zA l g.aN) h,i,j,?_,fun x a=>⟨(b x a).1,by have:=(b x a).2;omega⟩⟩
 intro x a
 have a:x∈qk l g.aN:=a
 obtain⟨n,m,a⟩:=cG.1 a
 split at a
 ·obtain rfl:=aC.1 a
  exact⟨k n m,aJ (uV fun f hf=>(d f hf).2) (by omega)⟩
 ·cases a
theorem yY {g:dv}(h:∀t∈g.targets,t.length≤10000):∀f∈(i6 xs g).1,f.1.length≤10000∧f.2.length≤1000:=fun f hf=>
 ⟨h f.1 (by have:=vR xs g f hf;simpa [iH] using this),(mP xs g).2.2 f hf⟩
end Go.Proofs.YtpgmcijdcnnjpaaGreatDoor
