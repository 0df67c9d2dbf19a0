/- Lemmas. -/
import Derived.Test.YtaahbkbnfpajdaaGreatDoorZef0n
import Derived.Test.YtaahbkbnfpajdaaGreatDoorZef0p
namespace Go.Proofs.YtaahbkbnfpajdaaGreatDoor
set_option linter.all false
set_option maxRecDepth 100000
set_option maxHeartbeats 8000000
open Go.RowKit
variable{t:TypeId}{m:Mm}
abbrev Ses:=Int->Option (En×Mm)
def lC(σ:Ses)(v:Int)(o:Option (En×Mm)):Ses:=fun u=>if u=v then o else σ u
theorem Zr(σ:Ses)(v:Int):lC σ v (σ v)=σ:=by
 funext u;unfold lC;split
 ·next h=>rw[h]
 rfl
theorem qG(σ:Ses)(v:Int)(o:Option (En×Mm)):lC σ v o v=o:=if_pos rfl
theorem lL(σ:Ses){v u:Int}(o:Option (En×Mm))(h:u≠v):lC σ v o u=σ u:=if_neg h
def dsC(D:DataW Unit)(a:Option (En×Mm))(k u:Int)(r:Bool)(xs b:Lz):Int×Lz×Lz×Option (En×Mm):=
 if k<1\/5<k then(4,[],[],a)
 else if k=1 then(if jD D u a.isSome=0 then(0,[],[],some (enB,eQ)) else(jD D u a.isSome,[],[],a))
 else match a with
  |none=>(6,[],[],none)
  |some (e,m)=>
   if k=2 then(if dQ e xs=0 then(0,jk e xs r,enY e xs r,some (enE e xs r,m)) else(dQ e xs,[],[],some (e,m)))
   else if k=3 then(if deE m b=0 then(0,[],deY m b,some (e,deM m b)) else(deE m b,[],[],some (e,m)))
   else if k=4 then(0,[],coY m,some (e,coM m))
   else(0,[],[],none)
structure Dk(W:Wd)(gK gM n:Nat)(D:DataW Unit)(β:Int->Nat)(σ:Ses):Prop where
 d:Dd W gK gM n D
 T:Maps.Tidy D
 no:∀u,σ u=none->Maps.has D (eF u)=false
 yes:∀u e m,σ u=some (e,m)->Maps.has D (eF u)=true/\D.atKey (eF u) .nil=.lit (.int .i64 (β u:Nat))/\LB W (β u) e m/\e.ok/\m.ok/\aO m=true
 inj:∀u u',σ u≠none->σ u'≠none->β u=β u'->u=u'
def bn{α:Type}(o:Option α):Nat:=if o.isSome then 1 else 0
structure DkR(w w':Wd)(gK gM n n':Nat)(D D':DataW Unit)(β β':Int->Nat)(σ σ':Ses)(A5:Oz)(c5:Nat)(bs:Lz)(A6:Oz)(c6:Nat)(ys:Lz):Prop where
 K:Dk w' gK gM n' D' β' σ'
 Q:OwnB w' w.heap.size A5 c5 bs
 Y:Own w' w.heap.size A6 c6 ys
 n:n'<=n+1
 sz:Maps.size D'<=Maps.size D+1
 old:∀u,σ' u≠none->(σ u≠none/\β' u=β u)\/w.heap.size<=β' u
 cn:∃u,(∀x,x≠u->σ' x=σ x)/\Maps.size D'+bn (σ u)=Maps.size D+bn (σ' u)
 gr:∃b,w.grownBy w' (some b)/\(b=gM\/∃u,σ u≠none/\b=β u)
theorem EK{u v:Int}(h:u≠v):eF u≠eF v:=fun x=>by
 unfold eF at x;injection x with _ h2;exact h h2
theorem Zt(v:Int):WideAt.IsKeyLit (eF v):=by simp[eF,WideAt.IsKeyLit]
theorem Zu{w w':Wd}{b g:Nat}{a:Array Value}(c:w.grownBy w' (some b))(h:Blk w g t a)(d:g≠b):Blk w' g t a:=
 (c.block g (Blk.lt h) (fun x=>d (fQ x))).trans h
section
variable {w w' W W':Wd} {gK gM n g b:Nat} {D:DataW Unit} {β:Int->Nat} {σ:Ses} {u:Int} {e e':En} {m m':Mm} {A5 A6:Oz} {c5 c6:Nat} {bs ys:Lz} {so:Option (En×Mm)}
theorem Dk.lt(h:Dk W gK gM n D β σ):gK<W.heap.size/\gM<W.heap.size:=⟨Blk.lt h.d.K,Dd.lt h.d⟩
theorem Dk.ses(h:Dk W gK gM n D β σ)(a:σ u≠none):∃e m,LB W (β u) e m:=by
 cases Z:σ u with
 |none=>exact absurd Z a
 |some p=>exact⟨p.1,p.2,(h.yes u p.1 p.2 Z).2.2.1⟩
theorem Dk.below(h:Dk W gK gM n D β σ)(a:Bw W W'):Dk W' gK gM n D β σ:=
 ⟨h.d.below a,h.T,h.no,fun u e m k=>by obtain⟨c,f,i,j⟩:=h.yes u e m k;exact⟨c,f,Blk.below' i a,j⟩,h.inj⟩
theorem Dk.same(h:Dk w gK gM n D β σ)(d:Dd w' gK gM n D)(a:Bw w w')(c:σ u=so):DkR w w' gK gM n n D D β β σ (lC σ u so) none 0 [] none 0 []:=by
 subst c;rw[Zr];exact⟨h.below a,OwnB.nil,Own.nil,ah,ah,fun u c=>.inl ⟨c,rfl⟩,⟨u,fun _ _=>rfl,rfl⟩,gM,⟨a.os,a.tape,a.output,a.size,fun i hi _=>a.block i hi⟩,.inl rfl⟩
theorem Dk.line(h:Dk w gK gM n D β σ)(Z:σ u=some (e,m))(l:Dd w' gK gM n D)(o:LB w' (β u) e' m')(i:w.grownBy w' (some (β u)))(k:e'.ok)(s:m'.ok)(j:aO m'=true)(p:OwnB w' w.heap.size A5 c5 bs)(q:Own w' w.heap.size A6 c6 ys):
 DkR w w' gK gM n n D D β β σ (lC σ u (some (e',m'))) A5 c5 bs A6 c6 ys:=by
 have c:σ u≠none:=by rw[Z];simp
 have f:∀x,lC σ u (some (e',m')) x≠none->σ x≠none:=fun x a=>by
  by_cases e:x=u
  ·rw[e];exact c
  rwa [lL _ _ e] at a
 refine⟨⟨l,h.T,fun x a=>?_,fun x t v a=>?_,fun x y a r=>h.inj x y (f x a) (f y r)⟩,p,q,ah,ah,fun x a=>.inl ⟨f x a,rfl⟩,⟨u,fun x e=>lL _ _ e,by rw[Z,qG];rfl⟩,β u,i,.inr ⟨u,c,rfl⟩⟩
 ·by_cases e:x=u
  ·rw[e,qG] at a;cases a
  rw[lL _ _ e] at a;exact h.no x a
 ·by_cases e:x=u
  ·subst e
   rw[qG] at a;injection a with a;injection a with h1 h2;subst h1 h2;obtain⟨d,I,_⟩:=h.yes x _ _ Z;exact⟨d,I,o,k,s,j⟩
  rw[lL _ _ e] at a;obtain⟨d,I,P,b⟩:=h.yes x _ _ a;exact⟨d,I,Zu i P (fun J=>e (h.inj x u (by rw[a];simp) c J)),b⟩
theorem Dk.put(h:Dk w gK gM n D β σ)(Z:σ u=none)(G:w.heap.size<=g)(p:Dd w' gK gM (n+1) (D.put (eF u) (.lit (.int .i64 (g:Nat)))))(q:LB w' g enB eQ)(j:w.grownBy w' (some gM)):
 DkR w w' gK gM n (n+1) D (D.put (eF u) (.lit (.int .i64 (g:Nat)))) β (fun x=>if x=u then g else β x) σ (lC σ u (some (enB,eQ))) none 0 [] none 0 []:=by
 have i:∀x,x≠u->lC σ u (some (enB,eQ)) x≠none->σ x≠none/\β x<w.heap.size:=fun x e a=>by
  rw[lL _ _ e] at a;obtain⟨_,_,o⟩:=h.ses a;exact⟨a,Blk.lt o⟩
 refine⟨⟨p,h.T.put (Zt u) _,fun x a=>?_,fun x f s a=>?_,fun x y a l c=>?_⟩,OwnB.nil,Own.nil,ah,?_,fun x a=>?_,⟨u,fun x e=>lL _ _ e,by rw[Z,qG,Maps.size_put h.T,h.no u Z];rfl⟩,gM,j,.inl rfl⟩
 ·by_cases e:x=u
  ·rw[e,qG] at a;cases a
  rw[lL _ _ e] at a;rw[Maps.has_put_other (EK e)];exact h.no x a
 ·by_cases e:x=u
  ·subst e
   rw[qG] at a;injection a with a;injection a with h1 h2;subst h1 h2;exact⟨Maps.has_put_same h.T.isMap (Zt _) _,by rw[Maps.atKey_put_same h.T.isMap (Zt _),if_pos rfl],by rw[if_pos rfl];exact q,Y7.k,Aj,DZ⟩
  rw[lL _ _ e] at a;obtain⟨r,I,P,b⟩:=h.yes x _ _ a;refine⟨by rw[Maps.has_put_other (EK e)];exact r,by rw[Maps.atKey_put_other (EK e),if_neg e];exact I,?_,b⟩;rw[if_neg e];exact Zu j P (fun J=>LB.neM P h.d J.symm)
 ·by_cases f:x=u
  ·by_cases S:y=u
   ·rw[f,S]
   rw[if_pos f,if_neg S] at c;have:=(i y S l).2;omega
  by_cases S:y=u
  ·rw[if_pos S,if_neg f] at c
   have:=(i x f a).2;omega
  rw[if_neg f,if_neg S] at c;exact h.inj x y (i x f a).1 (i y S l).1 c
 ·rw[Maps.size_put h.T]
  split<;>omega
 ·by_cases e:x=u
  ·rw[if_pos e];exact .inr G
  rw[if_neg e];exact .inl ⟨(i x e a).1,rfl⟩
theorem Dk.del(h:Dk w gK gM n D β σ)(Z:σ u=some (e,m))(i:Dd w' gK gM n (D.del (eF u)))(f:w.grownBy w' (some gM)):DkR w w' gK gM n n D (D.del (eF u)) β β σ (lC σ u none) none 0 [] none 0 []:=by
 have c:∀x,lC σ u none x≠none->x≠u/\σ x≠none:=fun x a=>by
  by_cases e:x=u
  ·rw[e,qG] at a;exact absurd rfl a
  rw[lL _ _ e] at a;exact⟨e,a⟩
 refine⟨⟨i,h.T.del _,fun x a=>?_,fun x o p a=>?_,fun x y a j=>h.inj x y (c x a).2 (c y j).2⟩,OwnB.nil,Own.nil,ah,?_,fun x a=>.inl ⟨(c x a).2,rfl⟩,⟨u,fun x e=>lL _ _ e,by have:=Maps.size_del (k:=eF u) h.T;rw[(h.yes u e m Z).1,if_pos rfl] at this;rw[Z,qG];exact this⟩,gM,f,.inl rfl⟩
 ·by_cases e:x=u
  ·rw[e];exact Maps.has_del_same
  rw[lL _ _ e] at a;rw[Maps.has_del_other (EK e)];exact h.no x a
 ·have e:=(c x (by rw[a];simp)).1
  rw[lL _ _ e] at a;obtain⟨l,I,P,b⟩:=h.yes x _ _ a;exact⟨by rw[Maps.has_del_other (EK e)];exact l,by rw[Maps.atKey_del_other (EK e)];exact I,Zu f P (fun J=>LB.neM P h.d J.symm),b⟩
 have:=Maps.size_del (k:=eF u) h.T;omega
end
theorem agh(g:aO m=true){a:Lz}(h:deE m a=0):aO (deM m a)=true:=by
 unfold deM;rw[if_pos h];unfold deE at h;rw[if_pos g] at h;exact ad5 g (yK h) (yJ a)
theorem agj{e:En}(k:e.ok)(s:Lz)(r:Bool):(enE e s r).ok:=by
 unfold enE;split
 ·next h0=>
  have a:(eu e s).2.2=true:=by
   unfold dQ at h0;split at h0
   ·split at h0
    ·split at h0
     ·assumption
     cases h0
    cases h0
   cases h0
  obtain⟨c,d⟩:=Y0 s _ _ _ _ 80 a;exact⟨d,by unfold enX;rw[dN,kJ,k.x];show _+(eu e s).2.1.length=120;unfold eu;rw[c],D7 k.m (Qj _ _ _) (Qk _ _ _)⟩
 exact⟨ay,ay,df⟩
theorem apT(gK gM n:Nat)(D:DataW Unit)(β:Int->Nat)(σ:Ses)(q:Cq)(xs a:Lz)(w:Wd)(F:TabA w 4 dY)(H:TabA w 1 cO)(J:TabA w 3 dh)
 (h:Dk w gK gM n D β σ) (i: -9223372036854775808<=q.v/\q.v<=9223372036854775807) (U:n<maxLen)
 (O:Rs w w.heap.size q.A xs) (N:xs.length=q.n) (hx:q.n<=17592186044000) (E:Rb w w.heap.size q.A2 a) (C:a.length=q.n2) (M:q.n2<=q.c2) (Q:Byts a):
 Cl 6 #[.pointer (some ⟨gK,0,none⟩),.agg #[.int .i64 q.k,.int .i64 q.v,.bool q.r,.slice q.A q.n q.c,.slice q.A2 q.n2 q.c2]] w (fun x w'=> ∃A5 c5 A6 c6 n' D' β',x=.returned (.agg (aY (dsC D (σ q.v) q.k q.v q.r xs a).1 q.v A5 (dsC D (σ q.v) q.k q.v q.r xs a).2.1.length c5 A6 (dsC D (σ q.v) q.k q.v q.r xs a).2.2.1.length c6))/\
  DkR w w' gK gM n n' D D' β β' σ (lC σ q.v (dsC D (σ q.v) q.k q.v q.r xs a).2.2.2) A5 c5 (dsC D (σ q.v) q.k q.v q.r xs a).2.1 A6 c6 (dsC D (σ q.v) q.k q.v q.r xs a).2.2.1):=by
 by_cases h0:q.k<1\/5<q.k
 ·rw[show dsC D (σ q.v) q.k q.v q.r xs a=(4,[],[],σ q.v) from by unfold dsC;rw[if_pos h0]]
  refine(agf gK gM n D q w h.d h0).mono ?_;rintro x w' ⟨hx,hD,hb⟩;exact⟨none,0,none,0,n,D,β,hx,h.same hD hb rfl⟩
 by_cases h1:q.k=1
 ·cases Z:σ q.v with
  |none=>
   have T:=h.no _ Z;by_cases h2:jD D q.v false=0
   ·rw[show dsC D none q.k q.v q.r xs a=(0,[],[],some (enB,eQ)) from by unfold dsC;rw[if_neg h0,if_pos h1];exact if_pos h2]
    refine(apM gK gM n D q w h.d i T h1 h.lt h2 U).mono ?_;rintro x w' ⟨g,hx,G,hD,s,j⟩;exact⟨none,0,none,0,n+1,_,_,hx,h.put Z G hD s j⟩
   rw[show dsC D none q.k q.v q.r xs a=(jD D q.v false,[],[],none) from ahs];refine(apP gK gM n D q w h.d i T h1 h.lt h2).mono ?_;rintro x w' ⟨hx,hD,hb⟩;exact Wh
  |some p=>
   obtain⟨e,m⟩:=p;obtain⟨l,o,I,P,b,u⟩:=h.yes _ _ _ Z;have h2:jD D q.v true≠0:=by
    unfold jD;split
    ·omega
    rw[if_pos rfl];omega
   rw[show dsC D (some (e,m)) q.k q.v q.r xs a=(jD D q.v true,[],[],some (e,m)) from ahs];refine(apQ gK gM n D q w h.d i _ l o h1 h.lt h2).mono ?_;rintro x w' ⟨hx,hD,hb⟩;exact Wh
 cases Z:σ q.v with
 |none=>
  rw[show dsC D none q.k q.v q.r xs a=(6,[],[],none) from by unfold dsC;rw[if_neg h0,if_neg h1]];refine(apO gK gM n D q w h.d i (h.no _ Z) ah h.lt).mono ?_;rintro x w' ⟨hx,hD,hb⟩;exact⟨none,0,none,0,n,D,β,hx,h.same hD hb Z⟩
 |some p=>
  obtain⟨e,m⟩:=p;obtain⟨l,o,I,P,b,u⟩:=h.yes _ _ _ Z;by_cases h2:q.k=2
  ·have L:=agj P xs q.r
   by_cases f:dQ e xs=0
   ·rw[show dsC D (some (e,m)) q.k q.v q.r xs a=(0,jk e xs q.r,enY e xs q.r,some (enE e xs q.r,m)) from by unfold dsC;rw[if_neg h0,if_neg h1];show(if q.k=2 then _ else _)=_;rw[if_pos h2,if_pos f]]
    refine(apK gK gM n D _ e m q xs w F H J h.d I P b i l o h2 (Blk.lt I) h.lt O N hx f L).mono ?_;rintro x w' ⟨R,c3,y,z,hx,S,B,hD,s,j⟩;exact⟨R,c3,y,z,n,D,β,hx,h.line Z hD s j L b u S B⟩
   rw[show dsC D (some (e,m)) q.k q.v q.r xs a=(dQ e xs,[],[],some (e,m)) from by unfold dsC;rw[if_neg h0,if_neg h1];show(if q.k=2 then _ else _)=_;rw[if_pos h2,if_neg f]];refine(apR gK gM n D _ e m q xs w F H J h.d I P b i l o h2 (Blk.lt I) h.lt O N hx f L).mono ?_;rintro x w' ⟨hx,hD,_,hb⟩;exact Wh
  by_cases t:q.k=3
  ·by_cases f:deE m a=0
   ·rw[show dsC D (some (e,m)) q.k q.v q.r xs a=(0,[],deY m a,some (e,deM m a)) from by unfold dsC;rw[if_neg h0,if_neg h1];show(if q.k=2 then _ else _)=_;rw[if_neg h2,if_pos t,if_pos f]]
    refine(apN gK gM n D _ e m q a w F H J h.d I P b i l o t (Blk.lt I) h.lt E C M Q f).mono ?_;rintro x w' ⟨y,z,hx,B,hD,s,j⟩;exact⟨none,0,y,z,n,D,β,hx,h.line Z hD s j P (Pq b a) (agh u f) OwnB.nil B⟩
   rw[show dsC D (some (e,m)) q.k q.v q.r xs a=(deE m a,[],[],some (e,m)) from by unfold dsC;rw[if_neg h0,if_neg h1];show(if q.k=2 then _ else _)=_;rw[if_neg h2,if_pos t,if_neg f]];refine(apS gK gM n D _ e m q a w F H J h.d I P b i l o t (Blk.lt I) h.lt E C M Q f).mono ?_;rintro x w' ⟨hx,hD,_,hb⟩;exact Wh
  by_cases K:q.k=4
  ·rw[show dsC D (some (e,m)) q.k q.v q.r xs a=(0,[],coY m,some (e,coM m)) from by unfold dsC;rw[if_neg h0,if_neg h1];show(if q.k=2 then _ else _)=_;rw[if_neg h2,if_neg t,if_pos K]]
   refine(apJ gK gM n D _ e m q w h.d I P b u i l o K (Blk.lt I) h.lt).mono ?_;rintro x w' ⟨y,z,hx,B,hD,s,j⟩;exact⟨none,0,y,z,n,D,β,by rw[(JO u).2];exact hx,h.line Z hD s j P (Xu b) (JO u).1 OwnB.nil B⟩
  ·rw[show dsC D (some (e,m)) q.k q.v q.r xs a=(0,[],[],none) from by unfold dsC;rw[if_neg h0,if_neg h1];show(if q.k=2 then _ else _)=_;rw[if_neg h2,if_neg t,if_neg K]]
   refine(apL gK gM n D _ e m q w h.d I P b i l o ah h.lt).mono ?_;rintro x w' ⟨hx,hD,j⟩;exact⟨none,0,none,0,n,_,β,hx,h.del Z hD j⟩
theorem Dd.blk_ne{W:Wd}{d b n g:Nat}{D:DataW Unit}{c:Array Value}(e:Dd W d b n D)(h:Blk W g t c):b≠g:=fun x=>by
 subst x;obtain⟨i,a,f,_⟩:=e.M;unfold Blk at h;rw[f] at h;cases h
section
variable {w w' v:Wd} {gK gM n n' g b gK2 gM2 n2:Nat} {D D' D2:DataW Unit} {β β' β2:Int->Nat} {σ σ' σ2:Ses} {A5 A6 A:Oz} {c5 c6 c:Nat} {bs ys xs:Lz} {t:TypeId} {cs:Array Value}
theorem DkR.below(r:DkR w w' gK gM n n' D D' β β' σ σ' A5 c5 bs A6 c6 ys)(h:Bw v w)(d:v.heap.size<=gM)(Z:∀u,σ u≠none->v.heap.size<=β u):Bw v w':=by
 obtain⟨b,a,e⟩:=r.gr;have j:v.heap.size<=b:=by
  rcases e with rfl|⟨u,f,rfl⟩
  ·exact d
  exact Z u f
 exact⟨a.os.trans h.os,a.tape.trans h.tape,a.output.trans h.output,dL h.size a.size,fun i hi=>(a.block i (je hi h.size) (fun x=>MI)).trans (h.block i hi)⟩
end
theorem Dk.empty{w:Wd}{gK gM:Nat}(h:Dd w gK gM 0 (.map [])):Dk w gK gM 0 (.map []) (fun _=>0) (fun _=>none):=
 ⟨h,Maps.tidy_empty,fun _ _=>rfl,fun _ _ _ h=>qj,fun _ _ h=>absurd rfl h⟩
theorem Zx(h:aO m=true):W64 m.nums:=by
 obtain⟨e,f,g,i⟩:=jr h;unfold sU at i;have b:=List.all_eq_true.1 e;have c:=List.all_eq_true.1 f;have d:=List.all_eq_true.1 g;intro x a;unfold Mm.nums at a;simp only[Ri,zt,zu,yZ] at a;rcases a with a|a|a|rfl|rfl|rfl|rfl|rfl
 ·have:=b x a
  simp[okK] at this;omega
 ·have:=c x a
  simp[gY] at this;omega
 ·have:=d x a
  simp[gY] at this;omega
 all_goals omega
theorem agm{vs:Lz}{u:Int}:∀i:Nat,(∀k,k<i->vs.getD k 0≠u)->rIx vs u i= -1
 |0,_=>rfl
 |i+1,h=>by
  unfold rIx;rw[if_neg (h i ah),agm i fun k a=>h k ah]
theorem agn{vs:Lz}{u:Int}{j:Nat}(a:vs.getD j 0=u):∀i:Nat,j<i->(∀k,k<i->k≠j->vs.getD k 0≠u)->rIx vs u i=(j:Int)
 |0,h,_=>ah
 |i+1,h,hk=>by
  unfold rIx;by_cases e:i=j
  ·subst e
   rw[if_pos a]
  rw[if_neg (hk i ah e),agn a i ah fun k c b=>hk k ah b]
def rfS(vs:Lz)(a:List (En×Mm))(k u:Int)(r:Bool)(xs b:Lz):Int×Lz×Lz×Lz×List (En×Mm):=
 if rfC vs.length k u (rIx vs u vs.length)≠0 then(rfC vs.length k u (rIx vs u vs.length),[],[],vs,a)
 else if k=1 then(0,[],[],vs++[u],a++[(enB,eQ)])
 else match a[(rIx vs u vs.length).toNat]? with
  |none=>(0,[],[],vs,a)
  |some (e,m)=>
   if k=2 then(dQ e xs,jk e xs r,enY e xs r,vs,if dQ e xs=0 then a.set (rIx vs u vs.length).toNat (enE e xs r,m) else a)
   else if k=3 then(deE m b,[],deY m b,vs,if deE m b=0 then a.set (rIx vs u vs.length).toNat (e,deM m b) else a)
   else if k=4 then(0,[],coY m,vs,a.set (rIx vs u vs.length).toNat (e,coM m))
   else(0,[],[],vs.take (rIx vs u vs.length).toNat++vs.drop ((rIx vs u vs.length).toNat+1),a.take (rIx vs u vs.length).toNat++a.drop ((rIx vs u vs.length).toNat+1))
structure Lk(D:DataW Unit)(σ:Ses)(vs:Lz)(ls:List (En×Mm)):Prop where
 len:ls.length=vs.length
 nd:∀i j,i<vs.length->j<vs.length->vs.getD i 0=vs.getD j 0->i=j
 at_:∀j p,ls[j]?=some p->σ (vs.getD j 0)=some p
 no:∀u,(∀j,j<vs.length->vs.getD j 0≠u)->σ u=none
 size:Maps.size D=vs.length
 good:∀p∈ls,aO p.1.m=true/\aO p.2=true
section
variable {D D':DataW Unit} {σ σ':Ses} {vs:Lz} {ls:List (En×Mm)} {u:Int} {p q:En×Mm} {j:Nat} {o:Option (En×Mm)}
theorem Lk.empty:Lk (.map []) (fun _=>none) [] []:=
 ⟨rfl,fun i _ h=>absurd h ay,fun j p h=>(by simp at h),fun _ _=>rfl,rfl,fun p h=>(by simp at h)⟩
theorem ap0{v:Int}{n c:Nat}(f:∃u,(∀x,x≠u->lC σ v o x=σ x)/\c+bn (σ u)=n+bn (lC σ v o u)):c+bn (σ v)=n+bn o:=by
 obtain⟨u,d,a⟩:=f;by_cases e:v=u
 ·subst e
  rwa [qG] at a
 have b:=d v e;rw[qG] at b;rw[lL _ _ (fun x=>e x.symm)] at a;rw[b];omega
theorem Lk.same(h:Lk D σ vs ls)(Z:Maps.size D'=Maps.size D):Lk D' σ vs ls:=⟨h.len,h.nd,h.at_,h.no,Z.trans h.size,h.good⟩
theorem Lk.set(h:Lk D σ vs ls)(k:ls[j]?=some p)(c:vs.getD j 0=u)(Z:Maps.size D'=Maps.size D)(G:aO q.1.m=true/\aO q.2=true):Lk D' (lC σ u (some q)) vs (ls.set j q):=by
 have b:=(List.getElem?_eq_some_iff.1 k).1;have n:=h.len;refine⟨by rw[fP];exact h.len,h.nd,fun i d hi=>?_,fun x f=>?_,Z.trans h.size,fun d l=>?_⟩
 ·by_cases e:i=j
  ·subst e
   rw[aaw b] at hi;rw[c,qG];exact hi
  rw[List.getElem?_set_ne (fun x=>e x.symm)] at hi;have g:=(List.getElem?_eq_some_iff.1 hi).1;rw[lL _ _ (fun x=>e (h.nd i j ah ah (x.trans c.symm)))];exact h.at_ i d hi
 ·have:x≠u:=fun e=>f j ah (c.trans e.symm)
  rw[lL _ _ this];exact h.no x f
 rcases Rk l with a|a
 ·exact h.good d a
 rw[a];exact G
theorem JP(vs:Lz)(u:Int)(j:Nat):(vs++[u]).getD j 0=if j<vs.length then vs.getD j 0 else if j=vs.length then u else 0:=by
 simp only[bK];by_cases h:j<vs.length
 ·rw[if_pos h,oD h]
 rw[if_neg h,uH ah];by_cases e:j=vs.length
 ·rw[if_pos e,e];simp
 rw[if_neg e,iy aC];rfl
theorem Lk.app(h:Lk D σ vs ls)(f:∀j,j<vs.length->vs.getD j 0≠u)(Z:Maps.size D'=Maps.size D+1)(G:aO q.1.m=true/\aO q.2=true):Lk D' (lC σ u (some q)) (vs++[u]) (ls++[q]):=by
 have l:=h.len;refine⟨by simp[l],fun i j hi d e=>?_,fun i g hi=>?_,fun x k=>?_,by rw[Z,h.size];simp,fun g n=>?_⟩
 ·rw[dN,RU] at hi d
  rw[JP,JP] at e;by_cases a:i<vs.length
  ·by_cases b:j<vs.length
   ·rw[if_pos a,if_pos b] at e
    exact h.nd i j a b e
   rw[if_pos a,if_neg b,if_pos ah] at e;exact absurd e (f i a)
  by_cases b:j<vs.length
  ·rw[if_neg a,if_pos b,if_pos ah] at e
   exact absurd e.symm (f j b)
  omega
 ·have c:=(List.getElem?_eq_some_iff.1 hi).1
  rw[dN,RU] at c;rw[JP];by_cases a:i<vs.length
  ·rw[if_pos a]
   rw[oD ah] at hi;rw[lL _ _ (f i a)];exact h.at_ i g hi
  rw[if_neg a,if_pos ah,qG];rw[uH ah,show i-ls.length=0 from ah] at hi;simpa using hi
 ·have a:=k vs.length ay
  rw[JP,if_neg ah,if_pos rfl] at a;rw[lL _ _ (fun e=>a e.symm)];refine h.no x fun j d=>?_;have b:=k j aC;rwa [JP,if_pos d] at b
 rcases List.mem_append.1 n with a|a
 ·exact h.good g a
 rw[List.mem_singleton] at a;rw[a];exact G
theorem JQ(vs:Lz)(j i:Nat)(a:j<vs.length):(vs.take j++vs.drop (j+1)).getD i 0=if i<j then vs.getD i 0 else vs.getD (i+1) 0:=by
 simp only[bK];by_cases h:i<j
 ·exact ajl
 rw[if_neg h,uH aC,yV,dR];congr 2;omega
theorem ap1{α:Type}(ls:List α)(j i:Nat)(a:j<ls.length):(ls.take j++ls.drop (j+1))[i]?=if i<j then ls[i]? else ls[i+1]?:=by
 by_cases h:i<j
 ·exact ajl
 rw[if_neg h,uH aC,yV,dR];congr 1;omega
theorem Lk.cut(h:Lk D σ vs ls)(c:j<vs.length)(l:vs.getD j 0=u)(Z:Maps.size D'+1=Maps.size D):Lk D' (lC σ u none) (vs.take j++vs.drop (j+1)) (ls.take j++ls.drop (j+1)):=by
 have v:=h.len;have w:=h.size;have f:(vs.take j++vs.drop (j+1)).length=vs.length-1:=aC;refine⟨aC,fun i k hi n e=>?_,fun i d hi=>?_,fun x r=>?_,by rw[f];omega,fun d t=>?_⟩
 ·rw[f] at hi n
  rw[JQ vs j i c,JQ vs j k c] at e;by_cases a:i<j
  ·by_cases b:k<j
   ·rw[if_pos a,if_pos b] at e
    exact h.nd i k ah ah e
   rw[if_pos a,if_neg b] at e;have:=h.nd i (k+1) ah ah e;omega
  by_cases b:k<j
  ·rw[if_neg a,if_pos b] at e
   have:=h.nd (i+1) k ah ah e;omega
  rw[if_neg a,if_neg b] at e;have:=h.nd (i+1) (k+1) ah ah e;omega
 ·rw[ap1 ls j i ah] at hi
  rw[JQ vs j i c];by_cases a:i<j
  ·rw[if_pos a] at hi|-
   rw[lL _ _ (fun e=>by have:=h.nd i j ah c (e.trans l.symm);omega)];exact h.at_ i d hi
  rw[if_neg a] at hi|-;have s:=(List.getElem?_eq_some_iff.1 hi).1;rw[lL _ _ (fun e=>by have:=h.nd (i+1) j ah c (e.trans l.symm);omega)];exact h.at_ (i+1) d hi
 ·by_cases e:x=u
  ·rw[e,qG]
  rw[lL _ _ e];refine h.no x fun k n g=>?_;by_cases a:k<j
  ·have b:=r k (by rw[f];omega)
   rw[JQ vs j k c,if_pos a] at b;exact b g
  by_cases b:k=j
  ·subst b
   exact e (g.symm.trans l)
  have m:=r (k-1) (by rw[f];omega);rw[JQ vs j (k-1) c,if_neg ah,show k-1+1=k from ah] at m;exact m g
 rcases List.mem_append.1 t with a|a
 ·exact h.good d (xK a)
 exact h.good d (Ko a)
theorem Lk.step(h:Lk D σ vs ls)(k:Int)(r:Bool)(xs a:Lz)(hc:Maps.size D'+bn (σ u)=Maps.size D+bn (dsC D (σ u) k u r xs a).2.2.2):
 (rfS vs ls k u r xs a).1=(dsC D (σ u) k u r xs a).1/\(rfS vs ls k u r xs a).2.1=(dsC D (σ u) k u r xs a).2.1/\(rfS vs ls k u r xs a).2.2.1=(dsC D (σ u) k u r xs a).2.2.1/\
   Lk D' (lC σ u (dsC D (σ u) k u r xs a).2.2.2) (rfS vs ls k u r xs a).2.2.2.1 (rfS vs ls k u r xs a).2.2.2.2:=by
 have b:∀c:Int,dsC D (σ u) k u r xs a=(c,[],[],σ u)->rfS vs ls k u r xs a=(c,[],[],vs,ls)->(rfS vs ls k u r xs a).1=(dsC D (σ u) k u r xs a).1/\(rfS vs ls k u r xs a).2.1=(dsC D (σ u) k u r xs a).2.1/\(rfS vs ls k u r xs a).2.2.1=(dsC D (σ u) k u r xs a).2.2.1/\
  Lk D' (lC σ u (dsC D (σ u) k u r xs a).2.2.2) (rfS vs ls k u r xs a).2.2.2.1 (rfS vs ls k u r xs a).2.2.2.2:=fun c B S=>by
  rw[B] at hc|-;rw[S];exact⟨rfl,rfl,rfl,by show Lk D' (lC σ u (σ u)) vs ls;rw[Zr];exact h.same (L9 hc)⟩
 by_cases C:k<1\/5<k
 ·have e:rfC vs.length k u (rIx vs u vs.length)=4:=if_pos C
  exact b 4 (if_pos C) (by unfold rfS;rw[e];rfl)
 have i:∀w,dsC D w k u r xs a=if k=1 then(if jD D u w.isSome=0 then(0,[],[],some (enB,eQ)) else(jD D u w.isSome,[],[],w))
  else match w with
   |none=>(6,[],[],none)
   |some (e,m)=>
    if k=2 then(if dQ e xs=0 then(0,jk e xs r,enY e xs r,some (enE e xs r,m)) else(dQ e xs,[],[],some (e,m)))
    else if k=3 then(if deE m a=0 then(0,[],deY m a,some (e,deM m a)) else(deE m a,[],[],some (e,m)))
    else if k=4 then(0,[],coY m,some (e,coM m))
    else(0,[],[],none):=fun w=>if_neg C
 have l:∀x,rfC vs.length k u x=if k=1 then(if u<0 then 2 else if 0<=x then 10 else if 32<=vs.length then 7 else 0) else if x<0 then 6 else 0:=fun x=>if_neg C;have K:=h.size;by_cases y:∃j,j<vs.length/\vs.getD j 0=u
 ·obtain⟨j,t,s⟩:=y
  have A:=agn s vs.length t (fun k I z e=>z (h.nd k j I t (e.trans s.symm)));obtain⟨p,v⟩:∃p,ls[j]?=some p:=⟨ls[j]'(by rw[h.len];exact t),jU _⟩;obtain⟨e,m⟩:=p;have Z:=h.at_ j _ v;rw[s] at Z;obtain⟨G,H⟩:=h.good _ (vN v);by_cases f:k=1
  ·by_cases g:u<0
   ·exact b 2 (by rw[i,if_pos f,show jD D u (σ u).isSome=2 from if_pos g];rfl) (by unfold rfS;rw[l,if_pos f,if_pos g];rfl)
   exact b 10 (by rw[i,if_pos f,show jD D u (σ u).isSome=10 from by unfold jD;rw[if_neg g,Z];rfl];rfl) (by unfold rfS;rw[l,if_pos f,if_neg g,A,if_pos ah];rfl)
  have J:rfS vs ls k u r xs a=if k=2 then(dQ e xs,jk e xs r,enY e xs r,vs,if dQ e xs=0 then ls.set j (enE e xs r,m) else ls)
   else if k=3 then(deE m a,[],deY m a,vs,if deE m a=0 then ls.set j (e,deM m a) else ls)
   else if k=4 then(0,[],coY m,vs,ls.set j (e,coM m))
   else(0,[],[],vs.take j++vs.drop (j+1),ls.take j++ls.drop (j+1)):=by
   have n:rfC vs.length k u (j:Int)=0:=(by rw[l,if_neg f,if_neg ah]);unfold rfS;rw[A,n,if_neg ay,if_neg f,uA,v]
  have U:dsC D (some (e,m)) k u r xs a=if k=2 then(if dQ e xs=0 then(0,jk e xs r,enY e xs r,some (enE e xs r,m)) else(dQ e xs,[],[],some (e,m)))
   else if k=3 then(if deE m a=0 then(0,[],deY m a,some (e,deM m a)) else(deE m a,[],[],some (e,m)))
   else if k=4 then(0,[],coY m,some (e,coM m))
   else(0,[],[],none):=by rw[i,if_neg f]
  rw[J,Z];rw[Z] at hc;rw[U] at hc|-;by_cases g:k=2
  ·rw[if_pos g] at hc|-
   rw[if_pos g];by_cases d:dQ e xs=0
   ·rw[if_pos d] at hc|-
    rw[if_pos d];refine⟨d,rfl,rfl,h.set v s (L9 hc) ⟨?_,H⟩⟩;show aO (enE e xs r).m=true;unfold enE;rw[if_pos d];exact ad5 G (Qj _ _ _) (Qk _ _ _)
   rw[if_neg d] at hc|-;rw[if_neg d];refine⟨rfl,by show jk e xs r=[];unfold jk;rw[if_neg d],by show enY e xs r=[];unfold enY;rw[if_neg d],?_⟩;exact ai8
  rw[if_neg g] at hc|-;rw[if_neg g];by_cases E:k=3
  ·rw[if_pos E] at hc|-
   rw[if_pos E];by_cases d:deE m a=0
   ·rw[if_pos d] at hc|-
    rw[if_pos d];exact⟨d,rfl,rfl,h.set v s (L9 hc) ⟨G,agh H d⟩⟩
   rw[if_neg d] at hc|-;rw[if_neg d];refine⟨rfl,rfl,by show deY m a=[];unfold deY;rw[if_neg d],?_⟩;exact ai8
  rw[if_neg E] at hc|-;rw[if_neg E];by_cases F:k=4
  ·rw[if_pos F] at hc|-
   rw[if_pos F];exact⟨rfl,rfl,rfl,h.set v s (L9 hc) ⟨G,(JO H).1⟩⟩
  rw[if_neg F] at hc|-;rw[if_neg F];exact⟨rfl,rfl,rfl,h.cut t s hc⟩
 ·have z:∀j,j<vs.length->vs.getD j 0≠u:=fun j t e=>y ⟨j,t,e⟩
  have A:=agm vs.length z;have Z:=h.no u z;by_cases f:k=1
  ·have n:rfC vs.length k u (rIx vs u vs.length)=jD D u (σ u).isSome:=by
    rw[l,if_pos f,A,if_neg (by omega: ¬(0:Int)<= -1),Z,<-K];rfl
   by_cases g:jD D u (σ u).isSome=0
   ·have B:dsC D (σ u) k u r xs a=(0,[],[],some (enB,eQ)):=by rw[i,if_pos f,if_pos g]
    have S:rfS vs ls k u r xs a=(0,[],[],vs++[u],ls++[(enB,eQ)]):=(by unfold rfS;rw[n,g,if_neg ay,if_pos f]);rw[B,Z] at hc;rw[B,S];exact⟨rfl,rfl,rfl,h.app z hc ⟨DZ,DZ⟩⟩
   exact b _ (by rw[i,if_pos f,if_neg g]) (by unfold rfS;rw[n,if_pos g])
  exact b 6 (by rw[i,if_neg f,Z]) (by unfold rfS;rw[l,if_neg f,A];rfl)
end
theorem aqW(m:Mm)(k:m.ok)(y:W64 m.nums)(A:Oz)(c n:Nat)(xs:Lz)(w:Wd)(N:TabS w 5 dY)(O:TabS w 0 cO)(L:TabS w 2 dh)
 (T:Rb w w.heap.size A xs) (S:xs.length=n) (Q:n<=c) (U:Byts xs):Cl 19 #[.agg m.ag,.slice A n c] w (NewM w (deM m xs) (deY m xs) (deE m xs)):=by
 have hR:=yC (fn:=Tryz.f19) (p:=4) (q:=5) (r:=6) rfl;have H:=af (Ms.start w m);have K:=af k;have M:=af (fun W=>Iz m k y W);have J:=af (fun W (h:Bw w W)=>aqV A c n xs W (L.below h) ((T.below h).more h.size) S Q U);unfold Qw at J;have z:=aj (deE m xs=if aO m=true then unE xs else 2) (rfl);have FM:=af (fun(h:deE m xs≠0)=>show deM m xs=aZ from by unfold deM;rw[if_neg h]);have B:=af (fun(h:deE m xs≠0)=>show deY m xs=[] from by unfold deY;rw[if_neg h]);have b:=af (fun(h:deE m xs=0)=>show deM m xs=frM m (unL xs) from by unfold deM;rw[if_pos h]);have d:=af (fun(h:deE m xs=0)=>show deY m xs=frO m (unL xs) from by unfold deY;rw[if_pos h]);have C:=af (yJ xs);have x:=af (fun(h:unE xs=0)=>yK h);have t:=af (fun(h:unE xs=0)=>D7 k (yK h) (yJ xs));have f:=af (fun W (h:Bw w W) (g:aO m=true) (he:unE xs=0)=>agF m k g (unL xs) W (N.below h) (O.below h) (L.below h) (yK he) (yJ xs));clear k y T S Q U N O L;go_enter Tryz.func19,Tryz.ntmps19;go_wp2_with(refine iK rfl (.tmp 2) rfl _ m rfl H.o.A K.o ?_);with_reducible refine(M.o _).mono ?_
 rintro e V ⟨rfl,hB⟩;have F:=af (H.o.below hB);clear hB H M;cases G:aO m with
 |false=>
  have HE:=aj (deE m xs=2) (Ve);clear G;have I:=af (MB.setRow F.o.R aZ);have D:=af (aS F.o.bel (g:=w.heap.size+1) ah aZ.ag);go_wp2_with(refine dW rfl (.tmp 4) (.tmp 13) rfl _ aZ aZ rfl (iI Value.agg vw) F.o.R df df ?_);refine aX (v:=_) (hR _ _ _ aZ rfl I.o df) rfl ?_;rw[FM.o wG,B.o wG,HE.o];exact NewM.bad D.o
 |true=>
  have HG:=af G;have z:=aj (deE m xs=unE xs) (Ve);clear G;go_wp2_with fail;with_reducible refine(J.o V F.o.bel).mono ?_
  rintro e w2 ⟨rfl,hB⟩;have S2:=af (F.o.below hB);clear hB F J;by_cases he:unE xs=0
  ·have HE:=aj (deE m xs=0) (by rw[z.o,he])
   exact ahH
  ·have HE:=aj (deE m xs≠0) (by rw[z.o];exact he)
   exact ahL
theorem aq0(a:Lz)(g:Int)(w:Wd)(l:a.length=9):Cl 55 #[.agg (agi a),.int .i64 g] w (Dt w a g):=by
 have M:=af (Bx2.start 73 w a);have hR:=nz (fn:=Tryz.f55) (p:=4) (q:=5) (ty:=73) rfl;have HA:=af l;by_cases h1:g<0\/32768<g
 ·have D:=af (Xi (a:=a) (g:=g) (acM h1) (aS M.o.bel (g:=w.heap.size+1) ah (agi Z9)))
  have c:=af (M.o.R.setRow Z9);clear l;rcases h1 with h1|h1
  ·have H:decide (g<0)=true:=ja
   go_enter Tryz.func55,Tryz.ntmps55;go_wp2_with(refine aQ 73 (.tmp 4) (.tmp 16) Z9 Z9 9 M.o.R bC rfl rfl ?_);exact VS
  have H:decide (g<0)=false:=aC;have W:decide (32768<g)=true:=ja;go_enter Tryz.func55,Tryz.ntmps55;go_wp2_with(refine aQ 73 (.tmp 4) (.tmp 16) Z9 Z9 9 M.o.R bC rfl rfl ?_);exact VS
 have t:0<=g:=ah;have y:g<=32768:=ah;have H:decide (g<0)=false:=aC;have W:decide (32768<g)=false:=aC;have O:=af (fun k=>WJ t y k);have i:=af (M.o.below (baqq _ (.cells (agi Z9) 73)));have b:=IB.new ((w.alloc (.cells (agi a) 73)).alloc (.cells (agi Z9) 73)) 73 Z9;simp only[bT] at b;have b:=af b;rw[jR] at i b;have m:=af (fun(k:Nat) (L:k<9) (w:Wd)=>jW bP a l k L w);clear h1 l M;go_enter Tryz.func55,Tryz.ntmps55;go_wp2_with(refine aK 73 (.tmp 2) a 9 i.o.A bP bC HA.o ?_);go_loopw[7,18] (fun Y C wr=> ∃(k:Nat) (ys:Lz) (f:Int),k<=9/\C=.int .i64 k/\Y=.int .i64 f/\Hy (f=exF g k/\ys.length=9/\allTo okA a k/\∀j,j<k->ys.getD j 0=exE a g j)/\Hy (Bx2 73 w wr a Z9)/\Hy (IB wr (w.heap.size+1+1) 73 ys)) (fun _ C _=>9-(intOf C).toNat)
 case atStart=>exact⟨0,Z9,32768,ah,rfl,rfl,af ⟨rfl,rfl,allTo.zero,fun j h=>ah⟩,i,b⟩
 case round=>
  clear i b;obtain⟨k,ys,f,L,rfl,rfl,HY,E,Q⟩:=hrel;obtain⟨n,s⟩:=O.o k;rw[<-HY.o.1] at n s;by_cases hlt:k<9
  ·have u:=m.o k hlt
   obtain⟨x,B⟩:=ak (a.getD k 0);rw[<-B] at u;have HX:=af B;clear B;by_cases z:x< -1073741824\/1073741824<x
   ·exact ahO
   have b1: -1073741824<=x:=ah;have F:x<=1073741824:=ah;obtain⟨m1,J⟩:=acO b1 F n s;obtain⟨m3,m4⟩:=acP n s t y;have r:=aj (Hy ((f*g+16384)/32768=exF g (k+1)/\(ys.set k ((x*f+16384)/32768)).length=9/\allTo okA a (k+1)/\∀j,j<k+1->(ys.set k ((x*f+16384)/32768)).getD j 0=exE a g j)) (by
    obtain⟨N,q1,Z,q3⟩:=HY.o;refine⟨by rw[N];rfl,wI,Z.succ (by rw[<-HX.o];exact acL b1 F),fun j hj=>?_⟩;by_cases K:k=j
    ·subst K
     rw[gQ _ _ _ ah,exE,<-HX.o,<-N]
    ·rw[gV _ _ K]
     exact q3 j ah)
   clear z;go_wp2_with fail;refine(wZ (x*f+16384) 15 32768 ((x*f+16384)/32768) _ ah ah ah aA rfl).mono ?_;rintro e w1 ⟨rfl,d⟩;have i:=af (E.o.below d);have b:=af (Blk.below' Q.o d);clear d;have V:=IB.cell b.o k (by rw[HY.o.2.1];exact hlt);have X:=Blk.frozen b.o k;have P:=af (i.o.setCell (g:=w.heap.size+1+1) ah k (.int .i64 ((x*f+16384)/32768)));have T:=af (IB.set_ b.o k ((x*f+16384)/32768));go_wp2_with fail;refine(wZ (f*g+16384) 15 32768 ((f*g+16384)/32768) _ ah ah ah aA rfl).mono ?_;rintro e w2 ⟨rfl,d⟩;have S:=af (P.o.below d);have U:=af (Blk.below' T.o d);clear d V X;go_wp2;go_roundw;case rel=>exact⟨k+1,_,_,ah,aT,rfl,r.o,S,U⟩
   case measure=>exact aW
  obtain rfl:k=9:=ah;have G:=acN t y HY.o.2.2.1 HA.o;have D:=af (acK G HY.o.2.1 HY.o.2.2.2 (aS E.o.bel (g:=w.heap.size+1) ah (agi ys)));have I:=af (E.o.R.setRow ys);clear hlt G;go_wp2_with(first
   |(refine aK 73 (.tmp 6) ys 9 Q.o bP bC HY.o.2.1 ?_)
   |(refine aQ 73 (.tmp 4) (.tmp 42) Z9 ys 9 E.o.R bC rfl HY.o.2.1 ?_))
  exact aiR
theorem Ec.setP{w wr:Wd}{g:Nat}{a p:Lz}(s:Ec w wr m g a)(k:m.ok)(b:p.length=8):Ec w (wr.setCells w.heap.size 8 (au p)) {m with p:=p} g a:=
 ⟨⟨s.M.A.set_p k p b,cZ ah _ _ _ s.M.R,iJ (ax _) _ _ _ s.M.bel⟩,cZ Vl _ _ _ s.F,s.lt⟩
theorem aq1(m:Mm)(k:m.ok)(j:W64 m.nums)(w:Wd):Cl 20 #[.agg m.ag] w (NewM w (coM m) (coY m) (bz (aO m))):=by
 have hR:=yC (fn:=Tryz.f20) (p:=2) (q:=3) (r:=4) rfl;have S0:=af (Ms.start w m);have K:=af k;have KG:=af (fun W=>Iz m k j W);have KD:=af (fun W=>show Cl 54 #[.agg (au m.r).toArray] W (tN W m.r) from ZF m.r W k.r);have T:=af (fun W=>aq0 (jZ m.r) 32440 W (yB _));have Y:=aj (coM m=if aO m then msK (mg m) m 2 else aZ) (rfl);have B:=aj (coY m=if aO m then ysK (mg m) m 2 else[]) (by unfold coY ysK ysK ysK;rfl);have hi8:(Tryz.prog.info? 52).map (·.size)=some (au m.r).length:=by rw[bf,k.r];exact sW
 have HI8:=af hi8;have DL:=af (yB m.r);have EL:=aj ((mg m).length=9) (WM _ _);have H64:=af j;clear k hi8 j;go_enter Tryz.func20,Tryz.ntmps20;go_wp2_with(refine iK rfl (.tmp 1) rfl _ m rfl S0.o.A K.o ?_);refine(KG.o _).mono ?_;rintro e w1 ⟨rfl,b⟩;have S1:=af (S0.o.below b);clear b S0 KG;cases G:aO m with
 |false=>
  exact ah0
 |true=>
  have HG:=af G;clear G;go_wp2_with(refine bZ rfl 52 (.tmp 16) rfl _ _ rfl (au m.r) _ (S1.o.A.R K.o) aU rfl HI8.o ?_);refine(KD.o _).mono ?_;rintro e C ⟨rfl,b⟩;have S2:=af (S1.o.below b);clear b S1 KD;obtain⟨d,U⟩:=ak (jZ m.r);obtain⟨a,ha⟩:=ak (mg m);have hx:exL d 32440=a:=by rw[ha,U];rfl
  have l:∀W,Cl 55 #[.agg (agi d),.int .i64 32440] W (fun e w'=>e=.returned (.tuple #[.agg (agi a),.int .i64 (bz (exB d 32440))])/\Bw W w'):=fun W=>by
   have:=T.o W;unfold Dt at this;rw[<-U,hx] at this;exact this
  have l:=af l;clear T;rename_i KXr;clear KXr;rw[<-U] at DL|-;rw[<-ha] at Y B EL;clear U ha hx;go_wp2_with(first
   |(refine aQ 73 (.tmp 5) (.tmp 19) Z9 d 9 (IB.new C 73 Z9) bC rfl DL.o ?_
     have B3:=dI C (.cells (agi Z9) 73) (agi d)
     obtain⟨w3,f⟩:=ak ((C.alloc (.cells (agi Z9) 73)).setRow C.heap.size (agi d))
     have S3:=af (show Ms w w3 m by rw[f];exact S2.o.below B3)
     have F3:=af (show IB w3 C.heap.size 73 d by rw[f];exact IB.stored C 73 Z9 d)
     rw[jR] at f
     rw[<-f]
     clear f B3)
   |(refine aK 73 (.tmp 5) d 9 F3.o bP bC DL.o ?_))
  refine(l.o _).mono ?_;rintro e w4 ⟨rfl,b⟩;have S4:=af (S3.o.below b);have F4:=af (Blk.below' F3.o b);have GL:=af S2.o.lt;obtain⟨t,hg5⟩:=ak (C.heap.size);rw[<-hg5] at F4 GL|-;clear b S2 S3 F3 hg5 l;have E5:=af (show Ec w (w4.setRow t (agi a)) m t a from⟨⟨Blk.rowFar S4.o.A jV,Blk.rowFar S4.o.R jV,aS S4.o.bel jV _⟩,IB.setRow F4.o a,GL.o⟩);go_wp2_with(refine aQ 73 (.tmp 5) (.tmp 24) d a 9 F4.o bC DL.o EL.o ?_);generalize w4.setRow t (agi a)=w5 at E5|-;clear S4 F4;go_loopw[7,8] (fun ov iv wr=> ∃(k:Nat) (A:Oz) (c n:Nat),k<=2/\iv=.int .i64 k/\ov=.slice A n c/\Hy ((ysK a m k).length=n)/\Hy (Own wr (t+1) A c (ysK a m k))/\Hy (Ec w wr (msK a m k) t a)) (fun _ iv _=>2-(intOf iv).toNat)
  case atStart=>exact⟨0,none,0,0,ah,rfl,rfl,af rfl,af Own.nil,E5⟩
  case round=>
   clear E5;obtain⟨k,A,c,n,hk,rfl,rfl,HN,Q,L⟩:=hrel;by_cases hlt:k<2
   ·have V:=af (Qo (a:=a) K.o k)
    have KE:=af (fun W=>aqZ (msK a m k) V.o (aoG H64.o k) k W);have N:=af (IE V.o (k:Int));have KP:=af (fun W A c (h:Rs W W.heap.size A (lg (msK a m k) k)) (hc:(lg (msK a m k) k).length<=c)=>show Cl 50 #[.agg (agi a),.agg (au (jQ (msK a m k) k).p).toArray,.slice A (lg (msK a m k) k).length c] W (fun e w'=> ∃A3 c3 er3,e=.returned (.tuple #[.slice A3 (stY a (msK a m k) k).length c3,.agg (agi (stM a (msK a m k) k).p),.int .i64 er3])/\Own w' W.heap.size A3 c3 (stY a (msK a m k) k)/\Bw W w') from by
     have h1:=Xf (msK a m k) k;refine(D8 a (jQ (msK a m k) k).p _ A c _ W EL.o N.o.p h rfl ah hc).mono ?_;rintro e w' ⟨A3,c3,h1,h2,h3⟩;exact⟨A3,c3,_,h1,h2,h3⟩)
    have M2:=aj (stM a (msK a m k) k={jQ (msK a m k) k with p:=(stM a (msK a m k) k).p}) (rfl);have K2:=af (II V.o a k);have YL:=af (Xt a (msK a m k) k);have NM:=aj (msK a m (k+1)=stM a (msK a m k) k) (rfl);have NY:=aj (ysK a m (k+1)=ysK a m k++stY a (msK a m k) k) (rfl);have YN:=af (afD a m k);generalize stM a (msK a m k) k=J at*
    generalize stY a (msK a m k) k=y at*
    generalize jQ (msK a m k) k=m1 at*
    generalize lg (msK a m k) k=x at*
    generalize bz (ku (msK a m k) k)=er at*
    generalize msK a m k=mk at*
    generalize ysK a m k=ys at*
    go_wp2_with(refine iK rfl (.tmp 1) rfl _ mk rfl L.o.M.A V.o ?_);refine(KE.o _).mono ?_;rintro e w6 ⟨A6,c6,rfl,s,b⟩;have O:=af (L.o.below b);have O6:=af (Q.o.below b);have SZ6:=af b.size;have X6:=af s;have GT:=af L.o.glt;clear s b L Q KE;have S:=af (O.o.setA (mm:=m1));have O7:=af (O6.o.setRow (g:=w.heap.size) (by have:=O.o.lt;omega) m1.ag);have X7:=af (X6.o.setRow (g:=w.heap.size) (by have:=O.o.lt;have:=GT.o;omega) m1.ag);obtain⟨w7,u⟩:=ak (w6.setRow w.heap.size m1.ag);rw[<-u] at S O7 X7;have Z:=af u;clear u;have P1:=af (show(Tryz.prog.info? 52).map (·.size)=some (au m1.p).length by rw[bf,N.o.p];exact sW);go_wp2_with(first
     |(refine dW rfl (.tmp 1) (.tmp 34) rfl _ mk m1 rfl rfl O.o.M.A V.o N.o ?_;rw[<-Z.o])
     |(refine aK 73 (.tmp 5) a 9 S.o.F bP bC EL.o ?_)
     |(refine bZ rfl 52 (.tmp 39) rfl _ _ rfl (au m1.p) _ (S.o.M.A.P N.o) aU rfl P1.o ?_))
    refine(KP.o _ _ _ X7.o.reads X7.o.cap.1).mono ?_;rintro e w8 ⟨A8,c8,er8,rfl,s,b⟩;have E:=af (S.o.below b);have O8:=af (O7.o.below b);have GT8:=af S.o.glt;have X8:=af s;clear s b O S O6 O7 X6 X7 KP Z;have C9:=af (show Ec w (w8.setCells w.heap.size 8 (au J.p)) J t a by rw[M2.o];exact E.o.setP N.o K2.o.p);have O9:=af (Own.setCs (g:=w.heap.size) (by have:=E.o.lt;omega) (au J.p) 8 _ O8.o);have X9:=af (Own.setCs (g:=w.heap.size) (by have:=E.o.lt;have:=GT8.o;omega) (au J.p) 8 _ X8.o).reads;have X:=aj ((Tryz.prog.info? 52).map (·.size)=some (agi J.p).size) (by rw[dX,K2.o.p];exact sW);have H:=aj (w8.there w.heap.size 8 (agi J.p).size) (by rw[dX,K2.o.p];exact E.o.M.A.thereP N.o);obtain⟨w9,z⟩:=ak (w8.setCells w.heap.size 8 (au J.p));rw[<-z] at C9 O9 X9;have HW9:=af z;clear z;have GT9:=af C9.o.glt;go_wp2_with(first
     |(refine iY rfl 52 (.tmp 46) (.tmp 44) rfl w.heap.size 8 (agi J.p) rfl rfl H.o X.o (ik _) ?_;rw[show(agi J.p).toList=au J.p from rfl,<-HW9.o])
     |(at_builtin;refine pg rfl (.tmp 47) (.tmp 48) rfl (t+1) A c n ys rfl HN.o O9.o w9.heap.size A8 c8 y.length y rfl rfl X9.o (by have:=YL.o;have:=YN.o;have:=HN.o;omega) (by have:=GT9.o;omega) ?_;intro A10 c10 w10 s hG hA;have C10:=af (C9.o.grown O9.o hG);have O10:=af s;clear s hG hA))
    exact aio
   obtain rfl:k=2:=ah;have i:=af (Qo (a:=a) K.o 2);have I:=af (MB.setRow L.o.M.R (msK a m 2));have D:=af (aS L.o.M.bel (g:=w.heap.size+1) ah (msK a m 2).ag);have OF:=af ((Q.o.setRow (g:=w.heap.size+1) UR (msK a m 2).ag).more (base':=w.heap.size) UR);generalize msK a m 2=mf at*
   generalize ysK a m 2=yf at*
   go_wp2_with(first
    |(refine iK rfl (.tmp 1) rfl _ mf rfl L.o.M.A i.o ?_)
    |(refine dW rfl (.tmp 2) (.tmp 50) rfl _ aZ mf rfl rfl L.o.M.R df i.o ?_))
   exact ait
section
open Go.ChangeShapes Go.WideShapes
structure Ck where
 k:Int
 v:Int
 r:Bool
 A:Oz
 c:Nat
 xs:Lz
 A2:Oz
 c2:Nat
 zs:Lz
def Ck.cs(q:Ck):List Value:=[.int .i64 q.k,.int .i64 q.v,.bool q.r,.slice q.A q.xs.length q.c,.slice q.A2 q.zs.length q.c2]
structure CkAt(w:Wd)(B:Nat)(p:Addr)(q:Ck):Prop where
 b:p.block<B
 s:∀j v,q.cs[j]?=some v->w.cell? (p.add j)=some v
 r:Rs w B q.A q.xs
 r2:Rb w B q.A2 q.zs
 k: -9223372036854775808<=q.k/\q.k<=9223372036854775807
 v: -9223372036854775808<=q.v/\q.v<=9223372036854775807
 l:q.xs.length<=17592186044000
 l2:q.zs.length<=140737488351232
 z:Byts q.zs
 cap:q.zs.length<=q.c2
def CT(w:Wd)(B:Nat)(A:Oz)(n:Nat):Prop:=∀i,i<n->∃a q,A=some a/\CkAt w B (a.add (i*5)) q
section
variable {w w':Wd} {B B' n:Nat} {A:Oz} {p:Addr} {q:Ck}
theorem CkAt.below(h:CkAt w B p q)(a:Below B w w'):CkAt w' B p q:=⟨h.b,fun j v c=>by rw[a.cell (by rw[dV];exact h.b)];exact h.s j v c,h.r.below a,h.r2.below a,h.k,h.v,h.l,h.l2,h.z,h.cap⟩
end
theorem ara{a:Lz}(h:∀y∈a,IntKind.u8.has y):Byts a:=fun i=>by
 rw[bK];cases e:a[i]? with
 |none=>simp
 |some y=>
  have b:=h y (vN e);simp[IntKind.has,IntKind.min,IntKind.max,IntKind.signed,IntKind.bits] at b;simpa using b
theorem agU{H:Type}{P:Program}{t:TypeId}{d:DataW H}{n:Nat}(h:n∈d.weights P t):∀{ds:List (DataW H)},d∈ds->n∈DataW.weightsAll P t ds
 |[],U=>by cases U
 |x::r,U=>by
  simp only[DataW.weightsAll,Ri];rcases List.mem_cons.1 U with rfl|a
  ·exact .inl h
  exact .inr (agU h a)
theorem arb:Tryz.prog.cellsOf 37=5:=aB
theorem arc{H:Type}{r:TypeId×Value->H}{w:Wd}{a:Nat}{l:List Value}{y:DataW H×List MemPlace}(h:DataW.trod r Tryz.prog w 0 (fun _=>true) true a 37 l=some y)(Y:l.length=5)
 (s:∀x∈y.1.weights Tryz.prog 37,x<=reachBytes):
 ∃q:Ck,l=q.cs/\Rs w w.heap.size q.A q.xs/\Rb w w.heap.size q.A2 q.zs/\(-9223372036854775808<=q.k/\q.k<=9223372036854775807)/\(-9223372036854775808<=q.v/\q.v<=9223372036854775807)/\q.xs.length<=17592186044000/\q.zs.length<=140737488351232/\Byts q.zs/\q.zs.length<=q.c2:=by
 obtain⟨v0,v1,v2,v3,v4,rfl⟩:=aq9 Y;obtain⟨xs,n,_,D,_,I,G⟩:=DataW.trod_struct ES h;match xs,I with
 |[B,z,y2,K,f],_=>
  subst D;have F:Tryz.prog.cellsOf 3=1:=aB;have c2:Tryz.prog.cellsOf 4=1:=aB;have c3:Tryz.prog.cellsOf 26=1:=aB;have U:Tryz.prog.cellsOf 32=1:=aB;have V:Tryz.prog.cellsOf 5=1:=aB;have R:Tryz.prog.bytesOf 3=8:=aB;have T:Tryz.prog.bytesOf 5=1:=aB;have e:=G 0 _ rfl;have g:=G 1 _ rfl;have i:=G 2 _ rfl;have b:=G 3 _ rfl;have d:=G 4 _ rfl;try simp at e
  try simp at g
  try simp at i
  try simp at b
  try simp at d
  rw[F] at e g;rw[c2] at i;rw[c3] at b;rw[U] at d;simp only[List.take_succ_cons,List.take_zero] at e g i b d;obtain⟨k,L,_,w0⟩:=DataW.trod_int Bo e;obtain⟨u,M,_,w1⟩:=DataW.trod_int Bo g;obtain⟨q,S,_⟩:=DataW.trod_bool Tryz.underlying4 i;simp only[EY,E8] at L M S;subst L;subst M;subst S;have N:∀(j:Nat) (t:TypeId) (o:DataW H),([3,3,4,26,32]:List TypeId)[j]?=some t->([B.1,z.1,y2.1,K.1,f.1]:List (DataW H))[j]?=some o->∀x∈o.weights Tryz.prog t,x<=reachBytes:=fun j t o W X x D=>by
   refine s x ?_;simp only[DataW.weights,ES];exact DataW.weights_mem_each W X x D
  obtain⟨A,m,c,O⟩:=Go.Joins.slice_form qH b;obtain⟨A2,J,c',P⟩:=Go.Joins.slice_form Bq d;simp only[EY,E8] at O P;subst O;subst P;obtain⟨Q,Z,l1,l2,r1,k1⟩:=abS qH Bo F b (N 3 _ _ rfl rfl);obtain⟨ws,C,m1,E,r2,k2⟩:=abS Bq Tryz.underlying5 V d (N 4 _ _ rfl rfl);rw[R] at l2;rw[T] at E;subst Z;subst C;exact⟨⟨k,u,q,A,c,Q,A2,c',ws⟩,rfl,r1,r2,abL (agT w0),abL (agT w1),by show Q.length<=_;omega,by show ws.length<=_;omega,ara k2,m1⟩
theorem ars{H:Type}{b:TypeId×Value->H}{w:Wd}{v:Value}{d:DataW H}{ps:List MemPlace}
 (h:DataW.Trod b Tryz.prog w 0 (fun _=>true) true 22 v d ps) (f:∃A n c,v=.slice A n c) (t:∀x∈d.weights Tryz.prog 22,x<=reachBytes):
 ∃A n c,v=.slice A n c/\n<=c/\c<=9223372036854775807/\CT w w.heap.size A n:=by
 obtain⟨A,n,c,rfl⟩:=f;obtain⟨e,G⟩:=h;have s:DataW.trod b Tryz.prog w 0 (fun _=>true) true e 22 [.slice A n c]=some (d,ps):=by simpa[Value.cells] using G
 refine⟨A,n,c,rfl,?_⟩;rcases DataW.trod_slice Tryz.underlying22 s with⟨h1,_⟩|⟨a,len,cap,elems,rest,m,_,h1,U,hb,hlc,hcm,hel,hcell,_,_⟩
 ·simp only[EY,QU,E8] at h1
  obtain⟨rfl,rfl,rfl⟩:=h1;exact⟨ah,ah,fun i hi=>absurd hi ah⟩
 ·simp only[EY,QU,E8] at h1
  obtain⟨rfl,rfl,rfl⟩:=h1;simp only[Fa] at U;obtain⟨rfl,_⟩:=U;refine⟨hlc,by unfold maxLen at hcm;omega,fun i hi=>?_⟩;have g:=hcell i hi;rw[arb] at g;rw[jU ah] at g;obtain⟨M,y,D⟩:=Option.bind_eq_some_iff.1 g;obtain⟨_,E,F⟩:=World.cells?_some y;have u:∀x∈(elems[i]' ah).1.weights Tryz.prog 37,x<=reachBytes:=fun x J=>t x (by
   simp only[DataW.weights,Tryz.underlying22];exact vV _ (List.mem_append_left _ (agU J (List.mem_map.2 ⟨_,BI _,rfl⟩))))
  obtain⟨q,rfl,r,L,k,v,l,K,z,C⟩:=arc D E u;have o:=World.cells?_block y ah;exact⟨a,q,rfl,o,fun j v f=>by
   have I:j<5:=by
    have:=(List.getElem?_eq_some_iff.1 f).1;exact this
   rw[F j I,f],r,L,k,v,l,K,z,C⟩
end
theorem agV{w:Wd}{B n c:Nat}{A:Oz}{ys:Lz}(h:Rb w B A ys)(l:ys.length=n):
 (convert 32 9 (.slice A n c)).run Tryz.prog w=.ok (.string (strOfNums ys)) w:=by
 subst l;rw[run_convert_bytes_string w 32 9 5 A ys.length c Bq Tryz.underlying5 Tryz.underlying9];cases A with
 |none=>
  have b:ys=[]:=by
   rcases QW ys.length with b|b
   ·exact QY b
   obtain⟨g,e,_⟩:=h.2 b;cases e
  subst b;simp[Conv.bytesToString];rfl
 |some a=>
  have d:=run_loadCells_list (P:=Tryz.prog) w a (bts ys) (fun j v f=>by
   have k:j<(bts ys).length:=(List.getElem?_eq_some_iff.1 f).1;rw[sH] at k;obtain⟨g,e,_,i⟩:=h.2 ah;injection e with e;subst e;exact i j v f)
  rw[sH] at d;rw[run_bytesToString w a ys.length c ys d,foldl_push_bytes];simp[strOfNums,ByteArray.empty,ByteArray.emptyWithCapacity];rfl
