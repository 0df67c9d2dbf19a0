/- Texts that the law rests on. -/
import Derived.Test.YthoiikkjjaldnaaGreatDoorZ1e00
namespace Go.Proofs.YthoiikkjjaldnaaGreatDoor
set_option linter.unusedVariables false
set_option linter.unusedSimpArgs false
set_option maxRecDepth 100000
set_option maxHeartbeats 8000000
open Go.RowKit
structure MulInv(w wr:World)(m:Nat)(V:Nat)(t:Nat)(rs:List Nat):Prop where
 len:rs.length=m
 ok:wok rs
 val:wv rs=V
 top:∀j,t<=j->rs.getD j 0=0
 own:wr.ownsRow w.heap.size 172 1 (.slice (some ⟨w.heap.size,0,none⟩) m m) m (W32 rs)
 bel:Below w.heap.size w wr
theorem MulInv.drewN{w wr:World}{m V t:Nat}{rs:List Nat}(h:MulInv w wr m V t rs)(n:Nat):MulInv w (wr.drewN n) m V t rs:=
 ⟨h.len,h.ok,h.val,h.top,h.own,h.bel.trans ⟨rfl,rfl,rfl,al0z _,fun _ _=>rfl⟩⟩
theorem MulInv.step{w wr:World}{m V t:Nat}{rs:List Nat}(h:MulInv w wr m V t rs){p x r V':Nat}(hp:p<m)(hx:x<4294967296)(hr:rs.getD p 0=r)
 (hV:V'+4294967296^p*r=V+4294967296^p*x) (t':Nat) (ht:t<=t') (hpt:p<t'):
 MulInv w (wr.setCell ⟨w.heap.size,p,none⟩ (.int .u32 (x:Nat))) m V' t' (rs.set p x):=by
 have hl:=h.len
 refine⟨vu,vG h.ok _ hx,?_,fun j hj=>?_,?_,h.bel.setCell (al0z _) _⟩
 ·have e1:=Ph (l:=rs) (k:=p) ah x
  rw[hr,h.val] at e1
  omega
 ·rw[Ci _ _ _ _ ah,if_neg ah]
  exact h.top j ah
 ·have:=(h.own.stored p (.int .u32 (x:Nat))).1
  rwa [vK] at this
theorem ac8{c xa xb r:Nat}(hc:c<4294967296)(ha:xa<4294967296)(hb:xb<4294967296)(hr:r<4294967296):
 c+(xa*xb+r)<18446744073709551616/\(c+(xa*xb+r))/4294967296<4294967296:=by
 have h1:xa*xb<=4294967295*4294967295:=Nat.mul_le_mul ah ah
 have h2:c+(xa*xb+r)<18446744073709551616:=ah
 exact⟨h2,ah⟩
theorem ac9{c xa xb r:Nat}(h:c+(xa*xb+r)<18446744073709551616):
 IntKind.u64.wrap ((c:Int)+IntKind.u64.wrap (IntKind.u64.wrap ((xa:Int)*xb)+r))=((c+(xa*xb+r):Nat):Int):=by
 have e:∀z,IntKind.u64.wrap z=z%18446744073709551616:=abp
 rw[e,e,e,show((xa:Int)*xb)=((xa*xb:Nat):Int) from az]
 generalize xa*xb=p at*
 omega
theorem ada{B P V c xa xb r S:Nat}(hV:V+P*c=S)(hr:P*r<=V):
 (V-P*r+P*((c+(xa*xb+r))%B))+(P*B)*((c+(xa*xb+r))/B)=S+P*(xa*xb):=by
 rw[Nat.mul_assoc P,Nat.add_assoc,<-Nat.mul_add,Nat.mod_add_div]
 rw[Nat.mul_add,Nat.mul_add]
 omega
theorem adb(l:List Nat)(p:Nat):4294967296^p*l.getD p 0<=wv l:=by
 by_cases h:p<l.length
 ·have e:wv l=wv (l.take (p+1))+4294967296^(p+1)*wv (l.drop (p+1)):=by
   conv=>lhs;rw[<-qh (p+1) l]
   rw[Cb,fL,Nat.min_eq_left ah]
  rw[e,vF]
  omega
 exact l96
theorem adc(w:World)(va vb:Value)(a b:Nat)(ha:Nm w va a)(hb:Nm w vb b)(sa:Sm a)(sb:Sm b):
 Calls Tryz.prog 175 #[va,vb] w (mX w (a*b)):=by
 obtain⟨i0,hi,hz0,hz1,hz2⟩:=info_parts vH
 obtain⟨ao,an,ac,ua,rfl,hra,hta,rfl,hla⟩:=ha.len sa
 obtain⟨bo,bn,bc,ub,rfl,hrb,htb,rfl,hlb⟩:=hb.len sb
 have HA:=hid hra
 have HB:=hid hrb
 clear hra hrb hta htb ha hb sa sb
 by_cases ha0:an=0
 ·subst ha0
  have h0:wv ua*wv ub=0:=by
   have:ua=[]:=List.length_eq_zero_iff.1 HA.out.len
   rw[this];simp[wv]
  rw[h0]
  clear h0
  exact acu
 by_cases hb0:bn=0
 ·subst hb0
  have h0:wv ua*wv ub=0:=by
   have:ub=[]:=List.length_eq_zero_iff.1 HB.out.len
   rw[this];simp[wv]
  rw[h0]
  clear h0
  have hne:((an:Int)==0)=false:=EH
  exact acu
 obtain⟨g,off,rfl⟩:=HA.out.addr ah
 obtain⟨g2,off2,rfl⟩:=HB.out.addr ah
 have hne:((an:Int)==0)=false:=EH
 have hne2:((bn:Int)==0)=false:=EH
 clear ha0 hb0
 go_enter Tryz.func175,Tryz.ntmps175
 go_wp2_with(first
  |(at_make;refine wpList_make_full _ rfl _ _ 78 rfl w.heap.size 172 i0 (.int .u32 0) 1 Tryz.underlying78 hi hz0 hz1 _ _ _ _ (an+bn) rfl rfl az az uw iT (al0z _) ?_;intro w1 hown hgrow)
  )
 rw[xI] at hown
 have inv0:MulInv w w1 (an+bn) 0 bn (List.replicate (an+bn) 0):=⟨az,xG _,Vk _,fun j _=>Pj _ _,hown,(aA _ _).grown hgrow (al0z _) (fun k h=>qA)⟩
 clear hown hgrow hne hne2
 go_loopw[6,7,8] (fun iv _ _ wr=> ∃(i:Nat) (rs:List Nat),i<=an/\iv=.int .i64 i/\MulInv w wr (an+bn) (wv (ua.take i)*wv ub) (i+bn) rs) (fun iv _ _ _=>an-(intOf iv).toNat)
 case atStart=>exact⟨0,_,ah,rfl,by simpa[wv] using inv0⟩
 case round=>
  clear inv0 w1
  obtain⟨i,rs,hi',rfl,inv⟩:=hrel
  have hsz:=inv.bel.size
  by_cases hka:i<an
  ·have hra:=kO HA.out.ok i
   have hca:=(HA.out.below inv.bel (al0z _)).cell i hka
   generalize hxa:ua.getD i 0=xa at hca hra
   have HXA:=hid hxa
   clear hxa hca
   have INV:=hid inv
   clear inv
   obtain⟨wo,rfl⟩:∃wo:World,wo=wr:=⟨_,rfl⟩
   go_wp2
   go_loopw[7,8] (fun cv jv wr=> ∃(j c V:Nat) (rs:List Nat),j<=bn/\jv=.int .i64 j/\cv=.int .u64 c/\c<4294967296/\MulInv w wr (an+bn) V (i+bn) rs/\V+4294967296^(i+j)*c=wv (ua.take i)*wv ub+4294967296^i*(xa*wv (ub.take j))) (fun _ jv _=>bn-(intOf jv).toNat)
   case atStart=>exact⟨0,0,_,_,ah,rfl,rfl,ah,INV.out,by simp[wv]⟩
   case round=>
    clear INV
    obtain⟨j,c,V,rs,hj,rfl,rfl,hc,inv,hV⟩:=hrel
    have hsz:=inv.bel.size
    have hcr:∃r:Nat,r<4294967296/\wr.cell? ⟨w.heap.size,i+j,none⟩=some (.int .u32 (r:Nat))/\rs.getD (i+j) 0=r:=by
     refine⟨rs.getD (i+j) 0,kO inv.ok _,?_,rfl⟩
     rw[inv.own.cellAt (i+j) ah,qE _ _ (by rw[inv.len];omega)]
     simp[W32,inv.len,show i+j<an+bn from ah]
    have hfr:=inv.own.frozenAt (i+j)
    have INV:=hid inv
    have HV:=hid hV
    clear inv hV
    by_cases hkb:j<bn
    ·have hca:=(HA.out.below INV.out.bel (al0z _)).cell i hka
     rw[HXA.out] at hca
     have hrb:=kO HB.out.ok j
     have hcb:=(HB.out.below INV.out.bel (al0z _)).cell j hkb
     generalize hxb:ub.getD j 0=xb at hcb hrb
     have HXB:=hid hxb
     clear hxb
     obtain⟨r,hr,hcr,hr2⟩:=hcr
     have HR:=hid hr2
     clear hr2
     go_wp2
     go_quiet (fail)
     go_wp2
     go_roundw
     case rel=>
      have h64:=ac8 hc hra hrb hr
      rw[ac9 h64.1]
      have hle:=adb rs (i+j)
      rw[HR.out,INV.out.val] at hle
      have hv:=ada (B:=4294967296) (xa:=xa) (xb:=xb) HV.out hle
      refine⟨j+1,(c+(xa*xb+r))/4294967296,V-4294967296^(i+j)*r+4294967296^(i+j)*((c+(xa*xb+r))%4294967296),rs.set (i+j) ((c+(xa*xb+r))%4294967296),ah,az,az,h64.2,?_,?_⟩
      ·rw[show(((c+(xa*xb+r):Nat):Int)%4294967296)=(((c+(xa*xb+r))%4294967296:Nat):Int) from ah]
       exact(INV.out.drewN _).step ah ah HR.out ah _ (al0z _) ah
      rw[<-Nat.add_assoc i j 1,Nat.pow_succ,hv,vF,HXB.out,Nat.mul_add xa,Nat.mul_add (4294967296^i),Nat.pow_add,<-Nat.add_assoc]
      congr 1
      rw[Nat.mul_assoc,Nat.mul_left_comm xa]
     case measure=>simp[intOf]<;>omega
    obtain rfl:j=bn:=ah
    obtain⟨r,hr,hcr,hr2⟩:=hcr
    have hr0:r=0:=by rw[<-hr2];exact INV.out.top _ ah
    subst hr0
    have HR:=hid hr2
    clear hr2
    have e1:(c:Int)%4294967296=(c:Int):=ah
    go_wp2
    go_roundw
    case rel=>
     refine⟨i+1,rs.set (i+j) c,ah,az,?_⟩
     have hv:=HV.out
     rw[List.take_of_length_le (l:=ub) (by rw[HB.out.len];omega)] at hv
     have e2:wv (ua.take (i+1))*wv ub=V+4294967296^(i+j)*c:=by
      rw[hv,vF,HXA.out,Nat.add_mul,Nat.mul_assoc]
     rw[e2,show i+1+j=i+j+1 from ah]
     exact INV.out.step ah hc HR.out ah _ ah ah
    case measure=>simp[intOf]<;>omega
  obtain rfl:i=an:=ah
  have INV:=hid inv
  clear inv
  go_wp2_with(go_at_call 151;refine(vI _ w.heap.size _ (i+bn) rs INV.out.own INV.out.ok).mono ?_;rintro e w' ⟨⟨v',rfl,hnm⟩,rfl⟩)
  go_ret
  refine⟨⟨v',rfl,?_⟩,INV.out.bel⟩
  rw[INV.out.val,List.take_of_length_le Bo] at hnm
  exact hnm
def IntBlk(w:World)(b:Nat):Prop:=∃x y,w.heap[b]?=some (.cells #[x,y] 80 (0,0))
def IntAt(w:World)(b:Nat)(z:Int):Prop:=∃v,w.heap[b]?=some (.cells #[.bool (decide (z<0)),v] 80 (0,0))/\Nm w v z.natAbs
theorem IntAt.blk{w:World}{b:Nat}{z:Int}(h:IntAt w b z):IntBlk w b:=by
 obtain⟨v,h1,_⟩:=h;exact⟨_,_,h1⟩
theorem xK{w:World}{b:Nat}{o:Obj}(h:w.heap[b]?=some o):b<w.heap.size:=by
 by_cases hc:b<w.heap.size
 ·exact hc
 rw[Array.getElem?_eq_none ah] at h;cases h
theorem IntBlk.lt{w:World}{b:Nat}(h:IntBlk w b):b<w.heap.size:=by
 obtain⟨x,y,h⟩:=h;exact xK h
theorem IntAt.lt{w:World}{b:Nat}{z:Int}(h:IntAt w b z):b<w.heap.size:=h.blk.lt
theorem IntAt.cells{w:World}{b:Nat}{z:Int}(h:IntAt w b z):∃v,w.cell? ⟨b,0,none⟩=some (.bool (decide (z<0)))/\w.cell? ⟨b,1,none⟩=some v/\Nm w v z.natAbs:=by
 obtain⟨v,h1,h2⟩:=h
 exact⟨v,by simp[World.cell?,h1],by simp[World.cell?,h1],h2⟩
theorem Nm.kept{w w':World}{v:Value}{n:Nat}(h:Nm w v n){b:Nat}(hb:IntBlk w b)(hg:w.grownBy w' (some b)):Nm w' v n:=by
 obtain⟨ao,len,cap,ws,rfl,hr,ht,hn⟩:=h
 refine⟨ao,len,cap,ws,rfl,hr.of_block fun a ha=>hg.block _ (hr.lt a ha) ?_,ht,hn⟩
 intro he
 obtain⟨_,cur,fz,hh,_⟩:=hr.cells a ha
 obtain⟨x,y,hb⟩:=hb
 have:=nP he
 rw[this,hb] at hh
 simp at hh
theorem IntAt.kept{w w':World}{c:Nat}{z:Int}(h:IntAt w c z){b:Nat}(hb:IntBlk w b)(hg:w.grownBy w' (some b))(hne:c≠b):IntAt w' c z:=by
 obtain⟨v,h1,h2⟩:=h
 exact⟨v,by rw[hg.block c (xK h1) (by simpa using hne)];exact h1,h2.kept hb hg⟩
theorem IntAt.below{w w':World}{b:Nat}{z:Int}(h:IntAt w b z){B:Nat}(hb:Below B w w')(hB:w.heap.size<=B):IntAt w' b z:=by
 obtain⟨v,h1,h2⟩:=h
 exact⟨v,by rw[hb.block b (by have:=xK h1;omega)];exact h1,h2.below hb hB⟩
theorem IntBlk.below{w w':World}{b:Nat}(h:IntBlk w b){B:Nat}(hb:Below B w w')(hB:w.heap.size<=B):IntBlk w' b:=by
 obtain⟨x,y,h1⟩:=h
 exact⟨x,y,by rw[hb.block b (by have:=xK h1;omega)];exact h1⟩
theorem IntBlk.kept{w w':World}{c:Nat}(h:IntBlk w c){b:Nat}(hg:w.grownBy w' (some b))(hne:c≠b):IntBlk w' c:=by
 obtain⟨x,y,h1⟩:=h
 exact⟨x,y,by rw[hg.block c (xK h1) (by simpa using hne)];exact h1⟩
theorem jQ{a b c:World}{row:Option Nat}(h:a.grownBy b row)(k:b.grownBy c row):a.grownBy c row:=
 ⟨k.os.trans h.os,k.tape.trans h.tape,k.output.trans h.output,gJ h.size k.size,fun i hi hn=>(k.block i (lF hi h.size) hn).trans (h.block i hi hn)⟩
theorem kG{a b:World}{B:Nat}(h:Below B a b)(hB:a.heap.size<=B)(row:Option Nat):a.grownBy b row:=
 ⟨h.os,h.tape,h.output,h.size,fun i hi _=>h.block i ah⟩
theorem bK{w0 w w':World}{b:Nat}(h:Below w0.heap.size w0 w)(hg:w.grownBy w' (some b))(hb:w0.heap.size<=b):Below w0.heap.size w0 w':=
 h.grown hg h.size (fun k hk=>by cases hk;exact hb)
theorem Nm.drew{w:World}{v:Value}{n:Nat}(h:Nm w v n):Nm w.drew v n:=h.below (B:=w.heap.size) ((aA _ _).drew) (al0z _)
theorem IntAt.drew{w:World}{b:Nat}{z:Int}(h:IntAt w b z):IntAt w.drew b z:=h.below (B:=w.heap.size) ((aA _ _).drew) (al0z _)
theorem IntBlk.drew{w:World}{b:Nat}(h:IntBlk w b):IntBlk w.drew b:=h
theorem IntAt.drewN{w:World}{b:Nat}{z:Int}(h:IntAt w b z)(n:Nat):IntAt (w.drewN n) b z:=h.below (B:=w.heap.size) ⟨rfl,rfl,rfl,al0z _,fun _ _=>rfl⟩ (al0z _)
def jE(w:World)(b:Nat)(z:Int)(e:Ending)(w':World):Prop:=e=.returned (.pointer (some ⟨b,0,none⟩))/\IntAt w' b z/\w.grownBy w' (some b)
theorem zx(w:World)(b o:Nat)(v:Value):w.grownBy (w.setCell ⟨b,o,none⟩ v) (some b):=
 ⟨rfl,rfl,rfl,zi,fun k _ hn=>Below.heap_setCell w _ v k vp⟩
def sgn(neg:Bool)(n:Nat):Int:=if neg then-(n:Int) else n
theorem adi(neg:Bool)(n:Nat):(sgn neg n).natAbs=n:=by unfold sgn;split<;>omega
theorem adk(neg:Bool)(n:Nat):decide (sgn neg n<0)=(neg&&decide (0<n)):=by
 unfold sgn
 cases neg<;>simp<;>omega
theorem vN(z:Int):sgn (decide (z<0)) z.natAbs=z:=by
 unfold sgn
 by_cases h:z<0
 ·simp[h];omega
 simp[h];omega
theorem adl(z:Int)(n:Nat):sgn (decide (z<0)) (z.natAbs*2^n)=z*2^n:=by
 have h1:=vN z
 unfold sgn at*
 conv=>rhs;rw[<-h1]
 split<;>simp[Int.natCast_mul,Int.neg_mul]
theorem adm{w:World}{b:Nat}{x y:Value}(h:w.heap[b]?=some (.cells #[x,y] 80 (0,0)))(x' y':Value):
 ((w.setCell ⟨b,1,none⟩ y').setCell ⟨b,0,none⟩ x').heap[b]?=some (.cells #[x',y'] 80 (0,0)):=by
 have h2:=heap_setCell_same w b 1 #[x,y] 80 y' h
 have h3:=heap_setCell_same (w.setCell ⟨b,1,none⟩ y') b 0 _ 80 x' h2
 rw[h3]
 simp
theorem oO(w:World)(b:Nat)(neg:Bool)(v:Value)(n:Nat)(hb:IntBlk w b)(hv:Nm w v n):
 Calls Tryz.prog 78 #[.pointer (some ⟨b,0,none⟩),.bool neg,v] w (jE w b (sgn neg n)):=by
 obtain⟨x,y,hh⟩:=hb
 have hc0:w.cell? ⟨b,0,none⟩=some x:=by simp[World.cell?,hh]
 have hc1:w.cell? ⟨b,1,none⟩=some y:=by simp[World.cell?,hh]
 have hf0:w.frozen? ⟨b,0,none⟩=false:=by simp[World.frozen?,hh]
 have hf1:w.frozen? ⟨b,1,none⟩=false:=by simp[World.frozen?,hh]
 have HH:=hid hh
 have HV:=hid hv
 clear hh
 obtain⟨ao,len,cap,ws,rfl,hr,ht,hn⟩:=hv
 have hlen:=hr.lim.1
 have key:decide (sgn neg n<0)=(neg&&decide (0<len)):=by
  rw[adk]
  congr 1
  have h1:=acR ht
  have h2:=hr.len
  by_cases h0:len=0
  ·subst h0
   have:n=0:=by rw[<-hn,h1];exact List.length_eq_zero_iff.1 h2
   simp[this]
  have:n≠0:=by rw[<-hn];intro h;rw[h1] at h;subst h;simp at h2;omega
  simp;omega
 have KEY:=hid key
 clear hr ht hn key
 have fin:∀t:Bool,t=(neg&&decide (0<len))->jE w b (sgn neg n) (.returned (.pointer (some ⟨b,0,none⟩))) ((w.setCell ⟨b,1,none⟩ (.slice ao len cap)).setCell ⟨b,0,none⟩ (.bool t)):=by
  intro t ht
  refine⟨rfl,⟨.slice ao len cap,?_,?_⟩,?_⟩
  ·rw[KEY.out,<-ht]
   exact adm HH.out _ _
  ·rw[adi]
   exact HV.out.kept ⟨x,y,HH.out⟩ (jQ (zx _ _ _ _) (zx _ _ _ _))
  exact jQ (zx _ _ _ _) (zx _ _ _ _)
 have FIN:=hid fin
 clear fin
 by_cases h0:0<len
 ·cases neg
  ·go_enter Tryz.func78,Tryz.ntmps78
   go_wp2
   go_ret
   exact FIN.out false az
  go_enter Tryz.func78,Tryz.ntmps78
  go_wp2
  go_ret
  exact FIN.out true (by simp[h0])
 ·cases neg
  ·go_enter Tryz.func78,Tryz.ntmps78
   go_wp2
   go_ret
   exact FIN.out false az
  go_enter Tryz.func78,Tryz.ntmps78
  go_wp2
  go_ret
  exact FIN.out false (by simp[h0])
theorem zy(w:World)(b c:Nat)(z:Int)(n:Nat)(hb:IntBlk w b)(hc:IntAt w c z)(hs:Sm z.natAbs)(hn:n<=1000):
 Calls Tryz.prog 30 #[.pointer (some ⟨b,0,none⟩),.pointer (some ⟨c,0,none⟩),.int .u64 (n:Nat)] w (jE w b (z*2^n)):=by
 obtain⟨v,h0,h1,hv⟩:=hc.cells
 have HB:=hid hb
 have HV:=hid hv
 have hlt:=hc.lt
 clear hb hv hc
 go_enter Tryz.func30,Tryz.ntmps30
 go_wp2_with fail
 go_region_with (first
  |(go_at_call 79;refine(ac5 w.drew v z.natAbs n HV.out.drew hs hn).mono ?_;rintro e w1 ⟨⟨v',rfl,hnm⟩,hb⟩;have q0:=(Below.cell hb (p:=⟨c,0,none⟩) hlt).trans h0;have q1:=hid hb;have q2:=hid hnm;clear hb hnm)
  |(go_at_call 78;refine(oO _ b _ _ (z.natAbs*2^n) (HB.out.drew.below q1.out (al0z _)) q2.out).mono ?_;rintro e w2 ⟨rfl,hI,hG⟩;have q4:=hid (And.intro hI hG);clear hI hG))
 all_goals
  go_wp2
  go_ret
  refine⟨rfl,?_,?_⟩
  ·have:=q4.out.1
   rw[adl] at this
   exact this
  ·exact jQ (kG (Below.drew (aA w.heap.size w)) (al0z _) _) (jQ (kG q1.out (al0z _) _) q4.out.2)
theorem aW{n:Nat}(h:n<340282366920938463463374607431768211456):Sm n:=by
 have:(340282366920938463463374607431768211456:Nat)=4294967296^4:=rfl
 have h2:(4294967296:Nat)^4<=4294967296^60:=Nat.pow_le_pow_right aB aB
 unfold Sm;omega
theorem adn{x:Int}(h1: -9223372036854775808<=x)(h2:x<0):IntKind.u64.wrap (-(IntKind.u64.wrap x))= -x:=by
 have e:∀z,IntKind.u64.wrap z=z%18446744073709551616:=abp
 rw[e,e];omega
theorem ado(w:World)(b:Nat)(x:Int)(hb:IntBlk w b)(h1: -9223372036854775808<=x)(h2:x<=9223372036854775807):
 Calls Tryz.prog 153 #[.pointer (some ⟨b,0,none⟩),.int .i64 x] w (jE w b x):=by
 have HB:=hid hb
 clear hb
 have fin:∀w1 w2 v,mX w x.natAbs (.returned v) w1->jE w1 b (sgn (decide (x<0)) x.natAbs) (.returned (.pointer (some ⟨b,0,none⟩))) w2->jE w b x (.returned (.pointer (some ⟨b,0,none⟩))) w2:=by
  rintro w1 w2 v ⟨_,hbel⟩ ⟨_,hI,hG⟩
  rw[vN] at hI
  exact⟨rfl,hI,jQ (kG hbel (al0z _) _) hG⟩
 have FIN:=hid fin
 clear fin
 by_cases h0:x<0
 ·have hw:=adn h1 h0
  have HW:=hid hw
  clear hw
  go_enter Tryz.func153,Tryz.ntmps153
  go_wp2_with fail
  rw[HW.out]
  refine(FH _ (-x) ah ah).mono ?_
  rintro e w1 ⟨⟨v',rfl,hnm⟩,hbel⟩
  rw[show(-x).toNat=x.natAbs from ah] at hnm
  have q1:=hid hbel
  have q2:=hid hnm
  clear hnm hbel
  go_wp2_with(go_at_call 78;refine(oO _ b _ _ x.natAbs (HB.out.below q1.out (al0z _)) q2.out).mono ?_;rintro e w2 ⟨rfl,hI,hG⟩)
  go_ret
  refine FIN.out _ _ _ ⟨⟨_,rfl,q2.out⟩,q1.out⟩ ⟨rfl,?_,hG⟩
  have hd:decide (x<0)=true:=ql
  rw[hd];exact hI
 ·go_enter Tryz.func153,Tryz.ntmps153
  go_wp2_with(first
   |(go_at_call 146;refine(FH _ x ah ah).mono ?_;rintro e w1 ⟨⟨v',rfl,hnm⟩,hbel⟩;have q1:=hid hbel;have q2:=hid hnm;clear hnm hbel)
   |(go_at_call 78;refine(oO _ b _ _ x.toNat (HB.out.below q1.out (al0z _)) q2.out).mono ?_;rintro e w2 ⟨rfl,hI,hG⟩))
  go_ret
  have e0:x.toNat=x.natAbs:=ah
  rw[e0] at hI
  refine FIN.out _ _ _ ⟨⟨_,rfl,by rw[<-e0];exact q2.out⟩,q1.out⟩ ⟨rfl,?_,hG⟩
  have hd:decide (x<0)=false:=aJ
  rw[hd];exact hI
def Vw(w:World)(z:Int)(e:Ending)(w':World):Prop:=∃b,e=.returned (.pointer (some ⟨b,0,none⟩))/\w.heap.size<=b/\IntAt w' b z/\Below w.heap.size w w'
theorem IntBlk.new(w:World)(x y:Value):IntBlk (w.alloc (.cells #[x,y] 80)) w.heap.size:=⟨x,y,heap_alloc_new w _⟩
theorem kP(w:World)(x:Int)(h1: -9223372036854775808<=x)(h2:x<=9223372036854775807):
 Calls Tryz.prog 81 #[.int .i64 x] w (Vw w x):=by
 go_enter Tryz.func81,Tryz.ntmps81
 go_wp2_with(go_at_call 153;refine(ado _ w.heap.size x (IntBlk.new w _ _) h1 h2).mono ?_;rintro e w1 ⟨rfl,hI,hG⟩)
 go_ret
 exact⟨w.heap.size,rfl,al0z _,hI,bK ((aA _ _).alloc (al0z _) _) hG (al0z _)⟩
theorem Nm.cells{w:World}{v:Value}{n:Nat}(h:Nm w v n)(hn:n<18446744073709551616):
 ∃ao len cap,v=.slice ao len cap/\((len=0/\n=0)\/(∃g off,len=1/\ao=some ⟨g,off,none⟩/\n<4294967296/\w.cell? ⟨g,off,none⟩=some (.int .u32 (n:Nat)))\/
  (∃g off lo hi,len=2/\ao=some ⟨g,off,none⟩/\lo<4294967296/\hi<4294967296/\n=lo+4294967296*hi/\w.cell? ⟨g,off,none⟩=some (.int .u32 (lo:Nat))/\w.cell? ⟨g,off+1,none⟩=some (.int .u32 (hi:Nat)))):=by
 obtain⟨ao,len,cap,ws,rfl,hr,ht,rfl⟩:=h
 have hl:ws.length<=2:=zt ht (n:=2) vp
 have hlen:=hr.len
 refine⟨ao,len,cap,rfl,?_⟩
 match ws,hlen,hr,ht,hn,hl with
 |[],hlen,hr,ht,hn,hl=>exact .inl ⟨Bh,rfl⟩
 |[a],hlen,hr,ht,hn,hl=>
  obtain rfl:len=1:=Bh
  obtain⟨g,off,rfl⟩:=hr.addr ah
  have hc:=hr.cell 0 ah
  have ha:=(uz.1 hr.ok).1
  exact .inr (.inl ⟨g,off,rfl,rfl,by simpa[wv] using ha,by simpa[wv] using hc⟩)
 |[a,b],hlen,hr,ht,hn,hl=>
  obtain rfl:len=2:=Bh
  obtain⟨g,off,rfl⟩:=hr.addr ah
  have hc:=hr.cell 0 ah
  have hc1:=hr.cell 1 ah
  have ha:=(uz.1 hr.ok).1
  have hb:=(uz.1 (uz.1 hr.ok).2).1
  exact .inr (.inr ⟨g,off,a,b,rfl,rfl,ha,hb,by simp[wv],by simpa using hc,by simpa using hc1⟩)
theorem adp{a b:Nat}(ha:a<4294967296)(hb:b<4294967296):bits BinOp.or IntKind.u64 (a:Int) ((b:Int)*4294967296)=((a+4294967296*b:Nat):Int):=by
 exact abM
theorem Vx(w:World)(c:Nat)(z:Int)(hc:IntAt w c z)(hz:z.natAbs<18446744073709551616):
 Calls Tryz.prog 149 #[.pointer (some ⟨c,0,none⟩)] w fun e w'=>e=.returned (.int .u64 (z.natAbs:Nat))/\w=w':=by
 obtain⟨v,h0,h1,hv⟩:=hc.cells
 obtain⟨ao,len,cap,rfl,h⟩:=hv.cells hz
 clear hv hc
 rcases h with⟨rfl,hn⟩|⟨g,off,rfl,rfl,hn,hc⟩|⟨g,off,lo,hi,rfl,rfl,hlo,hhi,hn,hc,hc2⟩
 ·rw[hn]
  clear hn
  go_enter Tryz.func149,Tryz.ntmps149
  go_wp2
  go_ret
  exact⟨rfl,rfl⟩
 ·go_enter Tryz.func149,Tryz.ntmps149
  go_wp2
  go_ret
  exact⟨rfl,rfl⟩
 ·rw[hn]
  have e:=adp hlo hhi
  have E:=hid e
  clear hn e
  go_enter Tryz.func149,Tryz.ntmps149
  go_wp2
  go_ret
  refine⟨?_,rfl⟩
  rw[<-E.out]
  rfl
theorem adq{z:Int}(h1: -9223372036854775808<=z)(h2:z<0):wrap64 (-(wrap64 (z.natAbs:Nat)))=z:=by
 unfold wrap64;omega
theorem oP(w:World)(c:Nat)(z:Int)(hc:IntAt w c z)(h1: -9223372036854775808<=z)(h2:z<=9223372036854775807):
 Calls Tryz.prog 75 #[.pointer (some ⟨c,0,none⟩)] w fun e w'=>e=.returned (.int .i64 z)/\w=w':=by
 have HC:=hid hc
 obtain⟨v,h0,_,_⟩:=hc.cells
 clear hc
 by_cases hz:z<0
 ·have hd:decide (z<0)=true:=by simpa using hz
  rw[hd] at h0
  clear hd
  have e:=adq h1 hz
  have E:=hid e
  clear e
  go_enter Tryz.func75,Tryz.ntmps75
  go_wp2_with(go_at_call 149;refine(Vx _ c z HC.out ah).mono ?_;rintro e w1 ⟨rfl,rfl⟩)
  go_ret
  refine⟨?_,rfl⟩
  show Ending.returned (.int .i64 (wrap64 (-wrap64 (z.natAbs:Nat))))=_
  rw[E.out]
 ·have hd:decide (z<0)=false:=by simpa using hz
  rw[hd] at h0
  clear hd
  go_enter Tryz.func75,Tryz.ntmps75
  go_wp2_with(go_at_call 149;refine(Vx _ c z HC.out ah).mono ?_;rintro e w1 ⟨rfl,rfl⟩)
  go_ret
  refine⟨?_,rfl⟩
  show Ending.returned (.int .i64 (z.natAbs:Nat))=_
  rw[show((z.natAbs:Nat):Int)=z from ah]
theorem Pn(w:World)(v:Value)(n:Nat)(h:Nm w v n)(hs:Sm n):Calls Tryz.prog 204 #[v] w (mX w n):=by
 obtain⟨ao,len,cap,ws,rfl,hr,ht,rfl,hl⟩:=h.len hs
 refine(acV w ao len cap ws hr ah).mono ?_
 rintro e w' ⟨v',rfl,hown,hg⟩
 obtain⟨ao',cap',rfl,hr',_⟩:=Rd.owned hown hr.ok
 exact⟨⟨_,rfl,ao',len,cap',ws,rfl,hr',ht,rfl⟩,(aA _ _).grown hg (al0z _) (fun k h=>qA)⟩
theorem adr(w:World)(b c:Nat)(z:Int)(hb:IntBlk w b)(hc:IntAt w c z)(hs:Sm z.natAbs):
 Calls Tryz.prog 209 #[.pointer (some ⟨b,0,none⟩),.pointer (some ⟨c,0,none⟩)] w (jE w b z):=by
 obtain⟨v,h0,h1,hv⟩:=hc.cells
 have HB:=hid hb
 have HV:=hid hv
 have hlt:=hc.lt
 clear hb hv hc
 go_enter Tryz.func209,Tryz.ntmps209
 go_wp2_with fail
 go_region_with (first
  |(go_at_call 204;refine(Pn w.drew v z.natAbs HV.out.drew hs).mono ?_;rintro e w1 ⟨⟨v',rfl,hnm⟩,hb⟩;have q0:=(Below.cell hb (p:=⟨c,0,none⟩) hlt).trans h0;have q1:=hid hb;have q2:=hid hnm;clear hb hnm)
  |(go_at_call 78;refine(oO _ b _ _ z.natAbs (HB.out.drew.below q1.out (al0z _)) q2.out).mono ?_;rintro e w2 ⟨rfl,hI,hG⟩;have q4:=hid (And.intro hI hG);clear hI hG))
 all_goals
  go_wp2
  go_ret
  refine⟨rfl,?_,?_⟩
  ·have:=q4.out.1
   rw[vN] at this
   exact this
  ·exact jQ (kG (Below.drew (aA w.heap.size w)) (al0z _) _) (jQ (kG q1.out (al0z _) _) q4.out.2)
theorem Vy(z:Int):sgn (!decide (z<0)) z.natAbs= -z:=by
 unfold sgn
 by_cases h:z<0
 ·simp[h];omega
 simp[h];omega
theorem adt(w:World)(b c:Nat)(z:Int)(hb:IntBlk w b)(hc:IntAt w c z)(hs:Sm z.natAbs):
 Calls Tryz.prog 194 #[.pointer (some ⟨b,0,none⟩),.pointer (some ⟨c,0,none⟩)] w (jE w b (-z)):=by
 obtain⟨v,h0,h1,hv⟩:=hc.cells
 have HB:=hid hb
 have HV:=hid hv
 have hlt:=hc.lt
 clear hb hv hc
 obtain⟨t,ht⟩:∃t,t=decide (z<0):=⟨_,rfl⟩
 rw[<-ht] at h0
 have HT:=hid ht
 clear ht
 go_enter Tryz.func194,Tryz.ntmps194
 go_wp2_with fail
 go_region_with (first
  |(go_at_call 204;refine(Pn w.drew v z.natAbs HV.out.drew hs).mono ?_;rintro e w1 ⟨⟨v',rfl,hnm⟩,hb⟩;have q0:=(Below.cell hb (p:=⟨c,0,none⟩) hlt).trans h0;have q1:=hid hb;have q2:=hid hnm;clear hb hnm)
  |(go_at_call 78;refine(oO _ b _ _ z.natAbs (HB.out.drew.below q1.out (al0z _)) q2.out).mono ?_;rintro e w2 ⟨rfl,hI,hG⟩;have q4:=hid (And.intro hI hG);clear hI hG))
 all_goals
  go_wp2
  go_ret
  refine⟨rfl,?_,?_⟩
  ·have:=q4.out.1
   rw[HT.out,Vy] at this
   exact this
  ·exact jQ (kG (Below.drew (aA w.heap.size w)) (al0z _) _) (jQ (kG q1.out (al0z _) _) q4.out.2)
theorem Nm.one(w:World):Nm (w.alloc (.cells #[.int .u32 1] 172)) (.slice (some ⟨w.heap.size,0,none⟩) 1 1) 1:=by
 have hO:=World.ownsRow_lit (base:=w.heap.size) (e:=172) (size:=1) w #[.int .u32 ((1:Nat):Int)] 1 (al0z _) iT rfl
 obtain⟨ao,cap,hv,hr,_⟩:=Rd.owned (ws:=[1]) hO (by intro y hy;simp at hy;omega)
 injection hv with h1 h2 h3
 subst h1;subst h3
 exact⟨_,1,1,[1],rfl,hr,by intro n hn;simp at hn;subst hn;decide,rfl⟩
theorem adu{z:Int}(h:z<0)(n:Nat):z/2^n= -(((z.natAbs-1)/2^n+1:Nat):Int):=by
 have hp:(0:Int)<2^n:=Int.pow_pos aB
 obtain⟨m,rfl⟩:∃m:Nat,z= -((m:Int)+1):=⟨z.natAbs-1,ah⟩
 have e1:(-((m:Int)+1)).natAbs-1=m:=ah
 rw[e1]
 have e2: -((m:Int)+1)/2^n= -((m:Int)/2^n)-1:=by
  rw[show-((m:Int)+1)= -(m:Int)-1 from ah]
  rw[Int.ediv_eq_iff_of_pos hp]
  have h1:=Int.mul_ediv_add_emod (m:Int) (2^n)
  have h2:=Int.emod_nonneg (m:Int) (Int.ne_of_gt hp)
  have h3:=Int.emod_lt_of_pos (m:Int) hp
  generalize (m:Int)/2^n=q at*
  generalize (m:Int)%2^n=r at*
  generalize (2:Int)^n=p at*
  have h4:(-q-1)*p= -(p*q)-p:=by rw[Int.sub_mul,Int.neg_mul,Int.mul_comm q];omega
  have h5:(-q-1+1)*p= -(p*q):=by rw[Int.sub_add_cancel,Int.neg_mul,Int.mul_comm q]
  first
   |(rw[h4,h5];omega)
   |(constructor<;>(first|rw[h4]|rw[h5]|skip)<;>omega)
   |skip
 rw[e2]
 simp
 omega
def Sums(w:World)(z:Int)(e:Ending)(w':World):Prop:=∃neg v n,e=.returned (.tuple #[.bool neg,v])/\Nm w' v n/\sgn neg n=z/\∃w1 k,w1=w.drewN k/\Below w.heap.size w1 w'
theorem Sums.below{w w':World}{z:Int}{e:Ending}(h:Sums w z e w'):Below w.heap.size w w':=by
 obtain⟨_,_,_,_,_,_,w1,k,rfl,hb⟩:=h
 exact Below.trans (b:=w.drewN k) ⟨rfl,rfl,rfl,al0z _,fun _ _=>rfl⟩ hb
theorem FP(w:World)(k:Nat):Below w.heap.size w (w.drewN k):=⟨rfl,rfl,rfl,al0z _,fun _ _=>rfl⟩
theorem Vz(w:World)(s t:Bool)(va vb:Value)(a b:Nat)(ha:Nm w va a)(hb:Nm w vb b)(sa:Sm a)(sb:Sm b):
 Calls Tryz.prog 80 #[.bool s,va,.bool t,vb] w (Sums w (sgn s a+sgn t b)):=by
 have HA:=hid ha
 have HB:=hid hb
 have SA:=hid sa
 have SB:=hid sb
 clear ha hb sa sb
 by_cases hst:s=t
 ·subst hst
  have fin:∀v w1,mX w (a+b) (.returned v) w1->Sums w (sgn s a+sgn s b) (.returned (.tuple #[.bool s,v])) w1:=by
   rintro v w1 ⟨⟨v',hv,hnm⟩,hbel⟩
   obtain rfl:v'=v:=UH
   refine⟨s,v',a+b,rfl,hnm,?_,_,0,rfl,hbel⟩
   unfold sgn;split<;>omega
  have FIN:=hid fin
  clear fin
  have hb:(s==s)=true:=az
  cases s
  all_goals
   go_enter Tryz.func80,Tryz.ntmps80
   go_wp2_with(go_at_call 145;refine(Vq _ va vb a b HA.out HB.out SA.out SB.out).mono ?_;rintro e w1 ⟨⟨v1,rfl,hnm⟩,hb⟩;have q1:=hid (And.intro hnm hb);clear hb hnm)
   go_ret2
   exact FIN.out _ _ ⟨⟨_,rfl,q1.out.1⟩,q1.out.2⟩
 ·by_cases hab:b<=a
  ·have fin:∀v k w1,mX (w.drewN k) (a-b) (.returned v) w1->Sums w (sgn s a+sgn t b) (.returned (.tuple #[.bool s,v])) w1:=by
    rintro v k w1 ⟨⟨v',hv,hnm⟩,hbel⟩
    obtain rfl:v'=v:=UH
    refine⟨s,v',a-b,rfl,hnm,?_,_,k,rfl,hbel⟩
    unfold sgn
    cases s<;>cases t<;>simp at* <;>omega
   have FIN:=hid fin
   clear fin
   have hc:0<=fU a b:=by unfold fU;split;omega;split<;>omega
   cases s<;>cases t<;>simp only[reduceCtorEq,not_true_eq_false,not_false_eq_true] at hst
   all_goals
    go_enter Tryz.func80,Tryz.ntmps80
    go_wp2_with(first
     |(go_at_call 152;refine(zu _ va vb a b HA.out HB.out SA.out SB.out).mono ?_;rintro e w1 ⟨rfl,k,rfl⟩)
     |(go_at_call 148;refine(Pm _ va vb a b (HA.out.below (FP w k) (al0z _)) (HB.out.below (FP w k) (al0z _)) SA.out hab).mono ?_;rintro e w1 ⟨⟨v1,rfl,hnm⟩,hb⟩;have q1:=hid (And.intro hnm hb);clear hb hnm))
    go_ret2
    exact FIN.out _ k _ ⟨⟨_,rfl,q1.out.1⟩,q1.out.2⟩
  have fin:∀v k w1,mX (w.drewN k) (b-a) (.returned v) w1->Sums w (sgn s a+sgn t b) (.returned (.tuple #[.bool t,v])) w1:=by
   rintro v k w1 ⟨⟨v',hv,hnm⟩,hbel⟩
   obtain rfl:v'=v:=UH
   refine⟨t,v',b-a,rfl,hnm,?_,_,k,rfl,hbel⟩
   unfold sgn
   cases s<;>cases t<;>simp at* <;>omega
  have FIN:=hid fin
  clear fin
  have hc:fU a b<0:=by rw[Ce ah];omega
  have hba:a<=b:=ah
  cases s<;>cases t<;>simp only[reduceCtorEq,not_true_eq_false,not_false_eq_true] at hst
  all_goals
   go_enter Tryz.func80,Tryz.ntmps80
   go_wp2_with(first
    |(go_at_call 152;refine(zu _ va vb a b HA.out HB.out SA.out SB.out).mono ?_;rintro e w1 ⟨rfl,k,rfl⟩)
    |(go_at_call 148;refine(Pm _ vb va b a (HB.out.below (FP w k) (al0z _)) (HA.out.below (FP w k) (al0z _)) SB.out hba).mono ?_;rintro e w1 ⟨⟨v1,rfl,hnm⟩,hb⟩;have q1:=hid (And.intro hnm hb);clear hb hnm))
   go_ret2
   exact FIN.out _ k _ ⟨⟨_,rfl,q1.out.1⟩,q1.out.2⟩

theorem VD(w:World)(b c d:Nat)(x y:Int)(hb:IntBlk w b)(hc:IntAt w c x)(hd:IntAt w d y)(sx:Sm x.natAbs)(sy:Sm y.natAbs):
 Calls Tryz.prog 74 #[.pointer (some ⟨b,0,none⟩),.pointer (some ⟨c,0,none⟩),.pointer (some ⟨d,0,none⟩)] w (jE w b (x-y)):=by
 obtain⟨vx,h0,h1,hvx⟩:=hc.cells
 obtain⟨vy,k0,k1,hvy⟩:=hd.cells
 obtain⟨s,hs⟩:∃s,s=decide (x<0):=⟨_,rfl⟩
 rw[<-hs] at h0
 obtain⟨t,ht⟩:∃t,t=decide (y<0):=⟨_,rfl⟩
 rw[<-ht] at k0
 have hlc:=hc.lt
 have hld:=hd.lt
 have K0:=hid (Vz w.drew s (!t) vx vy _ _ hvx.drew hvy.drew sx sy)
 have G0:=hid (fun(w1:World) (neg:Bool) (v1:Value) (n1:Nat) (hw:Below w.heap.size w w1) (hnm:Nm w1 v1 n1)=>oO w1 b neg v1 n1 (hb.below hw (al0z _)) hnm)
 have FIN:=hid (fun(w1 w2:World) (neg:Bool) (n1:Nat) (hw:Below w.heap.size w w1) (hz:sgn neg n1=sgn s x.natAbs+sgn (!t) y.natAbs) (hI:IntAt w2 b (sgn neg n1)) (hG:w1.grownBy w2 (some b))=>
  show jE w b (x-y) (.returned (.pointer (some ⟨b,0,none⟩))) w2 from⟨rfl,by(subst hs ht;(rw[hz,vN,Vy,<-Int.sub_eq_add_neg] at hI;exact hI)),jQ (kG hw (al0z _) _) hG⟩)
 clear hvx hvy hc hd hb hs ht sx sy
 go_enter Tryz.func74,Tryz.ntmps74
 go_wp2_with fail
 go_region_with (first
  |(go_at_call 80;refine K0.out.mono ?_;rintro e w1 ⟨neg,v1,n1,rfl,hnm,hz,hw'⟩;have q1:=hid ((Below.drew (aA w.heap.size w)).trans (Sums.below ⟨neg,v1,n1,rfl,hnm,hz,hw'⟩));have q2:=hid hnm;have q3:=hid hz;clear hnm hz hw')
  |(go_at_call 78;refine(G0.out _ _ _ _ q1.out q2.out).mono ?_;rintro e w2 ⟨rfl,hI,hG⟩;have q4:=hid hI;have q5:=hid hG;clear hI hG))
 all_goals
  go_wp2
  go_ret
  exact FIN.out _ _ _ _ q1.out q3.out q4.out q5.out
theorem iJ(w:World)(k:Nat):Below w.heap.size w (w.drewN k):=⟨rfl,rfl,rfl,al0z _,fun _ _=>rfl⟩
theorem adv{f:FuncId}{args:Array Value}{w:World}{a n:Nat}{v:Value}
 (h:Calls Tryz.prog f args (w.drewN (a+n)) fun e w'=>e=.returned v/\∃m,w'=(w.drewN (a+n)).drewN m):
 Calls Tryz.prog f args (w.drewN (a+n)) fun e w''=>e=.returned v/\∃m,w''=w.drewN (a+m):=
 h.mono fun _ _ ⟨he,m,hm⟩=>⟨he,n+m,by rw[hm,World.drewN_drewN,Nat.add_assoc]⟩
def gU(x y:Int):Int:=if x<y then-1 else if y<x then 1 else 0
theorem adx{x y:Int}(hx: ¬x<0)(hy: ¬y<0):gU x y=fU x.natAbs y.natAbs:=by
 unfold gU fU
 repeat' split
 all_goals omega
theorem adz{x y:Int}(hx:x<0)(hy:y<0):gU x y= -fU x.natAbs y.natAbs:=by
 unfold gU fU
 repeat' split
 all_goals omega
theorem VG(a b:Nat): -1<=fU a b/\fU a b<=1:=by
 unfold fU
 repeat' split
 all_goals omega
theorem xO(w:World)(c d:Nat)(x y:Int)(hc:IntAt w c x)(hd:IntAt w d y)(sx:Sm x.natAbs)(sy:Sm y.natAbs):
 Calls Tryz.prog 195 #[.pointer (some ⟨c,0,none⟩),.pointer (some ⟨d,0,none⟩)] w fun e w'=>e=.returned (.int .i64 (gU x y))/\∃n,w'=w.drewN n:=by
 obtain⟨vx,h0,h1,hvx⟩:=hc.cells
 obtain⟨vy,k0,k1,hvy⟩:=hd.cells
 have K0:=hid (fun n=>zu (w.drewN n) vx vy _ _ (hvx.below (iJ w n) (al0z _)) (hvy.below (iJ w n) (al0z _)) sx sy)
 clear hvx hvy hc hd sx sy
 by_cases hx:x<0
 ·have dx:decide (x<0)=true:=BJ
  rw[dx] at h0
  clear dx
  by_cases hy:y<0
  ·have dy:decide (y<0)=true:=qm
   rw[dy] at k0
   have HV:=hid (adz hx hy)
   have hr:=VG x.natAbs y.natAbs
   exact abN
  have dy:decide (y<0)=false:=qm
  rw[dy] at k0
  have HV:=hid (show gU x y= -1 by unfold gU;rw[if_pos ah])
  exact aca
 ·have dx:decide (x<0)=false:=BJ
  rw[dx] at h0
  clear dx
  by_cases hy:y<0
  ·have dy:decide (y<0)=true:=qm
   rw[dy] at k0
   have HV:=hid (show gU x y=1 by unfold gU;rw[if_neg ah,if_pos ah])
   exact aca
  have dy:decide (y<0)=false:=qm
  rw[dy] at k0
  have HV:=hid (adx hx hy)
  exact abN
def lim(lo hi x:Int):Int:=if x<lo then lo else if hi<x then hi else x
def qF(lo hi x:Int):Bool:=if x<lo then true else if hi<x then true else false
theorem adA{lo hi:Int}(h:lo<=hi)(x:Int):lo<=lim lo hi x/\lim lo hi x<=hi:=by
 unfold lim;repeat' split
 all_goals omega
def s16(x:Int):Int:=lim (-32768) 32767 x
def s32(x:Int):Int:=lim (-2147483648) 2147483647 x
theorem lJ(x:Int): -32768<=s16 x/\s16 x<=32767:=adA ah x
def d16(x:Int):Bool:=qF (-32768) 32767 x
def VH(w:World)(n:Int)(b:Bool)(e:Ending)(w':World):Prop:=e=.returned (.tuple #[.int .i64 n,.bool b])/\w=w'
theorem adB(x lo hi:Int)(w:World):
 Calls Tryz.prog 186 #[.int .i64 x,.int .i64 lo,.int .i64 hi] w (VH w (lim lo hi x) (qF lo hi x)):=by
 unfold lim qF
 go_enter Tryz.func186,Tryz.ntmps186
 go_wp2
 all_goals (go_ret2;exact⟨by simp[*],rfl⟩)
theorem adC(x:Int)(w:World):Calls Tryz.prog 142 #[.int .i64 x] w (VH w (s16 x) (d16 x)):=by
 go_enter Tryz.func142,Tryz.ntmps142
 go_wp2_with(go_at_call 186;refine(adB _ _ _ _).mono ?_;rintro e w' ⟨rfl,rfl⟩)
 go_ret2
 exact⟨rfl,rfl⟩
theorem FT(w:World)(b c:Nat)(z:Int)(n:Nat)(hb:IntBlk w b)(hc:IntAt w c z)(hs:Sm z.natAbs)(hn:n<=10000):
 Calls Tryz.prog 73 #[.pointer (some ⟨b,0,none⟩),.pointer (some ⟨c,0,none⟩),.int .u64 (n:Nat)] w (jE w b (z/2^n)):=by
 obtain⟨v,h0,h1,hv⟩:=hc.cells
 have HB:=hid hb
 have HV:=hid hv
 have HS:=hid hs
 clear hb hv hc hs
 by_cases hz:z<0
 ·have hd:decide (z<0)=true:=by simpa using hz
  rw[hd] at h0
  clear hd
  go_enter Tryz.func73,Tryz.ntmps73
  go_wp2_with fail
  refine(Pm _ v _ z.natAbs 1 (HV.out.below ((aA _ _).alloc (al0z _) _) (al0z _)) (Nm.one w) HS.out ah).mono ?_
  rintro e w1 ⟨⟨v1,rfl,hnm⟩,hb⟩
  have q1:=hid hb;have q2:=hid hnm;clear hb hnm
  go_wp2_with fail
  refine(Vu w1 v1 (z.natAbs-1) n q2.out (by have:=HS.out;unfold Sm at*;omega) hn).mono ?_
  rintro e w2 ⟨⟨v2,rfl,hnm⟩,hb⟩
  have q3:=hid hb;have q4:=hid hnm;clear hb hnm
  go_wp2_with fail
  refine(Vq _ v2 _ ((z.natAbs-1)/2^n) 1 (q4.out.below ((aA _ _).alloc (al0z _) _) (al0z _)) (Nm.one w2) (by have:=HS.out;have h5:=Nat.div_le_self (z.natAbs-1) (2^n);unfold Sm at*;omega) (aW aB)).mono ?_
  rintro e w3 ⟨⟨v3,rfl,hnm⟩,hb⟩
  have q5:=hid hb;have q6:=hid hnm;clear hb hnm
  go_wp2_with fail
  refine(oO _ b _ _ _ (((((HB.out.below ((aA _ _).alloc (al0z _) _) (al0z _)).below q1.out (al0z _)).below q3.out (al0z _)).below ((aA _ _).alloc (al0z _) _) (al0z _)).below q5.out (al0z _)) q6.out).mono ?_
  rintro e w4 ⟨rfl,hI,hG⟩
  have q7:=hid (And.intro hI hG);clear hI hG
  go_wp2
  go_ret
  refine⟨rfl,?_,?_⟩
  ·rw[adu hz n]
   exact q7.out.1
  refine jQ ?_ q7.out.2
  exact jQ (kG ((aA _ _).alloc (al0z _) _) (al0z _) _) (jQ (kG q1.out (al0z _) _) (jQ (kG q3.out (al0z _) _) (jQ (kG ((aA _ _).alloc (al0z _) _) (al0z _) _) (kG q5.out (al0z _) _))))
 ·have hd:decide (z<0)=false:=by simpa using hz
  rw[hd] at h0
  clear hd
  go_enter Tryz.func73,Tryz.ntmps73
  go_wp2_with(first
   |(go_at_call 147;refine(Vu w v z.natAbs n HV.out HS.out hn).mono ?_;rintro e w1 ⟨⟨v',rfl,hnm⟩,hb⟩;have q1:=hid hb;have q2:=hid hnm;clear hb hnm)
   |(go_at_call 78;refine(oO _ b _ _ (z.natAbs/2^n) (HB.out.below q1.out (al0z _)) q2.out).mono ?_;rintro e w2 ⟨rfl,hI,hG⟩;have q4:=hid (And.intro hI hG);clear hI hG))
  go_ret
  refine⟨rfl,?_,jQ (kG q1.out (al0z _) _) q4.out.2⟩
  have e:z/2^n=sgn false (z.natAbs/2^n):=by
   unfold sgn
   obtain⟨m,rfl⟩:=dP (show 0<=z from ah)
   simp
  rw[e]
  exact q4.out.1

end Go.Proofs.YthoiikkjjaldnaaGreatDoor
