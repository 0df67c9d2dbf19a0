/- Lemmas. -/
import Derived.Test.YtaahbkbnfpajdaaGreatDoorZef0e
namespace Go.Proofs.YtaahbkbnfpajdaaGreatDoor
set_option linter.all false
set_option maxRecDepth 100000
set_option maxHeartbeats 8000000
open Go.RowKit
variable{x:Int}{m:Mm}{w:Wd}
def okK(x:Int):Bool:=decide (-31000<=x/\x<=31000)
theorem acw(a: -31000<=x)(b:x<=31000):okK x=true:=by unfold okK;simp;omega
theorem acx(h:x< -31000\/31000<x):okK x=false:=by unfold okK;simp;omega
def sU(m:Mm):Prop:=(20<=m.la/\m.la<=79)/\(0<=m.se/\m.se<65536)/\(0<=m.ga/\m.ga<=32767)/\(0<=m.pi/\m.pi<=18022)/\0<=m.er/\m.er<=6
instance (m:Mm):Decidable (sU m):=by unfold sU;infer_instance
def aO(m:Mm):Bool:=m.r.all okK&&(aG m.p&&(aG m.e&&decide (sU m)))
theorem acy(h:m.r.all okK=false):aO m=false:=by unfold aO;rw[h];rfl
theorem acz(h:aG m.p=false):aO m=false:=by unfold aO;rw[h];simp
theorem acA(h:aG m.e=false):aO m=false:=by unfold aO;rw[h];simp
theorem Ah(h: ¬sU m):aO m=false:=by unfold aO;simp[h]
theorem Ai(a:m.r.all okK=true)(b:aG m.p=true)(c:aG m.e=true)(d:sU m):aO m=true:=by unfold aO;simp[a,b,c,d]
theorem jr(h:aO m=true):m.r.all okK=true/\aG m.p=true/\aG m.e=true/\sU m:=by
 unfold aO at h;simpa using h
theorem akX:(Tryz.prog.info? 53).map (·.size)=some 80:=aB
theorem sW:(Tryz.prog.info? 52).map (·.size)=some 8:=aB
theorem Iu(m:Mm)(k:m.ok)(w:Wd):Cl 23 #[.agg m.ag] w (Ip w (aO m)):=by
 have M:=af (MB.new w m);have H:=af ((aP _ w).alloc (ax _) (.cells m.ag 55));obtain⟨W,f⟩:=ak (w.alloc (.cells m.ag 55));rw[<-f] at M H;have s:=af f;clear f;have K:=af k;have HI8:=af (fun(xs:Lz) (hx:xs.length=8) (j:Nat) (hj:j<8) (w:Wd)=>show(Instr.index 52 (.agg (au xs).toArray) (.int .i64 (j:Nat))).run Tryz.prog w=.ok (.int .i64 (xs.getD j 0)) w from jW aU xs hx j hj w);have c:=af (fun(xs:Lz) (hx:xs.length=80) (j:Nat) (hj:j<80) (w:Wd)=>show(Instr.index 53 (.agg (au xs).toArray) (.int .i64 (j:Nat))).run Tryz.prog w=.ok (.int .i64 (xs.getD j 0)) w from jW iV xs hx j hj w);clear k;go_enter Tryz.func23,Tryz.ntmps23;go_wp2_with(first
  |(rw[<-s.o])
  |(refine bZ rfl 52 (.tmp 10) rfl _ _ rfl (au m.r) _ (M.o.R K.o) aU rfl (by rw[bf,K.o.r];exact sW) ?_))
 go_loop [12] (fun a=> ∃k:Nat,k<=8/\a=.int .i64 k/\Hy (allTo okK m.r k)) (fun a=>8-(intOf a).toNat)
 case atStart=>exact⟨0,ah,rfl,af allTo.zero⟩
 case round=>
  obtain⟨k,d,rfl,HY⟩:=hrel;by_cases hlt:k<8
  ·exact ahP
  obtain rfl:k=8:=ah;have n:=aj (m.r.all okK=true) (HY.o.all (by rw[K.o.r];exact ax _));clear HY hlt d;go_wp2_with(refine bZ rfl 52 (.tmp 22) rfl _ _ rfl (au m.p) _ (M.o.P K.o) aU rfl (by rw[bf,K.o.p];exact sW) ?_);go_loop [24] (fun a=> ∃k:Nat,k<=8/\a=.int .i64 k/\Hy (allTo gY m.p k)) (fun a=>8-(intOf a).toNat)
  case atStart=>exact⟨0,ah,rfl,af allTo.zero⟩
  case round=>
   obtain⟨k,d,rfl,HY⟩:=hrel;by_cases hlt:k<8
   ·have u:=HI8.o m.p K.o.p k hlt
    obtain⟨x,hx⟩:=ak (m.p.getD k 0);rw[<-hx] at u;have HX:=af hx;clear hx;by_cases z:x< -32768\/32767<x
    ·have HF:=aj (aO m=false) (acz (jb (i:=k) (by rw[K.o.p];exact hlt) (ve ww)))
     exact aic
    have b:=af (HY.o.succ Df);have t:=mW (x:=x) ah ah;clear z;go_wp2_with(go_at_call 57;refine(zZ _ _).mono ?_;rintro e w' ⟨rfl,rfl⟩);exact yg
   obtain rfl:k=8:=ah;have l:=aj (aG m.p=true) (HY.o.all (by rw[K.o.p];exact ax _));clear HY hlt d;go_wp2_with(refine bZ rfl 53 (.tmp 32) rfl _ _ rfl (au m.e) _ (M.o.E K.o) iV rfl (by rw[bf,K.o.e];exact akX) ?_);go_loop [34] (fun a=> ∃k:Nat,k<=80/\a=.int .i64 k/\Hy (allTo gY m.e k)) (fun a=>80-(intOf a).toNat)
   case atStart=>exact⟨0,ah,rfl,af allTo.zero⟩
   case round=>
    obtain⟨k,d,rfl,HY⟩:=hrel;by_cases hlt:k<80
    ·have u:=c.o m.e K.o.e k hlt
     obtain⟨x,hx⟩:=ak (m.e.getD k 0);rw[<-hx] at u;have HX:=af hx;clear hx;by_cases z:x< -32768\/32767<x
     ·have HF:=aj (aO m=false) (acA (jb (i:=k) (by rw[K.o.e];exact hlt) (ve ww)))
      exact aic
     have b:=af (HY.o.succ Df);have t:=mW (x:=x) ah ah;clear z;go_wp2_with(go_at_call 57;refine(zZ _ _).mono ?_;rintro e w' ⟨rfl,rfl⟩);exact yg
    obtain rfl:k=80:=ah;have g:=aj (aG m.e=true) (HY.o.all (by rw[K.o.e];exact ax _));clear HY hlt d;have v:W.cell? ⟨w.heap.size,98,none⟩=some (.int .i64 m.la):=M.o.cla K.o;have y:W.cell? ⟨w.heap.size,100,none⟩=some (.int .i64 m.se):=M.o.cse K.o;have A:W.cell? ⟨w.heap.size,96,none⟩=some (.int .i64 m.ga):=M.o.cga K.o;have B:W.cell? ⟨w.heap.size,97,none⟩=some (.int .i64 m.pi):=M.o.cpi K.o;have C:W.cell? ⟨w.heap.size,99,none⟩=some (.int .i64 m.er):=M.o.cer K.o;by_cases D:m.la<20
    ·exact yc
    by_cases b1:79<m.la
    ·exact yc
    by_cases b2:m.se<0
    ·exact yc
    by_cases F:65536<=m.se
    ·exact yc
    by_cases G:m.ga<0
    ·exact yc
    by_cases I:32767<m.ga
    ·exact yc
    by_cases J:m.pi<0
    ·exact yc
    by_cases L:18022<m.pi
    ·exact yc
    by_cases N:m.er<0
    ·exact yc
    by_cases O:6<m.er
    ·have HF:=aj (aO m=false) (Ah (by unfold sU;omega))
     have Q:decide (m.er<=6)=false:=aC;go_wp2;go_ret;exact⟨qO,H.o⟩
    have q:=aj (aO m=true) (Ai n.o l.o g.o (by unfold sU;omega));go_wp2;go_ret;exact⟨by rw[q.o];rfl,H.o⟩
def eQ:Mm:=⟨List.replicate 8 0,List.replicate 8 0,List.replicate 80 0,0,0,20,0,21845,false⟩
theorem Aj:eQ.ok:=⟨rfl,rfl,rfl⟩
theorem akY:(Tryz.zeroCells55.setIfInBounds 98 (.int .i64 20)).setIfInBounds 100 (.int .i64 21845)=eQ.ag:=aB
theorem N7(w:Wd):Cl 22 #[] w fun e w'=>e=.returned (.agg eQ.ag)/\Bw w w':=by
 have hR:=acv (fn:=Tryz.f22) (p:=0) rfl;have HZ:MB (w.alloc (.cells Tryz.zeroCells55 55)) w.heap.size aZ:=aaS;have HZ:=af HZ;go_enter Tryz.func22,Tryz.ntmps22;exact ah8
theorem Oa(w:Wd):Cl 17 #[] w fun e w'=>e=.returned (.agg eQ.ag)/\Bw w w':=by
 have hR:=acv (fn:=Tryz.f17) (p:=0) rfl;have HZ:MB (w.alloc (.cells Tryz.zeroCells55 55)) w.heap.size aZ:=aaS;have HZ:=af HZ;go_enter Tryz.func17,Tryz.ntmps17;exact ah8
theorem acB{g o B:Nat}{xs:Lz}(h:w.rangeAt g o (au xs))(G:g<B):Rs w B (some ⟨g,o,none⟩) xs:=
 ⟨qP,fun _=>⟨_,rfl,G,fun j u a=>by
   have e:(⟨g,o,none⟩:Addr).add j=⟨g,o+j,none⟩:=Addr.add_mid g o j;rw[e];exact h j u a⟩⟩
theorem acC(x hi:Int)(w:Wd):Cl 91 #[.int .i64 x,.int .i64 hi] w fun e w'=>e=.returned (.bool (decide (0<=x/\x<=hi)))/\w=w':=by
 go_enter Tryz.func91,Tryz.ntmps91;by_cases a:0<=x
 ·go_wp2
  go_ret;exact⟨by simp[a],rfl⟩
 have b:decide (0<=x/\x<=hi)=false:=kV (fun h=>a h.1);go_wp2;go_ret;exact⟨by first|rfl|(rw[b];rfl),rfl⟩
theorem Iw{hi:Int}(h:0<=x/\x<=hi):Cl 91 #[.int .i64 x,.int .i64 hi] w fun e w'=>e=.returned (.bool true)/\w=w':=by
 have:=acC x hi w;rwa [kH h] at this
theorem Iy{hi:Int}(h: ¬(0<=x/\x<=hi)):Cl 91 #[.int .i64 x,.int .i64 hi] w fun e w'=>e=.returned (.bool false)/\w=w':=by
 have:=acC x hi w;rwa [kV h] at this
theorem Iz(m:Mm)(k:m.ok)(v:W64 m.nums)(w:Wd):Cl 40 #[.agg m.ag] w (Ip w (aO m)):=by
 have M:=af (MB.new w m);have H:=af ((aP _ w).alloc (ax _) (.cells m.ag 55));have hlt:w.heap.size<(w.alloc (.cells m.ag 55)).heap.size:=ay;obtain⟨W,F⟩:=ak (w.alloc (.cells m.ag 55));rw[<-F] at M H hlt;have Q:=af F;have t:=af hlt;clear F hlt;have K:=af k;have HI8:=af (fun(xs:Lz) (hx:xs.length=8) (j:Nat) (hj:j<8) (w:Wd)=>show(Instr.index 52 (.agg (au xs).toArray) (.int .i64 (j:Nat))).run Tryz.prog w=.ok (.int .i64 (xs.getD j 0)) w from jW aU xs hx j hj w);have J:=af (mX (some ⟨w.heap.size,8,none⟩) 8 8 W.heap.size m.p W (acB (M.o.P K.o) t.o) k.p ah);have I:=af (mX (some ⟨w.heap.size,16,none⟩) 80 80 W.heap.size m.e W (acB (M.o.E K.o) t.o) k.e ah);clear k;go_enter Tryz.func40,Tryz.ntmps40;go_wp2_with(first
  |(rw[<-Q.o])
  |(refine bZ rfl 52 (.tmp 6) rfl _ _ rfl (au m.r) _ (M.o.R K.o) aU rfl (by rw[bf,K.o.r];exact sW) ?_))
 go_loop [8] (fun G=> ∃k:Nat,k<=8/\G=.int .i64 k/\Hy (allTo okK m.r k)) (fun G=>8-(intOf G).toNat)
 case atStart=>exact⟨0,ah,rfl,af allTo.zero⟩
 case round=>
  obtain⟨k,T,rfl,HY⟩:=hrel;by_cases hlt:k<8
  ·exact ahP
  obtain rfl:k=8:=ah;have O:=aj (m.r.all okK=true) (HY.o.all (by rw[K.o.r];exact ax _));clear HY hlt T;have V:W.cell? ⟨w.heap.size,98,none⟩=some (.int .i64 m.la):=M.o.cla K.o;have X:W.cell? ⟨w.heap.size,100,none⟩=some (.int .i64 m.se):=M.o.cse K.o;have Y:W.cell? ⟨w.heap.size,96,none⟩=some (.int .i64 m.ga):=M.o.cga K.o;have Z:W.cell? ⟨w.heap.size,97,none⟩=some (.int .i64 m.pi):=M.o.cpi K.o;have a5:W.cell? ⟨w.heap.size,99,none⟩=some (.int .i64 m.er):=M.o.cer K.o;have U:=v m.la (by unfold Mm.nums;simp);obtain⟨x,hx⟩:∃x,IntKind.i64.wrap (m.la-20)=x:=⟨_,rfl⟩;have y:x=(m.la-20+9223372036854775808)%18446744073709551616-9223372036854775808:=by rw[<-hx,mM]
  have HX:=af y;clear y;cases g1:aG m.p with
  |false=>
   have c:=J.o;rw[g1] at c;have d:=af c;have HF:=aj (aO m=false) (acz g1);clear c;exact zL
  |true=>
  have c:=J.o;rw[g1] at c;have d:=af c;have N:=af g1;clear c g1;cases g2:aG m.e with
  |false=>
   have b:=I.o;rw[g2] at b;have f:=af b;have HF:=aj (aO m=false) (acA g2);clear b;exact zL
  |true=>
  have b:=I.o;rw[g2] at b;have f:=af b;have L:=af g2;clear b g2;by_cases g:20<=m.la/\m.la<=79;rotate_left
  ·have a:=af (Iy (x:=x) (hi:=59) (w:=W) wF)
   have HF:=aj (aO m=false) (Ah MN);clear g;exact zL
  have a:=af (Iw (x:=x) (hi:=59) (w:=W) wF);have z:=af g;clear g;by_cases l:0<=m.se/\m.se<65536;rotate_left
  ·have C4:=af (Iy (x:=m.se) (hi:=65535) (w:=W) wF)
   have HF:=aj (aO m=false) (Ah MN);clear l;exact zL
  have C4:=af (Iw (x:=m.se) (hi:=65535) (w:=W) wF);have A:=af l;clear l;by_cases n:0<=m.ga/\m.ga<=32767;rotate_left
  ·have C5:=af (Iy (x:=m.ga) (hi:=32767) (w:=W) wF)
   have HF:=aj (aO m=false) (Ah MN);clear n;exact zL
  have C5:=af (Iw (x:=m.ga) (hi:=32767) (w:=W) wF);have B:=af n;clear n;by_cases q:0<=m.pi/\m.pi<=18022;rotate_left
  ·have C6:=af (Iy (x:=m.pi) (hi:=18022) (w:=W) wF)
   have HF:=aj (aO m=false) (Ah MN);clear q;exact zL
  have C6:=af (Iw (x:=m.pi) (hi:=18022) (w:=W) wF);have C:=af q;clear q;by_cases s:0<=m.er/\m.er<=6;rotate_left
  ·have S:=af (Iy (x:=m.er) (hi:=6) (w:=W) wF)
   have HF:=aj (aO m=false) (Ah MN);clear s;exact zL
  have S:=af (Iw (x:=m.er) (hi:=6) (w:=W) wF);have D:=af s;clear s;have HF:=aj (aO m=true) (Ai O.o N.o L.o ⟨z.o,A.o,B.o,C.o,D.o⟩);exact zL
