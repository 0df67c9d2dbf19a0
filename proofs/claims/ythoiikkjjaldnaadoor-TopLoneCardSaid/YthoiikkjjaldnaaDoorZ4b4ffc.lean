/- Texts that the law rests on, laid together: PkP, CubeW, BetterW. -/
import Derived.Test.YthoiikkjjaldnaaDoorZ7e0d48
import Derived.Test.YthoiikkjjaldnaaDoorZ4b8d9d
import Derived.Test.YthoiikkjjaldnaaDoorZ4df1bd
import Derived.Test.YthoiikkjjaldnaaDoorZa172bc
import Derived.Laws.Externs
import Derived.Test.YthoiikkjjaldnaaDoorZbe9dc0
import Derived.Test.YthoiikkjjaldnaaDoorZd03041
import Derived.Test.YthoiikkjjaldnaaDoorZcd86f7
import Derived.BigQuiet
import Derived.Deep.QuietTactic
set_option maxHeartbeats 4000000
namespace Go.Proofs.YthoiikkjjaldnaaDoor
set_option linter.unusedVariables false
set_option linter.unusedSimpArgs false
set_option maxRecDepth 100000
open Go.RowKit
def bitS (X:Nat):Nat->Nat
 |0=>0
 |k+1=>bitS X k+X/2^k%2
theorem bitS_end (X:Nat) {j m:Nat} (h:X/2^j=0) (hm:j<=m):bitS X m=bitS X j:=by
 induction m with
 |zero=>obtain rfl:j=0:=by omega
        rfl
 |succ m ih=>
  by_cases e:j=m+1
  ·rw[e]
  ·have h1:=ih (by omega)
   have h2:X/2^m=0:=by
    obtain⟨d,rfl⟩: ∃d,m=j+d:=⟨m-j,by omega⟩
    rw[Nat.pow_add,<-Nat.div_div_eq_div_mul,h,Nat.zero_div]
   simp only[bitS]
   rw[h1,h2,Nat.zero_mod,Nat.add_zero]
theorem half_pow (X j:Nat):X/2^j/2=X/2^(j+1):=by rw[Nat.div_div_eq_div_mul,Nat.pow_succ]
def parB (x:Int):Nat:=bitS x.toNat 63
theorem top63 {x:Int} (h:x<=9223372036854775807):x.toNat/2^63=0:=Nat.div_eq_of_lt (by omega)
def pkPar (ps:List Int):Int:=((parB (ps.getD 0 0)+parB (ps.getD 9 0)+parB (ps.getD 17 0))%2:Nat)
def parS (a b c:Int) (k:Nat):Nat:=(if 0<k then parB a else 0)+(if 1<k then parB b else 0)+(if 2<k then parB c else 0)
theorem xor_bits (a b:Nat):bits BinOp.xor IntKind.i64 ((a:Int)%2) ((b:Int)%2)=((a+b:Nat):Int)%2:=by
 have ha:(a:Int)%2=0\/(a:Int)%2=1:=by omega
 have hb:(b:Int)%2=0\/(b:Int)%2=1:=by omega
 have e:((a+b:Nat):Int)%2=((a:Int)%2+(b:Int)%2)%2:=by omega
 rw[e]
 rcases ha with h|h<;>rcases hb with h2|h2<;>rw[h,h2]<;>rfl
theorem packParity_any (ps:List Int) (w:World) (hl:ps.length=25) (hw:W64 ps):
 Calls Tryd.prog 69 #[.agg (agi ps)] w fun e w'=>e= .returned (.int .i64 (pkPar ps))/\Below w.heap.size w w':=by
 have P0:=IB.new w 77 ps
 have B0:=hid ((Below.refl w.heap.size w).alloc (Nat.le_refl _) (.cells (agi ps) 77))
 have c0:=IB.cell P0 0 (by omega)
 have c1:=IB.cell P0 9 (by omega)
 have c2:=IB.cell P0 17 (by omega)
 have HA:=hw.at_ 0
 have HB:=hw.at_ 9
 have HC:=hw.at_ 17
 have HP:=hid (show pkPar ps=((parB (ps.getD 0 0)+parB (ps.getD 9 0)+parB (ps.getD 17 0))%2:Nat) from rfl)
 obtain⟨a,ha⟩: ∃a,a=ps.getD 0 0:=⟨_,rfl⟩
 obtain⟨b,hb⟩: ∃b,b=ps.getD 9 0:=⟨_,rfl⟩
 obtain⟨c,hc⟩: ∃c,c=ps.getD 17 0:=⟨_,rfl⟩
 rw[<-ha] at c0 HA HP
 rw[<-hb] at c1 HB HP
 rw[<-hc] at c2 HC HP
 obtain⟨V,hV⟩: ∃V,V=w.alloc (.cells (agi ps) 77):=⟨_,rfl⟩
 rw[<-hV] at c0 c1 c2 B0
 have HV:=hid hV
 have HA:=hid HA
 have HB:=hid HB
 have HC:=hid HC
 clear ha hb hc hV hw hl P0
 go_enter Tryd.func69,Tryd.ntmps69
 go_wp2_with (rw[<-HV.out];clear HV)
 go_loop [3,17] (fun nv iv=> ∃k:Nat,k<=3/\iv= .int .i64 k/\nv= .int .i64 ((parS a b c k:Nat)%2:Int)) (fun _ iv=>3-(intOf iv).toNat)
 case atStart=>exact⟨0,by omega,rfl,rfl⟩
 case round=>
  obtain⟨k,hk,rfl,rfl⟩:=hrel
  by_cases hlt:k<3
  ·obtain rfl|rfl|rfl:k=0\/k=1\/k=2:=by omega
   ·have HS:=hid (show parS a b c (0+1)=parS a b c 0+parB a from by simp[parS])
    have hix: ∀w',(Instr.index 151 (.agg #[.int .i64 a,.int .i64 b,.int .i64 c]) (.int .i64 0)).run Tryd.prog w'= .ok (.int .i64 a) w':=fun _=>by kernel_rfl
    obtain⟨n0,hn0⟩: ∃n0,n0=parS a b c 0:=⟨_,rfl⟩
    rw[<-hn0] at HS|-
    clear hn0
    try rw[show((0:Nat):Int)=0 from rfl]
    have hdec:decide ((0:Int)<3)=true:=rfl
    go_wp2
    go_loop [3,5] (fun nv xv=> ∃(j N:Nat) (y:Int),j<=63/\y<=9223372036854775807/\xv= .int .i64 y/\nv= .int .i64 ((N:Int)%2)/\Hid (N=n0+bitS a.toNat j)/\Hid (y.toNat=a.toNat/2^j)) (fun _ xv=>(intOf xv).toNat)
    case atStart=>exact⟨0,n0,a,by omega,HA.out.2,rfl,rfl,hid rfl,hid (by simp)⟩
    case round=>
     obtain⟨j,N,y,hj,hy,rfl,rfl,HN,HY⟩:=hrel
     by_cases hpos:0<y
     ·have hj63:j<63:=by
       refine Classical.byContradiction fun hc=>?_
       obtain rfl:j=63:=by omega
       have:=HY.out
       rw[top63 HA.out.2] at this
       omega
      have ha:=and1 y
      have hx:=xor_bits N y.toNat
      rw[show((y.toNat:Nat):Int)%2=y%2 by omega] at hx
      obtain⟨M,hM⟩: ∃M,M=N+y.toNat:=⟨_,rfl⟩
      rw[<-hM] at hx
      have HE:=hid (show bitS a.toNat (j+1)=bitS a.toNat j+a.toNat/2^j%2 from rfl)
      have HH:=hid (half_pow a.toNat j)
      have HM:=hid hM
      clear hM
      go_wp2
      refine⟨⟨j+1,bitS a.toNat (j+1)+n0,y/2,by omega,by omega,rfl,?_,hid (Nat.add_comm _ _),hid ?_⟩,?_⟩
      ·congr 1;have h1:=HM.out;have h2:=HE.out;have h3:=HN.out;have h4:=HY.out;omega
      ·rw[<-HH.out,<-HY.out];omega
      ·simp[intOf]<;>omega
     ·have hz:a.toNat/2^j=0:=by have:=HY.out;omega
      have HE:=hid (show N=parS a b c (0+1) from by rw[HN.out,HS.out];unfold parB;rw[bitS_end _ hz hj])
      clear hz
      go_wp2
      refine⟨⟨0+1,by omega,rfl,by rw[HE.out]⟩,?_⟩
      simp[intOf]
   ·have HS:=hid (show parS a b c (1+1)=parS a b c 1+parB b from by simp[parS])
    have hix: ∀w',(Instr.index 151 (.agg #[.int .i64 a,.int .i64 b,.int .i64 c]) (.int .i64 1)).run Tryd.prog w'= .ok (.int .i64 b) w':=fun _=>by kernel_rfl
    obtain⟨n0,hn0⟩: ∃n0,n0=parS a b c 1:=⟨_,rfl⟩
    rw[<-hn0] at HS|-
    clear hn0
    try rw[show((1:Nat):Int)=1 from rfl]
    have hdec:decide ((1:Int)<3)=true:=rfl
    go_wp2
    go_loop [3,5] (fun nv xv=> ∃(j N:Nat) (y:Int),j<=63/\y<=9223372036854775807/\xv= .int .i64 y/\nv= .int .i64 ((N:Int)%2)/\Hid (N=n0+bitS b.toNat j)/\Hid (y.toNat=b.toNat/2^j)) (fun _ xv=>(intOf xv).toNat)
    case atStart=>exact⟨0,n0,b,by omega,HB.out.2,rfl,rfl,hid rfl,hid (by simp)⟩
    case round=>
     obtain⟨j,N,y,hj,hy,rfl,rfl,HN,HY⟩:=hrel
     by_cases hpos:0<y
     ·have hj63:j<63:=by
       refine Classical.byContradiction fun hc=>?_
       obtain rfl:j=63:=by omega
       have:=HY.out
       rw[top63 HB.out.2] at this
       omega
      have ha:=and1 y
      have hx:=xor_bits N y.toNat
      rw[show((y.toNat:Nat):Int)%2=y%2 by omega] at hx
      obtain⟨M,hM⟩: ∃M,M=N+y.toNat:=⟨_,rfl⟩
      rw[<-hM] at hx
      have HE:=hid (show bitS b.toNat (j+1)=bitS b.toNat j+b.toNat/2^j%2 from rfl)
      have HH:=hid (half_pow b.toNat j)
      have HM:=hid hM
      clear hM
      go_wp2
      refine⟨⟨j+1,bitS b.toNat (j+1)+n0,y/2,by omega,by omega,rfl,?_,hid (Nat.add_comm _ _),hid ?_⟩,?_⟩
      ·congr 1;have h1:=HM.out;have h2:=HE.out;have h3:=HN.out;have h4:=HY.out;omega
      ·rw[<-HH.out,<-HY.out];omega
      ·simp[intOf]<;>omega
     ·have hz:b.toNat/2^j=0:=by have:=HY.out;omega
      have HE:=hid (show N=parS a b c (1+1) from by rw[HN.out,HS.out];unfold parB;rw[bitS_end _ hz hj])
      clear hz
      go_wp2
      refine⟨⟨1+1,by omega,rfl,by rw[HE.out]⟩,?_⟩
      simp[intOf]
   ·have HS:=hid (show parS a b c (2+1)=parS a b c 2+parB c from by simp[parS])
    have hix: ∀w',(Instr.index 151 (.agg #[.int .i64 a,.int .i64 b,.int .i64 c]) (.int .i64 2)).run Tryd.prog w'= .ok (.int .i64 c) w':=fun _=>by kernel_rfl
    obtain⟨n0,hn0⟩: ∃n0,n0=parS a b c 2:=⟨_,rfl⟩
    rw[<-hn0] at HS|-
    clear hn0
    try rw[show((2:Nat):Int)=2 from rfl]
    have hdec:decide ((2:Int)<3)=true:=rfl
    go_wp2
    go_loop [3,5] (fun nv xv=> ∃(j N:Nat) (y:Int),j<=63/\y<=9223372036854775807/\xv= .int .i64 y/\nv= .int .i64 ((N:Int)%2)/\Hid (N=n0+bitS c.toNat j)/\Hid (y.toNat=c.toNat/2^j)) (fun _ xv=>(intOf xv).toNat)
    case atStart=>exact⟨0,n0,c,by omega,HC.out.2,rfl,rfl,hid rfl,hid (by simp)⟩
    case round=>
     obtain⟨j,N,y,hj,hy,rfl,rfl,HN,HY⟩:=hrel
     by_cases hpos:0<y
     ·have hj63:j<63:=by
       refine Classical.byContradiction fun hc=>?_
       obtain rfl:j=63:=by omega
       have:=HY.out
       rw[top63 HC.out.2] at this
       omega
      have ha:=and1 y
      have hx:=xor_bits N y.toNat
      rw[show((y.toNat:Nat):Int)%2=y%2 by omega] at hx
      obtain⟨M,hM⟩: ∃M,M=N+y.toNat:=⟨_,rfl⟩
      rw[<-hM] at hx
      have HE:=hid (show bitS c.toNat (j+1)=bitS c.toNat j+c.toNat/2^j%2 from rfl)
      have HH:=hid (half_pow c.toNat j)
      have HM:=hid hM
      clear hM
      go_wp2
      refine⟨⟨j+1,bitS c.toNat (j+1)+n0,y/2,by omega,by omega,rfl,?_,hid (Nat.add_comm _ _),hid ?_⟩,?_⟩
      ·congr 1;have h1:=HM.out;have h2:=HE.out;have h3:=HN.out;have h4:=HY.out;omega
      ·rw[<-HH.out,<-HY.out];omega
      ·simp[intOf]<;>omega
     ·have hz:c.toNat/2^j=0:=by have:=HY.out;omega
      have HE:=hid (show N=parS a b c (2+1) from by rw[HN.out,HS.out];unfold parB;rw[bitS_end _ hz hj])
      clear hz
      go_wp2
      refine⟨⟨2+1,by omega,rfl,by rw[HE.out]⟩,?_⟩
      simp[intOf]
  ·obtain rfl:k=3:=by omega
   go_wp2
   go_ret
   exact⟨by rw[HP.out];rfl,B0.out⟩
end Go.Proofs.YthoiikkjjaldnaaDoor
namespace Go.Proofs.YthoiikkjjaldnaaDoor
set_option linter.unusedVariables false
set_option linter.unusedSimpArgs false
set_option maxRecDepth 100000
open Go.RowKit
theorem cube_digits (c f:Nat) (hc:c<18446744073709551616) (hf:f<18446744073709551616):
 c*c/18446744073709551616*f/18446744073709551616+(c*c%18446744073709551616*f/18446744073709551616+c*c/18446744073709551616*f%18446744073709551616)/18446744073709551616=c*c*f/340282366920938463463374607431768211456/\
 (c*c%18446744073709551616*f/18446744073709551616+c*c/18446744073709551616*f%18446744073709551616)%18446744073709551616=c*c*f/18446744073709551616%18446744073709551616/\
 c*c%18446744073709551616*f%18446744073709551616=c*c*f%18446744073709551616/\
 c*c*f/340282366920938463463374607431768211456<18446744073709551616:=by
 have h2:c*c<=18446744073709551615*18446744073709551615:=Nat.mul_le_mul (by omega) (by omega)
 have h3:c*c*f<=18446744073709551615*18446744073709551615*18446744073709551615:=Nat.mul_le_mul h2 (by omega)
 have hd:=Nat.div_add_mod (c*c) 18446744073709551616
 have hN:c*c*f=18446744073709551616*(c*c/18446744073709551616*f)+c*c%18446744073709551616*f:=by
  rw[<-Nat.mul_assoc,<-Nat.add_mul,hd]
 clear hd h2
 generalize c*c/18446744073709551616*f=q at*
 generalize c*c%18446744073709551616*f=p at*
 generalize c*c*f=N at*
 omega
theorem Add64_run (x y:Int) (hx:0<=x) (hy:0<=y) (w:World):(callFunc 99 #[.int .u64 x,.int .u64 y,.int .u64 0]).run Tryd.prog w=
 .ok (.value (.tuple #[.int .u64 ((x+y)%18446744073709551616),.int .u64 ((x+y)/18446744073709551616)])) w:=by
 have h:=run_add64 (P:=Tryd.prog) x y 0 hx hy (by omega) (by omega) w
 rw[run_callFunc_extern (e:=add64Entry) Tryd.func99 (by kernel_rfl) (by kernel_rfl) (by kernel_rfl) (by kernel_rfl) _ w,h,Int.add_zero]
 rfl
def Cubes (w:World) (n:Nat) (e:Ending) (w':World):Prop:=
 e= .returned (.agg #[.int .u64 ((n/340282366920938463463374607431768211456:Nat):Int),.int .u64 ((n/18446744073709551616%18446744073709551616:Nat):Int),.int .u64 ((n%18446744073709551616:Nat):Int)])/\Below w.heap.size w w'
theorem cube_any (c f:Nat) (hc:c<18446744073709551616) (hf:f<18446744073709551616) (w:World):
 Calls Tryd.prog 94 #[.int .u64 c,.int .u64 f] w (Cubes w (c*c*f)):=by
 have hl:c*c%18446744073709551616<18446744073709551616:=Nat.mod_lt _ (by omega)
 have hh:c*c/18446744073709551616<18446744073709551616:=by
  have h2:c*c<=18446744073709551615*18446744073709551615:=Nat.mul_le_mul (by omega) (by omega)
  omega
 obtain⟨D1,D2,D3,D4⟩:=cube_digits c f hc hf
 have M1:=fun w1=>Mul64_any c c hc hc w1
 have M2:=fun w1=>Mul64_any (c*c%18446744073709551616) f hl hf w1
 have M3:=fun w1=>Mul64_any (c*c/18446744073709551616) f hh hf w1
 have l1:c*c%18446744073709551616*f%18446744073709551616<18446744073709551616:=Nat.mod_lt _ (by omega)
 clear hl hh hc hf
 have FIN:=fun(w1:World) (e:Ending)=>show e=_/\Below w.heap.size w w1->Cubes w (c*c*f) e w1 from id
 rw[<-D1] at D4
 rw[<-D1,<-D2,<-D3] at FIN
 clear D1 D2 D3
 generalize c*c%18446744073709551616*f%18446744073709551616=p0 at*
 generalize c*c%18446744073709551616*f/18446744073709551616=p1 at*
 generalize c*c/18446744073709551616*f%18446744073709551616=q0 at*
 generalize c*c/18446744073709551616*f/18446744073709551616=q1 at*
 generalize c*c%18446744073709551616=l at*
 generalize c*c/18446744073709551616=h at*
 have hA:=Add64_run (p1:Nat) (q0:Nat) (by omega) (by omega)
 obtain⟨m,hm⟩: ∃m:Nat,m=(p1+q0)%18446744073709551616:=⟨_,rfl⟩
 obtain⟨k,hk⟩: ∃k:Nat,k=(p1+q0)/18446744073709551616:=⟨_,rfl⟩
 rw[show(((p1:Nat):Int)+(q0:Nat))%18446744073709551616=(m:Nat) from by omega,show(((p1:Nat):Int)+(q0:Nat))/18446744073709551616=(k:Nat) from by omega] at hA
 rw[<-hk] at D4 FIN
 rw[<-hm] at FIN
 have hw:IntKind.u64.wrap (((q1:Nat):Int)+(k:Nat))=((q1+k:Nat):Int):=by
  simp only[IntKind.wrap,IntKind.signed,IntKind.bits]
  simp
  omega
 have M1:=hid M1
 have M2:=hid M2
 have M3:=hid M3
 have FIN:=hid FIN
 clear hm hk D4 l1
 go_enter Tryd.func94,Tryd.ntmps94
 go_wp2_with fail
 refine(M1.out _).mono ?_
 rintro e w1 ⟨rfl,rfl⟩
 go_wp2_with fail
 refine(M2.out _).mono ?_
 rintro e w1 ⟨rfl,rfl⟩
 go_wp2_with fail
 refine(M3.out _).mono ?_
 rintro e w1 ⟨rfl,rfl⟩
 go_wp2_with fail
 refine bodyPost_ret (v:= .agg #[.int .u64 ((q1+k:Nat):Int),.int .u64 (m:Nat),.int .u64 (p0:Nat)]) ?_ rfl (FIN.out _ _ ⟨rfl,(Below.refl _ _).alloc (Nat.le_refl _) _⟩)
 simp[results,Tryd.results94,go_sem]
end Go.Proofs.YthoiikkjjaldnaaDoor
namespace Go.Proofs.YthoiikkjjaldnaaDoor
set_option linter.unusedVariables false
set_option linter.unusedSimpArgs false
set_option maxRecDepth 100000
open Go.RowKit
def dgI (n:Nat) (k:Nat):Int:=(dg n k:Nat)
theorem cubeI_any (c f:Nat) (hc:c<18446744073709551616) (hf:f<18446744073709551616) (W:World):Calls Tryd.prog 94 #[.int .u64 (c:Nat),.int .u64 (f:Nat)] W (fun e w'=>e= .returned (.agg #[.int .u64 (dgI (c*c*f) 0),.int .u64 (dgI (c*c*f) 1),.int .u64 (dgI (c*c*f) 2)])/\Below W.heap.size W w'):=
 (cube_any c f hc hf W).mono fun e w' h=>⟨by rw[h.1];rfl,h.2⟩
theorem below_drN3 (w:World) (a b c:Nat):Below w.heap.size w (((w.drewN a).drewN b).drewN c):=⟨rfl,rfl,rfl,Nat.le_refl _,fun _ _=>rfl⟩
theorem max_nn {c:Int} (h:0<=c):max c 0=c:=by omega
theorem max_neg {c:Int} (h:c<0):max c 0=0:=by omega
theorem better_nat {c d:Nat} {e f:Int} {en fn:Nat} (he:e=en) (hf:f=fn) (h1:0<e) (h2:0<f) {c' d':Int} (hc:max c' 0=c) (hd:max d' 0=d):betterB c' e d' f=decide (d*d*en<c*c*fn):=by
 rw[better_cmp h1 h2,hc,hd,he,hf]
 have e1:((d:Int)*d*en)=((d*d*en:Nat):Int):=by simp
 have e2:((c:Int)*c*fn)=((c*c*fn:Nat):Int):=by simp
 rw[e1,e2]
 by_cases h:d*d*en<c*c*fn
 ·rw[decide_eq_true h,decide_eq_true (by omega)]
 ·rw[decide_eq_false h,decide_eq_false (by omega)]
theorem better_any (c e d f:Int) (w:World) (c1: -9223372036854775808<=c) (c2:c<=9223372036854775807) (e1: -9223372036854775808<=e) (e2:e<=9223372036854775807) (d1: -9223372036854775808<=d) (d2:d<=9223372036854775807) (f1: -9223372036854775808<=f) (f2:f<=9223372036854775807):
 Calls Tryd.prog 84 #[.int .i64 c,.int .i64 e,.int .i64 d,.int .i64 f] w fun en w'=>en= .returned (.bool (betterB c e d f))/\Below w.heap.size w w':=by
 by_cases he:e<=0
 ·have FIN:=hid (better_no (c:=c) (d:=d) (f:=f) he)
  have q: ¬0<e:=by omega
  go_enter Tryd.func84,Tryd.ntmps84
  go_wp2
  go_ret
  exact⟨by rw[FIN.out];simp,Below.refl _ _⟩
 by_cases hf:f<=0
 ·have FIN:=hid (better_yes (c:=c) (d:=d) (f:=f) (e:=e) (by omega) hf)
  have q:0<e:=by omega
  go_enter Tryd.func84,Tryd.ntmps84
  go_wp2
  go_ret
  exact⟨by rw[FIN.out];simp,Below.refl _ _⟩
 obtain⟨en,rfl⟩:=Int.eq_ofNat_of_zero_le (show 0<=e by omega)
 obtain⟨fn,rfl⟩:=Int.eq_ofNat_of_zero_le (show 0<=f by omega)
 have he:0<((en:Nat):Int):=by omega
 have hf:0<((fn:Nat):Int):=by omega
 by_cases hc:0<=c
 ·obtain⟨cn,rfl⟩:=Int.eq_ofNat_of_zero_le hc
  have HMC:max ((cn:Nat):Int) 0=(cn:Nat):=max_nn hc
  by_cases hd:0<=d
  ·obtain⟨dn,rfl⟩:=Int.eq_ofNat_of_zero_le hd
   have HMD:max ((dn:Nat):Int) 0=(dn:Nat):=max_nn hd
   have K1:=cubeI_any cn fn (by omega) (by omega)
   have K2:=cubeI_any dn en (by omega) (by omega)
   have HB:=hid (better_nat (c:=cn) (d:=dn) (c':=((cn:Nat))) (d':=((dn:Nat))) (e:=(en:Nat)) (f:=(fn:Nat)) rfl rfl he hf HMC HMD)
   obtain⟨D0,D1,D2,D3⟩:=dg_cmp (cn*cn*fn) (dn*dn*en)
   generalize cn*cn*fn=X at*
   generalize dn*dn*en=Y at*
   have A0:=hid D0
   have A1:=hid D1
   have A2:=hid D2
   have A3:=hid D3
   have hx0:=hid (show dgI X 0=(dg X 0:Nat) from rfl)
   have hx1:=hid (show dgI X 1=(dg X 1:Nat) from rfl)
   have hx2:=hid (show dgI X 2=(dg X 2:Nat) from rfl)
   have hy0:=hid (show dgI Y 0=(dg Y 0:Nat) from rfl)
   have hy1:=hid (show dgI Y 1=(dg Y 1:Nat) from rfl)
   have hy2:=hid (show dgI Y 2=(dg Y 2:Nat) from rfl)
   clear D0 D1 D2 D3
   generalize dgI X 0=x0 at*
   generalize dgI X 1=x1 at*
   generalize dgI X 2=x2 at*
   generalize dgI Y 0=y0 at*
   generalize dgI Y 1=y1 at*
   generalize dgI Y 2=y2 at*
   have K1':=hid K1
   have K2':=hid K2
   clear K1 K2
   go_enter Tryd.func84,Tryd.ntmps84
   go_wp2_with fail
   refine(K1'.out _).mono ?_
   rintro en1 w1 ⟨rfl,hB⟩
   have B1:=hid hB
   clear hB
   go_wp2_with fail
   refine(K2'.out _).mono ?_
   rintro en1 w2 ⟨rfl,hB⟩
   have B2:=hid (B1.out.trans (hB.mono B1.out.size))
   clear hB
   go_wp2
   have BV:=hid ((B2.out.alloc B2.out.size (.cells #[.int .u64 x0,.int .u64 x1,.int .u64 x2] 157)).alloc (by have:=B2.out.size;simp;omega) (.cells #[.int .u64 y0,.int .u64 y1,.int .u64 y2] 157))
   obtain⟨V,hV⟩: ∃V,V=(w2.alloc (.cells #[.int .u64 x0,.int .u64 x1,.int .u64 x2] 157)).alloc (.cells #[.int .u64 y0,.int .u64 y1,.int .u64 y2] 157):=⟨_,rfl⟩
   have P1:=hid (show Blk V w2.heap.size 157 #[.int .u64 x0,.int .u64 x1,.int .u64 x2] by rw[hV];exact Blk.alloc (Blk.new w2 _ _) _)
   have P2:=hid (show Blk V (w2.heap.size+1) 157 #[.int .u64 y0,.int .u64 y1,.int .u64 y2] by rw[hV];have h:=Blk.new (w2.alloc (.cells #[.int .u64 x0,.int .u64 x1,.int .u64 x2] 157)) 157 #[.int .u64 y0,.int .u64 y1,.int .u64 y2];simp only[World.size_alloc] at h;exact h)
   rw[<-hV] at BV|-
   clear hV B1 B2
   go_loopw [32] (fun iv wr=> ∃(k m:Nat),k<=3/\iv= .int .i64 k/\wr=V.drewN m/\Hid (∀j,j<k->dg X j=dg Y j)) (fun iv _=>3-(intOf iv).toNat)
   case atStart=>exact⟨0,0,by omega,rfl,rfl,hid (fun j h=>by omega)⟩
   case round=>
    obtain⟨k,m,hk,rfl,rfl,HE⟩:=hrel
    have BW:=hid (BV.out.trans ((below_drN V m).mono BV.out.size))
    by_cases h0:k=0
    ·subst h0
     have cx:V.cell? ⟨w2.heap.size,0,none⟩=some (.int .u64 x0):=Blk.cell P1.out 0
     have cy:V.cell? ⟨w2.heap.size+1,0,none⟩=some (.int .u64 y0):=Blk.cell P2.out 0
     by_cases heq:x0=y0
     ·have e1:(x0==y0)=true:=by simpa using heq
      have e2:(x0 !=y0)=false:=by simpa using heq
      have HE2:=hid (show∀j,j<0+1->dg X j=dg Y j from fun j hj=>by
       by_cases e:j=0
       ·subst e;have h1:=hx0.out;have h2:=hy0.out;omega
       ·exact HE.out j (by omega))
      clear heq
      go_wp2
      go_quiet (fail)
      go_wp2
      go_roundw
      case rel=>exact⟨0+1,_,by omega,rfl,rfl,HE2⟩
      case measure=>simp[intOf]
     ·have e1:(x0==y0)=false:=by simpa using heq
      have e2:(x0 !=y0)=true:=by simpa using heq
      have HF:=hid (show betterB ((cn:Nat)) (en:Nat) ((dn:Nat)) (fn:Nat)=decide (y0<x0) by
       rw[HB.out]
       have h1:=hx0.out
       have h2:=hy0.out
       have h3:dg Y 0<dg X 0↔Y<X:=A0.out (fun hh=>heq (by omega))
       by_cases h:Y<X
       ·have:=h3.2 h;rw[decide_eq_true h,decide_eq_true (by omega)]
       ·have: ¬dg Y 0<dg X 0:=fun hh=>h (h3.1 hh)
        rw[decide_eq_false h,decide_eq_false (by omega)])
      clear heq
      go_wp2
      go_quiet (fail)
      go_wp2
      go_quiet (fail)
      go_wp2
      go_ret
      exact⟨by rw[HF.out];rfl,BV.out.trans ((below_drN3 V _ _ _).mono BV.out.size)⟩
    by_cases h1:k=1
    ·subst h1
     have cx:V.cell? ⟨w2.heap.size,1,none⟩=some (.int .u64 x1):=Blk.cell P1.out 1
     have cy:V.cell? ⟨w2.heap.size+1,1,none⟩=some (.int .u64 y1):=Blk.cell P2.out 1
     by_cases heq:x1=y1
     ·have e1:(x1==y1)=true:=by simpa using heq
      have e2:(x1 !=y1)=false:=by simpa using heq
      have HE2:=hid (show∀j,j<1+1->dg X j=dg Y j from fun j hj=>by
       by_cases e:j=1
       ·subst e;have h1:=hx1.out;have h2:=hy1.out;omega
       ·exact HE.out j (by omega))
      clear heq
      go_wp2
      go_quiet (fail)
      go_wp2
      go_roundw
      case rel=>exact⟨1+1,_,by omega,rfl,rfl,HE2⟩
      case measure=>simp[intOf]
     ·have e1:(x1==y1)=false:=by simpa using heq
      have e2:(x1 !=y1)=true:=by simpa using heq
      have HF:=hid (show betterB ((cn:Nat)) (en:Nat) ((dn:Nat)) (fn:Nat)=decide (y1<x1) by
       rw[HB.out]
       have h1:=hx1.out
       have h2:=hy1.out
       have h3:dg Y 1<dg X 1↔Y<X:=A1.out (HE.out 0 (by omega)) (fun hh=>heq (by omega))
       by_cases h:Y<X
       ·have:=h3.2 h;rw[decide_eq_true h,decide_eq_true (by omega)]
       ·have: ¬dg Y 1<dg X 1:=fun hh=>h (h3.1 hh)
        rw[decide_eq_false h,decide_eq_false (by omega)])
      clear heq
      go_wp2
      go_quiet (fail)
      go_wp2
      go_quiet (fail)
      go_wp2
      go_ret
      exact⟨by rw[HF.out];rfl,BV.out.trans ((below_drN3 V _ _ _).mono BV.out.size)⟩
    by_cases h2:k=2
    ·subst h2
     have cx:V.cell? ⟨w2.heap.size,2,none⟩=some (.int .u64 x2):=Blk.cell P1.out 2
     have cy:V.cell? ⟨w2.heap.size+1,2,none⟩=some (.int .u64 y2):=Blk.cell P2.out 2
     by_cases heq:x2=y2
     ·have e1:(x2==y2)=true:=by simpa using heq
      have e2:(x2 !=y2)=false:=by simpa using heq
      have HE2:=hid (show∀j,j<2+1->dg X j=dg Y j from fun j hj=>by
       by_cases e:j=2
       ·subst e;have h1:=hx2.out;have h2:=hy2.out;omega
       ·exact HE.out j (by omega))
      clear heq
      go_wp2
      go_quiet (fail)
      go_wp2
      go_roundw
      case rel=>exact⟨2+1,_,by omega,rfl,rfl,HE2⟩
      case measure=>simp[intOf]
     ·have e1:(x2==y2)=false:=by simpa using heq
      have e2:(x2 !=y2)=true:=by simpa using heq
      have HF:=hid (show betterB ((cn:Nat)) (en:Nat) ((dn:Nat)) (fn:Nat)=decide (y2<x2) by
       rw[HB.out]
       have h1:=hx2.out
       have h2:=hy2.out
       have h3:dg Y 2<dg X 2↔Y<X:=A2.out (HE.out 0 (by omega)) (HE.out 1 (by omega)) (fun hh=>heq (by omega))
       by_cases h:Y<X
       ·have:=h3.2 h;rw[decide_eq_true h,decide_eq_true (by omega)]
       ·have: ¬dg Y 2<dg X 2:=fun hh=>h (h3.1 hh)
        rw[decide_eq_false h,decide_eq_false (by omega)])
      clear heq
      go_wp2
      go_quiet (fail)
      go_wp2
      go_quiet (fail)
      go_wp2
      go_ret
      exact⟨by rw[HF.out];rfl,BV.out.trans ((below_drN3 V _ _ _).mono BV.out.size)⟩
    obtain rfl:k=3:=by omega
    have HF:=hid (show betterB ((cn:Nat)) (en:Nat) ((dn:Nat)) (fn:Nat)=false by
     rw[HB.out]
     have:=A3.out (HE.out 0 (by omega)) (HE.out 1 (by omega)) (HE.out 2 (by omega))
     simp;omega)
    clear h0 h1 h2
    go_wp2
    go_ret
    exact⟨by rw[HF.out];rfl,BW.out⟩
  ·have hd2:d<0:=by omega
   have HMD:max d 0=((0:Nat):Int):=max_neg hd2
   have K1:=cubeI_any cn fn (by omega) (by omega)
   have K2:=cubeI_any 0 en (by omega) (by omega)
   have HB:=hid (better_nat (c:=cn) (d:=0) (c':=((cn:Nat))) (d':=(d)) (e:=(en:Nat)) (f:=(fn:Nat)) rfl rfl he hf HMC HMD)
   obtain⟨D0,D1,D2,D3⟩:=dg_cmp (cn*cn*fn) (0*0*en)
   generalize cn*cn*fn=X at*
   generalize 0*0*en=Y at*
   have A0:=hid D0
   have A1:=hid D1
   have A2:=hid D2
   have A3:=hid D3
   have hx0:=hid (show dgI X 0=(dg X 0:Nat) from rfl)
   have hx1:=hid (show dgI X 1=(dg X 1:Nat) from rfl)
   have hx2:=hid (show dgI X 2=(dg X 2:Nat) from rfl)
   have hy0:=hid (show dgI Y 0=(dg Y 0:Nat) from rfl)
   have hy1:=hid (show dgI Y 1=(dg Y 1:Nat) from rfl)
   have hy2:=hid (show dgI Y 2=(dg Y 2:Nat) from rfl)
   clear D0 D1 D2 D3
   generalize dgI X 0=x0 at*
   generalize dgI X 1=x1 at*
   generalize dgI X 2=x2 at*
   generalize dgI Y 0=y0 at*
   generalize dgI Y 1=y1 at*
   generalize dgI Y 2=y2 at*
   have K1':=hid K1
   have K2':=hid K2
   clear K1 K2
   go_enter Tryd.func84,Tryd.ntmps84
   go_wp2_with fail
   refine(K1'.out _).mono ?_
   rintro en1 w1 ⟨rfl,hB⟩
   have B1:=hid hB
   clear hB
   go_wp2_with fail
   refine(K2'.out _).mono ?_
   rintro en1 w2 ⟨rfl,hB⟩
   have B2:=hid (B1.out.trans (hB.mono B1.out.size))
   clear hB
   go_wp2
   have BV:=hid ((B2.out.alloc B2.out.size (.cells #[.int .u64 x0,.int .u64 x1,.int .u64 x2] 157)).alloc (by have:=B2.out.size;simp;omega) (.cells #[.int .u64 y0,.int .u64 y1,.int .u64 y2] 157))
   obtain⟨V,hV⟩: ∃V,V=(w2.alloc (.cells #[.int .u64 x0,.int .u64 x1,.int .u64 x2] 157)).alloc (.cells #[.int .u64 y0,.int .u64 y1,.int .u64 y2] 157):=⟨_,rfl⟩
   have P1:=hid (show Blk V w2.heap.size 157 #[.int .u64 x0,.int .u64 x1,.int .u64 x2] by rw[hV];exact Blk.alloc (Blk.new w2 _ _) _)
   have P2:=hid (show Blk V (w2.heap.size+1) 157 #[.int .u64 y0,.int .u64 y1,.int .u64 y2] by rw[hV];have h:=Blk.new (w2.alloc (.cells #[.int .u64 x0,.int .u64 x1,.int .u64 x2] 157)) 157 #[.int .u64 y0,.int .u64 y1,.int .u64 y2];simp only[World.size_alloc] at h;exact h)
   rw[<-hV] at BV|-
   clear hV B1 B2
   go_loopw [32] (fun iv wr=> ∃(k m:Nat),k<=3/\iv= .int .i64 k/\wr=V.drewN m/\Hid (∀j,j<k->dg X j=dg Y j)) (fun iv _=>3-(intOf iv).toNat)
   case atStart=>exact⟨0,0,by omega,rfl,rfl,hid (fun j h=>by omega)⟩
   case round=>
    obtain⟨k,m,hk,rfl,rfl,HE⟩:=hrel
    have BW:=hid (BV.out.trans ((below_drN V m).mono BV.out.size))
    by_cases h0:k=0
    ·subst h0
     have cx:V.cell? ⟨w2.heap.size,0,none⟩=some (.int .u64 x0):=Blk.cell P1.out 0
     have cy:V.cell? ⟨w2.heap.size+1,0,none⟩=some (.int .u64 y0):=Blk.cell P2.out 0
     by_cases heq:x0=y0
     ·have e1:(x0==y0)=true:=by simpa using heq
      have e2:(x0 !=y0)=false:=by simpa using heq
      have HE2:=hid (show∀j,j<0+1->dg X j=dg Y j from fun j hj=>by
       by_cases e:j=0
       ·subst e;have h1:=hx0.out;have h2:=hy0.out;omega
       ·exact HE.out j (by omega))
      clear heq
      go_wp2
      go_quiet (fail)
      go_wp2
      go_roundw
      case rel=>exact⟨0+1,_,by omega,rfl,rfl,HE2⟩
      case measure=>simp[intOf]
     ·have e1:(x0==y0)=false:=by simpa using heq
      have e2:(x0 !=y0)=true:=by simpa using heq
      have HF:=hid (show betterB ((cn:Nat)) (en:Nat) (d) (fn:Nat)=decide (y0<x0) by
       rw[HB.out]
       have h1:=hx0.out
       have h2:=hy0.out
       have h3:dg Y 0<dg X 0↔Y<X:=A0.out (fun hh=>heq (by omega))
       by_cases h:Y<X
       ·have:=h3.2 h;rw[decide_eq_true h,decide_eq_true (by omega)]
       ·have: ¬dg Y 0<dg X 0:=fun hh=>h (h3.1 hh)
        rw[decide_eq_false h,decide_eq_false (by omega)])
      clear heq
      go_wp2
      go_quiet (fail)
      go_wp2
      go_quiet (fail)
      go_wp2
      go_ret
      exact⟨by rw[HF.out];rfl,BV.out.trans ((below_drN3 V _ _ _).mono BV.out.size)⟩
    by_cases h1:k=1
    ·subst h1
     have cx:V.cell? ⟨w2.heap.size,1,none⟩=some (.int .u64 x1):=Blk.cell P1.out 1
     have cy:V.cell? ⟨w2.heap.size+1,1,none⟩=some (.int .u64 y1):=Blk.cell P2.out 1
     by_cases heq:x1=y1
     ·have e1:(x1==y1)=true:=by simpa using heq
      have e2:(x1 !=y1)=false:=by simpa using heq
      have HE2:=hid (show∀j,j<1+1->dg X j=dg Y j from fun j hj=>by
       by_cases e:j=1
       ·subst e;have h1:=hx1.out;have h2:=hy1.out;omega
       ·exact HE.out j (by omega))
      clear heq
      go_wp2
      go_quiet (fail)
      go_wp2
      go_roundw
      case rel=>exact⟨1+1,_,by omega,rfl,rfl,HE2⟩
      case measure=>simp[intOf]
     ·have e1:(x1==y1)=false:=by simpa using heq
      have e2:(x1 !=y1)=true:=by simpa using heq
      have HF:=hid (show betterB ((cn:Nat)) (en:Nat) (d) (fn:Nat)=decide (y1<x1) by
       rw[HB.out]
       have h1:=hx1.out
       have h2:=hy1.out
       have h3:dg Y 1<dg X 1↔Y<X:=A1.out (HE.out 0 (by omega)) (fun hh=>heq (by omega))
       by_cases h:Y<X
       ·have:=h3.2 h;rw[decide_eq_true h,decide_eq_true (by omega)]
       ·have: ¬dg Y 1<dg X 1:=fun hh=>h (h3.1 hh)
        rw[decide_eq_false h,decide_eq_false (by omega)])
      clear heq
      go_wp2
      go_quiet (fail)
      go_wp2
      go_quiet (fail)
      go_wp2
      go_ret
      exact⟨by rw[HF.out];rfl,BV.out.trans ((below_drN3 V _ _ _).mono BV.out.size)⟩
    by_cases h2:k=2
    ·subst h2
     have cx:V.cell? ⟨w2.heap.size,2,none⟩=some (.int .u64 x2):=Blk.cell P1.out 2
     have cy:V.cell? ⟨w2.heap.size+1,2,none⟩=some (.int .u64 y2):=Blk.cell P2.out 2
     by_cases heq:x2=y2
     ·have e1:(x2==y2)=true:=by simpa using heq
      have e2:(x2 !=y2)=false:=by simpa using heq
      have HE2:=hid (show∀j,j<2+1->dg X j=dg Y j from fun j hj=>by
       by_cases e:j=2
       ·subst e;have h1:=hx2.out;have h2:=hy2.out;omega
       ·exact HE.out j (by omega))
      clear heq
      go_wp2
      go_quiet (fail)
      go_wp2
      go_roundw
      case rel=>exact⟨2+1,_,by omega,rfl,rfl,HE2⟩
      case measure=>simp[intOf]
     ·have e1:(x2==y2)=false:=by simpa using heq
      have e2:(x2 !=y2)=true:=by simpa using heq
      have HF:=hid (show betterB ((cn:Nat)) (en:Nat) (d) (fn:Nat)=decide (y2<x2) by
       rw[HB.out]
       have h1:=hx2.out
       have h2:=hy2.out
       have h3:dg Y 2<dg X 2↔Y<X:=A2.out (HE.out 0 (by omega)) (HE.out 1 (by omega)) (fun hh=>heq (by omega))
       by_cases h:Y<X
       ·have:=h3.2 h;rw[decide_eq_true h,decide_eq_true (by omega)]
       ·have: ¬dg Y 2<dg X 2:=fun hh=>h (h3.1 hh)
        rw[decide_eq_false h,decide_eq_false (by omega)])
      clear heq
      go_wp2
      go_quiet (fail)
      go_wp2
      go_quiet (fail)
      go_wp2
      go_ret
      exact⟨by rw[HF.out];rfl,BV.out.trans ((below_drN3 V _ _ _).mono BV.out.size)⟩
    obtain rfl:k=3:=by omega
    have HF:=hid (show betterB ((cn:Nat)) (en:Nat) (d) (fn:Nat)=false by
     rw[HB.out]
     have:=A3.out (HE.out 0 (by omega)) (HE.out 1 (by omega)) (HE.out 2 (by omega))
     simp;omega)
    clear h0 h1 h2
    go_wp2
    go_ret
    exact⟨by rw[HF.out];rfl,BW.out⟩
 ·have hc2:c<0:=by omega
  have HMC:max c 0=((0:Nat):Int):=max_neg hc2
  by_cases hd:0<=d
  ·obtain⟨dn,rfl⟩:=Int.eq_ofNat_of_zero_le hd
   have HMD:max ((dn:Nat):Int) 0=(dn:Nat):=max_nn hd
   have K1:=cubeI_any 0 fn (by omega) (by omega)
   have K2:=cubeI_any dn en (by omega) (by omega)
   have HB:=hid (better_nat (c:=0) (d:=dn) (c':=(c)) (d':=((dn:Nat))) (e:=(en:Nat)) (f:=(fn:Nat)) rfl rfl he hf HMC HMD)
   obtain⟨D0,D1,D2,D3⟩:=dg_cmp (0*0*fn) (dn*dn*en)
   generalize 0*0*fn=X at*
   generalize dn*dn*en=Y at*
   have A0:=hid D0
   have A1:=hid D1
   have A2:=hid D2
   have A3:=hid D3
   have hx0:=hid (show dgI X 0=(dg X 0:Nat) from rfl)
   have hx1:=hid (show dgI X 1=(dg X 1:Nat) from rfl)
   have hx2:=hid (show dgI X 2=(dg X 2:Nat) from rfl)
   have hy0:=hid (show dgI Y 0=(dg Y 0:Nat) from rfl)
   have hy1:=hid (show dgI Y 1=(dg Y 1:Nat) from rfl)
   have hy2:=hid (show dgI Y 2=(dg Y 2:Nat) from rfl)
   clear D0 D1 D2 D3
   generalize dgI X 0=x0 at*
   generalize dgI X 1=x1 at*
   generalize dgI X 2=x2 at*
   generalize dgI Y 0=y0 at*
   generalize dgI Y 1=y1 at*
   generalize dgI Y 2=y2 at*
   have K1':=hid K1
   have K2':=hid K2
   clear K1 K2
   go_enter Tryd.func84,Tryd.ntmps84
   go_wp2_with fail
   refine(K1'.out _).mono ?_
   rintro en1 w1 ⟨rfl,hB⟩
   have B1:=hid hB
   clear hB
   go_wp2_with fail
   refine(K2'.out _).mono ?_
   rintro en1 w2 ⟨rfl,hB⟩
   have B2:=hid (B1.out.trans (hB.mono B1.out.size))
   clear hB
   go_wp2
   have BV:=hid ((B2.out.alloc B2.out.size (.cells #[.int .u64 x0,.int .u64 x1,.int .u64 x2] 157)).alloc (by have:=B2.out.size;simp;omega) (.cells #[.int .u64 y0,.int .u64 y1,.int .u64 y2] 157))
   obtain⟨V,hV⟩: ∃V,V=(w2.alloc (.cells #[.int .u64 x0,.int .u64 x1,.int .u64 x2] 157)).alloc (.cells #[.int .u64 y0,.int .u64 y1,.int .u64 y2] 157):=⟨_,rfl⟩
   have P1:=hid (show Blk V w2.heap.size 157 #[.int .u64 x0,.int .u64 x1,.int .u64 x2] by rw[hV];exact Blk.alloc (Blk.new w2 _ _) _)
   have P2:=hid (show Blk V (w2.heap.size+1) 157 #[.int .u64 y0,.int .u64 y1,.int .u64 y2] by rw[hV];have h:=Blk.new (w2.alloc (.cells #[.int .u64 x0,.int .u64 x1,.int .u64 x2] 157)) 157 #[.int .u64 y0,.int .u64 y1,.int .u64 y2];simp only[World.size_alloc] at h;exact h)
   rw[<-hV] at BV|-
   clear hV B1 B2
   go_loopw [32] (fun iv wr=> ∃(k m:Nat),k<=3/\iv= .int .i64 k/\wr=V.drewN m/\Hid (∀j,j<k->dg X j=dg Y j)) (fun iv _=>3-(intOf iv).toNat)
   case atStart=>exact⟨0,0,by omega,rfl,rfl,hid (fun j h=>by omega)⟩
   case round=>
    obtain⟨k,m,hk,rfl,rfl,HE⟩:=hrel
    have BW:=hid (BV.out.trans ((below_drN V m).mono BV.out.size))
    by_cases h0:k=0
    ·subst h0
     have cx:V.cell? ⟨w2.heap.size,0,none⟩=some (.int .u64 x0):=Blk.cell P1.out 0
     have cy:V.cell? ⟨w2.heap.size+1,0,none⟩=some (.int .u64 y0):=Blk.cell P2.out 0
     by_cases heq:x0=y0
     ·have e1:(x0==y0)=true:=by simpa using heq
      have e2:(x0 !=y0)=false:=by simpa using heq
      have HE2:=hid (show∀j,j<0+1->dg X j=dg Y j from fun j hj=>by
       by_cases e:j=0
       ·subst e;have h1:=hx0.out;have h2:=hy0.out;omega
       ·exact HE.out j (by omega))
      clear heq
      go_wp2
      go_quiet (fail)
      go_wp2
      go_roundw
      case rel=>exact⟨0+1,_,by omega,rfl,rfl,HE2⟩
      case measure=>simp[intOf]
     ·have e1:(x0==y0)=false:=by simpa using heq
      have e2:(x0 !=y0)=true:=by simpa using heq
      have HF:=hid (show betterB (c) (en:Nat) ((dn:Nat)) (fn:Nat)=decide (y0<x0) by
       rw[HB.out]
       have h1:=hx0.out
       have h2:=hy0.out
       have h3:dg Y 0<dg X 0↔Y<X:=A0.out (fun hh=>heq (by omega))
       by_cases h:Y<X
       ·have:=h3.2 h;rw[decide_eq_true h,decide_eq_true (by omega)]
       ·have: ¬dg Y 0<dg X 0:=fun hh=>h (h3.1 hh)
        rw[decide_eq_false h,decide_eq_false (by omega)])
      clear heq
      go_wp2
      go_quiet (fail)
      go_wp2
      go_quiet (fail)
      go_wp2
      go_ret
      exact⟨by rw[HF.out];rfl,BV.out.trans ((below_drN3 V _ _ _).mono BV.out.size)⟩
    by_cases h1:k=1
    ·subst h1
     have cx:V.cell? ⟨w2.heap.size,1,none⟩=some (.int .u64 x1):=Blk.cell P1.out 1
     have cy:V.cell? ⟨w2.heap.size+1,1,none⟩=some (.int .u64 y1):=Blk.cell P2.out 1
     by_cases heq:x1=y1
     ·have e1:(x1==y1)=true:=by simpa using heq
      have e2:(x1 !=y1)=false:=by simpa using heq
      have HE2:=hid (show∀j,j<1+1->dg X j=dg Y j from fun j hj=>by
       by_cases e:j=1
       ·subst e;have h1:=hx1.out;have h2:=hy1.out;omega
       ·exact HE.out j (by omega))
      clear heq
      go_wp2
      go_quiet (fail)
      go_wp2
      go_roundw
      case rel=>exact⟨1+1,_,by omega,rfl,rfl,HE2⟩
      case measure=>simp[intOf]
     ·have e1:(x1==y1)=false:=by simpa using heq
      have e2:(x1 !=y1)=true:=by simpa using heq
      have HF:=hid (show betterB (c) (en:Nat) ((dn:Nat)) (fn:Nat)=decide (y1<x1) by
       rw[HB.out]
       have h1:=hx1.out
       have h2:=hy1.out
       have h3:dg Y 1<dg X 1↔Y<X:=A1.out (HE.out 0 (by omega)) (fun hh=>heq (by omega))
       by_cases h:Y<X
       ·have:=h3.2 h;rw[decide_eq_true h,decide_eq_true (by omega)]
       ·have: ¬dg Y 1<dg X 1:=fun hh=>h (h3.1 hh)
        rw[decide_eq_false h,decide_eq_false (by omega)])
      clear heq
      go_wp2
      go_quiet (fail)
      go_wp2
      go_quiet (fail)
      go_wp2
      go_ret
      exact⟨by rw[HF.out];rfl,BV.out.trans ((below_drN3 V _ _ _).mono BV.out.size)⟩
    by_cases h2:k=2
    ·subst h2
     have cx:V.cell? ⟨w2.heap.size,2,none⟩=some (.int .u64 x2):=Blk.cell P1.out 2
     have cy:V.cell? ⟨w2.heap.size+1,2,none⟩=some (.int .u64 y2):=Blk.cell P2.out 2
     by_cases heq:x2=y2
     ·have e1:(x2==y2)=true:=by simpa using heq
      have e2:(x2 !=y2)=false:=by simpa using heq
      have HE2:=hid (show∀j,j<2+1->dg X j=dg Y j from fun j hj=>by
       by_cases e:j=2
       ·subst e;have h1:=hx2.out;have h2:=hy2.out;omega
       ·exact HE.out j (by omega))
      clear heq
      go_wp2
      go_quiet (fail)
      go_wp2
      go_roundw
      case rel=>exact⟨2+1,_,by omega,rfl,rfl,HE2⟩
      case measure=>simp[intOf]
     ·have e1:(x2==y2)=false:=by simpa using heq
      have e2:(x2 !=y2)=true:=by simpa using heq
      have HF:=hid (show betterB (c) (en:Nat) ((dn:Nat)) (fn:Nat)=decide (y2<x2) by
       rw[HB.out]
       have h1:=hx2.out
       have h2:=hy2.out
       have h3:dg Y 2<dg X 2↔Y<X:=A2.out (HE.out 0 (by omega)) (HE.out 1 (by omega)) (fun hh=>heq (by omega))
       by_cases h:Y<X
       ·have:=h3.2 h;rw[decide_eq_true h,decide_eq_true (by omega)]
       ·have: ¬dg Y 2<dg X 2:=fun hh=>h (h3.1 hh)
        rw[decide_eq_false h,decide_eq_false (by omega)])
      clear heq
      go_wp2
      go_quiet (fail)
      go_wp2
      go_quiet (fail)
      go_wp2
      go_ret
      exact⟨by rw[HF.out];rfl,BV.out.trans ((below_drN3 V _ _ _).mono BV.out.size)⟩
    obtain rfl:k=3:=by omega
    have HF:=hid (show betterB (c) (en:Nat) ((dn:Nat)) (fn:Nat)=false by
     rw[HB.out]
     have:=A3.out (HE.out 0 (by omega)) (HE.out 1 (by omega)) (HE.out 2 (by omega))
     simp;omega)
    clear h0 h1 h2
    go_wp2
    go_ret
    exact⟨by rw[HF.out];rfl,BW.out⟩
  ·have hd2:d<0:=by omega
   have HMD:max d 0=((0:Nat):Int):=max_neg hd2
   have K1:=cubeI_any 0 fn (by omega) (by omega)
   have K2:=cubeI_any 0 en (by omega) (by omega)
   have HB:=hid (better_nat (c:=0) (d:=0) (c':=(c)) (d':=(d)) (e:=(en:Nat)) (f:=(fn:Nat)) rfl rfl he hf HMC HMD)
   obtain⟨D0,D1,D2,D3⟩:=dg_cmp (0*0*fn) (0*0*en)
   generalize 0*0*fn=X at*
   generalize 0*0*en=Y at*
   have A0:=hid D0
   have A1:=hid D1
   have A2:=hid D2
   have A3:=hid D3
   have hx0:=hid (show dgI X 0=(dg X 0:Nat) from rfl)
   have hx1:=hid (show dgI X 1=(dg X 1:Nat) from rfl)
   have hx2:=hid (show dgI X 2=(dg X 2:Nat) from rfl)
   have hy0:=hid (show dgI Y 0=(dg Y 0:Nat) from rfl)
   have hy1:=hid (show dgI Y 1=(dg Y 1:Nat) from rfl)
   have hy2:=hid (show dgI Y 2=(dg Y 2:Nat) from rfl)
   clear D0 D1 D2 D3
   generalize dgI X 0=x0 at*
   generalize dgI X 1=x1 at*
   generalize dgI X 2=x2 at*
   generalize dgI Y 0=y0 at*
   generalize dgI Y 1=y1 at*
   generalize dgI Y 2=y2 at*
   have K1':=hid K1
   have K2':=hid K2
   clear K1 K2
   go_enter Tryd.func84,Tryd.ntmps84
   go_wp2_with fail
   refine(K1'.out _).mono ?_
   rintro en1 w1 ⟨rfl,hB⟩
   have B1:=hid hB
   clear hB
   go_wp2_with fail
   refine(K2'.out _).mono ?_
   rintro en1 w2 ⟨rfl,hB⟩
   have B2:=hid (B1.out.trans (hB.mono B1.out.size))
   clear hB
   go_wp2
   have BV:=hid ((B2.out.alloc B2.out.size (.cells #[.int .u64 x0,.int .u64 x1,.int .u64 x2] 157)).alloc (by have:=B2.out.size;simp;omega) (.cells #[.int .u64 y0,.int .u64 y1,.int .u64 y2] 157))
   obtain⟨V,hV⟩: ∃V,V=(w2.alloc (.cells #[.int .u64 x0,.int .u64 x1,.int .u64 x2] 157)).alloc (.cells #[.int .u64 y0,.int .u64 y1,.int .u64 y2] 157):=⟨_,rfl⟩
   have P1:=hid (show Blk V w2.heap.size 157 #[.int .u64 x0,.int .u64 x1,.int .u64 x2] by rw[hV];exact Blk.alloc (Blk.new w2 _ _) _)
   have P2:=hid (show Blk V (w2.heap.size+1) 157 #[.int .u64 y0,.int .u64 y1,.int .u64 y2] by rw[hV];have h:=Blk.new (w2.alloc (.cells #[.int .u64 x0,.int .u64 x1,.int .u64 x2] 157)) 157 #[.int .u64 y0,.int .u64 y1,.int .u64 y2];simp only[World.size_alloc] at h;exact h)
   rw[<-hV] at BV|-
   clear hV B1 B2
   go_loopw [32] (fun iv wr=> ∃(k m:Nat),k<=3/\iv= .int .i64 k/\wr=V.drewN m/\Hid (∀j,j<k->dg X j=dg Y j)) (fun iv _=>3-(intOf iv).toNat)
   case atStart=>exact⟨0,0,by omega,rfl,rfl,hid (fun j h=>by omega)⟩
   case round=>
    obtain⟨k,m,hk,rfl,rfl,HE⟩:=hrel
    have BW:=hid (BV.out.trans ((below_drN V m).mono BV.out.size))
    by_cases h0:k=0
    ·subst h0
     have cx:V.cell? ⟨w2.heap.size,0,none⟩=some (.int .u64 x0):=Blk.cell P1.out 0
     have cy:V.cell? ⟨w2.heap.size+1,0,none⟩=some (.int .u64 y0):=Blk.cell P2.out 0
     by_cases heq:x0=y0
     ·have e1:(x0==y0)=true:=by simpa using heq
      have e2:(x0 !=y0)=false:=by simpa using heq
      have HE2:=hid (show∀j,j<0+1->dg X j=dg Y j from fun j hj=>by
       by_cases e:j=0
       ·subst e;have h1:=hx0.out;have h2:=hy0.out;omega
       ·exact HE.out j (by omega))
      clear heq
      go_wp2
      go_quiet (fail)
      go_wp2
      go_roundw
      case rel=>exact⟨0+1,_,by omega,rfl,rfl,HE2⟩
      case measure=>simp[intOf]
     ·have e1:(x0==y0)=false:=by simpa using heq
      have e2:(x0 !=y0)=true:=by simpa using heq
      have HF:=hid (show betterB (c) (en:Nat) (d) (fn:Nat)=decide (y0<x0) by
       rw[HB.out]
       have h1:=hx0.out
       have h2:=hy0.out
       have h3:dg Y 0<dg X 0↔Y<X:=A0.out (fun hh=>heq (by omega))
       by_cases h:Y<X
       ·have:=h3.2 h;rw[decide_eq_true h,decide_eq_true (by omega)]
       ·have: ¬dg Y 0<dg X 0:=fun hh=>h (h3.1 hh)
        rw[decide_eq_false h,decide_eq_false (by omega)])
      clear heq
      go_wp2
      go_quiet (fail)
      go_wp2
      go_quiet (fail)
      go_wp2
      go_ret
      exact⟨by rw[HF.out];rfl,BV.out.trans ((below_drN3 V _ _ _).mono BV.out.size)⟩
    by_cases h1:k=1
    ·subst h1
     have cx:V.cell? ⟨w2.heap.size,1,none⟩=some (.int .u64 x1):=Blk.cell P1.out 1
     have cy:V.cell? ⟨w2.heap.size+1,1,none⟩=some (.int .u64 y1):=Blk.cell P2.out 1
     by_cases heq:x1=y1
     ·have e1:(x1==y1)=true:=by simpa using heq
      have e2:(x1 !=y1)=false:=by simpa using heq
      have HE2:=hid (show∀j,j<1+1->dg X j=dg Y j from fun j hj=>by
       by_cases e:j=1
       ·subst e;have h1:=hx1.out;have h2:=hy1.out;omega
       ·exact HE.out j (by omega))
      clear heq
      go_wp2
      go_quiet (fail)
      go_wp2
      go_roundw
      case rel=>exact⟨1+1,_,by omega,rfl,rfl,HE2⟩
      case measure=>simp[intOf]
     ·have e1:(x1==y1)=false:=by simpa using heq
      have e2:(x1 !=y1)=true:=by simpa using heq
      have HF:=hid (show betterB (c) (en:Nat) (d) (fn:Nat)=decide (y1<x1) by
       rw[HB.out]
       have h1:=hx1.out
       have h2:=hy1.out
       have h3:dg Y 1<dg X 1↔Y<X:=A1.out (HE.out 0 (by omega)) (fun hh=>heq (by omega))
       by_cases h:Y<X
       ·have:=h3.2 h;rw[decide_eq_true h,decide_eq_true (by omega)]
       ·have: ¬dg Y 1<dg X 1:=fun hh=>h (h3.1 hh)
        rw[decide_eq_false h,decide_eq_false (by omega)])
      clear heq
      go_wp2
      go_quiet (fail)
      go_wp2
      go_quiet (fail)
      go_wp2
      go_ret
      exact⟨by rw[HF.out];rfl,BV.out.trans ((below_drN3 V _ _ _).mono BV.out.size)⟩
    by_cases h2:k=2
    ·subst h2
     have cx:V.cell? ⟨w2.heap.size,2,none⟩=some (.int .u64 x2):=Blk.cell P1.out 2
     have cy:V.cell? ⟨w2.heap.size+1,2,none⟩=some (.int .u64 y2):=Blk.cell P2.out 2
     by_cases heq:x2=y2
     ·have e1:(x2==y2)=true:=by simpa using heq
      have e2:(x2 !=y2)=false:=by simpa using heq
      have HE2:=hid (show∀j,j<2+1->dg X j=dg Y j from fun j hj=>by
       by_cases e:j=2
       ·subst e;have h1:=hx2.out;have h2:=hy2.out;omega
       ·exact HE.out j (by omega))
      clear heq
      go_wp2
      go_quiet (fail)
      go_wp2
      go_roundw
      case rel=>exact⟨2+1,_,by omega,rfl,rfl,HE2⟩
      case measure=>simp[intOf]
     ·have e1:(x2==y2)=false:=by simpa using heq
      have e2:(x2 !=y2)=true:=by simpa using heq
      have HF:=hid (show betterB (c) (en:Nat) (d) (fn:Nat)=decide (y2<x2) by
       rw[HB.out]
       have h1:=hx2.out
       have h2:=hy2.out
       have h3:dg Y 2<dg X 2↔Y<X:=A2.out (HE.out 0 (by omega)) (HE.out 1 (by omega)) (fun hh=>heq (by omega))
       by_cases h:Y<X
       ·have:=h3.2 h;rw[decide_eq_true h,decide_eq_true (by omega)]
       ·have: ¬dg Y 2<dg X 2:=fun hh=>h (h3.1 hh)
        rw[decide_eq_false h,decide_eq_false (by omega)])
      clear heq
      go_wp2
      go_quiet (fail)
      go_wp2
      go_quiet (fail)
      go_wp2
      go_ret
      exact⟨by rw[HF.out];rfl,BV.out.trans ((below_drN3 V _ _ _).mono BV.out.size)⟩
    obtain rfl:k=3:=by omega
    have HF:=hid (show betterB (c) (en:Nat) (d) (fn:Nat)=false by
     rw[HB.out]
     have:=A3.out (HE.out 0 (by omega)) (HE.out 1 (by omega)) (HE.out 2 (by omega))
     simp;omega)
    clear h0 h1 h2
    go_wp2
    go_ret
    exact⟨by rw[HF.out];rfl,BW.out⟩
end Go.Proofs.YthoiikkjjaldnaaDoor
