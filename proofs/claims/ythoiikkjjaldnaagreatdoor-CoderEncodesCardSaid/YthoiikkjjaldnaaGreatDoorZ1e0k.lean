/- Texts that the law rests on. -/
import Derived.Test.YthoiikkjjaldnaaGreatDoorZ1e0j
namespace Go.Proofs.YthoiikkjjaldnaaGreatDoor
set_option linter.unusedVariables false
set_option linter.unusedSimpArgs false
set_option maxRecDepth 100000
set_option maxHeartbeats 8000000
open Go.RowKit
structure Onl(g:Nat)(w w':World):Prop where
 b:Below g w w'
 keep:∀k,g+5<=k->k<w.heap.size->w'.heap[k]?=w.heap[k]?
section
variable {g:Nat} {w w1 w2:World}
theorem Onl.trans(h:Onl g w w1)(k:Onl g w1 w2):Onl g w w2:=⟨h.b.trans k.b,fun j h1 h2=>(k.keep j h1 (lF h2 h.b.size)).trans (h.keep j h1 h2)⟩
theorem Onl.of_below(hg:g<=w.heap.size)(hb:Below w.heap.size w w1):Onl g w w1:=⟨hb.mono hg,fun j _ h2=>hb.block j h2⟩
theorem Onl.setCell(h:Onl g w w1){p:Addr}(h1:g<=p.block)(h2:p.block<g+5)(v:Value):Onl g w (w1.setCell p v):=
 ⟨h.b.setCell h1 v,fun j k1 k2=>(Below.heap_setCell w1 p v j ah).trans (h.keep j k1 k2)⟩
theorem Onl.setRow(h:Onl g w w1){b:Nat}(h1:g<=b)(h2:b<g+5)(cs:Array Value):Onl g w (w1.setRow b cs):=
 ⟨aS h.b h1 cs,fun j k1 k2=>(setRow_other w1 b j cs ah).trans (h.keep j k1 k2)⟩
theorem Onl.blk{k:Nat}{t:TypeId}{cs:Array Value}(h:Onl g w w1)(hb:Blk w k t cs)(hk:k<g\/g+5<=k):Blk w1 k t cs:=by
 rcases hk with hk|hk
 ·exact Blk.below hb h.b hk
 exact(h.keep k hk (Blk.lt hb)).trans hb
end
structure Sst(g gd:Nat)(A:Option Addr)(c gt:Nat)(L d:List Int)(s:Bst)(w:World):Prop where
 D:Blk w gd 27 #[.slice A 40 c]
 R:Rs w g A d
 T:Blk w g 201 #[.pointer (some ⟨gt,0,none⟩)]
 L_:IB w gt 216 L
 X:IB w (g+1) 33 s.at_
 F:Blk w (g+2) 4 #[.bool s.first]
 C:Blk w (g+3) 3 #[.int .i64 s.c]
 E:Blk w (g+4) 3 #[.int .i64 s.e]
 lt1:gd<g
 lt2:gt<g
section
variable {g gd gt c:Nat} {A:Option Addr} {L d:List Int} {s:Bst} {w w':World}
theorem Sst.lt(S:Sst g gd A c gt L d s w):g+5<=w.heap.size:=Blk.lt S.E
theorem Sst.below(S:Sst g gd A c gt L d s w)(hb:Below w.heap.size w w'):Sst g gd A c gt L d s w':=
 ⟨Blk.below' S.D hb,S.R.below' Ol hb,Blk.below' S.T hb,Blk.below' S.L_ hb,Blk.below' S.X hb,Blk.below' S.F hb,Blk.below' S.C hb,Blk.below' S.E hb,S.lt1,S.lt2⟩
theorem Sst.alloc(S:Sst g gd A c gt L d s w)(o:Obj):Sst g gd A c gt L d s (w.alloc o):=S.below ((aA _ _).alloc (al0z _) o)
theorem Sst.setFar(S:Sst g gd A c gt L d s w){p:Addr}(hp:g+5<=p.block)(v:Value):Sst g gd A c gt L d s (w.setCell p v):=by
 have h1:=S.lt1
 have h2:=S.lt2
 exact⟨Blk.far S.D ah v,S.R.below ((aA _ _).setCell ah v),Blk.far S.T ah v,Blk.far S.L_ ah v,Blk.far S.X ah v,Blk.far S.F ah v,Blk.far S.C ah v,Blk.far S.E ah v,h1,h2⟩
theorem Sst.rowFar(S:Sst g gd A c gt L d s w){b:Nat}(hp:g+5<=b)(cs:Array Value):Sst g gd A c gt L d s (w.setRow b cs):=by
 have h1:=S.lt1
 have h2:=S.lt2
 exact⟨Blk.rowFar S.D ah,S.R.below (aS (aA _ _) ah cs),Blk.rowFar S.T ah,Blk.rowFar S.L_ ah,Blk.rowFar S.X ah,Blk.rowFar S.F ah,Blk.rowFar S.C ah,Blk.rowFar S.E ah,h1,h2⟩
theorem Sst.put(S:Sst g gd A c gt L d s w)(x:List Int)(C E:Int):
 Sst g gd A c gt L d ⟨x,false,C,E⟩ ((((w.setRow (g+1) (agi x)).setCell ⟨g+3,0,none⟩ (.int .i64 C)).setCell ⟨g+4,0,none⟩ (.int .i64 E)).setCell ⟨g+2,0,none⟩ (.bool false)):=by
 have h1:=S.lt1
 have h2:=S.lt2
 have q:∀(k b:Nat),k≠b->k≠(⟨b,0,none⟩:Addr).block:=fun k b h=>h
 refine⟨?_,?_,?_,?_,?_,?_,?_,?_,h1,h2⟩
 ·exact((Blk.rowFar S.D ah).far (q _ _ ah) _).far (q _ _ ah) _|>.far (q _ _ ah) _
 ·exact S.R.below ((((aS (aA _ _) ah _).setCell (p:=⟨g+3,0,none⟩) (by show g<=g+3;omega) _).setCell (p:=⟨g+4,0,none⟩) (by show g<=g+4;omega) _).setCell (p:=⟨g+2,0,none⟩) (by show g<=g+2;omega) _)
 ·exact((Blk.rowFar S.T ah).far (q _ _ ah) _).far (q _ _ ah) _|>.far (q _ _ ah) _
 ·exact((Blk.rowFar S.L_ ah).far (q _ _ ah) _).far (q _ _ ah) _|>.far (q _ _ ah) _
 ·exact((IB.setRow S.X x).far (q _ _ ah) _).far (q _ _ ah) _|>.far (q _ _ ah) _
 ·have h:=Blk.set_ (((Blk.rowFar (c2:=agi x) (g:=g+1) S.F ah).far (q _ (g+3) ah) (.int .i64 C)).far (q _ (g+4) ah) (.int .i64 E)) 0 (.bool false)
  exact h
 ·have h:=(Blk.set_ (Blk.rowFar (c2:=agi x) (g:=g+1) S.C ah) 0 (.int .i64 C)).far (q _ (g+4) ah) (.int .i64 E)|>.far (q _ (g+2) ah) (.bool false)
  exact h
 ·have h:=(Blk.set_ ((Blk.rowFar (c2:=agi x) (g:=g+1) S.E ah).far (q _ (g+3) ah) (.int .i64 C)) 0 (.int .i64 E)).far (q _ (g+2) ah) (.bool false)
  exact h
theorem Onl.put(hg:Onl g w w')(x:List Int)(C E:Int):
 Onl g w ((((w'.setRow (g+1) (agi x)).setCell ⟨g+3,0,none⟩ (.int .i64 C)).setCell ⟨g+4,0,none⟩ (.int .i64 E)).setCell ⟨g+2,0,none⟩ (.bool false)):=
 (((hg.setRow (b:=g+1) ah ah _).setCell (p:=⟨g+3,0,none⟩) (by show g<=g+3;omega) (by show g+3<g+5;omega) _).setCell (p:=⟨g+4,0,none⟩) (by show g<=g+4;omega) (by show g+4<g+5;omega) _).setCell (p:=⟨g+2,0,none⟩) (by show g<=g+2;omega) (by show g+2<g+5;omega) _
end
theorem aiP(g gd gt c:Nat)(A:Option Addr)(L d ring x:List Int)(s:Bst)(w:World)(S:Sst g gd A c gt L d s w)(dl:d.length=40)(dw:W64 d)(hT:Tbl L ring 40 0)(hx:Ix x)(hs:s.at_.length=4)
 (h64:(-9223372036854775808<=s.c/\s.c<=9223372036854775807)/\ -9223372036854775808<=s.e/\s.e<=9223372036854775807):
 Calls Tryz.prog 192 #[.agg (agi x),.pointer (some ⟨gd,0,none⟩),.pointer (some ⟨g,0,none⟩),.pointer (some ⟨g+2,0,none⟩),.pointer (some ⟨g+3,0,none⟩),.pointer (some ⟨g+4,0,none⟩),.pointer (some ⟨g+1,0,none⟩)] w
  (fun e w'=>e=.returned (.tuple #[])/\Sst g gd A c gt L d (fZ d ring s x) w'/\Onl g w w'):=by
 have KS:=hid (fun W (h:Rs W W.heap.size A d) (hL:IB W gt 216 L)=>aiO A c gt d ring x L W h dl dw hL hT hx)
 have X4:=hid hx.1
 have SL:=hid hs
 have er:=QY d ring x
 have cr:=QZ d x 4
 have BS:=hid (show fZ d ring s x=if s.first||dO (scC d x 4) (scE d ring x) s.c s.e then⟨x,false,scC d x 4,scE d ring x⟩ else s from rfl)
 generalize scC d x 4=C at*
 generalize scE d ring x=E at*
 have KB:=hid (fun W=>Yz C E s.c s.e W cr.1 cr.2 ah ah h64.1.1 h64.1.2 h64.2.1 h64.2.2)
 have Q0:=hid (IB.new w 33 x)
 have S0:=hid (S.alloc (.cells (agi x) 33))
 have O0:=hid (Onl.of_below (g:=g) Ol ((aA w.heap.size w).alloc (al0z _) (.cells (agi x) 33)))
 clear S dl dw hT hx hs h64 er cr
 have cD:(w.alloc (.cells (agi x) 33)).cell? ⟨gd,0,none⟩=some (.slice A 40 c):=Blk.cell S0.out.D 0
 have cT:(w.alloc (.cells (agi x) 33)).cell? ⟨g,0,none⟩=some (.pointer (some ⟨gt,0,none⟩)):=Blk.cell S0.out.T 0
 have R0:=hid (S0.out.R.more (show g<=(w.alloc (.cells (agi x) 33)).heap.size by have:=S0.out.lt;omega))
 go_enter Tryz.func192,Tryz.ntmps192
 go_wp2_with(first
  |(refine aK rfl 33 (.tmp 7) rfl _ 33 x 4 _ rfl Q0.out Tryz.underlying33 rfl eY X4.out ?_))
 refine(KS.out _ R0.out S0.out.L_).mono ?_
 rintro e w1 ⟨rfl,hB⟩
 have S1:=hid (S0.out.below hB)
 have Q1:=hid (Blk.below' Q0.out hB)
 have O1:=hid (O0.out.trans (Onl.of_below (by have:=S0.out.lt;omega) hB))
 clear hB S0 Q0 O0 R0 cD cT KS
 have cF1:w1.cell? ⟨g+2,0,none⟩=some (.bool s.first):=Blk.cell S1.out.F 0
 by_cases hf:s.first=true
 ·rw[hf] at cF1 BS
  have BS:=hid (show fZ d ring s x=⟨x,false,C,E⟩ by rw[BS.out];rfl)
  obtain⟨wX,hwX⟩:∃wX,wX=w1:=⟨_,rfl⟩
  rw[<-hwX] at S1 Q1 O1 cF1|-
  obtain⟨SX,QX,OX⟩:Hid (Sst g gd A c gt L d s wX)/\Hid (IB wX w.heap.size 33 x)/\Hid (Onl g w wX):=⟨S1,Q1,O1⟩
  exact l16
 have hf:s.first=false:=by simpa using hf
 rw[hf] at cF1 BS
 have cC1:w1.cell? ⟨g+3,0,none⟩=some (.int .i64 s.c):=Blk.cell S1.out.C 0
 have cE1:w1.cell? ⟨g+4,0,none⟩=some (.int .i64 s.e):=Blk.cell S1.out.E 0
 obtain⟨b,hb⟩:∃b,b=dO C E s.c s.e:=⟨_,rfl⟩
 rw[<-hb] at KB BS
 clear hb
 go_wp2_with fail
 refine(KB.out w1).mono ?_
 rintro e w2 ⟨rfl,hB⟩
 have S2:=hid (S1.out.below hB)
 have Q2:=hid (Blk.below' Q1.out hB)
 have O2:=hid (O1.out.trans (Onl.of_below (by have:=S1.out.lt;omega) hB))
 clear hB S1 Q1 O1 cF1 cC1 cE1 KB
 rcases Bool.eq_false_or_eq_true b with rfl|rfl
 ·have BS:=hid (show fZ d ring s x=⟨x,false,C,E⟩ by rw[BS.out];rfl)
  obtain⟨wX,hwX⟩:∃wX,wX=w2:=⟨_,rfl⟩
  rw[<-hwX] at S2 Q2 O2|-
  obtain⟨SX,QX,OX⟩:Hid (Sst g gd A c gt L d s wX)/\Hid (IB wX w.heap.size 33 x)/\Hid (Onl g w wX):=⟨S2,Q2,O2⟩
  exact l16
 ·have BS:=hid (show fZ d ring s x=s by rw[BS.out];rfl)
  go_wp2
  go_end0
  exact⟨rfl,by rw[BS.out];exact S2.out,O2.out⟩
def JK(g gd:Nat):Value:=.func (.func 192) #[] #[.pointer (some ⟨gd,0,none⟩),.pointer (some ⟨g,0,none⟩),.pointer (some ⟨g+2,0,none⟩),.pointer (some ⟨g+3,0,none⟩),.pointer (some ⟨g+4,0,none⟩),.pointer (some ⟨g+1,0,none⟩)]
def Eu(s:Bst):Prop:=(-9223372036854775808<=s.c/\s.c<=9223372036854775807)/\ -9223372036854775808<=s.e/\s.e<=9223372036854775807
def JL(w:World)(p:Addr):Nat:=match w.cell? p with
 |some v=>(intOf v).toNat
 |none=>0
theorem aaC{w:World}{p:Addr}{x:Int}(h:w.cell? p=some (.int .i64 x)):JL w p=x.toNat:=by unfold JL;rw[h];rfl
theorem JM{now:List Int}(h:now.length=4)(t p:Nat):(jL now t p).length=4:=by unfold jL;rw[List.length_set];exact h
theorem TD{now:List Int}(h:now.length=4){t:Nat}(ht:t<4)(p:Nat):(jL now t p).getD t 0=p:=by unfold jL;rw[gQ _ _ _ ah]
theorem aiQ(now:List Int)(t p q:Nat):(jL now t p).set t (q:Int)=jL now t q:=by unfold jL;rw[List.set_set]
theorem aiR(g gd gt gn gq c t:Nat)(A:Option Addr)(L d ring now:List Int)(s0:Bst)(w:World)(S:Sst g gd A c gt L d s0 w)(dl:d.length=40)(dw:W64 d)(hT:Tbl L ring 40 0)(hs:Ix s0.at_)(h64:Eu s0)
 (hn:IB w gn 33 now) (hq:Blk w gq 3 #[.int .i64 (t:Nat)]) (ln:gn<g) (lq:gq<g) (hx:Ix now) (ht:t<4):
 Calls Tryz.prog 165 #[JK g gd,.pointer (some ⟨gn,0,none⟩),.pointer (some ⟨gq,0,none⟩)] w (fun e w'=>e=.returned (.tuple #[])/\Sst g gd A c gt L d ((jc now t 10).foldl (fZ d ring) s0) w'/\Onl g w w'):=by
 have KB:=hid (fun W x s (S:Sst g gd A c gt L d s W) (hx:Ix x) (hs:Ix s.at_) (h64:Eu s)=>aiP g gd gt c A L d ring x s W S dl dw hT hx hs.1 h64)
 have LS:=hid S.lt
 have HS:=hid hs
 have H64:=hid h64
 have HX:=hid hx
 have HN:=hid hn
 have HQ:=hid hq
 have S0:=hid S
 have KX:=hid hx.1
 have LW:=hid (show w.heap.size<(w.alloc (.cells (agi Z4) 33)).heap.size from az)
 have Z0:=hid (show IB ((w.alloc (.cells (agi Z4) 33)).setRow w.heap.size (agi now)) w.heap.size 33 now from IB.setRow (IB.new w _ Z4) now)
 have S1:=hid ((S.alloc (.cells (agi Z4) 33)).rowFar (b:=w.heap.size) S.lt (agi now))
 have O1:=hid (show Onl g w ((w.alloc (.cells (agi Z4) 33)).setRow w.heap.size (agi now)) from⟨aS ((aA _ _).alloc Ol _) Ol _,fun j k1 k2=>(setRow_other _ _ j _ ah).trans (Below.heap_alloc w _ j k2)⟩)
 obtain⟨w1,hw1⟩:∃w1,w1=(w.alloc (.cells (agi Z4) 33)).setRow w.heap.size (agi now):=⟨_,rfl⟩
 rw[<-hw1] at Z0 S1 O1
 rw[show agi Z4= #[.int .i64 0,.int .i64 0,.int .i64 0,.int .i64 0] from rfl] at hw1
 have HW1:=hid hw1
 have NQ:=hid (show Blk w1 gq 3 #[.int .i64 (t:Nat)] from O1.out.blk hq (.inl lq))
 have cq:w1.cell? ⟨gq,0,none⟩=some (.int .i64 (t:Nat)):=Blk.cell NQ.out 0
 have ct:=IB.cell Z0.out t (by rw[hx.1];exact ht)
 have ft:=Blk.frozen Z0.out t
 have t4:(t:Int)<4:=ah
 have t0:(0:Int)<=t:=ah
 have HLQ:=hid lq
 clear S dl dw hT hs h64 hx hn hq hw1
 unfold JK
 have Z2:=hid (show IB (w1.setCell ⟨w.heap.size,t,none⟩ (.int .i64 0)) w.heap.size 33 (jL now t 0) from IB.set_ Z0.out t 0)
 have S2:=hid (S1.out.setFar (p:=⟨w.heap.size,t,none⟩) (by show g+5<=w.heap.size;exact LS.out) (.int .i64 0))
 have O2:=hid (show Onl g w (w1.setCell ⟨w.heap.size,t,none⟩ (.int .i64 0)) from⟨O1.out.b.setCell (by show g<=w.heap.size;have:=LS.out;omega) _,fun j k1 k2=>(Below.heap_setCell w1 _ _ j (by show j≠w.heap.size;omega)).trans (O1.out.keep j k1 k2)⟩)
 go_enter Tryz.func165,Tryz.ntmps165
 go_wp2_with(first
  |(refine aK rfl 33 (.tmp 1) rfl _ 33 now 4 _ rfl HN.out Tryz.underlying33 rfl eY KX.out ?_)
  |(refine aP rfl 33 (.tmp 4) (.tmp 5) rfl _ 33 Z4 now 4 rfl rfl (IB.new w _ Z4) eY rfl KX.out ?_;rw[<-HW1.out]))
 generalize w1.setCell ⟨w.heap.size,t,none⟩ (.int .i64 0)=w2 at Z2 S2 O2|-
 clear Z0 S1 O1 NQ cq ct ft S0
 go_loopw[] (fun wr=> ∃p:Nat,p<=10/\Hid (IB wr w.heap.size 33 (jL now t p))/\Hid (Sst g gd A c gt L d ((jc now t p).foldl (fZ d ring) s0) wr)/\Hid (Onl g w wr)) (fun wr=>10-JL wr ⟨w.heap.size,t,none⟩)
 case atStart=>exact⟨0,ah,Z2,S2,O2⟩
 case round=>
  clear Z2 S2 O2
  obtain⟨p,hp,HZ,HSt,HO⟩:=hrel
  have NQ:=hid (show Blk wr gq 3 #[.int .i64 (t:Nat)] from HO.out.blk HQ.out (.inl HLQ.out))
  have cq:wr.cell? ⟨gq,0,none⟩=some (.int .i64 (t:Nat)):=Blk.cell NQ.out 0
  have ct:=IB.cell HZ.out t (by rw[JM KX.out];exact ht)
  rw[TD KX.out ht] at ct
  have ft:=Blk.frozen HZ.out t
  have MW:=hid (aaC ct)
  by_cases hlt:p<10
  ·have KB1:=hid (KB.out wr (jL now t p) ((jc now t p).foldl (fZ d ring) s0) HSt.out (YW HX.out hlt) (DR HS.out (Jc HX.out t ah)) (Ri H64.out))
   have NF:=hid (show(jc now t (p+1)).foldl (fZ d ring) s0=fZ d ring ((jc now t p).foldl (fZ d ring) s0) (jL now t p) by rw[YV,List.foldl_append];rfl)
   have XL:=hid (JM KX.out t p)
   have XS:=hid (aiQ now t p (p+1))
   have XA:=hid (TD KX.out ht p)
   generalize (jc now t p).foldl (fZ d ring) s0=sn at*
   go_wp2_with(refine aK rfl 33 (.tmp 4) rfl _ 33 (jL now t p) 4 _ rfl HZ.out Tryz.underlying33 rfl eY XL.out ?_)
   refine KB1.out.mono ?_
   rintro e w3 ⟨rfl,hS,hO⟩
   have N1:=hid (show Sst g gd A c gt L d ((jc now t (p+1)).foldl (fZ d ring) s0) w3 by rw[NF.out];exact hS)
   have N2:=hid (HO.out.trans hO)
   have N3:=hid (show IB w3 w.heap.size 33 (jL now t p) from hO.blk HZ.out (.inr LS.out))
   have N4:=hid (show Blk w3 gq 3 #[.int .i64 (t:Nat)] from hO.blk NQ.out (.inl HLQ.out))
   clear hS hO KB1 HSt HO HZ cq ct ft NQ
   have cq:w3.cell? ⟨gq,0,none⟩=some (.int .i64 (t:Nat)):=Blk.cell N4.out 0
   have ct:=IB.cell N3.out t (by rw[XL.out];exact ht)
   rw[XA.out] at ct
   have ft:=Blk.frozen N3.out t
   have M1:=hid (show IB (w3.setCell ⟨w.heap.size,t,none⟩ (.int .i64 ((p:Int)+1))) w.heap.size 33 (jL now t (p+1)) from by rw[<-XS.out];exact IB.set_ N3.out t ((p+1:Nat):Int))
   have M2:=hid (N1.out.setFar (p:=⟨w.heap.size,t,none⟩) (by show g+5<=w.heap.size;exact LS.out) (.int .i64 ((p:Int)+1)))
   have M3:=hid (show Onl g w (w3.setCell ⟨w.heap.size,t,none⟩ (.int .i64 ((p:Int)+1))) from⟨N2.out.b.setCell (by show g<=w.heap.size;have:=LS.out;omega) _,fun j k1 k2=>(Below.heap_setCell w3 _ _ j (by show j≠w.heap.size;omega)).trans (N2.out.keep j k1 k2)⟩)
   have MC:=hid (show JL (w3.setCell ⟨w.heap.size,t,none⟩ (.int .i64 ((p:Int)+1))) ⟨w.heap.size,t,none⟩=p+1 from by
    have h1:=IB.cell M1.out t (by rw[JM KX.out];exact ht)
    rw[TD KX.out ht] at h1
    exact aaC h1)
   go_wp2
   go_roundw
   case rel=>exact⟨p+1,ah,M1,M2,M3⟩
   case measure=>rw[MC.out,MW.out];omega
  obtain rfl:p=10:=ah
  go_wp2
  go_end0
  exact⟨rfl,HSt.out,HO.out⟩
def SeAns(d ring x:List Int)(w:World)(e:Ending)(w':World):Prop:=e=.returned (.tuple #[.agg (agi (seX d ring x)),.int .i64 (seS d ring x),.int .i64 (iV d ring)])/\Below w.heap.size w w'
theorem SeAns.bad{d ring x:List Int}{w w':World}{er:Int}(he:iV d ring=er)(h0:er≠0)(hB:Below w.heap.size w w'):SeAns d ring x w (.returned (.tuple #[.agg (agi Z4),.int .i64 0,.int .i64 er])) w':=
 ⟨by unfold seX seS;rw[he,if_neg h0,if_neg h0],hB⟩
theorem SeAns.good{d ring x:List Int}{w w':World}(he:iV d ring=0)(hB:Below w.heap.size w w'):SeAns d ring x w (.returned (.tuple #[.agg (agi x),.int .i64 (mg d x 4),.int .i64 0])) w':=
 ⟨by unfold seX seS;rw[he,if_pos rfl,if_pos rfl],hB⟩
def okD(d:List Int):Bool:=d.all fun x=>decide (-1099511627776<=x/\x<=1099511627776)
theorem Ar{d ring:List Int}(h: ¬(d.length=40/\ring.length=40)):iV d ring=1:=by unfold iV;rw[if_neg h]
theorem aaG{d ring:List Int}(h1:d.length=40)(h2:ring.length=40):iV d ring=if okD d then 0 else 2:=by unfold iV okD;rw[if_pos ⟨h1,h2⟩]
def seW(w1:World)(gt:Nat):World:=((((w1.alloc (.cells #[.pointer (some ⟨gt,0,none⟩)] 201)).alloc (.cells #[.int .i64 0,.int .i64 0,.int .i64 0,.int .i64 0] 33)).alloc (.cells #[.bool true] 4)).alloc (.cells #[.int .i64 0] 3)).alloc (.cells #[.int .i64 0] 3)
theorem TI(w1:World)(gt:Nat):Below w1.heap.size w1 (seW w1 gt):=by
 unfold seW
 exact(((((aA _ _).alloc (al0z _) _).alloc az _).alloc aJ _).alloc aJ _).alloc aJ _
theorem aiZ(w1:World)(gd gt c:Nat)(A:Option Addr)(L d:List Int)(hD:Blk w1 gd 27 #[.slice A 40 c])(hR:Rs w1 w1.heap.size A d)(hL:IB w1 gt 216 L):Sst w1.heap.size gd A c gt L d yJ (seW w1 gt):=by
 have hb:=TI w1 gt
 have hT:=Blk.new w1 201 #[.pointer (some ⟨gt,0,none⟩)]
 have hX:=Blk.new (w1.alloc (.cells #[.pointer (some ⟨gt,0,none⟩)] 201)) 33 #[.int .i64 0,.int .i64 0,.int .i64 0,.int .i64 0]
 have hF:=Blk.new ((w1.alloc (.cells #[.pointer (some ⟨gt,0,none⟩)] 201)).alloc (.cells #[.int .i64 0,.int .i64 0,.int .i64 0,.int .i64 0] 33)) 4 #[.bool true]
 have hC:=Blk.new (((w1.alloc (.cells #[.pointer (some ⟨gt,0,none⟩)] 201)).alloc (.cells #[.int .i64 0,.int .i64 0,.int .i64 0,.int .i64 0] 33)).alloc (.cells #[.bool true] 4)) 3 #[.int .i64 0]
 have hE:=Blk.new ((((w1.alloc (.cells #[.pointer (some ⟨gt,0,none⟩)] 201)).alloc (.cells #[.int .i64 0,.int .i64 0,.int .i64 0,.int .i64 0] 33)).alloc (.cells #[.bool true] 4)).alloc (.cells #[.int .i64 0] 3)) 3 #[.int .i64 0]
 simp only[bU] at hT hX hF hC hE
 exact⟨Blk.below' hD hb,hR.below hb,Blk.alloc (Blk.alloc (Blk.alloc (Blk.alloc hT _) _) _) _,Blk.below' hL hb,Blk.alloc (Blk.alloc (Blk.alloc hX _) _) _,Blk.alloc (Blk.alloc hF _) _,Blk.alloc hC _,hE,Blk.lt hD,Blk.lt hL⟩
theorem ai0(A A2:Option Addr)(c c2 n1 n2:Nat)(d ring:List Int)(l:List (List Int))(pw qw:Value)(w:World)(hd:Rs w w.heap.size A d)(hr:Rs w w.heap.size A2 ring)(l1:d.length=n1)(l2:ring.length=n2)(rw_:W64 ring)(hlx:∀x∈l,Ix x)
 (KW:d.length=40->∀(g gd gt:Nat) (L:List Int) (s0:Bst) (W:World),Below w.heap.size w W->w.heap.size<=g->Sst g gd A c gt L d s0 W->Tbl L ring 40 0->Ix s0.at_->Eu s0->
   Calls Tryz.prog 165 #[JK g gd,pw,qw] W (fun e w'=>e=.returned (.tuple #[])/\Sst g gd A c gt L d (l.foldl (fZ d ring) s0) w'/\Onl g W w')):
 Calls Tryz.prog 164 #[.slice A n1 c,.slice A2 n2 c2,.func (.func 165) #[] #[pw,qw]] w (SeAns d ring (jk d ring l).at_ w):=by
 have hR:=qC (fn:=Tryz.f164) (p:=6) (q:=7) (r:=8) (ty:=33) rfl
 have FB:=hid (fun(er:Int) (he:iV d ring=er) (h0:er≠0) w' (hB:Below w.heap.size w w')=>SeAns.bad (x:=(jk d ring l).at_) he h0 hB)
 have B0:=hid (((aA w.heap.size w).alloc (al0z _) (.cells #[.slice A n1 c] 27)).alloc az (.cells (agi Z4) 33))
 have D0:=hid (Blk.alloc (Blk.new w 27 #[.slice A n1 c]) (.cells (agi Z4) 33))
 have Z0:=IB.new (w.alloc (.cells #[.slice A n1 c] 27)) 33 Z4
 simp only[bU] at Z0
 have HB0:=hid Z0
 clear Z0
 have z4:agi Z4= #[.int .i64 0,.int .i64 0,.int .i64 0,.int .i64 0]:=rfl
 rw[z4] at B0 D0 HB0
 obtain⟨V,hV⟩:∃V,V=(w.alloc (.cells #[.slice A n1 c] 27)).alloc (.cells #[.int .i64 0,.int .i64 0,.int .i64 0,.int .i64 0] 33):=⟨_,rfl⟩
 rw[<-hV] at B0 D0 HB0
 have HV:=hid hV
 have HD:=hid ((hd.below B0.out).more B0.out.size)
 have HR:=hid ((hr.below B0.out).more B0.out.size)
 have DL:=hid l1
 have RL:=hid l2
 have RW:=hid rw_
 have HLX:=hid hlx
 have HKW:=hid KW
 have cD:V.cell? ⟨w.heap.size,0,none⟩=some (.slice A n1 c):=Blk.cell D0.out 0
 rw[hV] at cD
 clear hV hd hr l1 l2 rw_ hlx KW z4
 have RB:=hid (IB.setRow HB0.out Z4)
 have BB:=hid (aS B0.out (g:=w.heap.size+1) ah (agi Z4))
 by_cases hl:n1=40
 rotate_left
 ·have HE:=hid (Ar (d:=d) (ring:=ring) (by have:=DL.out;omega))
  have d0:((n1:Int) !=40)=true:=aJ
  have d1: ¬(n1:Int)=40:=ah
  clear hl
  exact l51
 subst hl
 by_cases hl2:n2=40
 rotate_left
 ·have HE:=hid (Ar (d:=d) (ring:=ring) (by have:=RL.out;omega))
  have d0:((n2:Int) !=40)=true:=aJ
  have d1: ¬(n2:Int)=40:=ah
  clear hl2
  exact l51
 subst hl2
 have HE:=hid (aaG DL.out RL.out)
 go_enter Tryz.func164,Tryz.ntmps164
 go_wp2
 rw[<-HV.out]
 clear cD
 go_loop [27] (fun iv=> ∃i:Nat,i<=40/\iv=.int .i64 i/\Hid (allTo (fun x=>decide (-1099511627776<=x/\x<=1099511627776)) d i)) (fun iv=>40-(intOf iv).toNat)
 case atStart=>exact⟨0,ah,rfl,hid allTo.zero⟩
 case round=>
  obtain⟨i,hi,rfl,HY⟩:=hrel
  by_cases hlt:i<40
  ·obtain⟨ad,rfl,_,c0⟩:=HD.out.at_ (k:=i) UV
   obtain⟨x,hx⟩:∃x,x=d.getD i 0:=⟨_,rfl⟩
   rw[<-hx] at c0
   by_cases hb:x< -1099511627776\/1099511627776<x
   ·have HE2:=hid (show iV d ring=2 from abE)
    clear hx
    rcases hb with hb|hb
    ·have e1:decide (x< -1099511627776)=true:=Fh
     exact l78
    have e1:decide (x< -1099511627776)=false:=aJ
    have e3:decide (1099511627776<x)=true:=aJ
    exact l78
   exact l74
  obtain rfl:i=40:=ah
  have OK:=hid (show okD d=true from HY.out.all (by rw[DL.out];exact al0z _))
  have HE2:=hid (show iV d ring=0 by rw[HE.out,OK.out];rfl)
  clear HY HE hlt hi RB BB FB
  have KE:=hid (aiN A2 c2 ring V HR.out RL.out RW.out)
  go_wp2_with fail
  refine KE.out.mono ?_
  rintro e w1 ⟨L,rfl,hI,hT,hB⟩
  have L1:=hid hI
  have T1:=hid hT
  have D1:=hid (Blk.below' D0.out hB)
  have Z1:=hid (Blk.below' HB0.out hB)
  have R1:=hid ((HD.out.below hB).more hB.size)
  have B1:=hid (B0.out.trans (hB.mono B0.out.size))
  have GT:=hid (Blk.lt hI)
  clear hI hT hB KE HR HD D0 HB0 B0
  have S2:=hid (aiZ w1 w.heap.size V.heap.size c A L d D1.out R1.out L1.out)
  have B2:=hid (B1.out.trans ((TI w1 V.heap.size).mono B1.out.size))
  have Z2:=hid (Blk.below' Z1.out (TI w1 V.heap.size))
  have LZ:=hid (Blk.lt Z1.out)
  have W5:=hid (show seW w1 V.heap.size=_ from rfl)
  have KW1:=hid (HKW.out DL.out w1.heap.size w.heap.size V.heap.size L yJ (seW w1 V.heap.size) B2.out B1.out.size S2.out T1.out DN ⟨⟨aB,aB⟩,⟨aB,aB⟩⟩)
  have IXB:=hid (DR (d:=d) (ring:=ring) (s:=yJ) DN HLX.out)
  obtain⟨P,hP⟩:∃P,P=SeAns d ring (jk d ring l).at_ w:=⟨_,rfl⟩
  have FG:=hid (fun w' (hB:Below w.heap.size w w')=>show P (.returned (.tuple #[.agg (agi (jk d ring l).at_),.int .i64 (mg d (jk d ring l).at_ 4),.int .i64 0])) w' from by rw[hP];exact SeAns.good (x:=(jk d ring l).at_) HE2.out hB)
  have HP:=hid hP
  clear hP
  have KSG:=hid (fun W (h:Rs W W.heap.size A d)=>aaD A c d (jk d ring l).at_ W h DL.out IXB.out)
  unfold jk at FG KSG
  unfold JK seW at KW1
  generalize l.foldl (fZ d ring) yJ=sb at*
  clear D1 R1 L1 T1 Z1 B1 HKW HLX RW
  go_wp2_with fail
  refine KW1.out.mono ?_
  rintro e w2 ⟨rfl,hS,hO⟩
  have J3:IB w2 (w1.heap.size+1) 33 sb.at_:=hS.X
  have cD:w2.cell? ⟨w.heap.size,0,none⟩=some (.slice A 40 c):=Blk.cell hS.D 0
  have R3:=hid (show Rs w2.drew w2.drew.heap.size A d from hS.R.more (by have:=hS.lt;show w1.heap.size<=w2.heap.size;omega))
  have D3:=hid hS.D
  have Z3:=hid (show IB w2 (w.heap.size+1) 33 Z4 from hO.blk Z2.out (.inl LZ.out))
  have B3:=hid (show Below w.heap.size w w2 from B2.out.trans ⟨hO.b.os,hO.b.tape,hO.b.output,hO.b.size,fun k hk=>hO.b.block k BC⟩)
  clear hS hO KW1 S2 B2 Z2 W5
  have IXL:=IXB.out.1
  have KSG:=KSG.out
  have FG:=FG.out
  obtain⟨xs,hxs⟩:∃xs,xs=sb.at_:=⟨_,rfl⟩
  rw[<-hxs] at J3 IXL KSG FG
  obtain⟨x0,x1,x2,x3,rfl⟩:=uV IXL
  have J3:=hid J3
  generalize mg d [x0,x1,x2,x3] 4=sv at*
  have KS1:=hid (show Calls Tryz.prog 166 #[.slice A 40 c,.agg #[.int .i64 x0,.int .i64 x1,.int .i64 x2,.int .i64 x3]] w2.drew (fun e w'=>e=.returned (.int .i64 sv)/\Below w2.drew.heap.size w2.drew w') from KSG w2.drew R3.out)
  have FG:=hid FG
  rename_i J3r KSGr FGr
  have LG: ¬w.heap.size+1=w1.heap.size+1:=BC
  have LG2: ¬w1.heap.size+1=w.heap.size+1:=BC
  have LG5: ¬w.heap.size=w1.heap.size:=BC
  have LG6: ¬w1.heap.size=w.heap.size:=BC
  have LG3: ¬w.heap.size=w.heap.size+1:=ah
  have LG4: ¬w.heap.size=w1.heap.size+1:=BC
  have J3':=J3.out
  have k0:World.cell? w2 ⟨w1.heap.size+1,0,none⟩=some (.int .i64 x0):=IB.cell J3' 0 fO;have k1:World.cell? w2 ⟨w1.heap.size+1,1,none⟩=some (.int .i64 x1):=IB.cell J3' 1 fO;have k2:World.cell? w2 ⟨w1.heap.size+1,2,none⟩=some (.int .i64 x2):=IB.cell J3' 2 fO;have k3:World.cell? w2 ⟨w1.heap.size+1,3,none⟩=some (.int .i64 x3):=IB.cell J3' 3 fO
  clear J3' KSG IXL hxs IXB OK
  go_wp2
  go_region_held3 (fun w'=>w'.cell? ⟨w1.heap.size+1,0,none⟩=some (.int .i64 x0)/\w'.cell? ⟨w1.heap.size+1,1,none⟩=some (.int .i64 x1)/\w'.cell? ⟨w1.heap.size+1,2,none⟩=some (.int .i64 x2)/\w'.cell? ⟨w1.heap.size+1,3,none⟩=some (.int .i64 x3)/\w'.cell? ⟨w.heap.size,0,none⟩=some (.slice A 40 c)) (go_keep) (first
   |(go_at_call 166;(with_reducible refine KS1.out.mono ?_);rintro e w3 ⟨rfl,hB⟩;have J4:IB w3 (w1.heap.size+1) 33 [x0,x1,x2,x3]:=Blk.below' (Blk.drew J3.out) hB;have cD4:w3.cell? ⟨w.heap.size,0,none⟩=some (.slice A 40 c):=Blk.cell (Blk.below' (Blk.drew D3.out) hB) 0;have Z4':IB w3 (w.heap.size+1) 33 Z4:=Blk.below' (Blk.drew Z3.out) hB;have B4:=hid (show Below w.heap.size w w3 from B3.out.drew.trans (hB.mono B3.out.size));have l0:World.cell? w3 ⟨w1.heap.size+1,0,none⟩=some (.int .i64 x0):=IB.cell J4 0 fO;have l1:World.cell? w3 ⟨w1.heap.size+1,1,none⟩=some (.int .i64 x1):=IB.cell J4 1 fO;have l2:World.cell? w3 ⟨w1.heap.size+1,2,none⟩=some (.int .i64 x2):=IB.cell J4 2 fO;have l3:World.cell? w3 ⟨w1.heap.size+1,3,none⟩=some (.int .i64 x3):=IB.cell J4 3 fO;have z0:World.cell? w3 ⟨w.heap.size+1,0,none⟩=some (.int .i64 0):=IB.cell Z4' 0 fO;have z1:World.cell? w3 ⟨w.heap.size+1,1,none⟩=some (.int .i64 0):=IB.cell Z4' 1 fO;have z2:World.cell? w3 ⟨w.heap.size+1,2,none⟩=some (.int .i64 0):=IB.cell Z4' 2 fO;have z3:World.cell? w3 ⟨w.heap.size+1,3,none⟩=some (.int .i64 0):=IB.cell Z4' 3 fO;have y0:World.frozen? w3 ⟨w.heap.size+1,0,none⟩=false:=Blk.frozen Z4' 0;have y1:World.frozen? w3 ⟨w.heap.size+1,1,none⟩=false:=Blk.frozen Z4' 1;have y2:World.frozen? w3 ⟨w.heap.size+1,2,none⟩=false:=Blk.frozen Z4' 2;have y3:World.frozen? w3 ⟨w.heap.size+1,3,none⟩=false:=Blk.frozen Z4' 3;have J4:=hid J4;have Z5:=hid Z4';clear hB Z4'))
  rename_i hHeldZ
  clear hHeldZ
  clear k0 k1 k2 k3 l0 l1 l2 l3 z0 z1 z2 z3 y0 y1 y2 y3
  simp only[Exit.then]
  have RF:=hid (show IB ((((w3.setCell ⟨w.heap.size+1,0,none⟩ (.int .i64 x0)).setCell ⟨w.heap.size+1,1,none⟩ (.int .i64 x1)).setCell ⟨w.heap.size+1,2,none⟩ (.int .i64 x2)).setCell ⟨w.heap.size+1,3,none⟩ (.int .i64 x3)) (w.heap.size+1) 33 [x0,x1,x2,x3] from IB.set_ (IB.set_ (IB.set_ (IB.set_ Z5.out 0 x0) 1 x1) 2 x2) 3 x3)
  have BF:=hid (show Below w.heap.size w ((((w3.setCell ⟨w.heap.size+1,0,none⟩ (.int .i64 x0)).setCell ⟨w.heap.size+1,1,none⟩ (.int .i64 x1)).setCell ⟨w.heap.size+1,2,none⟩ (.int .i64 x2)).setCell ⟨w.heap.size+1,3,none⟩ (.int .i64 x3)) from(((B4.out.setCell (p:=⟨w.heap.size+1,0,none⟩) ug _).setCell (p:=⟨w.heap.size+1,1,none⟩) ug _).setCell (p:=⟨w.heap.size+1,2,none⟩) ug _).setCell (p:=⟨w.heap.size+1,3,none⟩) ug _)
  go_wp2
  refine bg (v:=_) (hR _ _ _ 33 [x0,x1,x2,x3] _ 4 rfl RF.out Tryz.underlying33 rfl eY rfl) rfl ?_
  have:=FG.out _ BF.out
  rw[HP.out] at this
  exact this
theorem ai1(A A2:Option Addr)(c c2 n1 n2:Nat)(d ring:List Int)(w:World)(hd:Rs w w.heap.size A d)(hr:Rs w w.heap.size A2 ring)(l1:d.length=n1)(l2:ring.length=n2)(dw:W64 d)(rw_:W64 ring):
 Calls Tryz.prog 101 #[.slice A n1 c,.slice A2 n2 c2] w (SeAns d ring (eu d ring 8) w):=by
 have hR:=qC (fn:=Tryz.f101) (p:=4) (q:=5) (r:=6) (ty:=33) rfl
 have hmf:∀(fn:Fn) (first cap:Array Value) (w:World),(Instr.makeFunc fn first cap).run Tryz.prog w=.ok (.func fn first cap) w:=fun _ _ _ _=>rfl
 have B0:=((aA w.heap.size w).alloc (al0z _) (.cells (agi Z4) 33)).alloc az (.cells (agi Z4) 33)
 have Z0:=Blk.alloc (IB.new w 33 Z4) (.cells (agi Z4) 33)
 have N0:=IB.new (w.alloc (.cells (agi Z4) 33)) 33 Z4
 simp only[bU] at N0
 rw[show agi Z4= #[.int .i64 0,.int .i64 0,.int .i64 0,.int .i64 0] from rfl] at B0 Z0 N0
 obtain⟨V,hV⟩:∃V,V=(w.alloc (.cells #[.int .i64 0,.int .i64 0,.int .i64 0,.int .i64 0] 33)).alloc (.cells #[.int .i64 0,.int .i64 0,.int .i64 0,.int .i64 0] 33):=⟨_,rfl⟩
 rw[<-hV] at B0 Z0 N0
 have HV:=hid hV
 have B0:=hid B0
 have Z0:=hid (show IB V w.heap.size 33 Z4 from Z0)
 have N0:=hid N0
 have HD:=hid hd
 have HR:=hid hr
 have KS:=hid (fun(W:World) (h1:Rs W W.heap.size A d) (h2:Rs W W.heap.size A2 ring) (now:List Int) (hn:Ix now) (t:Nat) (ht:t<4) (gn gq:Nat) (bn:IB W gn 33 now) (bq:Blk W gq 3 #[.int .i64 (t:Nat)])=>
  show Calls Tryz.prog 164 #[.slice A n1 c,.slice A2 n2 c2,.func (.func 165) #[] #[.pointer (some ⟨gn,0,none⟩),.pointer (some ⟨gq,0,none⟩)]] W (SeAns d ring (jk d ring (jc now t 10)).at_ W) from
  ai0 A A2 c c2 n1 n2 d ring (jc now t 10) _ _ W h1 h2 l1 l2 rw_ (Jc hn t (al0z _)) (fun hl g gd gt L s0 W' hB hg S hT hs h64=>aiR g gd gt gn gq c t A L d ring now s0 W' S hl dw hT hs h64 (Blk.below' bn hB) (Blk.below' bq hB) (lF (Blk.lt bn) hg) (lF (Blk.lt bq) hg) hn ht))
 have KSG:=hid (fun(he:iV d ring=0) (W:World) (h:Rs W W.heap.size A d) (x:List Int) (hx:Ix x)=>show Calls Tryz.prog 166 #[.slice A n1 c,.agg (agi x)] W (fun e w'=>e=.returned (.int .i64 (mg d x 4))/\Below W.heap.size W w') from by
  have h40:n1=40:=by
   rw[<-l1]
   refine Classical.byContradiction fun hc=>?_
   rw[Ar (fun h=>hc h.1)] at he
   cases he
  subst h40
  exact aaD A c d x W h l1 hx)
 clear hd hr l1 l2 dw rw_ hV
 rename_i B0r Z0r N0r
 clear B0r Z0r N0r
 go_enter Tryz.func101,Tryz.ntmps101
 go_wp2
 rw[<-HV.out]
 go_loopw[12] (fun jv wr=> ∃j:Nat,j<=2/\jv=.int .i64 j/\Hid (IB wr w.heap.size 33 Z4)/\Hid (IB wr (w.heap.size+1) 33 (eu d ring (4*j)))/\Hid (0<j->iV d ring=0)/\Hid (Below w.heap.size w wr)) (fun jv _=>2-(intOf jv).toNat)
 case atStart=>exact⟨0,ah,rfl,Z0,N0,hid (fun h=>ah),B0⟩
 case round=>
  clear Z0 N0
  obtain⟨j,hj,rfl,HZ,HN,HE,HB⟩:=hrel
  obtain⟨wo,rfl⟩:∃wo:World,wo=wr:=⟨_,rfl⟩
  by_cases hlt:j<2
  ·have hdec:decide ((j:Int)<2)=true:=aJ
   go_wp2
   go_loopw[14] (fun tv wr=> ∃t:Nat,t<=4/\tv=.int .i64 t/\Hid (IB wr w.heap.size 33 Z4)/\Hid (IB wr (w.heap.size+1) 33 (eu d ring (4*j+t)))/\Hid (0<j\/0<t->iV d ring=0)/\Hid (Below w.heap.size w wr)) (fun tv _=>4-(intOf tv).toNat)
   case atStart=>exact⟨0,ah,rfl,HZ,HN,hid (fun h=>HE.out ah),HB⟩
   case round=>
    clear HZ HN HE HB
    obtain⟨t,ht,rfl,HZ,HN,HE,HB⟩:=hrel
    by_cases hlt4:t<4
    ·have hL:=(aA wr.heap.size wr).alloc (al0z _) (.cells #[.int .i64 (t:Nat)] 3)
     have Z1:=hid (show IB (wr.alloc (.cells #[.int .i64 (t:Nat)] 3)) w.heap.size 33 Z4 from Blk.below' HZ.out hL)
     have N1:=hid (show IB (wr.alloc (.cells #[.int .i64 (t:Nat)] 3)) (w.heap.size+1) 33 (eu d ring (4*j+t)) from Blk.below' HN.out hL)
     have B1:=hid (HB.out.trans (hL.mono HB.out.size))
     have Q1:=hid (Blk.new wr 3 #[.int .i64 (t:Nat)])
     have NX:=hid (show eu d ring (4*j+(t+1))=(jk d ring (jc (eu d ring (4*j+t)) t 10)).at_ from by
      rw[show 4*j+(t+1)=(4*j+t)+1 from ah,eu,show(4*j+t)%4=t from ah])
     have NL:=hid (wz d ring (4*j+(t+1)))
     have KS1:=hid (fun(W:World) (h1:Rs W W.heap.size A d) (h2:Rs W W.heap.size A2 ring) (gn gq:Nat) bn bq=>KS.out W h1 h2 (eu d ring (4*j+t)) (wz d ring _) t hlt4 gn gq bn bq)
     unfold SeAns seX seS at KS1
     rw[<-NX.out] at KS1
     have hdt:decide ((t:Int)<4)=true:=aJ
     obtain⟨nx,hnx⟩:∃nx,nx=eu d ring (4*j+(t+1)):=⟨_,rfl⟩
     rw[<-hnx] at KS1 NL
     have NXE:=hid hnx
     clear hnx NX
     have NI:=hid (wz d ring (4*j+t))
     generalize eu d ring (4*j+t)=now at*
     have KS2:=hid (KS1.out _ ((HD.out.below B1.out).more B1.out.size) ((HR.out.below B1.out).more B1.out.size) (w.heap.size+1) wr.heap.size N1.out Q1.out)
     clear KS1 HZ HN HB
     go_wp2_with fail
     refine KS2.out.mono ?_
     rintro e w1 ⟨rfl,hB⟩
     have Z2:=hid (Blk.below' Z1.out hB)
     have N2:=hid (Blk.below' N1.out hB)
     have B2:=hid (B1.out.trans (hB.mono B1.out.size))
     clear hB KS2 Z1 N1 B1 Q1
     have hL:=(aA w1.heap.size w1).alloc (al0z _) (.cells (agi Z4) 33)
     by_cases he:iV d ring=0
     ·rw[if_pos he]
      have HE2:=hid (show 0<j\/0<t+1->iV d ring=0 from fun _=>he)
      have FIN:=hid (show eu d ring 8=eu d ring 8 from rfl)
      rw[if_pos he]
      rw[he]
      have X1:=hid (IB.setRow (IB.new w1 33 Z4) nx)
      have Z3:=hid (show IB ((w1.alloc (.cells (agi Z4) 33)).setRow w1.heap.size (agi nx)) w.heap.size 33 Z4 from Blk.rowFar (Blk.below' Z2.out hL) (by have:=Blk.lt Z2.out;omega))
      have N3:=hid (show IB ((w1.alloc (.cells (agi Z4) 33)).setRow w1.heap.size (agi nx)) (w.heap.size+1) 33 now from Blk.rowFar (Blk.below' N2.out hL) (by have:=Blk.lt N2.out;omega))
      have B3:=hid (aS (B2.out.trans (hL.mono B2.out.size)) (g:=w1.heap.size) B2.out.size (agi nx))
      obtain⟨w3,hw3⟩:∃w3,w3=(w1.alloc (.cells (agi Z4) 33)).setRow w1.heap.size (agi nx):=⟨_,rfl⟩
      rw[<-hw3] at X1 Z3 N3 B3
      rw[show agi Z4= #[.int .i64 0,.int .i64 0,.int .i64 0,.int .i64 0] from rfl] at hw3
      have HW3:=hid hw3
      have Z4':=hid (show IB (w3.setRow (w.heap.size+1) (agi nx)) w.heap.size 33 Z4 from Blk.rowFar Z3.out ah)
      have N4:=hid (show IB (w3.setRow (w.heap.size+1) (agi nx)) (w.heap.size+1) 33 nx from IB.setRow N3.out nx)
      have B4:=hid (aS B3.out (g:=w.heap.size+1) ah (agi nx))
      clear Z2 N2 B2 hw3 hL HE
      go_wp2_with(first
       |(refine aP rfl 33 (.tmp 9) (.tmp 22) rfl _ 33 Z4 nx 4 rfl rfl (IB.new w1 _ Z4) eY rfl NL.out.1 ?_;rw[<-HW3.out])
       |(refine aK rfl 33 (.tmp 9) rfl _ 33 nx 4 _ rfl X1.out Tryz.underlying33 rfl eY NL.out.1 ?_)
       |(refine aP rfl 33 (.tmp 7) (.tmp 29) rfl _ 33 now nx 4 rfl rfl N3.out eY NI.out.1 NL.out.1 ?_))
      go_roundw
      case rel=>exact⟨t+1,ah,aO,Z4',by rw[<-NXE.out];exact N4,HE2,B4⟩
      case measure=>simp[intOf]<;>omega
     rw[if_neg he,if_neg he]
     have FB:=hid (fun w' (hB:Below w.heap.size w w')=>SeAns.bad (x:=eu d ring 8) (d:=d) (ring:=ring) rfl he hB)
     obtain⟨er,her⟩:∃er,er=iV d ring:=⟨_,rfl⟩
     rw[<-her] at FB he|-
     have hne:(er !=0)=true:=by simpa using he
     clear her
     have Z3:=hid (show IB ((w1.alloc (.cells (agi Z4) 33)).setRow w1.heap.size (agi Z4)) w.heap.size 33 Z4 from Blk.rowFar (Blk.below' Z2.out hL) (by have:=Blk.lt Z2.out;omega))
     have B3:=hid (aS (B2.out.trans (hL.mono B2.out.size)) (g:=w1.heap.size) B2.out.size (agi Z4))
     obtain⟨w3,hw3⟩:∃w3,w3=(w1.alloc (.cells (agi Z4) 33)).setRow w1.heap.size (agi Z4):=⟨_,rfl⟩
     rw[<-hw3] at Z3 B3
     rw[show(w1.alloc (.cells (agi Z4) 33))=(w1.alloc (.cells #[.int .i64 0,.int .i64 0,.int .i64 0,.int .i64 0] 33)) from rfl] at hw3
     have HW3:=hid hw3
     have RF:=hid (IB.setRow Z3.out Z4)
     have BF:=hid (aS B3.out (g:=w.heap.size) (al0z _) (agi Z4))
     clear Z2 N2 B2 hw3 hL HE he NL NXE KSG KS
     go_wp2_with(first
      |(refine aP rfl 33 (.tmp 9) (.tmp 22) rfl _ 33 Z4 Z4 4 rfl rfl (IB.new w1 _ Z4) eY rfl rfl ?_;rw[<-HW3.out])
      |(refine aP rfl 33 (.tmp 4) (.tmp 27) rfl _ 33 Z4 Z4 4 rfl rfl Z3.out eY rfl rfl ?_))
     exact ab9
    obtain rfl:t=4:=ah
    have NN:=hid (show IB wr (w.heap.size+1) 33 (eu d ring (4*(j+1))) from by rw[show 4*(j+1)=4*j+4 from ah];exact HN.out)
    have HE3:=hid (show 0<j+1->iV d ring=0 from fun _=>HE.out (.inr ah))
    go_wp2
    go_roundw
    case rel=>exact⟨j+1,ah,aO,HZ,NN,HE3,HB⟩
    case measure=>simp[intOf]<;>omega
  obtain rfl:j=2:=ah
  have E0:=hid (HE.out ah)
  have J3':=HN.out
  rw[show 4*2=8 from rfl] at J3'
  have IXN:=wz d ring 8
  have KSG1:=KSG.out E0.out wo.drew (show Rs wo.drew wo.drew.heap.size A d from(HD.out.below HB.out).more HB.out.size)
  obtain⟨P,hP⟩:∃P,P=SeAns d ring (eu d ring 8) w:=⟨_,rfl⟩
  have FG:=fun w' (hB:Below w.heap.size w w')=>show P (.returned (.tuple #[.agg (agi (eu d ring 8)),.int .i64 (mg d (eu d ring 8) 4),.int .i64 0])) w' from by rw[hP];exact SeAns.good (x:=eu d ring 8) E0.out hB
  have HP:=hid hP
  clear hP KS KSG HE HN hlt hj
  have KSG2:=KSG1 (eu d ring 8) IXN
  clear KSG1
  obtain⟨xs,hxs⟩:∃xs,xs=eu d ring 8:=⟨_,rfl⟩
  have HXS:=hid hxs
  rw[<-hxs] at J3' IXN KSG2 FG
  clear hxs
  obtain⟨x0,x1,x2,x3,rfl⟩:=uV IXN.1
  have FG:=hid FG
  have J3:=hid J3'
  generalize mg d [x0,x1,x2,x3] 4=sv at*
  have KS1:=hid (show Calls Tryz.prog 166 #[.slice A n1 c,.agg #[.int .i64 x0,.int .i64 x1,.int .i64 x2,.int .i64 x3]] wo.drew (fun e w'=>e=.returned (.int .i64 sv)/\Below wo.drew.heap.size wo.drew w') from KSG2)
  rename_i FGr
  clear FGr KSG2 IXN
  have k0:World.cell? wo ⟨w.heap.size+1,0,none⟩=some (.int .i64 x0):=IB.cell J3' 0 fO;have k1:World.cell? wo ⟨w.heap.size+1,1,none⟩=some (.int .i64 x1):=IB.cell J3' 1 fO;have k2:World.cell? wo ⟨w.heap.size+1,2,none⟩=some (.int .i64 x2):=IB.cell J3' 2 fO;have k3:World.cell? wo ⟨w.heap.size+1,3,none⟩=some (.int .i64 x3):=IB.cell J3' 3 fO
  clear J3'
  go_wp2
  go_region_held3 (fun w'=>w'.cell? ⟨w.heap.size+1,0,none⟩=some (.int .i64 x0)/\w'.cell? ⟨w.heap.size+1,1,none⟩=some (.int .i64 x1)/\w'.cell? ⟨w.heap.size+1,2,none⟩=some (.int .i64 x2)/\w'.cell? ⟨w.heap.size+1,3,none⟩=some (.int .i64 x3)) (go_keep) (first
   |(go_at_call 166;(with_reducible refine KS1.out.mono ?_);rintro e w3 ⟨rfl,hB⟩;have J4:IB w3 (w.heap.size+1) 33 [x0,x1,x2,x3]:=Blk.below' (Blk.drew J3.out) hB;have Z4':IB w3 w.heap.size 33 Z4:=Blk.below' (Blk.drew HZ.out) hB;have B4:=hid (show Below w.heap.size w w3 from HB.out.drew.trans (hB.mono HB.out.size));have l0:World.cell? w3 ⟨w.heap.size+1,0,none⟩=some (.int .i64 x0):=IB.cell J4 0 fO;have l1:World.cell? w3 ⟨w.heap.size+1,1,none⟩=some (.int .i64 x1):=IB.cell J4 1 fO;have l2:World.cell? w3 ⟨w.heap.size+1,2,none⟩=some (.int .i64 x2):=IB.cell J4 2 fO;have l3:World.cell? w3 ⟨w.heap.size+1,3,none⟩=some (.int .i64 x3):=IB.cell J4 3 fO;have z0:World.cell? w3 ⟨w.heap.size,0,none⟩=some (.int .i64 0):=IB.cell Z4' 0 fO;have z1:World.cell? w3 ⟨w.heap.size,1,none⟩=some (.int .i64 0):=IB.cell Z4' 1 fO;have z2:World.cell? w3 ⟨w.heap.size,2,none⟩=some (.int .i64 0):=IB.cell Z4' 2 fO;have z3:World.cell? w3 ⟨w.heap.size,3,none⟩=some (.int .i64 0):=IB.cell Z4' 3 fO;have y0:World.frozen? w3 ⟨w.heap.size,0,none⟩=false:=Blk.frozen Z4' 0;have y1:World.frozen? w3 ⟨w.heap.size,1,none⟩=false:=Blk.frozen Z4' 1;have y2:World.frozen? w3 ⟨w.heap.size,2,none⟩=false:=Blk.frozen Z4' 2;have y3:World.frozen? w3 ⟨w.heap.size,3,none⟩=false:=Blk.frozen Z4' 3;have J4:=hid J4;have Z5:=hid Z4';clear hB Z4'))
  exact l20
def Au(P:Nat->Nat)(k j:Nat):Value:=if j<k then .pointer (some ⟨P j,0,none⟩) else .pointer none
def wJ(P:Nat->Nat)(k:Nat):Array Value:=((List.range 9).map (Au P k)).toArray
theorem ai4(P:Nat->Nat):wJ P 0= #[.pointer none,.pointer none,.pointer none,.pointer none,.pointer none,.pointer none,.pointer none,.pointer none,.pointer none]:=by
 unfold wJ Au
 simp[List.range,List.range.loop]
theorem aaI(P:Nat->Nat)(k:Nat){j:Nat}(hj:j<9):(wJ P k)[j]?=some (Au P k j):=by
 unfold wJ
 simp[hj]
def upN(P:Nat->Nat)(k b:Nat):Nat->Nat:=fun j=>if j=k then b else P j
def upX(X:Nat->Int)(k:Nat)(z:Int):Nat->Int:=fun j=>if j=k then z else X j
theorem ai5(P:Nat->Nat){k:Nat}(hk:k<9)(b:Nat):(wJ P k).setIfInBounds k (.pointer (some ⟨b,0,none⟩))=wJ (upN P k b) (k+1):=by
 unfold wJ
 rw[iZ]
 congr 1
 refine List.ext_getElem? fun j=>?_
 by_cases hj:j<9
 ·rw[List.getElem?_set]
  simp only[tX,List.length_range,rq,List.getElem?_range hj,Option.map_some]
  unfold Au upN
  by_cases e:k=j
  ·subst e
   simp[hj]
  rw[if_neg e]
  congr 1
  by_cases h1:j<k
  ·rw[if_pos h1,if_pos ah,if_neg ah]
  rw[if_neg h1,if_neg ah]
 rw[List.getElem?_eq_none aJ,List.getElem?_eq_none aJ]
theorem Nm.keptBlk{w w':World}{v:Value}{n:Nat}(h:Nm w v n){g:Nat}{cs:Array Value}(hb:Blk w g 156 cs)(hg:w.grownBy w' (some g)):Nm w' v n:=by
 exact l81
theorem Nm.keptInts{w w':World}{v:Value}{n:Nat}(h:Nm w v n){g:Nat}{cs:Array Value}(hb:Blk w g 90 cs)(hg:w.grownBy w' (some g)):Nm w' v n:=by
 exact l81
structure Cs(w wr:World)(q ws:List Int)(gw gs k:Nat)(P:Nat->Nat)(X:Nat->Int):Prop where
 R:IB wr w.heap.size 90 Z9
 Q:IB wr (w.heap.size+1) 90 q
 W:Own wr (w.heap.size+2) (some ⟨gw,0,none⟩) 120 ws
 S:Blk wr gs 156 (wJ P k)
 N:∀j,j<k->IntAt wr (P j) (X j)
 lo:∀j,j<k->gs<P j
 up:∀i j,i<j->j<k->P i<P j
 hgw:w.heap.size+2<=gw
 hgs:gw<gs
 B:Below w.heap.size w wr
section
variable {w wr w':World} {q ws:List Int} {gw gs k:Nat} {P:Nat->Nat} {X Y:Nat->Int}
theorem Cs.below(s:Cs w wr q ws gw gs k P X)(hb:Below wr.heap.size wr w'):Cs w w' q ws gw gs k P X:=
 ⟨Blk.below' s.R hb,Blk.below' s.Q hb,s.W.below hb,Blk.below' s.S hb,fun j hj=>(s.N j hj).below hb (al0z _),s.lo,s.up,s.hgw,s.hgs,s.B.trans (hb.mono s.B.size)⟩
theorem Cs.drew(s:Cs w wr q ws gw gs k P X):Cs w wr.drew q ws gw gs k P X:=s.below ((aA _ _).drew)
theorem Cs.congr(s:Cs w wr q ws gw gs k P X)(h:∀j,j<k->X j=Y j):Cs w wr q ws gw gs k P Y:=
 ⟨s.R,s.Q,s.W,s.S,fun j hj=>by rw[<-h j hj];exact s.N j hj,s.lo,s.up,s.hgw,s.hgs,s.B⟩
theorem Cs.ptr(s:Cs w wr q ws gw gs k P X){j:Nat}(hj:j<k)(h9:j<9):wr.cell? ⟨gs,j,none⟩=some (.pointer (some ⟨P j,0,none⟩)):=by
 rw[Blk.cell s.S j,aaI P k h9]
 unfold Au
 rw[if_pos hj]
theorem Cs.at_(s:Cs w wr q ws gw gs k P X){j:Nat}(hj:j<ws.length):wr.cell? ⟨gw,j,none⟩=some (.int .i64 (ws.getD j 0)):=s.W.cell j hj
theorem Cs.give(s:Cs w wr q ws gw gs k P X){j:Nat}(hj:j<k){z:Int}(hI:IntAt w' (P j) z)(hG:wr.grownBy w' (some (P j))):Cs w w' q ws gw gs k P (upX X j z):=by
 have h1:=s.lo j hj
 have h2:=s.hgs
 have h3:=s.hgw
 have hb:IntBlk wr (P j):=(s.N j hj).blk
 have hne:∀i,i≠j->i<k->P i≠P j:=fun i hi hk=>by
  rcases Nat.lt_or_ge i j with h|h
  ·have:=s.up i j h hj;omega
  have:=s.up j i ah hk;omega
 refine⟨Blk.grown s.R hG aJ,Blk.grown s.Q hG aJ,s.W.kept hG (fun a ha=>?_),Blk.grown s.S hG aJ,fun i hi=>?_,s.lo,s.up,s.hgw,s.hgs,s.B.grown hG s.B.size (fun b hb=>by cases hb;omega)⟩
 ·cases ha
  simp
  omega
 unfold upX
 by_cases e:i=j
 ·subst e
  rw[if_pos rfl]
  exact hI
 rw[if_neg e]
 exact(s.N i hi).kept hb hG (hne i e hi)
theorem Cs.push(s:Cs w wr q ws gw gs k P X)(hk:k<9):Cs w ((wr.alloc (.cells #[.bool false,.slice none 0 0] 80)).setCell ⟨gs,k,none⟩ (.pointer (some ⟨wr.heap.size,0,none⟩))) q ws gw gs (k+1) (upN P k wr.heap.size) (upX X k 0):=by
 have h2:=s.hgs
 have h3:=s.hgw
 have hS:=s.S.lt
 have a:=s.below ((aA wr.heap.size wr).alloc (al0z _) (.cells #[.bool false,.slice none 0 0] 80))
 have hn:=Qh wr
 generalize hV:wr.alloc (.cells #[.bool false,.slice none 0 0] 80)=V at*
 have hG:V.grownBy (V.setCell ⟨gs,k,none⟩ (.pointer (some ⟨wr.heap.size,0,none⟩))) (some gs):=zx V gs k _
 refine⟨Blk.grown a.R hG aJ,Blk.grown a.Q hG aJ,a.W.kept hG (fun b hb=>?_),?_,fun i hi=>?_,fun i hi=>?_,fun i j hij hj=>?_,s.hgw,s.hgs,a.B.grown hG a.B.size (fun b hb=>by cases hb;omega)⟩
 ·cases hb
  simp
  omega
 ·rw[<-ai5 P hk]
  exact Blk.set_ a.S k _
 ·unfold upN upX
  have kp:∀{c:Nat} {z:Int},c≠gs->IntAt V c z->IntAt (V.setCell ⟨gs,k,none⟩ (.pointer (some ⟨wr.heap.size,0,none⟩))) c z:=fun hne h=>by
   obtain⟨v,h1,h2⟩:=h
   exact⟨v,by rw[hG.block _ (xK h1) (by simpa using hne)];exact h1,h2.keptBlk a.S hG⟩
  by_cases e:i=k
  ·subst e
   rw[if_pos rfl,if_pos rfl]
   exact kp ah hn
  rw[if_neg e,if_neg e]
  have:=s.lo i ah
  exact kp ah (a.N i ah)
 ·unfold upN
  by_cases e:i=k
  ·rw[if_pos e];exact hS
  rw[if_neg e];exact s.lo i ah
 unfold upN
 rw[if_neg (by omega: ¬i=k)]
 by_cases e:j=k
 ·rw[if_pos e]
  exact(s.N i ah).lt
 rw[if_neg e];exact s.up i j hij ah
theorem Cs.setQ(s:Cs w wr q ws gw gs k P X)(i:Nat)(v:Int):Cs w (wr.setCell ⟨w.heap.size+1,i,none⟩ (.int .i64 v)) (q.set i v) ws gw gs k P X:=by
 have h2:=s.hgs
 have h3:=s.hgw
 have hG:wr.grownBy (wr.setCell ⟨w.heap.size+1,i,none⟩ (.int .i64 v)) (some (w.heap.size+1)):=zx wr _ i _
 refine⟨Blk.grown s.R hG az,IB.set_ s.Q i v,s.W.kept hG (fun b hb=>?_),Blk.grown s.S hG aJ,fun j hj=>?_,s.lo,s.up,s.hgw,s.hgs,s.B.grown hG s.B.size (fun b hb=>by cases hb;omega)⟩
 ·cases hb
  simp
  omega
 obtain⟨u,h3,h4⟩:=s.N j hj
 have:=s.lo j hj
 exact⟨u,by rw[hG.block _ (xK h3) aJ];exact h3,h4.keptInts s.Q hG⟩
end
end Go.Proofs.YthoiikkjjaldnaaGreatDoor
