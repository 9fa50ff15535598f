/- Part of a proof of a law of the layer of trees. -/
import Derived.Test.YtenmnhnlcnmloaaGreatQa19
import Derived.Test.YtenmnhnlcnmloaaGreatQa04
import Derived.Lib.AppendZerosOnto
import Derived.Test.YtenmnhnlcnmloaaGreatQa18
import Derived.Deep.OwnRows
import Derived.Test.YtenmnhnlcnmloaaGreatQa10
import Derived.Deep.DeepCutAuto
import Derived.Test.YtenmnhnlcnmloaaGreatQa01
set_option linter.unusedVariables false
set_option linter.unusedSimpArgs false
set_option maxHeartbeats 8000000
set_option maxRecDepth 8000
namespace Go.Dav
open Go Go.RowKit
theorem qF{W W':World}(h:Below W.heap.size W W'):KeepsOthers W W':=⟨h.size,λk o hk _=>(h.block k (Array.getElem?_eq_some_iff.1 hk).1).trans hk⟩
theorem UL{W:World}{S:Nat->Prop}(at_ n:Nat)(x:RunT W S):(Dav.part at_ n x).length<=524288:=by
 have h2:=x.2.1.at_.hlen;have h3:=x.2.2.1;unfold Dav.part;rw[List.length_drop,List.length_take];omega
theorem PU{W:World}{S:Nat->Prop}(at_ n:Nat)(xs:List (RunT W S)):(fV at_ n xs).length<=xs.length*524288:=by
 induction xs with
 |nil=>simp[fV]
 |cons x xs ih=>
  have h1:fV at_ n (x::xs)=Dav.part at_ n x++fV at_ n xs:=by simp[fV]
  have h2:=UL at_ n x;rw[h1,List.length_append,List.length_cons];omega
theorem EO(ls:List UInt8)(lo hi:Nat):((u8s ls).take hi).drop lo=u8s ((ls.take hi).drop lo):=by simp[u8s,List.map_take,List.map_drop]
def zq(l:List UInt8):Bool:=decide (l.length%64≠0)&&(l[l.length-l.length%64]? !=some 0)
def eH(l:List UInt8):List UInt8:=if zq l=true then List.replicate (64-l.length%64) 0 else []
def jU(l cs:List UInt8):List UInt8:=oN l.length (eH l) cs
def placeOf(l cs:List UInt8):Nat:=match cs with|[]=>0|c::_=>l.length+(oN l.length (eH l) [c]).length-1
theorem pF(l:List UInt8):(eH l).length<=64:=by unfold eH;split<;>simp<;>omega
theorem xJ{n:Nat}{b0 cs:List UInt8}{k:Nat}{c:UInt8}(h:cs[k]? =some c):oN n b0 (cs.take (k+1))=fA n (oN n b0 (cs.take k)) c:=by
 rw[List.take_add_one,h,Option.toList_some,MZ]
def vg(x:List UInt8)(v:Value)(W:World):Prop:=∃a n c,v= .slice a n c/\au W (λ_=>True) a n c x
theorem vg.later{x:List UInt8}:∀v W W',vg x v W->Below W.heap.size W W'->vg x v W':=λ_ _ _ ⟨a,n,c,h1,h2⟩ hb=>⟨a,n,c,h1,h2.ext hb⟩
def EP(x:List UInt8)(pl:Nat)(v:Value)(W:World):Prop:=∃a n c,v= .tuple #[.slice a n c, .int .i64 (pl:Int)]/\au W (λ_=>True) a n c x
theorem EP.later{x:List UInt8}{pl:Nat}:∀v W W',EP x pl v W->Below W.heap.size W W'->EP x pl v W':=λ_ _ _ ⟨a,n,c,h1,h2⟩ hb=>⟨a,n,c,h1,h2.ext hb⟩
end Go.Dav
namespace Go.Proofs.YtenmnhnlcnmloaaGreat
open Go.RowKit Go.Dav Go.Shelf
attribute [local go_sem] Gives ite_val ay Oper.semAt_some
set_option maxRecDepth 100000 in
theorem ER(F:aB)(fa la:Option Addr)(fl fc ll lc:Nat)(at_ n:Nat)(w:World)(S:Nat->Prop)(hF:fB w S fa fl fc la ll lc F)(hS:∀b,S b->b<w.heap.size)(hr:F.right=true)(hle:at_+n<=F.many):
  Calls Tryz.prog 148 #[.agg #[.slice fa fl fc, .slice la ll lc, .int .i64 F.fuse, .int .i64 F.fault, .bool F.off], .int .i64 (at_:Int), .int .i64 (n:Int)] w (Aj w ((F.all.drop at_).take n) 0):=by
 have hW:Below w.heap.size w (((w.alloc (.cells [.slice fa fl fc, .slice la ll lc, .int .i64 F.fuse, .int .i64 F.fault, .bool F.off].toArray 32)).alloc (.cells #[.int .i64 (at_:Int)] 3)).alloc (.cells #[.int .i64 (n:Int)] 3)):=bW;have HF:=Hd (hF.ext hW);have HB1:=Hd (((Blk.new w [.slice fa fl fc, .slice la ll lc, .int .i64 F.fuse, .int .i64 F.fault, .bool F.off] 32).alloc (.cells #[.int .i64 (at_:Int)] 3)).alloc (.cells #[.int .i64 (n:Int)] 3));have HB2:=Hd ((Blk.new' (w.alloc (.cells [.slice fa fl fc, .slice la ll lc, .int .i64 F.fuse, .int .i64 F.fault, .bool F.off].toArray 32)) [.int .i64 (at_:Int)] 3 (p:=w.heap.size+1) (by simp)).alloc (.cells #[.int .i64 (n:Int)] 3));have HB3:=Hd (Blk.new' ((w.alloc (.cells [.slice fa fl fc, .slice la ll lc, .int .i64 F.fuse, .int .i64 F.fault, .bool F.off].toArray 32)).alloc (.cells #[.int .i64 (at_:Int)] 3)) [.int .i64 (n:Int)] 3 (p:=w.heap.size+1+1) (by simp));have hC:=kP F fa la fl fc ll lc _ (hF.ext hW).at_;rw[aB.Hz hr]at hC;have HC:=Hd hC;have HR:=Hd hr;have HSS:=Hd hS;have hmx:=(aB.cZ.1 hr).2.2.2.2;obtain⟨m,hm⟩:∃m,F.many=m:=⟨_,rfl⟩;have HM:=Hd hm;rw[hm]at hmx hle;have aa6:(m:Int)<=524288:=oM;have hle':(at_:Int)+(n:Int)<=(m:Int):=oM;have HL:=Hd (aB.zX hr);have HC6:=Hd (nI F fa la fl fc ll lc);obtain⟨i0,hi,hz0,hz1,hz2⟩:=info_parts zY;have HI:=Hd (And.intro hi (And.intro hz0 (And.intro hz1 hz2)));have g1:¬(at_:Int)<0:=oM;have g2:¬(n:Int)<0:=oM;clear hF hW hC hr hm hS hi hz0 hz1 hz2;refine(callsIn_wide (n:=4)).1 ?_;refine callsIn_of_wp_marks Tryz.func148 rfl trivial (wpIn_wide.2 ?_) rfl;simp only[Tryz.ntmps148,List.size_toArray,List.length_cons,List.length_nil,Nat.reduceAdd,Nat.reduceSub,Array.replicate_succ,Array.replicate_zero,List.push_toArray,List.append_toArray,List.nil_append,List.cons_append];go_wp2_with fail;go_step3;go_wp2_with fail;refine HC.o.mono ?_;rintro e w1 ⟨rfl,hb1⟩;have s1:=hb1.size;simp only[World.size_alloc]at s1;have B1:=HB1.o.ext hb1;have B2:=HB2.o.ext hb1;have B3:=HB3.o.ext hb1;have q1:=B1.cells;have q2:=B2.cells;have q3:=B3.cells;have m1:=B1.marks;have m2:=B2.marks;have m3:=B3.marks;have l1:=B1.lt;have l2:=B2.lt;have l3:=B3.lt;have bel:Below w.heap.size w w1:=(by have hz:=hb1;exact bV);have HF1:=Hd (HF.o.ext hb1);have aa7:=Hd B1;have aa8:=Hd B2;have aa9:=Hd B3;clear hb1 B1 B2 B3 HB1 HB2 HB3;go_wp2_with fail;refine' ah [.inl _, .inl _, .inl _, .inl _, .inl _, .inl _] kR kR ?dN
 case dN=>
  iterate 2 refine wE ?_
  refine wG (λW hE hN=>by go_simp;refine⟨Below.refl _ _,?_⟩;refine((HL.o.trans (congrArg Nat.cast HM.o))▸HC6.o _ (HF1.o.at_.ext hE)).mono ?_;rintro e w' ⟨rfl,hb⟩;refine⟨?_,hb⟩;rfl) ?_;refine wE ?_;iterate 2 refine wD ?_
  refine aj λW2 hE2 hG2=>?_;have QY:=hE2.cF;have QZ:=hE2.fF;have hw:IntKind.i64.wrap ((m:Int)-(at_:Int))=(m:Int)-(at_:Int):=IntWalk.i64_in _ oM;have hd:¬IntKind.i64.wrap ((m:Int)-(at_:Int))<(n:Int):=by rw[hw];omega
  have s2:=hE2.size;clear hw;have B1:=aa7.o.ext hE2;have B2:=aa8.o.ext hE2;have B3:=aa9.o.ext hE2;obtain⟨hi,hz0,hz1,hz2⟩:=HI.o;have HE2:=Hd hE2;clear q1 q2 q3 m1 m2 m3 l1 l2 l3 hE2;have q1:=B1.cells;have q2:=B2.cells;have q3:=B3.cells;have l1:=B1.lt;have l2:=B2.lt;have l3:=B3.lt;have Yp:=Hd B1;have Yq:=Hd B2;have Yr:=Hd B3;clear B1 B2 B3;go_wp2_with (at_make;refine wpList_make_own _ rfl _ _ 22 rfl (w.heap.size+1+1+1) 5 i0 _ 1 Tryz.underlying22 hi hz0 hz1 .i64 .i64 (n:Int) n rfl rfl rfl (by rw[hz2];omega) (by unfold maxLen;omega) oM ?_;intro w3 hown3 hg3;have hb3:=(Below.refl W2.heap.size W2).grown hg3 (Nat.le_refl _) (λk e=>by cases e);have HO3:=Hd hown3;have s3:=hb3.size;have b13:=Yp.o.ext hb3;have q1:=b13.cells;have l1:=b13.lt;have b23:=Hd (Yq.o.ext hb3);have b33:=Hd (Yr.o.ext hb3);have abb:=Hd hb3;have TW:=Hd b13;clear hown3 hg3 hi b13 hb3 q2 q3 l2 l3)
  go_step3;go_wp2_with fail;refine(PL F fa la fl fc ll lc _).mono ?_;rintro e w4 ⟨rfl,rfl⟩;go_wp2_with fail;obtain⟨L,hL⟩:∃L,((w3.alloc (Obj.cells #[Value.slice (some { block:=W2.heap.size,off:=0}) 0 n] 22)).alloc (Obj.cells [.slice fa fl fc, .slice la ll lc, .int .i64 F.fuse, .int .i64 F.fault, .bool F.off].toArray 32))=L:=⟨_,rfl⟩;have hsz:L.heap.size=w3.heap.size+1+1:=by rw[<- hL];simp
  have XH:Below w3.heap.size w3 L:=by rw[<- hL];exact((Below.refl _ _).alloc oM _).alloc (by simp) _
  have Yt:Below w1.heap.size w1 L:=(HE2.o.trans (abb.o.mono s2)).trans (XH.mono oM);have WC:Below w.heap.size w L:=bel.trans (Yt.mono oM);have bB:Boxed L w3.heap.size 22 (Value.slice (some { block:=W2.heap.size,off:=0}) 0 n):=by rw[<- hL];exact(Boxed.new w3 _ _).alloc _
  have bX:Blk L (w3.heap.size+1) [.slice fa fl fc, .slice la ll lc, .int .i64 F.fuse, .int .i64 F.fault, .bool F.off] 32:=by rw[<- hL];exact Blk.new' (w3.alloc _) [.slice fa fl fc, .slice la ll lc, .int .i64 F.fuse, .int .i64 F.fault, .bool F.off] _ (by simp)
  have hown:L.ownsRow (w.heap.size+1+1+1) 5 1 (Value.slice (some { block:=W2.heap.size,off:=0}) 0 n) 0 []:=by
   rw[<- hL];exact(HO3.o.kept (World.grownBy_alloc _ _ none) (.inr (by simp[Value.ownBlock]))).kept (World.grownBy_alloc _ _ none) (.inr (by simp[Value.ownBlock]))
  have hn0:w.heap.size+1+1+1<=L.heap.size:=oM;have hseq:=Nc F fa la fl fc ll lc L S (4-1) (w.heap.size+1+1+1) (w3.heap.size+1) dC (HF1.o.ext Yt) HR.o (λb h=>by have:=HSS.o b h;omega) hn0 bX;have UM:=Hd hseq;have b2:=b23.o.ext XH;have b3:=b33.o.ext XH;have abd:=Hd b2;have abe:=Hd b3;have Oj:=Hd WC;have hN:F.loose.length+1<=524289:=by
   have h1:=(aB.cZ.1 HR.o).2.2.2.2;have h3:=Eo (aB.cZ.1 HR.o).1;unfold aB.many at h1;omega
  have HN:=Hd hN;have HOWN:=holdsRow_own (β:=List (RunT L S)) (w.heap.size+1+1+1) w3.heap.size 22 5 1 (λpre=>(fV at_ n pre).length) (λpre=>u8s (fV at_ n pre)) (λ_ _=>True);rw[show((w3.alloc (Obj.cells #[Value.slice (some { block:=W2.heap.size,off:=0}) 0 n] 22)).alloc (Obj.cells [.slice fa fl fc, .slice la ll lc, .int .i64 F.fuse, .int .i64 F.fault, .bool F.off].toArray 32))=L from hL];clear hseq XH Yt WC hL hN b2 b3 q1 l1 bel;refine wpIn_wide.1 (wpIn_rangeFunc_ownF (n:=4) rfl dC (gf:=182) (lb:= #[.pointer (some ⟨w3.heap.size+1,0,none⟩)]) rfl trivial EN UM.o KpR.t (KpR.b hn0 oM) (Below.refl _ _) (λ_=>rfl)
   (λpre W=>(∃v,Boxed W w3.heap.size 22 v/\W.ownsRow (w.heap.size+1+1+1) 5 1 v (fV at_ n pre).length (u8s (fV at_ n pre))/\True)/\Below (w.heap.size+1+1+1) L W/\Blk W (w3.heap.size+1) [.slice fa fl fc, .slice la ll lc, .int .i64 F.fuse, .int .i64 F.fault, .bool F.off] 32)
   (λc pre W=>(c= .exit 1/\∃pre' x,pre=pre'++[x]/\((at_+n:Nat):Int)<=x.1.at_/\∃v,Boxed W w3.heap.size 22 v/\W.ownsRow (w.heap.size+1+1+1) 5 1 v (fV at_ n pre').length (u8s (fV at_ n pre'))/\True)/\Below (w.heap.size+1+1+1) L W)
   (OwnFrom.and (Own.from HOWN _) (OwnFrom.and (ownFrom_below hn0 hn0) (Own.from (Ah _ _ _) _)))
   (λc=>OwnFrom.and (Own.from (λs A B row hs hg hr=>by obtain⟨hc,pre',x,e,hx,hv⟩:=hs;exact⟨hc,pre',x,e,hx,HOWN pre' A B row hv hg hr⟩) _) (ownFrom_below hn0 hn0))
   ⟨⟨_,bB,hown,trivial⟩,Below.refl _ _,bX⟩
   ?act ?assign ?body ?done ?stop)
  case assign=>
   intro l x W K hK;gi_wp2;exact hK
  case body=>
   rintro l pre x W ⟨⟨v,hv,hrow,_⟩,hB,hblk⟩ hlt;obtain⟨o,a,xl,xc,ls,hxe⟩:∃(o:Nat) (a:Option Addr) (xl xc:Nat) (ls:List UInt8),x.1=⟨(o:Int),a,xl,xc,ls⟩:=
    ⟨x.1.at_.toNat,x.1.a,x.1.len,x.1.cap,x.1.l,by have:=x.2.2.2.1;cases hx:x.1;simp only[hx]at this⊢;congr 1;omega⟩
   obtain⟨hx1,hx2,hx3,hx4,hx5⟩:=x.2;rw[hxe]at hx1 hx2 hx3 hx4 hx5;dsimp only at hx1 hx2 hx3 hx4 hx5;have HXE:=Hd hxe;rw[hxe];dsimp only;clear hxe;have hc:=hv.cell;have hb2:=abd.o.below hB oM;have hb3:=abe.o.below hB oM;have q2:=hb2.cells;have q3:=hb3.cells;have l2:=hb2.lt;have l3:=hb3.lt;have lv:=hv.lt;have hbs:=hx1.same hB.size (λb hb _=>hB.block b (by have:=HSS.o b hb;omega));have hlen:=hx1.at_.hlen;have hcap:=hx1.at_.hcap;have hx6:(xl:Int)<=524288:=oM;have hw1:IntKind.i64.wrap ((at_:Int)+(n:Int))=(at_:Int)+(n:Int):=IntWalk.i64_in _ oM;have HBS:=Hd hbs;have HV:=Hd hv;have BP:=Hd hrow;have HBL:=Hd hB;have HBK:=Hd hblk;have HX:=Hd hx5;have HAT:=Hd hx1.at_;have hWs:w.heap.size+1+1+1<=W.heap.size:=Nat.le_trans hn0 hB.size;have HT:=Hd hlt;clear hbs hv hrow hB hblk hx1 hb2 hb3 hlt hx5;by_cases g5:at_+n<=o
   .have g6:(at_:Int)+(n:Int)<=(o:Int):=oM;have HG:=Hd g5;clear g5;gi_wp2;exact⟨KeepsOthers.refl _,⟨rfl,pre,x,rfl,by rw[HXE.o];show((at_+n:Nat):Int)<=(o:Int);omega,v,HV.o,BP.o,trivial⟩,HBL.o⟩
   .have g6:¬(at_:Int)+(n:Int)<=(o:Int):=oM;have hw2:IntKind.i64.wrap ((o:Int)+(xl:Int))=(o:Int)+(xl:Int):=IntWalk.i64_in _ oM;by_cases g7:o+xl<=at_
    .have g8:¬(at_:Int)<(o:Int)+(xl:Int):=oM;have hp:Dav.part at_ n x=[]:=by
      unfold Dav.part;rw[HXE.o];refine List.drop_eq_nil_of_le ?_;rw[List.length_take];show min _ ls.length<=at_-(o:Int).toNat;rw[hlen,Int.toNat_natCast];omega
     have HP:=Hd hp;clear hp g7 g5;have hz:W.ownsRow (w.heap.size+1+1+1) 5 1 v (fV at_ n (pre++[x])).length (u8s (fV at_ n (pre++[x]))):=by
      rw[Ak,HP.o,List.append_nil];exact BP.o
     have HZ:=Hd hz;clear hz;gi_wp2;refine⟨KeepsOthers.refl _,KpR.refl _ _ _,⟨v,HV.o,?_⟩,HBL.o,HBK.o⟩;first|exact⟨HZ.o,trivial⟩|exact HZ.o
    .have g8:(at_:Int)<(o:Int)+(xl:Int):=oM;have G5:=Hd g5;have G7:=Hd g7;clear g5 g7;have hvs:∃va vn vc,v= .slice va vn vc:=by
      obtain⟨va,vc,rfl,_⟩:=bf BP.o;exact⟨_,_,_,rfl⟩
     have kx:0<xl:=by
      have:=G5.o;have:=G7.o;apply Classical.byContradiction;intro h;have h1:xl=0:=oM;have h2:=HX.o h1;omega
     obtain⟨b0,o0,rfl⟩:∃b0 o0,a=some ⟨b0,o0,none⟩:=by
      have h0:0<ls.length:=oM;obtain⟨c0,hc0⟩:∃c0,ls[0]? =some c0:=⟨_,List.getElem?_eq_getElem h0⟩;obtain⟨b0,o0,h1,_⟩:=HAT.o.hat 0 c0 hc0;exact⟨b0,o0,h1⟩
     obtain⟨lo,hlo⟩:∃lo:Nat,lo=at_-o:=⟨_,rfl⟩;obtain⟨hi',hhi⟩:∃hi':Nat,hi'=min (at_+n-o) xl:=⟨_,rfl⟩;have k1:lo<=hi':=by have:=G5.o;have:=G7.o;omega
     have k2:hi'<=xl:=oM;have k3:(if (at_:Int)-(o:Int)<0 then(0:Int)else(at_:Int)-(o:Int))=(lo:Int):=by split<;>omega
     have k4:(if (xl:Int)<(at_:Int)+(n:Int)-(o:Int)then(xl:Int)else(at_:Int)+(n:Int)-(o:Int))=(hi':Int):=by have:=G5.o;split<;>omega
     have k9:¬xc=lo:=by have:=G7.o;have:=G5.o;omega
     have k5:IntKind.i64.wrap ((at_:Int)-(o:Int))=(at_:Int)-(o:Int):=IntWalk.i64_in _ oM;have k6:IntKind.i64.wrap ((at_:Int)+(n:Int)-(o:Int))=(at_:Int)+(n:Int)-(o:Int):=IntWalk.i64_in _ oM;have k7:(lo:Int)<=(hi':Int):=oM;have k8:(hi':Int)<=(xc:Int):=oM;have k10:hi'<=xc:=oM;have HLO:=Hd hlo;have HHI:=Hd hhi;clear hlo hhi;gi_wp2_with fail;refine' qN [] [.inl _, .inl _, .inl _, .inl _, .inl _, .inl _, .inl _, .inl _, .inl _, .inl _, .inl _, .inl _, .inl _, .inl _, .inl _] kR kR kR ?fZ
     case fZ=>
      refine wE ?_;refine wD ?_;refine wE ?_;iterate 3 refine wD ?_
      iterate 2 refine wE ?_
      iterate 7 refine wD ?_
      refine aj λW5 hE5 hG5=>?_;have UN:=hE5.cF;have UO:=hE5.fF;have s5:=hE5.size;have HB5:=HBL.o.trans (hE5.mono hWs);have HV5:Boxed W5 w3.heap.size 22 v:=(hE5.block _ lv).trans HV.o;have WE:=aK BP.o hE5;have ZL:=HBK.o.ext hE5;have hc5:=HV5.cell;have hpart:Dav.part at_ n x=(ls.take hi').drop lo:=by
       unfold Dav.part;rw[HXE.o,HHI.o,HLO.o];show List.drop (at_-(o:Int).toNat) (List.take (at_+n-(o:Int).toNat) ls)=_;rw[Int.toNat_natCast];by_cases h:at_+n-o<=xl
       .rw[Nat.min_eq_left h]
       .rw[Nat.min_eq_right oM,List.take_of_length_le (i:=xl) oM,List.take_of_length_le oM]
      have hcs:=(HBS.o.ext hE5).cells.part k1 k2;rw[EO,<- hpart]at hcs;have HCS:=Hd hcs;have hpl:(Dav.part at_ n x).length=hi'-lo:=by rw[hpart,List.length_drop,List.length_take];omega
      have hrl:=PU at_ n pre;have hn1:(fV at_ n pre).length+(hi'-lo)<=140737488355328:=by have:=HN.o;have:=HT.o;omega
      have HPL:=Hd hpl;have abf:=Hd HV5;have TY:=Hd WE;have Yu:=Hd ZL;have HE5:=Hd hE5;have hn5:w.heap.size+1+1+1<=W5.heap.size:=oM;clear hcs hpart hpl hrl HV5 WE ZL hE5 q2 q3;go_wp2_with (at_builtin;refine ak rfl (.tmp 49) (.tmp 63) 22 rfl aF (w.heap.size+1+1+1) _ (fV at_ n pre).length (u8s (fV at_ n pre)) rfl TY.o S (some ⟨b0,o0+lo,none⟩) (hi'-lo) (xc-lo) (u8s (Dav.part at_ n x)) rfl HCS.o (iy _) (λh=>by cases h) (by unfold maxLen;omega) oM hn5 ?_;intro v' w' hown' hgrow;obtain⟨a',c',rfl,hz⟩:=bf hown';obtain⟨hv1,hv2,hr2,hk2,hb2,hq2⟩:=Ci abf.o dC TY.o hn5 oM hown' hgrow;have hc1:=hv1.cell;have hf1:=hv1.frozen;clear hn1)
      refine yE ?_;gi_wp2_with fail;have hx:=hq2 _ _ _ dC oM Yu.o;have hkb:=hk2;have hKP:KpR (w.heap.size+1+1+1) (w3.heap.size+1) W (w'.setCell ⟨w3.heap.size,0,none⟩ (Value.slice a' ((fV at_ n pre).length+(hi'-lo)) c')):=⟨(HE5.o.mono hWs).trans hb2,Eq.trans hx (Eq.symm HBK.o)⟩;have hz2:(w'.setCell ⟨w3.heap.size,0,none⟩ (Value.slice a' ((fV at_ n pre).length+(hi'-lo)) c')).ownsRow (w.heap.size+1+1+1) 5 1 (Value.slice a' ((fV at_ n pre).length+(hi'-lo)) c') (fV at_ n (pre++[x])).length (u8s (fV at_ n (pre++[x]))):=by
       rw[Ak,aW,List.length_append,HPL.o];exact hr2
      refine⟨(qF HE5.o).trans hk2,hKP,⟨_,hv2,?_⟩,HB5.trans hb2,hx⟩;first|exact⟨hz2,trivial⟩|exact hz2
  case done=>
   rintro D ys W hD hys ⟨⟨v,hv,hrow,_⟩,hB,hblk⟩ hK;rw[Nh at_ n hys]at hrow;have hall:=aB.gu F;have Yv:F.all.length<=524288:=by have:=HM.o;omega
   obtain⟨r,hr⟩:∃r,(F.all.drop at_).take n=r:=⟨_,rfl⟩;rw[hr]at hrow;have HRR:=Hd hr;obtain⟨q,hq⟩:∃q,r.length=q:=⟨_,rfl⟩;have hql:q<=524288:=by rw[<- hq,<- hr,List.length_take,List.length_drop];omega
   rw[hq]at hrow;obtain⟨a',c',rfl,hz1',hz2',WG,WH⟩:=bf hrow;have hc:=hv.cell;have lv:=hv.lt;have Ia:au W (λb=>w.heap.size+1+1+1<=b/\b≠D) a' q c' r:=au.of_cells (WH.PO hK rfl) hz1' hz2' oM WG;have HBY:=Hd Ia;have HBW:=Hd hB;have HKK:=Hd hK;have hDw:w.heap.size<=D:=oM;clear hv hrow hz1' hz2' WG WH hall Yv hB Ia hr hq;go_wp2_with fail;rw[Exit.noGoto_ret];refine⟨by simp, .inl ⟨_,_,rfl,run_takeDeferred HKK.o,?_⟩⟩;refine⟨.tuple #[.slice a' q c', .int .i64 0],by simp[results,Tryz.results148,go_sem],a',q,c',rfl,?_,?_⟩
   .rw[HRR.o];refine(HBY.o.same (by simp) λb h hlt=>lS hlt h.2).mono λb h=>?_;have:=h.1;omega
   .exact(Oj.o.trans (HBW.o.mono oM)).trans (belowK_b (w:=w) (Nat.le_refl _) W D _ _ hDw HKK.o rfl rfl)
  case stop=>
   rintro D c pre W hD ⟨k,hk⟩ ⟨⟨rfl,pre',x,rfl,hx,v,hv,hrow,_⟩,hB⟩ hK;rw[JM at_ n hk hx]at hrow;refine wpIn_wide.2 ?_;have hall:=aB.gu F;have Yv:F.all.length<=524288:=by have:=HM.o;omega
   obtain⟨r,hr⟩:∃r,(F.all.drop at_).take n=r:=⟨_,rfl⟩;rw[hr]at hrow;have HRR:=Hd hr;obtain⟨q,hq⟩:∃q,r.length=q:=⟨_,rfl⟩;have hql:q<=524288:=by rw[<- hq,<- hr,List.length_take,List.length_drop];omega
   rw[hq]at hrow;obtain⟨a',c',rfl,hz1',hz2',WG,WH⟩:=bf hrow;have hc:=hv.cell;have lv:=hv.lt;have Ia:au W (λb=>w.heap.size+1+1+1<=b/\b≠D) a' q c' r:=au.of_cells (WH.PO hK rfl) hz1' hz2' oM WG;have HBY:=Hd Ia;have HBW:=Hd hB;have HKK:=Hd hK;have hDw:w.heap.size<=D:=oM;clear hv hrow hz1' hz2' WG WH hall Yv hB Ia hr hq;go_wp2_with fail;rw[Exit.noGoto_ret];refine⟨by simp, .inl ⟨_,_,rfl,run_takeDeferred HKK.o,?_⟩⟩;refine⟨.tuple #[.slice a' q c', .int .i64 0],by simp[results,Tryz.results148,go_sem],a',q,c',rfl,?_,?_⟩
   .rw[HRR.o];refine(HBY.o.same (by simp) λb h hlt=>lS hlt h.2).mono λb h=>?_;have:=h.1;omega
   .exact(Oj.o.trans (HBW.o.mono oM)).trans (belowK_b (w:=w) (Nat.le_refl _) W D _ _ hDw HKK.o rfl rfl)
end Go.Proofs.YtenmnhnlcnmloaaGreat
namespace Go.Proofs.YtenmnhnlcnmloaaGreat
open Go.RowKit Go.Dav Go.Shelf
theorem PV(F:aB)(fa la:Option Addr)(fl fc ll lc:Nat)(at_ n:Int)(w:World)(S:Nat->Prop)(hF:fB w S fa fl fc la ll lc F)(hS:∀b,S b->b<w.heap.size)(h1:eY at_)(h2:eY n):
  Calls Tryz.prog 148 #[.agg #[.slice fa fl fc, .slice la ll lc, .int .i64 F.fuse, .int .i64 F.fault, .bool F.off], .int .i64 at_, .int .i64 n] w (Aj w (F.read at_ n).1 (F.read at_ n).2):=by
 by_cases h:(F.read at_ n).2=0
 .have hr:F.right=true:=by
   apply Classical.byContradiction;intro hr;unfold aB.read at h;rw[if_neg hr]at h;cases h
  have hab:¬(at_<0\/n<0):=λhab=>by
   unfold aB.read at h;rw[if_pos hr,if_pos hab]at h;cases h
  have hm:¬(F.many:Int)-at_<n:=λhm=>by
   unfold aB.read at h;rw[if_pos hr,if_neg hab,if_pos hm]at h;cases h
  have e:F.read at_ n=((F.all.drop at_.toNat).take n.toNat,0):=by
   unfold aB.read;rw[if_pos hr,if_neg hab,if_neg hm]
  rw[e];have ea:at_=((at_.toNat:Nat):Int):=oM;have en:n=((n.toNat:Nat):Int):=oM;have:=ER F fa la fl fc ll lc at_.toNat n.toNat w S hF hS hr oM;rw[<- ea,<- en]at this;exact this
 .exact H7 F fa la fl fc ll lc at_ n w hF.at_ h1 h2 h
end Go.Proofs.YtenmnhnlcnmloaaGreat
namespace Go.Proofs.YtenmnhnlcnmloaaGreat
open Go.RowKit Go.Dav
attribute [local go_sem] Gives ite_val ay
theorem Nk(n:Nat)(w:World)(hn:n<=140737488355328):Calls Tryz.prog 100 #[.int .i64 (n:Int)] w λe w'=>e= .returned (.bool (decide (1<=n)&&decide (n<=4096)))/\Below w.heap.size w w':=by
 by_cases h1:1<=n
 .have h1':(1:Int)<=(n:Int):=oM;by_cases h2:n<=4096
  .have h2':(n:Int)<=4096:=oM;have HV:=Hd (show(decide (1<=n)&&decide (n<=4096))=true by simp[h1,h2]);clear h1 h2;go_enter Tryz.func100,Tryz.ntmps100;go_wp2;go_ret;exact⟨by rw[HV.o];rfl,Below.refl _ _⟩
  .have h2':¬(n:Int)<=4096:=oM;have HV:=Hd (show(decide (1<=n)&&decide (n<=4096))=false by simp[h2]);clear h1 h2;go_enter Tryz.func100,Tryz.ntmps100;go_wp2;go_ret;exact⟨by rw[HV.o];first|rfl|(simp;omega),Below.refl _ _⟩
 .have h1':¬(1:Int)<=(n:Int):=oM;have HV:=Hd (show(decide (1<=n)&&decide (n<=4096))=false by simp[h1]);clear h1;go_enter Tryz.func100,Tryz.ntmps100;go_wp2;go_ret;exact⟨by rw[HV.o];first|rfl|(simp;omega),Below.refl _ _⟩
end Go.Proofs.YtenmnhnlcnmloaaGreat
