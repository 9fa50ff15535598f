/- Part of a proof of a law of the layer of trees. -/
import Derived.Test.YtenmnhnlcnmloaaGreatQa28
import Derived.Test.YtenmnhnlcnmloaaGreatQa21
import Derived.Test.YtenmnhnlcnmloaaGreatQa01
set_option linter.unusedVariables false
set_option linter.unusedSimpArgs false
set_option maxHeartbeats 8000000
set_option maxRecDepth 8000
namespace Go.Dav
open Go Go.RowKit
def U4(w:World)(T:List (Nat×UInt8))(e:Ending)(w':World):Prop:=
 (∃p nx,fH T=some (p,nx)/\∃a n c,e= .returned (.tuple #[.slice a n c, .int .i64 (nx:Int), .int .i64 0])/\au w' (λb=>w.heap.size<=b) a n c p/\Below w.heap.size w w')\/
 (fH T=none/\e= .returned (.tuple #[.slice none 0 0, .int .i64 0, .int .i64 210])/\Below w.heap.size w w')
end Go.Dav
namespace Go.Proofs.YtenmnhnlcnmloaaGreat
open Go.RowKit Go.Dav
attribute [local go_sem] Gives ite_val ay
theorem SN{S T:Nat->Prop}{p:WkP}{B:bD}{F:aB}{turned:Bool}{last:Option (List UInt8)}{why:Int}{za:Option Addr}{zl zc q:Nat}(N:aT)(ia ka:Option Addr)(il ic kl kc i:Nat)(w:World)(h:WkS w q 116 S p B F turned last why za zl zc)(hN:dZ w T ka kl kc N.kids)(hi:i<kl)(h6:kl<=6):
  Calls Tryz.prog 95 #[.pointer (some ⟨q,0,none⟩), .agg #[.bool N.leaf, .slice ia il ic, .slice ka kl kc], .int .i64 (i:Int)] w λe w'=>e= .returned (.bool (inP B N i))/\Below w.heap.size w w':=by
 obtain⟨lf,hlf⟩:∃lf,N.leaf=lf:=⟨_,rfl⟩;rw[hlf];have b0:Below w.heap.size w (w.alloc (.cells #[.bool lf, .slice ia il ic, .slice ka kl kc] 67)):=bW;have HB0:=Hd b0;have hq0:=h.box.ext b0;have hn0:=Blk.new w [.bool lf, .slice ia il ic, .slice ka kl kc] 67;have hcap:=hN.hcap;obtain⟨x,hx⟩:∃x,N.kids[i]? =some x:=⟨_,List.getElem?_eq_getElem (by have:=hN.hlen;omega)⟩;obtain⟨b,o,k1,k2,k3,rfl,hbl,_,c0,_,_,_,_,_,_,_,hk,_⟩:=hN.hat i x hx;obtain⟨en,hen⟩:∃en,B.endsB x.key=en:=⟨_,rfl⟩;have HEN:=Hd (λW (hb:Below w.heap.size w W)=>by have q:=IE B p.ba p.ta k1 p.bl p.bc p.tl p.tc k2 k3 x.key W (h.to_.ext hb).at_ (hk.ext hb).at_;rw[hen]at q;exact q);have cb0:=c0;have ZU:=hbl;have q0:=h.box.cells;have l0:=h.box.lt;unfold wkC at q0;have HQ0:=Hd hq0;have HN0:=Hd hn0;have hnl:=hN.hlen;have HKN:=Hd hN;have HFR:=Hd h.from_;have HX:=Hd hx;have hv1:inP B N i=(!(decide (0<i)&&en)&&(((N.kids[i+1]?).map λk=>bH B.from_ k.key).getD true)):=by unfold inP;rw[hx];show(!(decide (0<i)&&B.endsB x.key)&&_)=_;rw[hen]
 obtain⟨r,hr⟩:∃r,inP B N i=r:=⟨_,rfl⟩;have HR:=Hd (hv1.symm.trans hr);rw[hr];have u1:IntKind.i64.wrap ((i:Int)+1)=((i+1:Nat):Int):=by rw[IntWalk.i64_in _ oM];omega
 clear h hN hx hk c0 hq0 hn0 hen hlf hv1 b0 hr;go_enter Tryz.func95,Tryz.ntmps95;by_cases h0:i=0
 .subst h0;go_wp2_with fail;refine' ah [.inl _, .inl _, .inl _, .inl undef, .inl undef, .inl undef, .inl undef, .inl undef, .inl undef, .inl undef, .inl undef, .inl undef, .inl undef, .inl undef, .inl _] kR kR ?dN
  case dN=>
   iterate 3 refine wD ?_
   iterate 11 refine wS ?_
   refine wD ?_;refine aj λW2 hE2 hG2=>?_;have QY:=hE2.cF;have QZ:=hE2.fF;have B2:=Hd (HB0.o.trans (hE2.mono HB0.o.size));have HQ2:=Hd (HQ0.o.ext hE2);have HN2:=Hd (HN0.o.ext hE2);clear hE2 QY QZ q0 l0 cb0 ZU hbl HEN;have q2:=HQ2.o.cells;unfold wkC at q2;have l2:=HQ2.o.lt;have n2:=HN2.o.cells;have ln2:=HN2.o.lt;by_cases he:0+1=kl
   .subst he;have HV:=Hd (show r=true from by rw[<- HR.o,List.getElem?_eq_none oM]<;>simp)
    go_wp2_with fail;refine' ah [.inl _, .inl _, .inl _, .inl _, .inl _, .inl _, .inl _, .inl undef, .inl undef, .inl undef, .inl undef, .inl undef, .inl undef, .inl undef, .inl undef, .inl undef, .inl undef, .inl undef, .inl undef, .inl undef, .inl undef, .inl _] kR kR ?fZ
    case fZ=>
     iterate 3 refine wD ?_
     refine wE ?_;iterate 3 refine wD ?_
     iterate 14 refine wS ?_
     refine wD ?_;refine aj λW3 hE3 hG3=>?_;have L6:=hE3.cF;have L8:=hE3.fF;have B3:=Hd (B2.o.trans (hE3.mono B2.o.size));clear hE3 L6 L8 q2 l2 n2 ln2;go_wp2;go_ret;exact⟨bg HV.o.symm,B3.o⟩
   .have e2:((0:Int)+1==(kl:Int))=false:=by rw[beq_eq_false_iff_ne];omega
    obtain⟨y,hy⟩:∃y,N.kids[0+1]? =some y:=⟨_,List.getElem?_eq_getElem oM⟩;obtain⟨b',o',k1',k2',k3',hee,U5,_,c1,_,_,_,_,_,_,_,hk',_⟩:=HKN.o.hat (0+1) y hy;cases hee;have cb1:=(B2.o.cell (p:=⟨b,o+(0+1)*8,none⟩) U5).trans c1;have YH:=Nat.lt_of_lt_of_le U5 B2.o.size;obtain⟨C,hC⟩:∃C,Lib.compareBytes y.key B.from_=C:=⟨_,rfl⟩;have hd:=Qk y.key B.from_;rw[hC]at hd;have HCM:=Hd (λW (hb:Below w.heap.size w W)=>by have q:=iY k1' p.ba k2' k3' p.bl p.bc y.key B.from_ W (hk'.ext hb).at_ (HFR.o.ext hb).at_;rw[hC]at q;exact q);have HV:=Hd (show r=decide (0<C)from by rw[<- HR.o,hy,hd]<;>simp)
    have gi1:((0:Int)+1)<(kl:Int):=oM;clear hd hC hk' hy c1 U5;have e3:((1:Int)==(kl:Int))=false/\IntKind.i64.wrap 1=1:=⟨by rw[beq_eq_false_iff_ne];omega,IntWalk.i64_in _ oM⟩;have gi3:(1:Int)<(kl:Int):=oM;have cb2:W2.cell? ⟨b,o+8,none⟩=some (.slice k1' k2' k3'):=cb1;go_wp2_with fail;refine' ah [.inl _, .inl _, .inl _, .inl _, .inl _, .inl _, .inl _, .inl _, .inl _, .inl _, .inl _, .inl _, .inl _, .inl _, .inl _, .inl _, .inl _, .inl _, .inl _, .inl _, .inl _, .inl _] kR kR ?iT
    case iT=>
     iterate 3 refine wD ?_
     refine wE ?_;iterate 4 refine wD ?_
     refine wE ?_;iterate 4 refine wD ?_
     refine wE ?_;iterate 4 refine wD ?_
     refine wE ?_;refine wG (λW hE hN=>by go_simp;refine⟨Below.refl _ _,?_⟩;refine(HCM.o W (B2.o.trans (hE.mono B2.o.size))).mono ?_;rintro e w' ⟨rfl,hb⟩;refine⟨?_,hb⟩;rfl) ?_;iterate 2 refine wD ?_
     refine aj λW3 hE3 hG3=>?_;have L6:=hE3.cF;have L8:=hE3.fF;have B3:=Hd (B2.o.trans (hE3.mono B2.o.size));clear hE3 L6 L8 q2 l2 n2 ln2 cb1 YH HCM;go_wp2;go_ret;exact⟨bg HV.o.symm,B3.o⟩
 .have d0:decide ((0:Int)<(i:Int))=true:=decide_eq_true oM;have d1:(0:Int)<(i:Int):=oM;have d2:decide (0<i)=true:=decide_eq_true oM;have d3:0<i:=oM;have gi:(i:Int)<(kl:Int):=oM;go_wp2_with fail;refine' ah [.inl _, .inl _, .inl _, .inl _, .inl _, .inl _, .inl _, .inl _, .inl _, .inl _, .inl _, .inl _, .inl _, .inl _, .inl _] kR kR ?jI
  case jI=>
   iterate 6 refine wD ?_
   refine wE ?_;refine wD ?_;refine wE ?_;iterate 3 refine wD ?_
   refine wE ?_;refine wG (λW hE hN=>by go_simp;refine⟨Below.refl _ _,?_⟩;refine(HEN.o W (HB0.o.trans (hE.mono HB0.o.size))).mono ?_;rintro e w' ⟨rfl,hb⟩;refine⟨?_,hb⟩;rfl) ?_;refine wD ?_;refine aj λW2 hE2 hG2=>?_;have QY:=hE2.cF;have QZ:=hE2.fF;have B2:=Hd (HB0.o.trans (hE2.mono HB0.o.size));have HQ2:=Hd (HQ0.o.ext hE2);have HN2:=Hd (HN0.o.ext hE2);clear hE2 QY QZ q0 l0 cb0 ZU hbl HEN d0 d1 d2 d3 gi;cases en with
   |true=>
    go_wp2;go_ret;exact⟨bg (show r=false from by rw[<- HR.o];simp[Nat.pos_of_ne_zero h0]).symm,B2.o⟩
   |false=>
    have q2:=HQ2.o.cells;unfold wkC at q2;have l2:=HQ2.o.lt;have n2:=HN2.o.cells;have ln2:=HN2.o.lt;by_cases he:i+1=kl
    .subst he;have HV:=Hd (show r=true from by rw[<- HR.o,List.getElem?_eq_none oM]<;>simp)
     go_wp2_with fail;refine' ah [.inl _, .inl _, .inl _, .inl _, .inl _, .inl _, .inl _, .inl undef, .inl undef, .inl undef, .inl undef, .inl undef, .inl undef, .inl undef, .inl undef, .inl undef, .inl undef, .inl undef, .inl undef, .inl undef, .inl undef, .inl _] kR kR ?main5
     case main5=>
      iterate 3 refine wD ?_
      refine wE ?_;iterate 3 refine wD ?_
      iterate 14 refine wS ?_
      refine wD ?_;refine aj λW3 hE3 hG3=>?_;have L6:=hE3.cF;have L8:=hE3.fF;have B3:=Hd (B2.o.trans (hE3.mono B2.o.size));clear hE3 L6 L8 q2 l2 n2 ln2;go_wp2;go_ret;exact⟨bg HV.o.symm,B3.o⟩
    .have e2:((i:Int)+1==(kl:Int))=false:=by rw[beq_eq_false_iff_ne];omega
     obtain⟨y,hy⟩:∃y,N.kids[i+1]? =some y:=⟨_,List.getElem?_eq_getElem oM⟩;obtain⟨b',o',k1',k2',k3',hee,U5,_,c1,_,_,_,_,_,_,_,hk',_⟩:=HKN.o.hat (i+1) y hy;cases hee;have cb1:=(B2.o.cell (p:=⟨b,o+(i+1)*8,none⟩) U5).trans c1;have YH:=Nat.lt_of_lt_of_le U5 B2.o.size;obtain⟨C,hC⟩:∃C,Lib.compareBytes y.key B.from_=C:=⟨_,rfl⟩;have hd:=Qk y.key B.from_;rw[hC]at hd;have HCM:=Hd (λW (hb:Below w.heap.size w W)=>by have q:=iY k1' p.ba k2' k3' p.bl p.bc y.key B.from_ W (hk'.ext hb).at_ (HFR.o.ext hb).at_;rw[hC]at q;exact q);have HV:=Hd (show r=decide (0<C)from by rw[<- HR.o,hy,hd]<;>simp)
     have gi1:((i:Int)+1)<(kl:Int):=oM;clear hd hC hk' hy c1 U5;skip
     go_wp2_with fail;refine' ah [.inl _, .inl _, .inl _, .inl _, .inl _, .inl _, .inl _, .inl _, .inl _, .inl _, .inl _, .inl _, .inl _, .inl _, .inl _, .inl _, .inl _, .inl _, .inl _, .inl _, .inl _, .inl _] kR kR ?nH
     case nH=>
      iterate 3 refine wD ?_
      refine wE ?_;iterate 4 refine wD ?_
      refine wE ?_;iterate 4 refine wD ?_
      refine wE ?_;iterate 4 refine wD ?_
      refine wE ?_;refine wG (λW hE hN=>by go_simp;refine⟨Below.refl _ _,?_⟩;refine(HCM.o W (B2.o.trans (hE.mono B2.o.size))).mono ?_;rintro e w' ⟨rfl,hb⟩;refine⟨?_,hb⟩;rfl) ?_;iterate 2 refine wD ?_
      refine aj λW3 hE3 hG3=>?_;have L6:=hE3.cF;have L8:=hE3.fF;have B3:=Hd (B2.o.trans (hE3.mono B2.o.size));clear hE3 L6 L8 q2 l2 n2 ln2 cb1 YH HCM;go_wp2;go_ret;exact⟨bg HV.o.symm,B3.o⟩
end Go.Proofs.YtenmnhnlcnmloaaGreat
namespace Go.Proofs.YtenmnhnlcnmloaaGreat
open Go.RowKit Go.Dav Go.Shelf
attribute [local go_sem] Gives ite_val ay Oper.semAt_some
set_option maxRecDepth 100000 in
theorem Ql(F:aB)(fa la:Option Addr)(fl fc ll lc:Nat)(at_:Int)(w:World)(S:Nat->Prop)(hF:fB w S fa fl fc la ll lc F)(hS:∀b,S b->b<w.heap.size)(hr:F.right=true)(ha:eY at_):
  Calls Tryz.prog 59 #[.agg #[.slice fa fl fc, .slice la ll lc, .int .i64 F.fuse, .int .i64 F.fault, .bool F.off], .int .i64 at_] w (U4 w (dF F.all at_)):=by
 have hW:Below w.heap.size w (w.alloc (.cells [.slice fa fl fc, .slice la ll lc, .int .i64 F.fuse, .int .i64 F.fault, .bool F.off].toArray 32)):=bW;have HB0:=Hd (Blk.new w [.slice fa fl fc, .slice la ll lc, .int .i64 F.fuse, .int .i64 F.fault, .bool F.off] 32);have HF0:=Hd (hF.ext hW);have HW:=Hd hW;have HSS:=Hd hS;have HR:=Hd hr;have HAT:=Hd ha;have hC:=kP F fa la fl fc ll lc _ HF0.o.at_;rw[show F.err=0 by unfold aB.err;rw[if_pos hr]]at hC;have HC:=Hd hC;clear hF hW hS hr ha hC;refine(callsIn_wide (n:=4)).1 ?_;refine callsIn_of_wp_marks Tryz.func59 rfl trivial (wpIn_wide.2 ?_) rfl;simp only[Tryz.ntmps59,List.size_toArray,List.length_cons,List.length_nil,Nat.reduceAdd,Nat.reduceSub,Array.replicate_succ,Array.replicate_zero,List.push_toArray,List.append_toArray,List.nil_append,List.cons_append];go_wp2_with fail;go_step3;go_wp2_with fail;refine HC.o.mono ?_;rintro e w1 ⟨rfl,hb1⟩;have HB1:=Hd (HB0.o.ext hb1);have HF1:=Hd (HF0.o.ext hb1);have JK:=Hd (HW.o.trans (hb1.mono HW.o.size));have hs1:w.heap.size<w1.heap.size:=HB1.o.lt;have q1:=HB1.o.cells;have l1:=HB1.o.lt;clear hb1 HB0 HF0 HW HC;have nC:w.heap.size<w1.heap.size:=oM;have nD:w.heap.size<w1.heap.size+1:=oM;have rE:w.heap.size<w1.heap.size+1+1:=oM;have WZ:w.heap.size<w1.heap.size+1+1+1:=oM;have Xa:w.heap.size<w1.heap.size+1+1+1+1:=oM;go_wp2_with fail;go_step3;go_wp2_with fail;refine(JU F fa la fl fc ll lc at_ _).mono ?_;rintro e w4 ⟨rfl,rfl⟩;go_wp2_with fail;obtain⟨L,hL⟩:∃L,((((w1.alloc (.cells #[.slice none 0 0] 22)).alloc (.cells #[.int .i64 6] 3)).alloc (.cells #[.int .i64 0] 3)).alloc (.cells [.slice fa fl fc, .slice la ll lc, .int .i64 F.fuse, .int .i64 F.fault, .bool F.off].toArray 32)).alloc (.cells #[.int .i64 at_] 3)=L:=⟨_,rfl⟩;have hsz:L.heap.size=w1.heap.size+1+1+1+1+1:=by rw[<- hL];simp
 have hbL:Below w1.heap.size w1 L:=by rw[<- hL];exact bW
 have hq8:Blk L w1.heap.size [.slice none 0 0] 22:=by rw[<- hL];exact((((Blk.new w1 _ _).alloc _).alloc _).alloc _).alloc _
 have hq9:Blk L (w1.heap.size+1) [.int .i64 6] 3:=by rw[<- hL];exact(((Blk.new' _ _ _ (by simp)).alloc _).alloc _).alloc _
 have hq10:Blk L (w1.heap.size+1+1) [.int .i64 0] 3:=by rw[<- hL];exact((Blk.new' _ _ _ (by simp)).alloc _).alloc _
 have hqB:Blk L (w1.heap.size+1+1+1) [.slice fa fl fc, .slice la ll lc, .int .i64 F.fuse, .int .i64 F.fault, .bool F.off] 32:=by rw[<- hL];exact(Blk.new' _ [.slice fa fl fc, .slice la ll lc, .int .i64 F.fuse, .int .i64 F.fault, .bool F.off] _ (by simp)).alloc _
 have hqA:Blk L (w1.heap.size+1+1+1+1) [.int .i64 at_] 3:=by rw[<- hL];exact Blk.new' _ _ _ (by simp)
 have hseq:=Ig F fa la fl fc ll lc at_ L S (λk=>k=w1.heap.size\/k=w1.heap.size+1\/k=w1.heap.size+1+1) (4-1) (w1.heap.size+1+1+1) w1.heap.size 22 dC (HF1.o.ext hbL) HR.o (λb h=>by have:=HSS.o b h;omega) (λb h=>oM) hqB hqA oM hq8 HAT.o;have UM:=Hd hseq;have HBL:=Hd hbL;have hI0:Sj w1.heap.size w1.heap.size 5 22 3 Alive [] L:=⟨_,6,hq8,World.ownsRow_nil _ _ _ _,hq9,hq10,Alive.nil_,oM⟩;have HI0:=Hd hI0;rw[show _=L from hL];have HSZ:=Hd hsz;clear hL hsz hbL hq8 hq9 hq10 hqB hqA hseq hI0;refine wpIn_wide.1 (wpIn_rangeFunc_ownF (n:=4) rfl dC (gf:=146) (lb:= #[.pointer (some ⟨w1.heap.size+1+1+1,0,none⟩), .pointer (some ⟨w1.heap.size+1+1+1+1,0,none⟩)]) rfl trivial EW UM.o KpQ.t (KpQ.b (by have:=HSZ.o;omega)) (Below.refl _ _) (λ_=>rfl)
  (λpre W=>Sj w1.heap.size w1.heap.size 5 22 3 Alive pre W/\Below w1.heap.size L W)
  (λc pre W=>(c= .exit 0/\Sj w1.heap.size w1.heap.size 5 22 3 PX pre W)/\Below w1.heap.size L W)
  (OwnFrom.and (Own.from (Ic _ _ _ _ _ _) _) (ownFrom_below (by have:=HSZ.o;omega) (by have:=HSZ.o;omega)))
  (λc=>OwnFrom.and (Own.from (λs A B row hs hg hr=>⟨hs.1,Ic _ _ _ _ _ _ s A B row hs.2 hg hr⟩) _) (ownFrom_below (by have:=HSZ.o;omega) (by have:=HSZ.o;omega)))
  ⟨HI0.o,Below.refl _ _⟩
  ?act ?assign ?body ?done ?stop)
 case assign=>
  intro l x W K hK;gi_wp2;exact hK
 case body=>
  rintro l pre x W ⟨⟨v,want,h8,hrow,h9,h10,hal,hsz⟩,hB⟩-;have hlen:=hal.len;rw[kT]at hlen;have H8:=Hd h8;have BP:=Hd hrow;have H9:=Hd h9;have H10:=Hd h10;have HAL:=Hd hal;have HB:=Hd hB;have VE:=Hd hsz;have YI:=x.2;obtain⟨pl,c,hx⟩:∃pl c,x.1=(pl,c):=⟨_,_,rfl⟩;rw[hx]at YI⊢;dsimp only at YI⊢;have HX:=Hd hx;have q8:=h8.cells;have m8:=h8.marks;have l8:=h8.lt;have q9:=h9.cells;have m9:=h9.marks;have l9:=h9.lt;have q10:=h10.cells;have m10:=h10.marks;have l10:=h10.lt;obtain⟨ra,rc,rfl,_⟩:=bf hrow;clear h8 hrow h9 h10 hal hB hsz hx;have k1:pre.length+1<=maxLen:=by unfold maxLen;omega
  have k2:IntKind.i64.wrap ((pl:Int)+1)=((pl+1:Nat):Int):=by rw[Int.natCast_add];exact IntWalk.i64_in _ oM
  clear YI;have e7:u8s (bytesOf pre)++[.int .u8 (c.toNat:Int)]=u8s (bytesOf (pre++[x])):=by rw[rV,aW,HX.o];rfl
  have E7:=Hd e7;have E8:=Hd (show(bytesOf (pre++[x])).length=pre.length+1 by rw[rV,List.length_append,kT];rfl);have E9:=Hd (show Ap (pre++[x])=pl+1 by rw[JO,HX.o]);clear e7;by_cases k6:pre.length+1=6
  .skip
   gi_wp2_with (gi_at_builtin;refine jA rfl (.tmp 23) (.tmp 25) 22 rfl aF w1.heap.size _ pre.length (u8s (bytesOf pre)) rfl (BP.o.alloc _) ⟨W.heap.size,0,none⟩ 1 1 [.int .u8 (c.toNat:Int)] rfl rfl (rW W _ _) (λu hu=>by simp at hu;subst hu;rfl) oM k1 oM (by have:=VE.o;simp;omega) ?_;intro g cap w' hown' hgrow hg hgl;obtain⟨⟨b8',b9',Lm⟩,hW4⟩:=Aq H8.o H9.o H10.o dC dC BP.o VE.o (Nat.le_refl _) hown' hgrow hg hgl;have q8':=b8'.cells;have m8':=b8'.marks;have XP:=Lm.cells;have YJ:=Lm.marks;have l8':=b8'.lt;have XQ:=Lm.lt;have q9':=b9'.cells;have m9':=b9'.marks;have l9':=b9'.lt;have HW4:=Hd hW4;clear b8' b9' Lm hW4 hown' hgrow hg hgl)
   obtain⟨W4,hw4⟩:∃W4,(w'.setCell ⟨w1.heap.size,0,none⟩ (.slice (some ⟨g,0,none⟩) 6 cap)).setCell ⟨w1.heap.size+1+1,0,none⟩ (.int .i64 ((pl:Int)+1))=W4:=⟨_,rfl⟩;obtain⟨c8,c9,c10,cr,ck,cq,cb⟩:=HW4.o _ W4 (by rw[k6];exact hw4);rw[hw4];rw[E7.o,k6]at cr;rw[k6]at c8;have E8':=Hd (E8.o.trans k6);obtain⟨_,_,ee,_,_,_,hcc⟩:=bf cr;cases ee;obtain⟨ba,hba⟩:∃ba,(bytesOf (pre++[x]))[0]? =some ba:=⟨_,List.getElem?_eq_getElem (by rw[E8'.o];omega)⟩;obtain⟨bb,hbb⟩:∃bb,(bytesOf (pre++[x]))[1]? =some bb:=⟨_,List.getElem?_eq_getElem (by rw[E8'.o];omega)⟩;have y0:W4.cell? ⟨g,0,none⟩=some (.int .u8 (ba.toNat:Int)):=by
    obtain⟨b,i,e1,_,_,h3⟩:=hcc.at_ 0 (.int .u8 (ba.toNat:Int)) (by simp[u8s,hba]);cases e1;exact h3
   have y1:W4.cell? ⟨g,1,none⟩=some (.int .u8 (bb.toNat:Int)):=by
    obtain⟨b,i,e1,_,_,h3⟩:=hcc.at_ 1 (.int .u8 (bb.toNat:Int)) (by simp[u8s,hbb]);cases e1;exact h3
   have ZV:oO (bytesOf (pre++[x]))=ba.toNat*256+bb.toNat:=La hba hbb;have n0:=ba.toNat_lt;have n1:=bb.toNat_lt;have q4:=c8.cell 0 rfl;have q4':=c9.cell 0 rfl;have m4':=c9.marks;have l4':=c9.lt;have l4:=c8.lt;have lg:g<W4.heap.size:=by
    obtain⟨b,i,e1,h1,_,h3⟩:=hcc.at_ 1 (.int .u8 (bb.toNat:Int)) (by simp[u8s,hbb]);cases e1;exact h1
   have C8:=Hd c8;have C9:=Hd c9;have C10:=Hd c10;have CR:=Hd cr;have CK:=Hd ck;have CQ:=Hd cq;have CB:=Hd cb;have Uh:=Hd ZV;clear hw4 c8 c9 c10 cr ck cq cb hcc ZV hba hbb HW4 q8 q9 q10 m8 m9 m10 l8 l9 l10 q8' m8' q9' m9' XP YJ l8' l9' XQ k2;refine' qN [] [.inl _, .inl _, .inl _, .inl _, .inl _, .inl _, .inl _, .inl _, .inl _, .inl _, .inl _] kR kR kR ?dN
   case dN=>
    refine wE ?_;refine wD ?_;refine wE ?_;iterate 3 refine wD ?_
    refine wE ?_;refine wD ?_;refine wE ?_;iterate 2 refine wD ?_
    refine aj λW5 hE5 hG5=>?_;have UN:=hE5.cF;have UO:=hE5.fF;have h5:=hE5.size;go_wp2_with fail;refine yE ?_;gi_wp2_with fail;obtain⟨sN,hsN⟩:∃sN,oO (bytesOf (pre++[x]))=sN:=⟨_,rfl⟩;have hsv:sN=ba.toNat*256+bb.toNat:=hsN▸Uh.o;have es:(6+(ba.toNat:Int)*256+(bb.toNat:Int)-6)=(sN:Int):=oM;have ew:(6+(ba.toNat:Int)*256+(bb.toNat:Int))=((6+sN:Nat):Int):=oM;rw[es];rw[ew];have HSN:=Hd hsN;have hA:=Nk sN (W5.setCell ⟨w1.heap.size+1,0,none⟩ (.int .i64 ((6+sN:Nat):Int))) oM;refine⟨trivial,((callsIn_wide.2 hA).inRound l).mono ?_⟩;rintro e W7 ⟨rfl,hb7⟩;obtain⟨d8,d9,d10,dr,dk,dq,db⟩:=Nl C8.o C9.o C10.o dC CR.o CK.o CQ.o CB.o (Nat.le_refl _) hE5 hb7;have ZW:w1.heap.size<=W7.heap.size:=by have:=d8.lt;omega
    have q7:=d8.cells;have q7':=d9.cells;have ZX:=Hd (PY E8'.o);have D8:=Hd d8;have D9:=Hd d9;have D10:=Hd d10;have DR:=Hd dr;have DK:=Hd dk;have DQ:=Hd dq;have DB:=Hd (HB.o.trans db);clear hb7 d8 d9 d10 dr dk dq db hA es ew hsv hsN hE5 hG5 UN UO y0 y1 q4 q4' m4' l4' l4 lg C8 C9 C10 CR CK CQ CB h5 n0 n1 Uh;by_cases hm:1<=sN/\sN<=4096
    .have hmd:(decide (1<=sN)&&decide (sN<=4096))=true:=by simp[hm.1,hm.2]
     have kw:¬(6:Int)=((6+sN:Nat):Int):=by have:=hm.1;omega
     have kw':¬(6:Int)=6+(sN:Int):=by have:=hm.1;omega
     rw[hmd];have HM:=Hd hm;clear hm hmd;gi_wp2_with fail;refine⟨DK.o,DQ.o,⟨_,6+sN,D8.o,?_,D9.o,?_,?_,ZW⟩,DB.o⟩
     .rw[List.length_append];exact k6▸DR.o
     .rw[E9.o,Int.natCast_add];exact D10.o
     .have:=ZX.o.1 (by rw[HSN.o];exact HM.o);rwa [HSN.o]at this
    .have hmd:(decide (1<=sN)&&decide (sN<=4096))=false:=by
      by_cases h1:1<=sN
      .have h2:¬sN<=4096:=λh2=>hm ⟨h1,h2⟩;simp[h2]
      .simp[h1]
     rw[hmd];have HM:=Hd hm;clear hm hmd;gi_wp2_with fail;refine⟨DK.o,⟨rfl,⟨_,6+sN,D8.o,?_,D9.o,?_,?_,ZW⟩⟩,DB.o⟩
     .rw[List.length_append];exact k6▸DR.o
     .rw[E9.o,Int.natCast_add];exact D10.o
     .have:=ZX.o.2 (by rw[HSN.o];exact HM.o);rwa [HSN.o]at this
  .have hne:¬((pre.length:Int)+1=6):=oM;have hst:=Np (c:=c) HAL.o (by rw[kT];exact k6);rw[kT,show bytesOf pre++[c]=bytesOf (pre++[x]) by rw[rV,HX.o]]at hst;have HST:=Hd hst;clear hst;by_cases kw:pre.length+1=want
   .have kw':(pre.length:Int)+1=(want:Int):=oM;have HKW:=Hd kw;clear kw;gi_wp2_with (gi_at_builtin;refine jA rfl (.tmp 23) (.tmp 25) 22 rfl aF w1.heap.size _ pre.length (u8s (bytesOf pre)) rfl (BP.o.alloc _) ⟨W.heap.size,0,none⟩ 1 1 [.int .u8 (c.toNat:Int)] rfl rfl (rW W _ _) (λu hu=>by simp at hu;subst hu;rfl) oM k1 oM (by have:=VE.o;simp;omega) ?_;intro g cap w' hown' hgrow hg hgl;obtain⟨⟨b8',b9',Lm⟩,hW4⟩:=Aq H8.o H9.o H10.o dC dC BP.o VE.o (Nat.le_refl _) hown' hgrow hg hgl;have q8':=b8'.cells;have m8':=b8'.marks;have XP:=Lm.cells;have YJ:=Lm.marks;have l8':=b8'.lt;have XQ:=Lm.lt;have q9':=b9'.cells;have m9':=b9'.marks;have l9':=b9'.lt;have HW4:=Hd hW4;clear b8' b9' Lm hW4 hown' hgrow hg hgl)
    obtain⟨W4,hw4⟩:∃W4,(w'.setCell ⟨w1.heap.size,0,none⟩ (.slice (some ⟨g,0,none⟩) (pre.length+1) cap)).setCell ⟨w1.heap.size+1+1,0,none⟩ (.int .i64 ((pl:Int)+1))=W4:=⟨_,rfl⟩;obtain⟨c8,c9,c10,cr,ck,cq,cb⟩:=HW4.o _ W4 hw4;rw[hw4];rw[E7.o]at cr;refine⟨ck,⟨rfl,⟨_,want,c8,?_,c9,?_,HST.o.1 HKW.o,by have:=c8.lt;omega⟩⟩,HB.o.trans cb⟩
    .rw[List.length_append];exact cr
    .rw[E9.o,Int.natCast_add];exact c10
   .have kw':¬(pre.length:Int)+1=(want:Int):=oM;gi_wp2_with (gi_at_builtin;refine jA rfl (.tmp 23) (.tmp 25) 22 rfl aF w1.heap.size _ pre.length (u8s (bytesOf pre)) rfl (BP.o.alloc _) ⟨W.heap.size,0,none⟩ 1 1 [.int .u8 (c.toNat:Int)] rfl rfl (rW W _ _) (λu hu=>by simp at hu;subst hu;rfl) oM k1 oM (by have:=VE.o;simp;omega) ?_;intro g cap w' hown' hgrow hg hgl;obtain⟨⟨b8',b9',Lm⟩,hW4⟩:=Aq H8.o H9.o H10.o dC dC BP.o VE.o (Nat.le_refl _) hown' hgrow hg hgl;have q8':=b8'.cells;have m8':=b8'.marks;have XP:=Lm.cells;have YJ:=Lm.marks;have l8':=b8'.lt;have XQ:=Lm.lt;have q9':=b9'.cells;have m9':=b9'.marks;have l9':=b9'.lt;have HW4:=Hd hW4;clear b8' b9' Lm hW4 hown' hgrow hg hgl)
    obtain⟨W4,hw4⟩:∃W4,(w'.setCell ⟨w1.heap.size,0,none⟩ (.slice (some ⟨g,0,none⟩) (pre.length+1) cap)).setCell ⟨w1.heap.size+1+1,0,none⟩ (.int .i64 ((pl:Int)+1))=W4:=⟨_,rfl⟩;obtain⟨c8,c9,c10,cr,ck,cq,cb⟩:=HW4.o _ W4 hw4;rw[hw4];rw[E7.o]at cr;refine⟨ck,cq,⟨_,want,c8,?_,c9,?_,HST.o.2 kw,by have:=c8.lt;omega⟩,HB.o.trans cb⟩
    .rw[List.length_append];exact cr
    .rw[E9.o,Int.natCast_add];exact c10
 case done=>
  rintro D ys W hD hys ⟨⟨v,want,h8,hrow,h9,h10,hal,hsz⟩,hB⟩ hK;have hbt:bytesOf ys=(dF F.all at_).map (·.2):=by rw[<- hys,List.map_map];rfl
  have hnone:fH (dF F.all at_)=none:=ES (hbt▸hal);have hlen:=kT ys;rcases hal with⟨h6,hw⟩|⟨h6,hmay,hw,hlt⟩
  .rw[hlen]at h6;have k6:(ys.length:Int)<=6:=oM;have HN:=Hd hnone;have q8:=h8.cells;have l8:=h8.lt;have q9:=h9.cells;have l9:=h9.lt;obtain⟨ra,rc,rfl,_⟩:=bf hrow;have HKK:=Hd hK;have hDw:w.heap.size<=D:=by have:=HSZ.o;omega
   have hDl:D<W.heap.size:=(Array.getElem?_eq_some_iff.1 hK).1;have HBW:=Hd ((JK.o.trans (HBL.o.mono (Nat.le_of_lt hs1))).trans (hB.mono (Nat.le_of_lt hs1)));clear h8 h9 h10 hrow hK hB hnone hys hbt hlen hsz;go_wp2_with fail;refine' ah [.inl _, .inl _, .inl _, .inl _, .inl undef, .inl undef, .inl undef, .inl undef, .inl _, .inl _, .inl undef, .inl undef, .inl undef, .inl undef, .inl undef, .inl undef, .inl undef, .inl _] kR kR ?fZ
   case fZ=>
    refine wE ?_;iterate 3 refine wD ?_
    iterate 4 refine wS ?_
    iterate 2 refine wD ?_
    iterate 7 refine wS ?_
    refine wD ?_;refine aj λW6 hE6 hG6=>?_;have Ol:=hE6.cF;have Om:=hE6.fF;have HK6:=Hd ((hE6.block D hDl).trans HKK.o);have hb6:=hE6.mono (show w.heap.size<=W.heap.size by omega);go_wp2_with fail;refine⟨by simp, .inl ⟨_,_,rfl,run_takeDeferred HK6.o,?_⟩⟩;refine⟨.tuple #[.slice none 0 0, .int .i64 0, .int .i64 210],by simp[results,Tryz.results59,go_sem], .inr ⟨HN.o,rfl,?_⟩⟩;exact(HBW.o.trans hb6).trans (belowK_b (w:=w) (Nat.le_refl _) W6 D _ _ hDw HK6.o rfl rfl)
  .rw[hlen]at h6 hlt;by_cases h7:ys.length=6
   .have k6:(ys.length:Int)<=6:=oM;have HN:=Hd hnone;have q8:=h8.cells;have l8:=h8.lt;have q9:=h9.cells;have l9:=h9.lt;obtain⟨ra,rc,rfl,_⟩:=bf hrow;have HKK:=Hd hK;have hDw:w.heap.size<=D:=by have:=HSZ.o;omega
    have hDl:D<W.heap.size:=(Array.getElem?_eq_some_iff.1 hK).1;have HBW:=Hd ((JK.o.trans (HBL.o.mono (Nat.le_of_lt hs1))).trans (hB.mono (Nat.le_of_lt hs1)));clear h8 h9 h10 hrow hK hB hnone hys hbt hlen hsz;go_wp2_with fail;refine' ah [.inl _, .inl _, .inl _, .inl _, .inl undef, .inl undef, .inl undef, .inl undef, .inl _, .inl _, .inl undef, .inl undef, .inl undef, .inl undef, .inl undef, .inl undef, .inl undef, .inl _] kR kR ?iT
    case iT=>
     refine wE ?_;iterate 3 refine wD ?_
     iterate 4 refine wS ?_
     iterate 2 refine wD ?_
     iterate 7 refine wS ?_
     refine wD ?_;refine aj λW6 hE6 hG6=>?_;have Ol:=hE6.cF;have Om:=hE6.fF;have HK6:=Hd ((hE6.block D hDl).trans HKK.o);have hb6:=hE6.mono (show w.heap.size<=W.heap.size by omega);go_wp2_with fail;refine⟨by simp, .inl ⟨_,_,rfl,run_takeDeferred HK6.o,?_⟩⟩;refine⟨.tuple #[.slice none 0 0, .int .i64 0, .int .i64 210],by simp[results,Tryz.results59,go_sem], .inr ⟨HN.o,rfl,?_⟩⟩;exact(HBW.o.trans hb6).trans (belowK_b (w:=w) (Nat.le_refl _) W6 D _ _ hDw HK6.o rfl rfl)
   .have k6:decide ((ys.length:Int)<=6)=false:=decide_eq_false oM;have k7:decide (ys.length<want)=true:=decide_eq_true oM;clear hw hmay h6 hlt h7;have HN:=Hd hnone;have q8:=h8.cells;have l8:=h8.lt;have q9:=h9.cells;have l9:=h9.lt;obtain⟨ra,rc,rfl,_⟩:=bf hrow;have HKK:=Hd hK;have hDw:w.heap.size<=D:=by have:=HSZ.o;omega
    have hDl:D<W.heap.size:=(Array.getElem?_eq_some_iff.1 hK).1;have HBW:=Hd ((JK.o.trans (HBL.o.mono (Nat.le_of_lt hs1))).trans (hB.mono (Nat.le_of_lt hs1)));clear h8 h9 h10 hrow hK hB hnone hys hbt hlen hsz;go_wp2_with fail;refine' ah [.inl _, .inl _, .inl _, .inl _, .inl _, .inl _, .inl _, .inl _, .inl _, .inl _, .inl undef, .inl undef, .inl undef, .inl undef, .inl undef, .inl undef, .inl undef, .inl _] kR kR ?jI
    case jI=>
     refine wE ?_;iterate 3 refine wD ?_
     refine wE ?_;refine wD ?_;refine wE ?_;iterate 3 refine wD ?_
     iterate 7 refine wS ?_
     refine wD ?_;refine aj λW6 hE6 hG6=>?_;have Ol:=hE6.cF;have Om:=hE6.fF;have HK6:=Hd ((hE6.block D hDl).trans HKK.o);have hb6:=hE6.mono (show w.heap.size<=W.heap.size by omega);go_wp2_with fail;refine⟨by simp, .inl ⟨_,_,rfl,run_takeDeferred HK6.o,?_⟩⟩;refine⟨.tuple #[.slice none 0 0, .int .i64 0, .int .i64 210],by simp[results,Tryz.results59,go_sem], .inr ⟨HN.o,rfl,?_⟩⟩;exact(HBW.o.trans hb6).trans (belowK_b (w:=w) (Nat.le_refl _) W6 D _ _ hDw HK6.o rfl rfl)
 case stop=>
  rintro D c ys W hD hys ⟨⟨rfl,⟨v,want,h8,hrow,h9,h10,hal,hsz⟩⟩,hB⟩ hK;refine wpIn_wide.2 ?_;obtain⟨rr,hrr⟩:∃rr,(dF F.all at_).map (·.2)=bytesOf ys++rr:=by
   obtain⟨r,hr⟩:=hys;exact⟨r.map (·.2),by rw[<- hr,List.map_append,List.map_map];rfl⟩
  have hlen:=kT ys;obtain⟨h6,hw,⟨h6',hm⟩|⟨hln,hm⟩⟩:=hal
  .have hnone:fH (dF F.all at_)=none:=JR hrr h6' hm;rw[hlen]at h6';have k6:(ys.length:Int)<=6:=oM;clear hrr hw hm h6 h6';have hbt:True:=trivial;have HN:=Hd hnone;have q8:=h8.cells;have l8:=h8.lt;have q9:=h9.cells;have l9:=h9.lt;obtain⟨ra,rc,rfl,_⟩:=bf hrow;have HKK:=Hd hK;have hDw:w.heap.size<=D:=by have:=HSZ.o;omega
   have hDl:D<W.heap.size:=(Array.getElem?_eq_some_iff.1 hK).1;have HBW:=Hd ((JK.o.trans (HBL.o.mono (Nat.le_of_lt hs1))).trans (hB.mono (Nat.le_of_lt hs1)));clear h8 h9 h10 hrow hK hB hnone hys hbt hlen hsz;go_wp2_with fail;refine' ah [.inl _, .inl _, .inl _, .inl _, .inl undef, .inl undef, .inl undef, .inl undef, .inl _, .inl _, .inl undef, .inl undef, .inl undef, .inl undef, .inl undef, .inl undef, .inl undef, .inl _] kR kR ?main5
   case main5=>
    refine wE ?_;iterate 3 refine wD ?_
    iterate 4 refine wS ?_
    iterate 2 refine wD ?_
    iterate 7 refine wS ?_
    refine wD ?_;refine aj λW6 hE6 hG6=>?_;have Ol:=hE6.cF;have Om:=hE6.fF;have HK6:=Hd ((hE6.block D hDl).trans HKK.o);have hb6:=hE6.mono (show w.heap.size<=W.heap.size by omega);go_wp2_with fail;refine⟨by simp, .inl ⟨_,_,rfl,run_takeDeferred HK6.o,?_⟩⟩;refine⟨.tuple #[.slice none 0 0, .int .i64 0, .int .i64 210],by simp[results,Tryz.results59,go_sem], .inr ⟨HN.o,rfl,?_⟩⟩;exact(HBW.o.trans hb6).trans (belowK_b (w:=w) (Nat.le_refl _) W6 D _ _ hDw HK6.o rfl rfl)
  .have hfw:=ET hrr hln hm hw;have hmx:=hm.2;have hm1:=hm.1;rw[hlen]at hln h6;have hnx:=Nq hys oM;rw[hln]at hnx;rw[hnx]at hfw;obtain⟨ga,cap,ee,hz1,hz2,hz3,hz4⟩:=bf hrow;subst ee;rw[hln]at hz1 hz4 hlen;rw[hln]at h8;obtain⟨g,go,rfl⟩:∃g o,ga=some ⟨g,o,none⟩:=by
    obtain⟨c0,hc0⟩:∃c0,(bytesOf ys)[0]? =some c0:=⟨_,List.getElem?_eq_getElem oM⟩;obtain⟨b,o,e1,_⟩:=hz4.at_ 0 _ (oG hc0);exact⟨b,o,e1⟩
   obtain⟨l,hl⟩:∃l,bytesOf ys=l:=⟨_,rfl⟩;obtain⟨nx,ZY⟩:∃nx,Ap ys=nx:=⟨_,rfl⟩;rw[hl]at hz4 hfw hlen;rw[ZY]at hfw h10;have hcs0:=hz4.PO hK rfl;have hB0:=au.of_cells hcs0 hz1 hz2 oM hz3;have hcs1:=hcs0.part (lo:=6) (hi:=want) oM (Nat.le_refl _);rw[EO,List.take_of_length_le oM]at hcs1;have hB1:=au.of_cells hcs1 (cap:=cap-6) oM oM oM (λe=>by cases e);have hB2:=au.of_cells hcs1 (cap:=want-6) oM oM oM (λe=>by cases e);have hpl:(l.drop 6).length=want-6:=by rw[List.length_drop];omega
   obtain⟨p,hp⟩:∃p,l.drop 6=p:=⟨_,rfl⟩;rw[hp]at hB1 hB2 hfw hpl;have q8:=h8.cells;have l8:=h8.lt;have q9:=h9.cells;have l9:=h9.lt;have q10:=h10.cells;have l10:=h10.lt;have HKK:=Hd hK;have hDw:w.heap.size<=D:=by have:=HSZ.o;omega
   have hDl:D<W.heap.size:=(Array.getElem?_eq_some_iff.1 hK).1;have HBW:=Hd ((JK.o.trans (HBL.o.mono (Nat.le_of_lt hs1))).trans (hB.mono (Nat.le_of_lt hs1)));have HL0:=Hd hB0;have HL1:=Hd hB1;have HL2:=Hd hB2;have HFW:=Hd hfw;have hkm:want<=4102:=oM;have YK:=Hd (λW1 T (h:au W1 T (some ⟨g,go+6,none⟩) (want-6) (cap-6) p)=>RY _ _ _ p W1 T h oM);have HOL:=Hd (show(outOf p).length=want by rw[wC,hpl];omega);obtain⟨r,hr⟩:∃r,outOf p=r:=⟨_,rfl⟩;rw[hr]at HFW YK HOL;have k6:decide ((want:Int)<=6)=false:=decide_eq_false oM;have k1:(6:Int)<=(want:Int):=oM;have k2:6<=want:=oM;have k3:(want:Int)<=(cap:Int):=oM;have k4:¬cap=6:=oM;have k5:¬want=6:=oM;clear h8 h9 h10 hrow hK hB hrr hsz hw hm hmx hm1 hln h6 hfw hnx ZY hlen hz2 hz3 hz4 hcs0 hB0 hcs1 hB1 hB2 hpl hp hl hys;by_cases heq:r=l
   .subst heq;go_wp2_with fail;refine' ah [.inl _, .inl _, .inl _, .inl _, .inl _, .inl _, .inl _, .inl _, .inl _, .inl _, .inl _, .inl _, .inr (vg r), .inl _, .inl _, .inl _, .inl _, .inl _] kR kR ?nH
    case nH=>
     refine wE ?_;iterate 3 refine wD ?_
     refine wE ?_;refine wD ?_;refine wE ?_;iterate 3 refine wD ?_
     refine wE ?_;refine wD ?_;refine aG rfl (vg.later) (by rfl) (λW hE hN=>?_) (λu12=>?_)
     .go_simp;refine⟨Below.refl _ _,?_⟩;refine(YK.o W _ (HL1.o.ext hE)).mono ?_;rintro e w' ⟨v,rfl,ho,hb⟩;obtain⟨ra,rc,rfl,hB⟩:=fM ho oM;exact⟨_,rfl,hb,ra,_,rc,rfl,hB.mono λ_ _=>trivial⟩
     simp only[Act.put,pB,pC,pD];refine wG (λW hE hN=>by simp[near,Oper.looksAt,Op.operands]at hN;obtain⟨ra,rl,rc,rfl,hR⟩:=hN;have kc:=aO hR.at_ 22 9 5 Tryz.underlying22 Tryz.underlying5 Tryz.underlying9;exact gF) ?_;refine wE ?_;refine wG (λW hE hN=>by have kc:=aO (HL0.o.ext hE).at_ 22 9 5 Tryz.underlying22 Tryz.underlying5 Tryz.underlying9;exact gF) ?_;iterate 2 refine wD ?_
     refine aj λW6 hE6 hG6=>?_;have Ol:=hE6.cF;have Om:=hE6.fF;have HK6:=Hd ((hE6.block D hDl).trans HKK.o);have HL6:=Hd (HL2.o.ext hE6);have hb6:=hE6.mono (show w.heap.size<=W.heap.size by omega);have s6:=hE6.size;have Z4:=Hd (HBW.o.trans hb6);have q8':=λi=>(hE6.cell (p:=⟨w1.heap.size,i,none⟩) l8).trans (q8 i);have XP:=λi=>(hE6.cell (p:=⟨w1.heap.size+1+1,i,none⟩) l10).trans (q10 i);have l8':w1.heap.size<W6.heap.size:=oM;have XQ:w1.heap.size+1+1<W6.heap.size:=oM;clear hE6 hG6 Ol Om hb6 q8 q9 q10 l8 l9 l10;go_wp2_with fail;refine' ah [.inl _, .inl _, .inl _, .inl _, .inl _, .inl _, .inl _, .inl _, .inl _, .inl _] kR kR ?uI
     case uI=>
      iterate 2 refine wE ?_
      refine wD ?_;refine wE ?_;iterate 2 refine wD ?_
      refine wE ?_;iterate 3 refine wD ?_
      refine aj λW7 hE7 hG7=>?_;have acQ:=hE7.cF;have acR:=hE7.fF;have HK7:=Hd ((hE7.block D oM).trans HK6.o);have hb7:=hE7.mono (show w.heap.size<=W6.heap.size by have:=Z4.o.size;omega);have HL7:=Hd (HL6.o.ext hE7);go_wp2_with fail;refine⟨by simp, .inl ⟨_,_,rfl,run_takeDeferred HK7.o,?_⟩⟩;refine⟨.tuple #[.slice (some ⟨g,go+6,none⟩) (want-6) (want-6), .int .i64 (nx:Int), .int .i64 0],by simp[results,Tryz.results59,go_sem], .inl ⟨p,nx,HFW.o.1 (by first|rfl|trivial),_,_,_,rfl,?_,?_⟩⟩
      .exact(HL7.o.same (by simp) λb h hlt=>lS hlt h.2).mono λb h=>by have h1:=h.1;have:=JK.o.size;omega
      .exact(Z4.o.trans hb7).trans (belowK_b (w:=w) (Nat.le_refl _) W7 D _ _ hDw HK7.o rfl rfl)
   .have kq:(r==l)=false:=by simpa using heq
    go_wp2_with fail;refine' ah [.inl _, .inl _, .inl _, .inl _, .inl _, .inl _, .inl _, .inl _, .inl _, .inl _, .inl _, .inl _, .inr (vg r), .inl _, .inl _, .inl _, .inl _, .inl _] kR kR ?uJ
    case uJ=>
     refine wE ?_;iterate 3 refine wD ?_
     refine wE ?_;refine wD ?_;refine wE ?_;iterate 3 refine wD ?_
     refine wE ?_;refine wD ?_;refine aG rfl (vg.later) (by rfl) (λW hE hN=>?_) (λu12=>?_)
     .go_simp;refine⟨Below.refl _ _,?_⟩;refine(YK.o W _ (HL1.o.ext hE)).mono ?_;rintro e w' ⟨v,rfl,ho,hb⟩;obtain⟨ra,rc,rfl,hB⟩:=fM ho oM;exact⟨_,rfl,hb,ra,_,rc,rfl,hB.mono λ_ _=>trivial⟩
     simp only[Act.put,pB,pC,pD];refine wG (λW hE hN=>by simp[near,Oper.looksAt,Op.operands]at hN;obtain⟨ra,rl,rc,rfl,hR⟩:=hN;have kc:=aO hR.at_ 22 9 5 Tryz.underlying22 Tryz.underlying5 Tryz.underlying9;exact gF) ?_;refine wE ?_;refine wG (λW hE hN=>by have kc:=aO (HL0.o.ext hE).at_ 22 9 5 Tryz.underlying22 Tryz.underlying5 Tryz.underlying9;exact gF) ?_;iterate 2 refine wD ?_
     refine aj λW6 hE6 hG6=>?_;have Ol:=hE6.cF;have Om:=hE6.fF;have hnone:fH (dF F.all at_)=none:=HFW.o.2 heq;have HN:=Hd hnone;have HK6:=Hd ((hE6.block D hDl).trans HKK.o);have hb6:=hE6.mono (show w.heap.size<=W.heap.size by omega);go_wp2_with fail;refine⟨by simp, .inl ⟨_,_,rfl,run_takeDeferred HK6.o,?_⟩⟩;refine⟨.tuple #[.slice none 0 0, .int .i64 0, .int .i64 210],by simp[results,Tryz.results59,go_sem], .inr ⟨HN.o,rfl,?_⟩⟩;exact(HBW.o.trans hb6).trans (belowK_b (w:=w) (Nat.le_refl _) W6 D _ _ hDw HK6.o rfl rfl)
end Go.Proofs.YtenmnhnlcnmloaaGreat
