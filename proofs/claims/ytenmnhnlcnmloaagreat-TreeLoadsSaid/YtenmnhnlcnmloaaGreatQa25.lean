/- Part of a proof of a law of the layer of trees. -/
import Derived.Test.YtenmnhnlcnmloaaGreatQa23
import Derived.Test.YtenmnhnlcnmloaaGreatQa24
import Derived.Test.YtenmnhnlcnmloaaGreatQa01
set_option linter.unusedVariables false
set_option linter.unusedSimpArgs false
set_option maxHeartbeats 8000000
set_option maxRecDepth 8000
namespace Go.Dav
open Go Go.RowKit
def J4(x:dS):Prop:=x.key.length<=121/\0<=x.red.n/\x.red.n<=x.red.c/\x.red.c<=1073741825/\(x.red.n=0->x.red.s=0)
def yX(N:aT):Prop:=(N.leaf=true->N.items.all fD=true/\1<=N.items.length/\N.items.length<=6/\N.kids=[])/\(N.leaf=false->N.items=[]/\1<=N.kids.length/\N.kids.length<=6/\∀x∈N.kids,J4 x)
theorem Sz{N:aT}(h:yX N):N.items.length<=6/\N.kids.length<=6:=by
 cases hl:N.leaf with
 |true=>obtain⟨_,_,h2,h3⟩:=h.1 hl;rw[h3];exact⟨h2,by simp⟩
 |false=>obtain⟨h1,_,h3,_⟩:=h.2 hl;rw[h1];exact⟨by simp,h3⟩
def SA(N:aT):Prop:=(N.leaf=true->N.items.all fD=true/\1<=N.items.length/\N.items.length<=6/\N.kids=[])/\(N.leaf=false->N.items=[]/\1<=N.kids.length/\N.kids.length<=6/\∀x∈N.kids,x.key.length<=121)
theorem SB{N:aT}(h:yX N):SA N:=⟨h.1,λhl=>⟨(h.2 hl).1,(h.2 hl).2.1,(h.2 hl).2.2.1,λx hx=>((h.2 hl).2.2.2 x hx).1⟩⟩
theorem Qh{N:aT}(h:SA N):N.items.length<=6/\N.kids.length<=6:=by
 cases hl:N.leaf with
 |true=>obtain⟨_,_,h2,h3⟩:=h.1 hl;rw[h3];exact⟨h2,by simp⟩
 |false=>obtain⟨h1,_,h3,_⟩:=h.2 hl;rw[h1];exact⟨by simp,h3⟩
theorem oz{N:aT}(h:bI N=true):SA N:=by
 unfold bI at h;refine⟨λhl=>?_,λhl=>?_⟩
 .rw[hl]at h;simp only[if_true,Bool.and_eq_true,decide_eq_true_eq]at h;obtain⟨g1,_,g3,g4,g5⟩:=h;exact⟨g1,g3,g4,List.length_eq_zero_iff.1 g5⟩
 .rw[hl]at h;simp only[Bool.false_eq_true,if_false,Bool.and_eq_true,decide_eq_true_eq]at h;obtain⟨g1,g2,g3,g4,_⟩:=h;refine⟨List.length_eq_zero_iff.1 g3,oM,g2,λx hx=>?_⟩;have hk:=List.all_eq_true.1 g4 x hx;unfold uG at hk;simp only[Bool.and_eq_true,decide_eq_true_eq]at hk;omega
theorem Ip{x:dS}(h:x.key.length<=121):(jS x).length<=400:=by
 unfold jS;simp only[List.length_append,List.length_cons,bG];omega
theorem xK{n:Nat}{l:List dS}(h:∀x∈l,x.key.length<=121)(h6:l.length<=6)(k:Nat):(tZ n l k).length<=2402:=by
 unfold tZ;have:=JZ (f:=jS) (m:=400) (l:=l.take k) λx hx=>Ip (h x (List.mem_of_mem_take hx));have h2:(l.take k).length*400<=6*400:=Nat.mul_le_mul_right _ (by rw[List.length_take];omega);simp only[List.length_append,List.length_cons,List.length_nil];omega
theorem qI{l:List dS}(h:∀x∈l,J4 x):∀k,k<=l.length->0<=(iM l k).n/\(iM l k).n<=(iM l k).c/\(iM l k).c<=1073741825*k/\(iM l k).blank
 |0,_=>by unfold iM;simp[Red.zero];exact Red.LV
 |k+1,hk=>by
  obtain⟨x,hx⟩:∃x,l[k]? =some x:=⟨_,List.getElem?_eq_getElem oM⟩;obtain⟨h2,h3,h4,h5⟩:=qI h k oM;obtain⟨_,r1,r2,r3,r4⟩:=h x (List.mem_of_getElem? hx);rw[yF hx];refine⟨?_,?_,?_,Red.LW h5 h2 r1⟩
  .show 0<=qZ _ _;unfold qZ;split<;>omega
  .show qZ _ _<=(iM l k).c+x.red.c;unfold qZ;split<;>omega
  .show(iM l k).c+x.red.c<=_;push_cast;omega
theorem CJ{N:aT}(hw:yX N):
  fP (dO N.items N.items.length) N.kids 0=dO N.items N.items.length/\
  ∀k x,N.kids[k]? =some x->(0<=(fP (dO N.items N.items.length) N.kids k).n/\(fP (dO N.items N.items.length) N.kids k).n<=(fP (dO N.items N.items.length) N.kids k).c/\(fP (dO N.items N.items.length) N.kids k).c<=7516192768/\(fP (dO N.items N.items.length) N.kids k).blank)/\
   (0<=x.red.n/\x.red.n<=x.red.c/\x.red.c<=7516192768)/\(x.red.n=0->x.red.s=0):=by
 refine⟨by simp[fP],λk x hx=>?_⟩;have hk:=(List.getElem?_eq_some_iff.1 hx).1;cases hl:N.leaf with
 |true=>
  obtain⟨_,_,_,h3⟩:=hw.1 hl;rw[h3]at hx;simp at hx
 |false=>
  obtain⟨h1,_,h6,h4⟩:=hw.2 hl;obtain⟨_,r1,r2,r3,r4⟩:=h4 x (List.mem_of_getElem? hx);obtain⟨g1,g2,g3,g4⟩:=qI h4 k oM;have hkf:fP (dO N.items N.items.length) N.kids k=iM N.kids k:=by rw[h1];rfl
  rw[hkf];refine⟨⟨g1,g2,?_,g4⟩,⟨r1,r2,oM⟩,r4⟩;have:(k:Int)<=5:=oM;omega
def lD(N:aT):Red:=fP (dO N.items N.items.length) N.kids N.kids.length
end Go.Dav
namespace Go.Proofs.YtenmnhnlcnmloaaGreat
open Go.RowKit Go.Dav
attribute [local go_sem] Gives dG ite_val ay
theorem gB(N:aT)(ia ka:Option Addr)(il ic kl kc:Nat)(S:Nat->Prop)(w:World)(hN:bM w S ia il ic ka kl kc N)(hS:∀b,S b->b<w.heap.size)(hok:SA N):
  Calls Tryz.prog 114 #[.agg #[.bool N.leaf, .slice ia il ic, .slice ka kl kc]] w (oZ w (aJ N)):=by
 obtain⟨f,hfl⟩:∃f,N.leaf=f:=⟨_,rfl⟩;rw[hfl];obtain⟨W0,hW0⟩:∃W0,w.alloc (.cells #[.bool f, .slice ia il ic, .slice ka kl kc] 67)=W0:=⟨_,rfl⟩;have hb0:Below w.heap.size w W0:=by rw[<- hW0];exact bW
 have hq0:Blk W0 w.heap.size [.bool f, .slice ia il ic, .slice ka kl kc] 67:=by rw[<- hW0];exact Blk.new w _ _
 obtain⟨B,hB⟩:∃B,W0.heap.size=B:=⟨_,rfl⟩;have hBw:w.heap.size+1=B:=by rw[<- hB,<- hW0];simp
 have e1:=hN.items.hlen;have e2:=hN.kids.hlen;have h6:=Qh hok;have b1:(il:Int)<=6:=oM;have b2:(kl:Int)<=6:=oM;have HN:=Hd (hN.ext hb0);have HQ0:=Hd hq0;have HB0:=Hd hb0;have E1:=Hd e1;have E2:=Hd e2;have HS:=Hd (show ∀b,S b->b<B from λb h=>by have:=hS b h;omega);have HBS:=Hd hB;have HBW:=Hd hBw;have HW0:=Hd hW0;have HOK:=Hd hok;have HF:=Hd hfl;have c0:=hq0.cells;have m0:=hq0.marks;have l0:=hq0.lt;clear hN hb0 hq0 hB hBw e1 e2 h6 hS hok hfl hW0;cases f with
 |true=>
  have wV:=Hd (show N.items.all fD=true by
   exact(HOK.o.1 HF.o).1)
  have HNB:=Hd (show aJ N=tY il N.items il by
   unfold aJ partsOf tY;rw[HF.o,if_pos rfl,if_pos rfl,List.length_map,E1.o,List.take_of_length_le (by rw[E1.o];exact Nat.le_refl _),List.flatMap_map];rfl)
  go_enter Tryz.func114,Tryz.ntmps114;go_wp2_with fail;obtain⟨W2,hW2⟩:∃W2,(w.alloc (.cells #[.bool true, .slice ia il ic, .slice ka kl kc] 67)).alloc (.cells #[.int .u8 1, .int .u8 (il:Int)] 5)=W2:=⟨_,rfl⟩;rw[HW0.o]at hW2;have hb2:Below W0.heap.size W0 W2:=by rw[<- hW2];exact(Below.refl _ _).alloc (Nat.le_refl _) _
  have hu:((UInt8.ofNat il).toNat:Int)=(il:Int):=by simp;omega
  have hO2:dW B 5 (tY il N.items 0) (.slice (some ⟨w.heap.size+1,0,none⟩) 2 2) W2:=by
   have h1:Blk W2 (w.heap.size+1) (u8s (tY il N.items 0)) 5:=by
    rw[<- hW2,show u8s (tY il N.items 0)=[.int .u8 1, .int .u8 (il:Int)] by unfold tY u8s;simp;omega];exact Blk.new' _ _ _ (by rw[HBS.o,<- HBW.o])
   exact eG (n:=2) h1 (by rw[HBW.o];exact Nat.le_refl _) (by rw[xg];simp[tY]) (by unfold maxLen;omega)
  have HO2:=Hd hO2;have HQ2:=Hd (HQ0.o.ext hb2);have HG2:=Hd (show Grew B 5 W0 W2 from Grew.of_below hb2);have HW2:=Hd hW2;clear hW2 hb2 hu hO2 c0 m0 l0;rw[HW0.o,HW2.o];clear HW2;go_loopw [3,4] (λov ix wr=>UR B w.heap.size W0 [.bool true, .slice ia il ic, .slice ka kl kc] il N.items ov ix wr) (λ_ ix _=>il-(intOf ix).toNat)
  case atStart=>exact⟨0,Nat.zero_le _,rfl,HO2.o,HQ2.o,HG2.o⟩
  case round=>
   obtain⟨k,hk,rfl,hown,hq,hgr⟩:=hrel;have HO:=Hd hown;have HQ:=Hd hq;have HG:=Hd hgr;have c0:=hq.cells;have m0:=hq.marks;have l0:=hq.lt;clear hown hq;by_cases hlt:k<il
   .obtain⟨x,hx⟩:∃x,N.items[k]? =some x:=⟨_,List.getElem?_eq_getElem (by have:=E1.o;omega)⟩;obtain⟨b,o,xa,xl,xc,va,vl,vc,rfl,hb1,hs1,d0,d1,d2,d3,h4,h5,h6⟩:=(HN.o.items.same (W':=wr) hgr.size (λb h1 h2=>hgr.block b h2 (.inl (HS.o b h1)))).hat k x hx;have HLL:=Hd (AB (n:=il) wV.o (by have:=E1.o;omega) k);have HNX:=Hd (Ns (n:=il) hx);have hxo:=List.all_eq_true.1 wV.o x (List.mem_of_getElem? hx);unfold fD at hxo;simp only[Bool.and_eq_true,decide_eq_true_eq]at hxo;have hk1:=h4.at_.hlen;have hv1:=h5.at_.hlen;have HXL:=Hd (show xl<=120 by omega);have HVL:=Hd (show vl<=100 by omega);have hlt':(k:Int)<(il:Int):=oM;have HLT:=Hd hlt;have hk0:¬(k:Int)<0:=oM;obtain⟨l,hl⟩:∃l,tY il N.items k=l:=⟨_,rfl⟩;rw[hl]at HLL HNX HO;rw[hk1,hv1]at HNX;have HK:=Hd h4;have HV:=Hd h5;have hI:=h6;obtain⟨w3,hw3⟩:∃w3,wr.alloc (.cells #[.slice xa xl xc, .slice va vl vc, .bool x.int, .int .i64 x.n] 60)=w3:=⟨_,rfl⟩;have hb3:Below wr.heap.size wr w3:=by rw[<- hw3];exact(Below.refl _ _).alloc (Nat.le_refl _) _
    have HX3:=Hd (show Blk w3 wr.heap.size [.slice xa xl xc, .slice va vl vc, .bool x.int, .int .i64 x.n] 60 by rw[<- hw3];exact Blk.new wr _ _);have HO3:=Hd (dW.later' _ _ _ HO.o hb3);have HK3:=Hd (HK.o.ext hb3);have HV3:=Hd (HV.o.ext hb3);have HQ3:=Hd (HQ.o.ext hb3);have HG3:=Hd (HG.o.trans (Grew.of_below hb3));have HBB:=Hd (show B<=w3.heap.size by have:=HG3.o.size;have:=HBS.o;omega);have HW3:=Hd hw3;clear hx hxo hk1 hv1 h4 h5 h6 hs1 hk hlt hgr hl hw3 hb3 HO HK HV HQ HG;go_wp2_with fail;rw[HW3.o];clear HW3 c0 m0 l0 d0 d1 d2 d3 hb1;refine' aN (aA (OwnB u3)) (dn _) 6 [.inl _, .inl _, .inl _, .inl _, .inl _, .inr (ou w3.heap.size [UInt8.ofNat xl]), .inr (dW B 5 (l++[UInt8.ofNat xl])), .inl _, .inl _] kR kR ?dN
    case dN=>
     iterate 2 refine kD ?_
     refine kG (λW hE hN=>by have q:=(HX3.o.aQ hE (HO3.o.apart HX3.o dC)).cells;exact gF) ?_;refine kD ?_;refine kG (λW hE hN=>by go_simp;refine⟨Below.refl _ _,?_⟩;rw[J3]) ?_;refine bZ dC rfl (ou.later) (ou.JY (λb hb=>(HO3.o.lt hb).2)) (by rfl) (λW hE hN=>?_) (λu5=>?_)
     .have h:=row_one (W:=W) (t:=5) (UInt8.ofNat xl) hE.size;rw[show((UInt8.ofNat xl).toNat:Int)=(xl:Int)%256 by simp]at h;(go_simp<;>exact h)
     simp only[Act.put,pB,pC,pD];refine aH dC rfl (dW.later') (by rfl) (λW hE hN=>?_) (λu6=>?_)
     .obtain⟨⟨a1,n1,c1',rfl,hB⟩,_⟩:=(show ou w3.heap.size [UInt8.ofNat xl] u5 W/\True from hN);exact jV rfl aF rfl rfl (dW.later' _ _ _ HO3.o hE) hB (by have h1:=hB.at_.hlen;have h2:=HLL.o;simp at h1 h2⊢;omega) (by have:=hE.size;have:=HBB.o;omega)
     simp only[Act.put,pB,pC,pD];refine kD ?_;refine kG (λW hE hN=>by have q:=(HX3.o.aQ hE (HO3.o.apart HX3.o dC)).cells;exact gF) ?_;refine aU λW4 hE1 hG1=>?_;have HO1:=Hd (show dW B 5 (l++[UInt8.ofNat xl]) u6 W4 from hG1.1);have HX1:=Hd (HX3.o.aQ hE1 (HO3.o.apart HX3.o dC));have HK1:=Hd (HK3.o.aQ hE1 (λb hb e=>by have:=HS.o b hb;have:=(HO3.o.lt e).1;omega));have hV1:=HV3.o.aQ hE1 (λb hb e=>by have:=HS.o b hb;have:=(HO3.o.lt e).1;omega);have HQ4:=Hd (HQ3.o.aQ hE1 (HO3.o.apart HQ3.o dC));have HG4:=Hd (HG3.o.trans (aA.grew hE1 HO3.o));have HB4:=Hd (show B<=W4.heap.size by have:=HBB.o;have:=hE1.size;omega);have HV4:=Hd hV1;clear hV1 hE1 hG1 HO3 HX3 HK3 HV3 HQ3 HG3 HBB;refine aX rfl rfl aF rfl rfl HO1.o HK1.o (by have h1:=HLL.o;have h2:=HXL.o;simp;omega) HB4.o λv5 w5 ho5 hg5=>?_;have HO5:=Hd ho5;have HX5:=Hd (hg5.blk HX1.o dC);have HV5:=Hd (HV4.o.YA HS.o hg5);have HQ5:=Hd (hg5.blk HQ4.o dC);have HG5:=Hd (HG4.o.trans hg5);have HB5:=Hd (show B<=w5.heap.size by have:=HB4.o;have:=hg5.size;omega);obtain⟨l2,hl2⟩:∃l2,l++[UInt8.ofNat xl]++x.key=l2:=⟨_,rfl⟩;have WT:=Hd (show l2.length<=2600 by have h1:=HLL.o;have h2:=HXL.o;have h3:=HK1.o.at_.hlen;rw[<- hl2];simp;omega);rw[hl2]at HO5 HNX;clear ho5 hg5 HO1 HX1 HV4 HQ4 HG4 HB4 HK1 HLL hl2;have HLL:=WT;have x5:=HX5.o.cells;have y5:=HX5.o.marks;have z5:=HX5.o.lt;go_wp2_with fail;clear x5 y5 z5;refine' aN (aA (OwnB v5)) (dn _) 6 [.inl _, .inl _, .inl _, .inl _, .inl _, .inr (ou w5.heap.size [UInt8.ofNat vl]), .inr (dW B 5 (l2++[UInt8.ofNat vl])), .inl _, .inl _] kR kR ?fZ
     case fZ=>
      iterate 2 refine kD ?_
      refine kG (λW hE hN=>by have q:=(HX5.o.aQ hE (HO5.o.apart HX5.o dC)).cells;exact gF) ?_;refine kD ?_;refine kG (λW hE hN=>by go_simp;refine⟨Below.refl _ _,?_⟩;rw[J3]) ?_;refine bZ dC rfl (ou.later) (ou.JY (λb hb=>(HO5.o.lt hb).2)) (by rfl) (λW hE hN=>?_) (λu5=>?_)
      .have h:=row_one (W:=W) (t:=5) (UInt8.ofNat vl) hE.size;rw[show((UInt8.ofNat vl).toNat:Int)=(vl:Int)%256 by simp]at h;(go_simp<;>exact h)
      simp only[Act.put,pB,pC,pD];refine aH dC rfl (dW.later') (by rfl) (λW hE hN=>?_) (λu6=>?_)
      .obtain⟨⟨a1,n1,c1',rfl,hB⟩,_⟩:=(show ou w5.heap.size [UInt8.ofNat vl] u5 W/\True from hN);exact jV rfl aF rfl rfl (dW.later' _ _ _ HO5.o hE) hB (by have h1:=hB.at_.hlen;have h2:=HLL.o;simp at h1 h2⊢;omega) (by have:=hE.size;have:=HB5.o;omega)
      simp only[Act.put,pB,pC,pD];refine kD ?_;refine kG (λW hE hN=>by have q:=(HX5.o.aQ hE (HO5.o.apart HX5.o dC)).cells;exact gF) ?_;refine aU λW6 hE1 hG1=>?_;have HO1:=Hd (show dW B 5 (l2++[UInt8.ofNat vl]) u6 W6 from hG1.1);have HX1:=Hd (HX5.o.aQ hE1 (HO5.o.apart HX5.o dC));have HK1:=Hd (HV5.o.aQ hE1 (λb hb e=>by have:=HS.o b hb;have:=(HO5.o.lt e).1;omega));have HQ6:=Hd (HQ5.o.aQ hE1 (HO5.o.apart HQ5.o dC));have HG6:=Hd (HG5.o.trans (aA.grew hE1 HO5.o));have HB6:=Hd (show B<=W6.heap.size by have:=HB5.o;have:=hE1.size;omega);clear hE1 hG1 HO5 HX5 HV5 HQ5 HG5 HB5;refine aX rfl rfl aF rfl rfl HO1.o HK1.o (by have h1:=HLL.o;have h2:=HVL.o;simp;omega) HB6.o λv7 w7 ho7 hg7=>?_;have HO7:=Hd ho7;have HX7:=Hd (hg7.blk HX1.o dC);have HQ7:=Hd (hg7.blk HQ6.o dC);have HG7:=Hd (HG6.o.trans hg7);have HB7:=Hd (show B<=w7.heap.size by have:=HB6.o;have:=hg7.size;omega);obtain⟨l3,hl3⟩:∃l3,l2++[UInt8.ofNat vl]++x.value=l3:=⟨_,rfl⟩;have abm:=Hd (show l3.length<=2800 by have h1:=HLL.o;have h2:=HVL.o;have h3:=HK1.o.at_.hlen;rw[<- hl3];simp;omega);rw[hl3]at HO7 HNX;clear ho7 hg7 HO1 HX1 HQ6 HG6 HB6 HK1 HLL WT hl3;have HLL:=abm;have x7:=HX7.o.cells;have y7:=HX7.o.marks;have z7:=HX7.o.lt;obtain⟨xi,hxi⟩:∃b,x.int=b:=⟨_,rfl⟩;rw[hxi]at HX7 HNX x7;have HNN:=Hd (show IntKind.u64.wrap x.n=(((x.n%18446744073709551616).toNat:Nat):Int) by rw[wrap_u64,Int.toNat_of_nonneg oM]);obtain⟨y,hy⟩:∃y,(x.n%18446744073709551616).toNat=y:=⟨_,rfl⟩;have HYB:=Hd (show y<18446744073709551616 by omega);rw[hy]at HNX HNN;clear hxi hy;cases xi with
      |true=>
       rw[if_pos rfl]at HNX;go_wp2_with fail;clear x7 y7 z7;refine' aN (aA (OwnB v7)) (dn _) 3 [.inl _, .inl _, .inr (ou w7.heap.size [1]), .inr (dW B 5 (l3++[1])), .inl _, .inl _, .inl _, .inr (ou w7.heap.size (bQ y 8))] kR kR ?iT
       case iT=>
        iterate 2 refine kD ?_
        refine bZ dC rfl (ou.later) (ou.JY (λb hb=>(HO7.o.lt hb).2)) (by rfl) (λW hE hN=>?_) (λu2=>?_)
        .have h:=row_one (W:=W) (t:=5) 1 hE.size;(go_simp<;>exact h)
        simp only[Act.put,pB,pC,pD];refine aH dC rfl (dW.later') (by rfl) (λW hE hN=>?_) (λu3=>?_)
        .obtain⟨⟨a1,n1,c1',rfl,hB⟩,_⟩:=(show ou w7.heap.size [1] u2 W/\True from hN);exact jV rfl aF rfl rfl (dW.later' _ _ _ HO7.o hE) hB (by have h1:=hB.at_.hlen;have h2:=HLL.o;simp at h1 h2⊢;omega) (by have:=hE.size;have:=HB7.o;omega)
        simp only[Act.put,pB,pC,pD];refine kD ?_;refine kG (λW hE hN=>by have q:=(HX7.o.aQ hE (HO7.o.apart HX7.o dC)).cells;exact gF) ?_;refine kG (λW hE hN=>by go_simp;refine⟨Below.refl _ _,?_⟩;rw[HNN.o]) ?_;refine bZ dC rfl (ou.later) (ou.JY (λb hb=>(HO7.o.lt hb).2)) (by rfl) (λW hE hN=>?_) (λu7=>?_)
        .go_simp;refine⟨Below.refl _ _,?_⟩;refine(qG y 8 W oM HYB.o).mono ?_;rintro e w' ⟨p,rfl,hp,hbk,hb⟩;exact⟨_,rfl,hb,_,_,_,rfl,(jf hbk (bG _ _) oM).mono (λb e=>by have:=hE.size;omega)⟩
        simp only[Act.put,pB,pC,pD];refine aU λW8 hE1 hG1=>?_;obtain⟨⟨a8,n8,c8,rfl,hB8⟩,hO8,_⟩:=(show ou w7.heap.size (bQ y 8) u7 W8/\dW B 5 (l3++[1]) u3 W8/\_ from hG1);have HQ8:=Hd (HQ7.o.aQ hE1 (HO7.o.apart HQ7.o dC));have HG8:=Hd (HG7.o.trans (aA.grew hE1 HO7.o));have HB8:=Hd (show B<=W8.heap.size by have:=HB7.o;have:=hE1.size;omega);have HR8:=Hd hB8;have HO8:=Hd hO8;clear hE1 hG1 hB8 hO8 HO7 HX7 HQ7 HG7 HB7;refine aX rfl rfl aF rfl rfl HO8.o HR8.o (by have h1:=HLL.o;have h2:=HR8.o.at_.hlen;rw[bG]at h2;simp;omega) HB8.o λv9 w9 ho9 hg9=>?_;rw[<- HNX.o]at ho9;have HO9:=Hd ho9;have HQ9:=Hd (hg9.blk HQ8.o dC);have HG9:=Hd (HG8.o.trans hg9);clear ho9 hg9 HO8 HQ8 HG8;go_wp2_with fail;go_roundw
        case rel=>exact⟨k+1,HLT.o,by go_num,HO9.o,HQ9.o,HG9.o⟩
        case measure=>simp[intOf];have:=HLT.o;omega
      |false=>
       rw[if_neg Bool.false_ne_true]at HNX;go_wp2_with fail;clear x7 y7 z7;refine' aN (aA (OwnB v7)) (dn _) 3 [.inl _, .inl _, .inr (ou w7.heap.size [0]), .inr (dW B 5 (l3++[0])), .inl _, .inl _, .inl _, .inr (ou w7.heap.size (bQ y 8))] kR kR ?jI
       case jI=>
        iterate 2 refine kD ?_
        refine bZ dC rfl (ou.later) (ou.JY (λb hb=>(HO7.o.lt hb).2)) (by rfl) (λW hE hN=>?_) (λu2=>?_)
        .have h:=row_one (W:=W) (t:=5) 0 hE.size;(go_simp<;>exact h)
        simp only[Act.put,pB,pC,pD];refine aH dC rfl (dW.later') (by rfl) (λW hE hN=>?_) (λu3=>?_)
        .obtain⟨⟨a1,n1,c1',rfl,hB⟩,_⟩:=(show ou w7.heap.size [0] u2 W/\True from hN);exact jV rfl aF rfl rfl (dW.later' _ _ _ HO7.o hE) hB (by have h1:=hB.at_.hlen;have h2:=HLL.o;simp at h1 h2⊢;omega) (by have:=hE.size;have:=HB7.o;omega)
        simp only[Act.put,pB,pC,pD];refine kD ?_;refine kG (λW hE hN=>by have q:=(HX7.o.aQ hE (HO7.o.apart HX7.o dC)).cells;exact gF) ?_;refine kG (λW hE hN=>by go_simp;refine⟨Below.refl _ _,?_⟩;rw[HNN.o]) ?_;refine bZ dC rfl (ou.later) (ou.JY (λb hb=>(HO7.o.lt hb).2)) (by rfl) (λW hE hN=>?_) (λu7=>?_)
        .go_simp;refine⟨Below.refl _ _,?_⟩;refine(qG y 8 W oM HYB.o).mono ?_;rintro e w' ⟨p,rfl,hp,hbk,hb⟩;exact⟨_,rfl,hb,_,_,_,rfl,(jf hbk (bG _ _) oM).mono (λb e=>by have:=hE.size;omega)⟩
        simp only[Act.put,pB,pC,pD];refine aU λW8 hE1 hG1=>?_;obtain⟨⟨a8,n8,c8,rfl,hB8⟩,hO8,_⟩:=(show ou w7.heap.size (bQ y 8) u7 W8/\dW B 5 (l3++[0]) u3 W8/\_ from hG1);have HQ8:=Hd (HQ7.o.aQ hE1 (HO7.o.apart HQ7.o dC));have HG8:=Hd (HG7.o.trans (aA.grew hE1 HO7.o));have HB8:=Hd (show B<=W8.heap.size by have:=HB7.o;have:=hE1.size;omega);have HR8:=Hd hB8;have HO8:=Hd hO8;clear hE1 hG1 hB8 hO8 HO7 HX7 HQ7 HG7 HB7;refine aX rfl rfl aF rfl rfl HO8.o HR8.o (by have h1:=HLL.o;have h2:=HR8.o.at_.hlen;rw[bG]at h2;simp;omega) HB8.o λv9 w9 ho9 hg9=>?_;rw[<- HNX.o]at ho9;have HO9:=Hd ho9;have HQ9:=Hd (hg9.blk HQ8.o dC);have HG9:=Hd (HG8.o.trans hg9);clear ho9 hg9 HO8 HQ8 HG8;go_wp2_with fail;go_roundw
        case rel=>exact⟨k+1,HLT.o,by go_num,HO9.o,HQ9.o,HG9.o⟩
        case measure=>simp[intOf];have:=HLT.o;omega
   .obtain rfl:k=il:=oM;have hlt':¬(k:Int)<(k:Int):=oM;have ho:=HO.o;rw[<- HNB.o]at ho;obtain⟨a,c,rfl,hBy⟩:=fM ho (by rw[HNB.o];have:=AB (n:=k) wV.o (by have:=E1.o;omega) k;omega);have HBY:=Hd hBy;clear hlt hk ho hBy;go_wp2;go_ret;exact⟨a,_,c,rfl,HBY.o.mono (λb h=>by have:=HBW.o;omega),HB0.o.trans ((HG.o.below (by rw[HBS.o];exact Nat.le_refl _)).mono (by have:=HBW.o;omega))⟩
 |false=>
  have wV:=Hd (HOK.o.2 HF.o).2.2.2;have HNB:=Hd (show aJ N=tZ kl N.kids kl by
   unfold aJ partsOf tZ;rw[HF.o,if_neg Bool.false_ne_true,if_neg Bool.false_ne_true,List.length_map,E2.o,List.take_of_length_le (by rw[E2.o];exact Nat.le_refl _),List.flatMap_map];rfl)
  go_enter Tryz.func114,Tryz.ntmps114;go_wp2_with fail;obtain⟨W2,hW2⟩:∃W2,(w.alloc (.cells #[.bool false, .slice ia il ic, .slice ka kl kc] 67)).alloc (.cells #[.int .u8 2, .int .u8 (kl:Int)] 5)=W2:=⟨_,rfl⟩;rw[HW0.o]at hW2;have hb2:Below W0.heap.size W0 W2:=by rw[<- hW2];exact(Below.refl _ _).alloc (Nat.le_refl _) _
  have hO2:dW B 5 (tZ kl N.kids 0) (.slice (some ⟨w.heap.size+1,0,none⟩) 2 2) W2:=by
   have h1:Blk W2 (w.heap.size+1) (u8s (tZ kl N.kids 0)) 5:=by
    rw[<- hW2,show u8s (tZ kl N.kids 0)=[.int .u8 2, .int .u8 (kl:Int)] by unfold tZ u8s;simp;omega];exact Blk.new' _ _ _ (by rw[HBS.o,<- HBW.o])
   exact eG (n:=2) h1 (by rw[HBW.o];exact Nat.le_refl _) (by rw[xg];simp[tZ]) (by unfold maxLen;omega)
  have HO2:=Hd hO2;have HQ2:=Hd (HQ0.o.ext hb2);have HG2:=Hd (show Grew B 5 W0 W2 from Grew.of_below hb2);have HW2:=Hd hW2;clear hW2 hb2 hO2 c0 m0 l0;rw[HW0.o,HW2.o];clear HW2;go_loopw [7,8] (λov ix wr=>UU B w.heap.size W0 [.bool false, .slice ia il ic, .slice ka kl kc] kl N.kids ov ix wr) (λ_ ix _=>kl-(intOf ix).toNat)
  case atStart=>exact⟨0,Nat.zero_le _,rfl,HO2.o,HQ2.o,HG2.o⟩
  case round=>
   obtain⟨k,hk,rfl,hown,hq,hgr⟩:=hrel;have HO:=Hd hown;have HQ:=Hd hq;have HG:=Hd hgr;have c0:=hq.cells;have m0:=hq.marks;have l0:=hq.lt;clear hown hq;by_cases hlt:k<kl
   .obtain⟨x,hx⟩:∃x,N.kids[k]? =some x:=⟨_,List.getElem?_eq_getElem (by have:=E2.o;omega)⟩;obtain⟨b,o,xa,xl,xc,rfl,hb1,hs1,d0,d1,d2,d3,d4,d5,d6,d7,h4,h5,h6⟩:=(HN.o.kids.same (W':=wr) hgr.size (λb h1 h2=>hgr.block b h2 (.inl (HS.o b h1)))).hat k x hx;have HLL:=Hd (xK (n:=kl) wV.o (by have:=E2.o;omega) k);have hnx:=Nu (n:=kl) hx;have hxo:=wV.o x (List.mem_of_getElem? hx);have hk1:=h4.at_.hlen;have HXL:=Hd (show xl<=121 by omega);have hlt':(k:Int)<(kl:Int):=oM;have HLT:=Hd hlt;have hk0:¬(k:Int)<0:=oM;obtain⟨l,hl⟩:∃l,tZ kl N.kids k=l:=⟨_,rfl⟩;obtain⟨key,hkey⟩:∃l,x.key=l:=⟨_,rfl⟩;have hlo0:0<=lo x.red.s/\lo x.red.s<18446744073709551616:=by unfold lo;omega
    obtain⟨z1,hz1⟩:∃z,x.at_=z:=⟨_,rfl⟩;obtain⟨z2,hz2⟩:∃z,x.red.c=z:=⟨_,rfl⟩;obtain⟨z3,hz3⟩:∃z,x.red.n=z:=⟨_,rfl⟩;obtain⟨z4,hz4⟩:∃z,hi x.red.s=z:=⟨_,rfl⟩;obtain⟨z5,hz5⟩:∃z,lo x.red.s=z:=⟨_,rfl⟩;obtain⟨z6,hz6⟩:∃z,x.red.l=z:=⟨_,rfl⟩;obtain⟨z7,hz7⟩:∃z,x.red.m=z:=⟨_,rfl⟩;rw[hkey,hz1,hz2,hz3,hz4,hz5,hz6,hz7]at hnx;rw[hkey]at hk1;rw[hz1]at d1;rw[hz2]at d2;rw[hz3]at d3;rw[hz4]at d4;rw[hz5]at d5 hlo0;rw[hz6]at d6;rw[hz7]at d7;obtain⟨y1,hy1⟩:∃y,(z1%18446744073709551616).toNat=y:=⟨_,rfl⟩;obtain⟨y2,hy2⟩:∃y,(z2%18446744073709551616).toNat=y:=⟨_,rfl⟩;obtain⟨y3,hy3⟩:∃y,(z3%18446744073709551616).toNat=y:=⟨_,rfl⟩;obtain⟨y4,hy4⟩:∃y,(z4%18446744073709551616).toNat=y:=⟨_,rfl⟩;obtain⟨y5,hy5⟩:∃y:Nat,z5=(y:Int):=⟨z5.toNat,oM⟩;obtain⟨y6,hy6⟩:∃y,(z6%18446744073709551616).toNat=y:=⟨_,rfl⟩;obtain⟨y7,hy7⟩:∃y,(z7%18446744073709551616).toNat=y:=⟨_,rfl⟩;subst hy5;have Y1:=Hd (show y1<18446744073709551616 by omega);have Y2:=Hd (show y2<18446744073709551616 by omega);have Y3:=Hd (show y3<18446744073709551616 by omega);have Y4:=Hd (show y4<18446744073709551616 by omega);have Y5:=Hd (show y5<18446744073709551616 by omega);have Y6:=Hd (show y6<18446744073709551616 by omega);have Y7:=Hd (show y7<18446744073709551616 by omega);rw[hl,hk1,hy1,hy2,hy3,hy4,hy6,hy7,Int.toNat_natCast]at hnx;have HNX:=Hd hnx;rw[hl]at HLL HO;have v1:IntKind.u64.wrap z1=(y1:Int):=by rw[wrap_u64];omega
    have v2:IntKind.u64.wrap z2=(y2:Int):=by rw[wrap_u64];omega
    have v3:IntKind.u64.wrap z3=(y3:Int):=by rw[wrap_u64];omega
    have v4:IntKind.u64.wrap z4=(y4:Int):=by rw[wrap_u64];omega
    have v6:IntKind.u64.wrap z6=(y6:Int):=by rw[wrap_u64];omega
    have v7:IntKind.u64.wrap z7=(y7:Int):=by rw[wrap_u64];omega
    rw[hkey]at h4;have HK:=Hd h4;obtain⟨w3,hw3⟩:∃w3,wr.alloc (.cells #[.slice xa xl xc, .int .i64 z1, .int .i64 z2, .int .i64 z3, .int .i64 z4, .int .u64 (y5:Int), .int .i64 z6, .int .i64 z7] 128)=w3:=⟨_,rfl⟩;have hb3:Below wr.heap.size wr w3:=by rw[<- hw3];exact(Below.refl _ _).alloc (Nat.le_refl _) _
    have HX3:=Hd (show Blk w3 wr.heap.size [.slice xa xl xc, .int .i64 z1, .int .i64 z2, .int .i64 z3, .int .i64 z4, .int .u64 (y5:Int), .int .i64 z6, .int .i64 z7] 128 by rw[<- hw3];exact Blk.new wr _ _);have HO3:=Hd (dW.later' _ _ _ HO.o hb3);have HK3:=Hd (HK.o.ext hb3);have HQ3:=Hd (HQ.o.ext hb3);have HG3:=Hd (HG.o.trans (Grew.of_below hb3));have HBB:=Hd (show B<=w3.heap.size by have:=HG3.o.size;have:=HBS.o;omega);have HW3:=Hd hw3;clear hx hxo hk1 h4 h5 h6 hs1 hk hlt hgr hw3 hb3 HO HK HQ HG hnx hl hkey hz1 hz2 hz3 hz4 hz5 hz6 hz7 hy1 hy2 hy3 hy4 hy6 hy7 hlo0;go_wp2_with fail;rw[HW3.o];clear HW3 c0 m0 l0 d0 d1 d2 d3 d4 d5 d6 d7 hb1;refine' aN (aA (OwnB u7)) (dn _) 6 [.inl _, .inl _, .inl _, .inl _, .inl _, .inr (ou w3.heap.size [UInt8.ofNat xl]), .inr (dW B 5 (l++[UInt8.ofNat xl])), .inl _, .inl _] kR kR ?main5
    case main5=>
     iterate 2 refine kD ?_
     refine kG (λW hE hN=>by have q:=(HX3.o.aQ hE (HO3.o.apart HX3.o dC)).cells;exact gF) ?_;refine kD ?_;refine kG (λW hE hN=>by go_simp;refine⟨Below.refl _ _,?_⟩;rw[J3]) ?_;refine bZ dC rfl (ou.later) (ou.JY (λb hb=>(HO3.o.lt hb).2)) (by rfl) (λW hE hN=>?_) (λu5=>?_)
     .have h:=row_one (W:=W) (t:=5) (UInt8.ofNat xl) hE.size;rw[show((UInt8.ofNat xl).toNat:Int)=(xl:Int)%256 by simp]at h;(go_simp<;>exact h)
     simp only[Act.put,pB,pC,pD];refine aH dC rfl (dW.later') (by rfl) (λW hE hN=>?_) (λu6=>?_)
     .obtain⟨⟨a1,n1,c1',rfl,hB⟩,_⟩:=(show ou w3.heap.size [UInt8.ofNat xl] u5 W/\True from hN);exact jV rfl aF rfl rfl (dW.later' _ _ _ HO3.o hE) hB (by have h1:=hB.at_.hlen;have h2:=HLL.o;simp at h1 h2⊢;omega) (by have:=hE.size;have:=HBB.o;omega)
     simp only[Act.put,pB,pC,pD];refine kD ?_;refine kG (λW hE hN=>by have q:=(HX3.o.aQ hE (HO3.o.apart HX3.o dC)).cells;exact gF) ?_;refine aU λW4 hE1 hG1=>?_;have HO1:=Hd (show dW B 5 (l++[UInt8.ofNat xl]) u6 W4 from hG1.1);have HX1:=Hd (HX3.o.aQ hE1 (HO3.o.apart HX3.o dC));have HK1:=Hd (HK3.o.aQ hE1 (λb hb e=>by have:=HS.o b hb;have:=(HO3.o.lt e).1;omega));have HQ4:=Hd (HQ3.o.aQ hE1 (HO3.o.apart HQ3.o dC));have HG4:=Hd (HG3.o.trans (aA.grew hE1 HO3.o));have HB4:=Hd (show B<=W4.heap.size by have:=HBB.o;have:=hE1.size;omega);clear hE1 hG1 HO3 HX3 HK3 HQ3 HG3 HBB;refine aX rfl rfl aF rfl rfl HO1.o HK1.o (by have h1:=HLL.o;have h2:=HXL.o;simp;omega) HB4.o λv5 w5 ho5 hg5=>?_;obtain⟨l2,hl2⟩:∃l2,l++[UInt8.ofNat xl]++key=l2:=⟨_,rfl⟩;have WT:=Hd (show l2.length<=2600 by have h1:=HLL.o;have h2:=HXL.o;have h3:=HK1.o.at_.hlen;rw[<- hl2];simp;omega);rw[hl2]at ho5 HNX;have HO:=Hd ho5;have HX:=Hd (hg5.blk HX1.o dC);have HQ:=Hd (hg5.blk HQ4.o dC);have HG:=Hd (HG4.o.trans hg5);have HB:=Hd (show B<=w5.heap.size by have:=HB4.o;have:=hg5.size;omega);clear ho5 hg5 HO1 HX1 HQ4 HG4 HB4 HK1 HLL hl2;have HLL:=WT;clear WT;have x5:=HX.o.cells;have y5':=HX.o.marks;have z5':=HX.o.lt;go_wp2_with fail;(with_reducible refine(qH y1 _ Y1.o).mono ?_);rintro e wa ⟨p,rfl,hp,hbk,hb⟩
     have HR:=Hd (jf hbk (bG _ _) oM);have HOa:=Hd (dW.later' _ _ _ HO.o hb);have HXa:=Hd (HX.o.ext hb);have HQa:=Hd (HQ.o.ext hb);have HGa:=Hd (HG.o.trans (Grew.of_below hb));have HBa:=Hd (show B<=wa.heap.size by have:=HB.o;have:=hb.size;omega);obtain⟨l3,hln⟩:∃z,l2++bQ y1 4=z:=⟨_,rfl⟩;have DU:=Hd (show l3.length<=2610 by have h1:=HLL.o;have h2:=bG y1 4;rw[<- hln];simp only[List.length_append];omega);rw[hln]at HNX;have HLN:=Hd hln;clear hp hbk hb hln HO HX HQ HG HB x5 y5' z5';go_wp2_with (at_builtin;refine aX rfl rfl aF rfl rfl HOa.o HR.o (by have h1:=HLL.o;omega) HBa.o ?_;intro vb wb hob hgb;rw[HLN.o]at hob;have HO:=Hd hob;have HX:=Hd (hgb.blk HXa.o dC);have HQ:=Hd (hgb.blk HQa.o dC);have HG:=Hd (HGa.o.trans hgb);have HB:=Hd (show B<=wb.heap.size by have:=HBa.o;have:=hgb.size;omega);have qa1:=HX.o.cells;have qa2:=HX.o.marks;have qa3:=HX.o.lt;clear hob hgb HOa HXa HQa HGa HBa HR HLN)
     have HLL:=DU;clear DU;(with_reducible refine(qH y2 _ Y2.o).mono ?_);rintro e wa ⟨p,rfl,hp,hbk,hb⟩
     have HR:=Hd (jf hbk (bG _ _) oM);have HOa:=Hd (dW.later' _ _ _ HO.o hb);have HXa:=Hd (HX.o.ext hb);have HQa:=Hd (HQ.o.ext hb);have HGa:=Hd (HG.o.trans (Grew.of_below hb));have HBa:=Hd (show B<=wa.heap.size by have:=HB.o;have:=hb.size;omega);obtain⟨l4,hln⟩:∃z,l3++bQ y2 4=z:=⟨_,rfl⟩;have DU:=Hd (show l4.length<=2620 by have h1:=HLL.o;have h2:=bG y2 4;rw[<- hln];simp only[List.length_append];omega);rw[hln]at HNX;have HLN:=Hd hln;clear hp hbk hb hln HO HX HQ HG HB qa1 qa2 qa3;go_wp2_with (at_builtin;refine aX rfl rfl aF rfl rfl HOa.o HR.o (by have h1:=HLL.o;omega) HBa.o ?_;intro vb wb hob hgb;rw[HLN.o]at hob;have HO:=Hd hob;have HX:=Hd (hgb.blk HXa.o dC);have HQ:=Hd (hgb.blk HQa.o dC);have HG:=Hd (HGa.o.trans hgb);have HB:=Hd (show B<=wb.heap.size by have:=HBa.o;have:=hgb.size;omega);have qb1:=HX.o.cells;have qb2:=HX.o.marks;have qb3:=HX.o.lt;clear hob hgb HOa HXa HQa HGa HBa HR HLN)
     have HLL:=DU;clear DU;(with_reducible refine(qH y3 _ Y3.o).mono ?_);rintro e wa ⟨p,rfl,hp,hbk,hb⟩
     have HR:=Hd (jf hbk (bG _ _) oM);have HOa:=Hd (dW.later' _ _ _ HO.o hb);have HXa:=Hd (HX.o.ext hb);have HQa:=Hd (HQ.o.ext hb);have HGa:=Hd (HG.o.trans (Grew.of_below hb));have HBa:=Hd (show B<=wa.heap.size by have:=HB.o;have:=hb.size;omega);obtain⟨l5,hln⟩:∃z,l4++bQ y3 4=z:=⟨_,rfl⟩;have DU:=Hd (show l5.length<=2630 by have h1:=HLL.o;have h2:=bG y3 4;rw[<- hln];simp only[List.length_append];omega);rw[hln]at HNX;have HLN:=Hd hln;clear hp hbk hb hln HO HX HQ HG HB qb1 qb2 qb3;go_wp2_with (at_builtin;refine aX rfl rfl aF rfl rfl HOa.o HR.o (by have h1:=HLL.o;omega) HBa.o ?_;intro vb wb hob hgb;rw[HLN.o]at hob;have HO:=Hd hob;have HX:=Hd (hgb.blk HXa.o dC);have HQ:=Hd (hgb.blk HQa.o dC);have HG:=Hd (HGa.o.trans hgb);have HB:=Hd (show B<=wb.heap.size by have:=HBa.o;have:=hgb.size;omega);have qc1:=HX.o.cells;have qc2:=HX.o.marks;have qc3:=HX.o.lt;clear hob hgb HOa HXa HQa HGa HBa HR HLN)
     have HLL:=DU;clear DU;(with_reducible refine(mQ y4 _ Y4.o).mono ?_);rintro e wa ⟨p,rfl,hp,hbk,hb⟩
     have HR:=Hd (jf hbk (bG _ _) oM);have HOa:=Hd (dW.later' _ _ _ HO.o hb);have HXa:=Hd (HX.o.ext hb);have HQa:=Hd (HQ.o.ext hb);have HGa:=Hd (HG.o.trans (Grew.of_below hb));have HBa:=Hd (show B<=wa.heap.size by have:=HB.o;have:=hb.size;omega);obtain⟨l6,hln⟩:∃z,l5++bQ y4 8=z:=⟨_,rfl⟩;have DU:=Hd (show l6.length<=2640 by have h1:=HLL.o;have h2:=bG y4 8;rw[<- hln];simp only[List.length_append];omega);rw[hln]at HNX;have HLN:=Hd hln;clear hp hbk hb hln HO HX HQ HG HB qc1 qc2 qc3;go_wp2_with (at_builtin;refine aX rfl rfl aF rfl rfl HOa.o HR.o (by have h1:=HLL.o;omega) HBa.o ?_;intro vb wb hob hgb;rw[HLN.o]at hob;have HO:=Hd hob;have HX:=Hd (hgb.blk HXa.o dC);have HQ:=Hd (hgb.blk HQa.o dC);have HG:=Hd (HGa.o.trans hgb);have HB:=Hd (show B<=wb.heap.size by have:=HBa.o;have:=hgb.size;omega);have qd1:=HX.o.cells;have qd2:=HX.o.marks;have qd3:=HX.o.lt;clear hob hgb HOa HXa HQa HGa HBa HR HLN)
     have HLL:=DU;clear DU;(with_reducible refine(mQ y5 _ Y5.o).mono ?_);rintro e wa ⟨p,rfl,hp,hbk,hb⟩
     have HR:=Hd (jf hbk (bG _ _) oM);have HOa:=Hd (dW.later' _ _ _ HO.o hb);have HXa:=Hd (HX.o.ext hb);have HQa:=Hd (HQ.o.ext hb);have HGa:=Hd (HG.o.trans (Grew.of_below hb));have HBa:=Hd (show B<=wa.heap.size by have:=HB.o;have:=hb.size;omega);obtain⟨l7,hln⟩:∃z,l6++bQ y5 8=z:=⟨_,rfl⟩;have DU:=Hd (show l7.length<=2650 by have h1:=HLL.o;have h2:=bG y5 8;rw[<- hln];simp only[List.length_append];omega);rw[hln]at HNX;have HLN:=Hd hln;clear hp hbk hb hln HO HX HQ HG HB qd1 qd2 qd3;go_wp2_with (at_builtin;refine aX rfl rfl aF rfl rfl HOa.o HR.o (by have h1:=HLL.o;omega) HBa.o ?_;intro vb wb hob hgb;rw[HLN.o]at hob;have HO:=Hd hob;have HX:=Hd (hgb.blk HXa.o dC);have HQ:=Hd (hgb.blk HQa.o dC);have HG:=Hd (HGa.o.trans hgb);have HB:=Hd (show B<=wb.heap.size by have:=HBa.o;have:=hgb.size;omega);have qe1:=HX.o.cells;have qe2:=HX.o.marks;have qe3:=HX.o.lt;clear hob hgb HOa HXa HQa HGa HBa HR HLN)
     have HLL:=DU;clear DU;(with_reducible refine(mQ y6 _ Y6.o).mono ?_);rintro e wa ⟨p,rfl,hp,hbk,hb⟩
     have HR:=Hd (jf hbk (bG _ _) oM);have HOa:=Hd (dW.later' _ _ _ HO.o hb);have HXa:=Hd (HX.o.ext hb);have HQa:=Hd (HQ.o.ext hb);have HGa:=Hd (HG.o.trans (Grew.of_below hb));have HBa:=Hd (show B<=wa.heap.size by have:=HB.o;have:=hb.size;omega);obtain⟨l8,hln⟩:∃z,l7++bQ y6 8=z:=⟨_,rfl⟩;have DU:=Hd (show l8.length<=2660 by have h1:=HLL.o;have h2:=bG y6 8;rw[<- hln];simp only[List.length_append];omega);rw[hln]at HNX;have HLN:=Hd hln;clear hp hbk hb hln HO HX HQ HG HB qe1 qe2 qe3;go_wp2_with (at_builtin;refine aX rfl rfl aF rfl rfl HOa.o HR.o (by have h1:=HLL.o;omega) HBa.o ?_;intro vb wb hob hgb;rw[HLN.o]at hob;have HO:=Hd hob;have HX:=Hd (hgb.blk HXa.o dC);have HQ:=Hd (hgb.blk HQa.o dC);have HG:=Hd (HGa.o.trans hgb);have HB:=Hd (show B<=wb.heap.size by have:=HBa.o;have:=hgb.size;omega);have qf1:=HX.o.cells;have qf2:=HX.o.marks;have qf3:=HX.o.lt;clear hob hgb HOa HXa HQa HGa HBa HR HLN)
     have HLL:=DU;clear DU;(with_reducible refine(mQ y7 _ Y7.o).mono ?_);rintro e wa ⟨p,rfl,hp,hbk,hb⟩
     have HR:=Hd (jf hbk (bG _ _) oM);have HOa:=Hd (dW.later' _ _ _ HO.o hb);have HXa:=Hd (HX.o.ext hb);have HQa:=Hd (HQ.o.ext hb);have HGa:=Hd (HG.o.trans (Grew.of_below hb));have HBa:=Hd (show B<=wa.heap.size by have:=HB.o;have:=hb.size;omega);obtain⟨l9,hln⟩:∃z,l8++bQ y7 8=z:=⟨_,rfl⟩;have DU:=Hd (show l9.length<=2670 by have h1:=HLL.o;have h2:=bG y7 8;rw[<- hln];simp only[List.length_append];omega);rw[hln]at HNX;have HLN:=Hd hln;clear hp hbk hb hln HO HX HQ HG HB qf1 qf2 qf3;go_wp2_with (at_builtin;refine aX rfl rfl aF rfl rfl HOa.o HR.o (by have h1:=HLL.o;omega) HBa.o ?_;intro vb wb hob hgb;rw[HLN.o]at hob;have HO:=Hd hob;have HX:=Hd (hgb.blk HXa.o dC);have HQ:=Hd (hgb.blk HQa.o dC);have HG:=Hd (HGa.o.trans hgb);have HB:=Hd (show B<=wb.heap.size by have:=HBa.o;have:=hgb.size;omega);have qg1:=HX.o.cells;have qg2:=HX.o.marks;have qg3:=HX.o.lt;clear hob hgb HOa HXa HQa HGa HBa HR HLN)
     have HLL:=DU;clear DU;go_roundw
     case rel=>exact⟨k+1,HLT.o,by go_num,by rw[HNX.o];exact HO.o,HQ.o,HG.o⟩
     case measure=>simp[intOf];have:=HLT.o;omega
   .obtain rfl:k=kl:=oM;have hlt':¬(k:Int)<(k:Int):=oM;have ho:=HO.o;rw[<- HNB.o]at ho;obtain⟨a,c,rfl,hBy⟩:=fM ho (by rw[HNB.o];have:=xK (n:=k) wV.o (by have:=E2.o;omega) k;omega);have HBY:=Hd hBy;clear hlt hk ho hBy;go_wp2;go_ret;exact⟨a,_,c,rfl,HBY.o.mono (λb h=>by have:=HBW.o;omega),HB0.o.trans ((HG.o.below (by rw[HBS.o];exact Nat.le_refl _)).mono (by have:=HBW.o;omega))⟩
theorem Iq(N:aT)(ia ka:Option Addr)(il ic kl kc:Nat)(S:Nat->Prop)(w:World)(hN:bM w S ia il ic ka kl kc N)(hS:∀b,S b->b<w.heap.size)(hok:yX N):
  Calls Tryz.prog 114 #[.agg #[.bool N.leaf, .slice ia il ic, .slice ka kl kc]] w (oZ w (aJ N)):=gB N ia ka il ic kl kc S w hN hS (SB hok)
theorem Nz(N:aT)(ia ka:Option Addr)(il ic kl kc:Nat)(S:Nat->Prop)(w:World)(hN:bM w S ia il ic ka kl kc N)(hok:yX N):
  Calls Tryz.prog 90 #[.agg #[.bool N.leaf, .slice ia il ic, .slice ka kl kc]] w λe w'=>e= .returned (uO (lD N))/\Below w.heap.size w w':=by
 obtain⟨f,hfl⟩:∃f,N.leaf=f:=⟨_,rfl⟩;rw[hfl];have h6:=Sz hok;obtain⟨s1,s3⟩:=CJ hok;have s2:lD N=fP (dO N.items N.items.length) N.kids N.kids.length:=rfl;have e1:=hN.items.hlen;have e2:=hN.kids.hlen;rw[e1]at s1 s2 s3;rw[e2]at s2;rw[s2];have b1:il<=6:=oM;have b2:(kl:Int)<=6:=oM;have hb0:Below w.heap.size w ((w.alloc (.cells #[.bool f, .slice ia il ic, .slice ka kl kc] 67)).alloc (.cells #[.int .i64 0, .int .i64 0, .int .i64 0, .int .u64 0, .int .i64 0, .int .i64 0] 35)):=bW;have HQ0:=Hd ((Blk.new w [.bool f, .slice ia il ic, .slice ka kl kc] 67).alloc (.cells #[.int .i64 0, .int .i64 0, .int .i64 0, .int .u64 0, .int .i64 0, .int .i64 0] 35));have HZ0:=Hd (Blk.new' (w.alloc (.cells #[.bool f, .slice ia il ic, .slice ka kl kc] 67)) CG 35 (p:=w.heap.size+1) (by simp));have HN:=Hd hN;have HB0:=Hd hb0;have HA:=Hd (Qg ia il ic N.items S _ (hN.ext hb0).items b1);have E2:=Hd e2;have S1:=Hd s1;have S3:=Hd s3;clear hN hok h6 s1 s2 s3 e1 e2 b1 hb0 hfl;go_enter Tryz.func90,Tryz.ntmps90;go_wp2_with fail;(with_reducible refine HA.o.mono ?_);rintro e w1 ⟨rfl,hb1⟩
 obtain⟨R,hR⟩:∃R,dO N.items il=R:=⟨_,rfl⟩;rw[hR]at S1 S3⊢;have HR:=Hd hR;have hs1:w.heap.size+2<=w1.heap.size:=by have:=hb1.size;simp at this;omega
 obtain⟨w2,hw2⟩:∃w2,w1.alloc (.cells #[.int .i64 R.c, .int .i64 R.n, .int .i64 (hi R.s), .int .u64 (lo R.s), .int .i64 R.l, .int .i64 R.m] 35)=w2:=⟨_,rfl⟩;have hb2:Below w1.heap.size w1 w2:=by rw[<- hw2];exact bW
 have K3:Blk w2 w1.heap.size R.cells 35:=by rw[<- hw2];exact Blk.new w1 _ _
 have Ub:=hb1.trans (hb2.mono hb1.size);have HQ2:=Hd ((HQ0.o.ext Ub));have HZ2:=Hd ((HZ0.o.ext Ub));have HB2:=Hd (HB0.o.trans (Ub.mono HB0.o.size));have HK3:=Hd K3;have q0:=HQ0.o.ext hb1;have c0:=q0.cells;have l0:=q0.lt;have HW2:=Hd hw2;clear hw2 hb2 K3 Ub hb1 HA HQ0 HZ0 HB0 hR q0;simp only[uO];go_wp2_with fail;rw[HW2.o];clear HW2 c0 l0;obtain⟨p3,hp3⟩:∃p,w1.heap.size=p:=⟨_,rfl⟩;rw[hp3]at HK3 hs1⊢;clear hp3;go_loopw [4] (λix wr=>UZ w p3 [.bool f, .slice ia il ic, .slice ka kl kc] R N.kids kl ix wr) (λix _=>kl-(intOf ix).toNat)
 case atStart=>exact⟨0,Nat.zero_le _,rfl,HQ2.o,HZ2.o,by rw[S1.o];exact HK3.o,HB2.o⟩
 case round=>
  obtain⟨k,hk,rfl,hq,hz,h3,hbel⟩:=hrel;have HB:=Hd hbel;have HQ:=Hd hq;have HZ:=Hd hz;have HT:=Hd h3;have c0:=hq.cells;have l0:=hq.lt;have c3:=h3.cells;have m3:=h3.marks;have l3:=h3.lt;have lz:=hz.lt;simp only[Red.cells]at c3;by_cases hlt:k<kl
  .obtain⟨x,hx⟩:∃x,N.kids[k]? =some x:=⟨_,List.getElem?_eq_getElem (by have:=E2.o;omega)⟩;obtain⟨b,o,xa,xl,xc,rfl,hb1,hsb,d0,d1,d2,d3,d4,d5,d6,d7,h4,h5,h6⟩:=(HN.o.ext hbel).kids.hat k x hx;have hlt':(k:Int)<(kl:Int):=oM;have HLT:=Hd hlt;have hk0:¬(k:Int)<0:=oM;obtain⟨t1,t2,t3⟩:=S3.o k x hx;have HBT:=Hd (λW=>AP (fP R N.kids k) x.red W t1 t2 t3);have HNX:=Hd (EZ (R:=R) hx);obtain⟨A,hA⟩:∃A,fP R N.kids k=A:=⟨_,rfl⟩;obtain⟨B,hB⟩:∃B,x.red=B:=⟨_,rfl⟩;rw[hA]at c3 HBT HNX HT;rw[hB]at HBT HNX d2 d3 d4 d5 d6 d7;clear t1 t2 t3 h4 h5 h6 hsb hx hk hlt hbel hq hz h3 hA hB d0 d1;go_wp2_with fail;refine' ah [.inl _, .inl _, .inl _, .inl _, .inl _, .inl _, .inl _, .inl _] kR kR ?nH
   case nH=>
    refine wE ?_;refine wD ?_;refine wE ?_;iterate 3 refine wD ?_
    refine wE ?_;refine wG (λW hE hN=>by go_simp;refine⟨Below.refl _ _,?_⟩;refine(HBT.o W).mono ?_;rintro e w' ⟨rfl,hb⟩;refine⟨?_,hb⟩;rfl) ?_;refine aj λW1 hE1 hG1=>?_;have jC:=hE1.cF;have kK:=hE1.fF;have HB1:=Hd (HB.o.trans (hE1.mono HB.o.size));have hp1:=HQ.o.ext hE1;have hz1:=HZ.o.ext hE1;have ho1:=HT.o.ext hE1;have q1:=ho1.cells;have qm:=ho1.marks;have ql:=ho1.lt;have HP1:=Hd hp1;have HZ1:=Hd hz1;have HO1:=Hd ho1;have hs3:=hs1;simp only[uO,Red.cells]at*;clear hE1 hG1 c3 m3 l3 lz l0 c0 jC kK hz1 ho1 hp1;go_wp2_with fail;go_roundw
    case rel=>
     refine⟨k+1,HLT.o,by go_num,?_,?_,?_,?_⟩
     .exact(((((HP1.o.other oM _ _).other oM _ _).other oM _ _).other oM _ _).other oM _ _).other oM _ _
     .exact(((((HZ1.o.other oM _ _).other oM _ _).other oM _ _).other oM _ _).other oM _ _).other oM _ _
     .rw[HNX.o];exact(((((HO1.o.set 0 _).set 1 _).set 2 _).set 3 _).set 4 _).set 5 _
     .have h:=HB1.o;exact(by have hz:=h;exact bV)
    case measure=>simp[intOf];have:=HLT.o;omega
  .obtain rfl:k=kl:=oM;have hlt':¬(k:Int)<(k:Int):=oM;have oc:=hz.cells;have om:=hz.marks;unfold CG at oc;obtain⟨A,hA⟩:∃A,fP R N.kids k=A:=⟨_,rfl⟩;have HA:=Hd hA;rw[hA]at c3;clear hlt hk hq hz h3 hbel HT hA;go_wp2_with fail;refine bodyPost_ret (v:=uO A) (by simp[results,Tryz.results90,go_sem,uO, *]) rfl ⟨by rw[HR.o,HA.o],?_⟩;have h:=HB.o;exact(by have hz:=h;exact bV)
theorem Ir(N:aT)(ia ka:Option Addr)(il ic kl kc:Nat)(S:Nat->Prop)(w:World)(hN:bM w S ia il ic ka kl kc N)(hok:yX N):
  Calls Tryz.prog 136 #[.agg #[.bool N.leaf, .slice ia il ic, .slice ka kl kc]] w (Sv w S (bK N)):=by
 obtain⟨f,hfl⟩:∃f,N.leaf=f:=⟨_,rfl⟩;rw[hfl];have hb0:Below w.heap.size w (w.alloc (.cells #[.bool f, .slice ia il ic, .slice ka kl kc] 67)):=bW;cases f with
 |true=>
  have h2:=(hok.1 hfl).2.1;have ep:partsOf N=N.items.map .inl:=by unfold partsOf;rw[if_pos hfl]
  obtain⟨x,hx⟩:∃x,N.items[0]? =some x:=⟨_,List.getElem?_eq_getElem oM⟩;have hfk:bK N=x.key:=by unfold bK;rw[ep,List.getElem?_map,hx];rfl
  have hl:=hN.items.hlen;obtain⟨b,o,xa,xl,xc,va,vl,vc,rfl,hb1,hs1,d0,d1,d2,d3,h4,h5,h6⟩:=(hN.ext hb0).items.hat 0 x hx;rw[hfk];have hpos':(0:Int)<(il:Int):=oM;have h0:0<il:=oM;have H4:=Hd h4;have HB0:=Hd hb0;simp only[Nat.zero_mul,Nat.add_zero]at d0;clear h2 ep hx hfk hl hN h4 h5 h6 hs1 d1 d2 d3 hok hfl hb0;go_enter Tryz.func136,Tryz.ntmps136;go_wp2;go_ret;exact⟨_,_,_,rfl,H4.o,HB0.o⟩
 |false=>
  have h2:=(hok.2 hfl).2.1;have ep:partsOf N=N.kids.map .inr:=by unfold partsOf;rw[hfl,if_neg Bool.false_ne_true]
  obtain⟨x,hx⟩:∃x,N.kids[0]? =some x:=⟨_,List.getElem?_eq_getElem oM⟩;have hfk:bK N=x.key:=by unfold bK;rw[ep,List.getElem?_map,hx];rfl
  have hl:=hN.kids.hlen;obtain⟨b,o,xa,xl,xc,rfl,hb1,hs1,d0,d1,d2,d3,d4,d5,d6,d7,h4,h5,h6⟩:=(hN.ext hb0).kids.hat 0 x hx;rw[hfk];have hpos':(0:Int)<(kl:Int):=oM;have h0:0<kl:=oM;have H4:=Hd h4;have HB0:=Hd hb0;simp only[Nat.zero_mul,Nat.add_zero]at d0;clear h2 ep hx hfk hl hN h4 h5 h6 hs1 d1 d2 d3 d4 d5 d6 d7 hok hfl hb0;go_enter Tryz.func136,Tryz.ntmps136;go_wp2;go_ret;exact⟨_,_,_,rfl,H4.o,HB0.o⟩
end Go.Proofs.YtenmnhnlcnmloaaGreat
