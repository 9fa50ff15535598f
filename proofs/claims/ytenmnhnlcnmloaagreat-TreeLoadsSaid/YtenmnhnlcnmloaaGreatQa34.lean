/- Part of a proof of a law of the layer of trees. -/
import Derived.Test.YtenmnhnlcnmloaaGreatQa33
import Derived.Test.YtenmnhnlcnmloaaGreatQa01
set_option linter.unusedVariables false
set_option linter.unusedSimpArgs false
set_option maxHeartbeats 8000000
set_option maxRecDepth 8000
namespace Go.Dav
open Go Go.RowKit
def KdT(B:Nat)(N:aT)(v:Value)(W:World):Prop:=∃n,v= .tuple #[n, .bool true]/\LdN B N n W
theorem KdT.later{B:Nat}{N:aT}:∀v W W',KdT B N v W->Below W.heap.size W W'->KdT B N v W':=λ_ _ _ ⟨n,h1,h2⟩ hb=>⟨n,h1,LdN.later _ _ _ h2 hb⟩
def Xh(v:Value):Prop:=∃b ia il ic ka kl kc,v= .agg #[.bool b, .slice ia il ic, .slice ka kl kc]
def LD(v:Value):Prop:=∃n,v= .tuple #[n, .bool false]/\Xh n
def Tc(W:World)(b o:Nat)(x:dS)(xa:Option Addr)(xl xc:Nat):Prop:=W.cell? ⟨b,o,none⟩=some (.slice xa xl xc)/\W.cell? ⟨b,o+1,none⟩=some (.int .i64 x.at_)/\W.cell? ⟨b,o+2,none⟩=some (.int .i64 x.red.c)/\W.cell? ⟨b,o+3,none⟩=some (.int .i64 x.red.n)/\W.cell? ⟨b,o+4,none⟩=some (.int .i64 (hi x.red.s))/\W.cell? ⟨b,o+5,none⟩=some (.int .u64 (lo x.red.s))/\W.cell? ⟨b,o+6,none⟩=some (.int .i64 x.red.l)/\W.cell? ⟨b,o+7,none⟩=some (.int .i64 x.red.m)
theorem Tc.gq{q ob:Nat}{W W':World}{b o:Nat}{x:dS}{xa:Option Addr}{xl xc:Nat}(h:Tc W b o x xa xl xc)(hs:Sf q ob W b)(k:KpQ ob (pQ q ob) W W'):Tc W' b o x xa xl xc:=by
 obtain⟨c0,c1,c2,c3,c4,c5,c6,c7⟩:=h;have g:=λi v (c:W.cell? ⟨b,i,none⟩=some v)=>k.cell c hs.pq.1 hs.pq.2;exact⟨g _ _ c0,g _ _ c1,g _ _ c2,g _ _ c3,g _ _ c4,g _ _ c5,g _ _ c6,g _ _ c7⟩
theorem aY.bound{W:World}{S:Nat->Prop}{a:Option Addr}{n c:Nat}{l:List aP}(h:aY W S a n c l):aY W (λb=>S b/\b<W.heap.size) a n c l:=
 ⟨h.hlen,h.hcap,h.hmax,h.hfew,λi x hx=>by
  obtain⟨b,o,ka,kl,kc,va,vl,vc,h1,h2,h3,c0,c1,c2,c3,h4,h5,h6⟩:=h.hat i x hx;exact⟨b,o,ka,kl,kc,va,vl,vc,h1,h2,⟨h3,h2⟩,c0,c1,c2,c3,h4.bound,h5.bound,h6⟩,h.hnil⟩
theorem dZ.bound{W:World}{S:Nat->Prop}{a:Option Addr}{n c:Nat}{l:List dS}(h:dZ W S a n c l):dZ W (λb=>S b/\b<W.heap.size) a n c l:=
 ⟨h.hlen,h.hcap,h.hmax,h.hfew,λi x hx=>by
  obtain⟨b,o,ka,kl,kc,h1,h2,h3,c0,c1,c2,c3,c4,c5,c6,c7,h4,h5,h6⟩:=h.hat i x hx;exact⟨b,o,ka,kl,kc,h1,h2,⟨h3,h2⟩,c0,c1,c2,c3,c4,c5,c6,c7,h4.bound,h5,h6⟩,h.hnil⟩
theorem bM.bound{W:World}{S:Nat->Prop}{ia ka:Option Addr}{il ic kl kc:Nat}{N:aT}(h:bM W S ia il ic ka kl kc N):bM W (λb=>S b/\b<W.heap.size) ia il ic ka kl kc N:=⟨h.items.bound,h.kids.bound⟩
theorem dA.only{q B:Nat}{cs:List Value}{t:TypeId}(h:q<B):∀v W W',dA B cs t v W->aA (· =q) W W'->dA B cs t v W':=λ_ _ _ ⟨p,h1,h2,h3⟩ hb=>⟨p,h1,h2,h3.aQ hb oM⟩
end Go.Dav
namespace Go.Proofs.YtenmnhnlcnmloaaGreat
open Go.RowKit Go.Dav Go.Shelf
attribute [local go_sem] Gives dG ite_val ay Oper.semAt_some
set_option maxRecDepth 100000 in
theorem NS{p:WkP}{B:bD}{F:aB}{turned:Bool}{q ob wb yb ib l NN:Nat}{J Jx:List iP->World->Prop}(hr:F.right=true)
  (hJq:∀s A B,J s A->aA (· =q) A B->J s B) (NM:∀s A B,Jx s A->aA (· =q) A B->Jx s B)
  (d:Nat) (D:Int) (hD0:(D==0)=false) (hD1:IntKind.i64.wrap (D-1)=(d:Int))
  (hIH:∀(M:aT) (a:Int) (ia ka:Option Addr) (il ic kl kc:Nat) (last:Option (List UInt8)) (pre:List iP) (W:World),Cm d M->bM W (Sf q ob W) ia il ic ka kl kc M->WkE W q ob 116 p B F turned last 0->iF W q ob wb yb ib l->J pre W->pre.length+(goN F.all B turned d M a last).1.length<=NN->
   Calls Tryz.prog 93 #[vO M.leaf ia il ic ka kl kc, .int .i64 a, .int .i64 (d:Int), .pointer (some ⟨wb,0,none⟩), .pointer (some ⟨yb,0,none⟩), .pointer (some ⟨ib,0,none⟩)] W (cu q ob 116 p B F turned J Jx pre W (goN F.all B turned d M a last)))
  (N:aT) (a:Int) (ia ka:Option Addr) (il ic kl kc:Nat) (last:Option (List UInt8)) (pre:List iP) (W:World) (hf:Cm (d+1) N) (hNS:bM W (Sf q ob W) ia il ic ka kl kc N) (hw:WkE W q ob 116 p B F turned last 0) (henv:iF W q ob wb yb ib l) (hJ:J pre W) (hN:pre.length+(goN F.all B turned (d+1) N a last).1.length<=NN):
  Calls Tryz.prog 93 #[vO N.leaf ia il ic ka kl kc, .int .i64 a, .int .i64 D, .pointer (some ⟨wb,0,none⟩), .pointer (some ⟨yb,0,none⟩), .pointer (some ⟨ib,0,none⟩)] W (cu q ob 116 p B F turned J Jx pre W (goN F.all B turned (d+1) N a last)):=by
 obtain⟨hi0,hall,hl1,hl6⟩:=Ie hf;have e1:=hNS.kids.hlen;have e2:=hNS.items.hlen;obtain rfl:il=0:=by rw[<- e2,hi0];rfl
 have hcap:=hNS.kids.hcap;rw[Lj,e1]at hN⊢;obtain⟨st,hst⟩:∃st,Qj F.all B turned d N a=st:=⟨_,rfl⟩;rw[hst]at hN⊢;obtain⟨ord,hord⟩:∃o,oq turned (List.range kl)=o:=⟨_,rfl⟩;rw[hord]at hN⊢;obtain⟨g,hg⟩:∃g,goK st ord last=g:=⟨_,rfl⟩;have Qp:ord.length=kl:=by rw[<- hord,mW,List.length_range]
 have hget:∀k,k<kl->ord[k]? =some (if turned=true then kl-1-k else k):=λk hk=>by rw[<- hord,NG turned _ k hk]
 rw[hg]at hN⊢;obtain⟨lf,hlf⟩:∃b,N.leaf=b:=⟨_,rfl⟩;rw[hlf];obtain⟨W1,hW1⟩:∃W1,W.alloc (.cells #[.bool lf, .slice ia 0 ic, .slice ka kl kc] 67)=W1:=⟨_,rfl⟩;have b1:Below W.heap.size W W1:=by rw[<- hW1];exact bW
 have hnb:Blk W1 W.heap.size [.bool lf, .slice ia 0 ic, .slice ka kl kc] 67:=by rw[<- hW1];exact Blk.new _ _ _
 have k1:KpQ ob (pQ q ob) W W1:=hw.1.below b1;have hnn:Sf q ob W1 W.heap.size:=Sf.new hw.1 b1 (Nat.le_refl _) hnb.lt;have YO:=Hd (show iF W1 q ob wb yb ib l from henv.go k1);have HST:=Hd (show jX q ob 116 p B F turned J pre W1 g (λz=>goK st (ord.drop 0) z) W1 from jX.start (by rw[List.drop_zero];exact hg) (hJq _ _ _ hJ (aA.of_below b1)) (KpQ.refl _ (k1.lt hw.1.ho)) (hw.ext b1));have HNS:=Hd (hNS.go k1);have HK1:=Hd k1;have HNB:=Hd hnb;have HB1:=Hd b1;have HNN:=Hd hnn;have HR:=Hd hr;have HJQ:=Hd hJq;have VI:=Hd NM;have HNL:=Hd hN;have HOL:=Hd Qp;have YP:=Hd hget;have HKL:=Hd e1;have abI:=Hd hst;have HLF:=Hd hlf;have HIH:=Hd hIH;have c1:=hnb.cells;have d1:=hnb.lt;have kl6:(kl:Int)<=6:=oM;have abJ:kl<=6:=oM;have wm:IntKind.i64.wrap ((0:Int)+(kl:Int))=(kl:Int):=by rw[IntWalk.i64_in _ oM];omega
 clear k1 hJq NM hf hNS hw henv hJ hN hget Qp hord hg hall hi0 hnn hnb b1 hlf e2 hIH hst hr;unfold vO;go_enter Tryz.func93,Tryz.ntmps93;go_wp2_with fail;go_step3;go_wp2_with fail;go_step3;go_wp2_with fail;clear c1 d1 hW1;go_loopw [22] (λix wr=>∃k:Nat,k<=kl/\ix= .int .i64 (k:Int)/\jX q ob 116 p B F turned J pre W1 g (λz=>goK st (ord.drop k) z) wr) (λix _=>kl-(intOf ix).toNat)
 case atStart=>exact⟨0,Nat.zero_le _,rfl,HST.o⟩
 case round=>
  obtain⟨k,hk,rfl,hst⟩:=hrel;by_cases hlt:k<kl
  .obtain⟨ys,last2,h1,h2,h3,h4,hvd,za,zl,zc,h5⟩:=hst;obtain⟨j,hj⟩:∃j,(if turned=true then kl-1-k else k)=j:=⟨_,rfl⟩;have hjl:j<kl:=by rw[<- hj];split<;>omega
   obtain⟨x,hx⟩:∃x,N.kids[j]? =some x:=⟨_,List.getElem?_eq_getElem (by have:=HKL.o;omega)⟩;have ho:ord[k]? =some j:=by rw[YP.o k hlt,hj]
   have hKr:=(HNS.o.go h4).kids;have HIN:=Hd (SN N ia ka 0 ic kl kc j wr h5 hKr hjl abJ);rw[HLF.o]at HIN;have Xi:=SY (step:=st) (last:=last2) ho;have hst:st j last2=if inP B N j=true then(match EU F.all d a x with
    |none=>([],none)
    |some M=>goN F.all B turned d M x.at_ last2)else([],some last2):=by
    rw[<- abI.o];unfold Qj;rw[hx];rfl
   have HSJ:=Hd hst;have HTH:=Hd Xi;have HH1:=Hd h1;have HH2:=Hd h2;have HH3:=Hd h3;have HH4:=Hd h4;have HH5:=Hd h5;have HKR:=Hd hKr;obtain⟨b,o,xa,xl,xc,rfl,hb,hs,i0,i1,i2,i3,i4,i5,i6,i7,hk1,hia,hfit⟩:=hKr.hat j x hx;have HCL:=Hd (show Tc wr b (o+j*8) x xa xl xc from⟨i0,i1,i2,i3,i4,i5,i6,i7⟩);have HBW:=Hd hb;have HSB:=Hd hs;have HXK:=Hd (And.intro hk1 (And.intro hia hfit));have gZ:=Hd (YO.o.go h4);have Kr:=Hd (HNB.o.gq HNN.o h4);have NR:=Hd (HNN.o.kpq h4);have HVr:=Hd hvd;have HLT:=Hd hlt;have q0:=h5.box.cells;have l0:=h5.box.lt;unfold wkC at q0;have w1:=gZ.o.w.cells;have w2:=gZ.o.w.lt;have r1:=Kr.o.cells;have r2:=Kr.o.lt;have g1:(k:Int)<(kl:Int):=oM;have gj:(j:Int)<(kl:Int):=oM;have gj0:¬(j:Int)<0:=oM;clear h1 h2 h3 h4 h5 hx ho hvd hKr Xi hst hlt hk hb hs i0 i1 i2 i3 i4 i5 i6 i7 hk1 hia hfit;cases turned with
   |false=>
    obtain rfl:k=j:=by rw[if_neg Bool.false_ne_true]at hj;exact hj
    go_wp2_with fail;refine HIN.o.mono ?_;rintro e w3 ⟨rfl,hb3⟩;have HB3:=Hd hb3;clear q0 l0 w1 w2 r1 r2 hb3;cases hin:inP B N k with
    |false=>
     have NT:=Hd (show st k last2=([],some last2) by rw[HSJ.o,hin,if_neg Bool.false_ne_true]);clear hin;have HNX:=Hd (cu.next (Jx:=Jx) (q:=q) (ob:=ob) (t:=116) (p:=p) (B:=B) (F:=F) (turned:=false) (J:=J) (pre:=pre) (W:=W1) (rest:=λz=>goK st (ord.drop k) z) (Ba:=λz=>goK st (ord.drop (k+1)) z) (e:= .returned (.bool true)) (w':=w3) HH1.o HH2.o HH4.o HTH.o (by
      rw[NT.o];exact⟨HVr.o.below HB3.o, .inl ⟨[],rfl,by rw[List.append_nil];exact HJQ.o _ _ _ HH3.o (aA.of_below HB3.o),rfl,WkE.ext ⟨HVr.o,_,_,_,HH5.o⟩ HB3.o⟩⟩))
     go_wp2_with fail;go_roundw
     case rel=>
      rcases HNX.o with⟨_,h⟩|⟨h,_⟩
      .exact⟨k+1,HLT.o,by go_num,h⟩
      .cases h
     case measure=>have:=HLT.o;simp[intOf];omega
    |true=>
     have NT:=Hd (show st k last2=(match EU F.all d a x with
        |none=>([],none)
        |some M=>goN F.all B false d M x.at_ last2) by rw[HSJ.o,hin,if_pos rfl])
     clear hin;go_upto_region 11 with fail;have hk3:KpQ ob (pQ q ob) wr w3:=HVr.o.below HB3.o;have qL:=Hd (gZ.o.go hk3);have NU:=Hd (Kr.o.gq NR.o hk3);have Qq:=Hd (NR.o.kpq hk3);have Qr:=Hd (HCL.o.gq HSB.o hk3);have Qs:=Hd (HSB.o.kpq hk3);have HV3:=Hd (HVr.o.kpq hk3);have HW3:=Hd ((HH5.o.ext HB3.o).mono λ_ hb=>hb.kpq hk3);have HJ3:=Hd (HJQ.o _ _ _ HH3.o (aA.of_below HB3.o));have HK3:=Hd (HH4.o.t hk3);have YQ:=Hd (Nat.lt_of_lt_of_le HBW.o hk3.size);have HKD:=Hd (λW (hb:Below w3.heap.size w3 W)=>Ls x d a xa xl xc W (HW3.o.ext hb) Sf.ne HR.o ((HXK.o.1.ext HB3.o).ext hb) HXK.o.2.1 HXK.o.2.2);have HQL:=Hd HW3.o.box.lt;clear hk3 gZ Kr HCL HH5 HH3 HKR;unfold Oo at HKD;cases hkp:EU F.all d a x with
     |none=>
      rw[hkp]at NT HKD;clear hkp;have Td:=Hd (show st k last2=([],none)from NT.o);refine' rY (aA (· =q)) (dn _) 9 [12] [.inl _, .inl _, .inl _, .inl _, .inl _, .inl _, .inl _, .inl _, .inl _, .inr (λv W=>LD v/\Blk W q (wkC p B F false za zl zc last2.isSome 260) 116), .inr (λv _=>LD v), .inr (λv _=>Xh v), .inl _, .inr (dA w3.heap.size [.bool false, .slice none 0 0, .slice none 0 0] 67)] kR kR ?dN
      case dN=>
       refine kG (λW hE hN=>by have kk:=HV3.o.only hE;obtain⟨z0,z1,z2,z3,z4,z5,z6,z7⟩:=Qr.o.gq Qs.o kk;have y1:=(qL.o.w.gq qL.o.sw kk).cells;have y2:=(NU.o.gq Qq.o kk).cells;clear kk;exact gF) ?_;refine kD ?_;refine kG (λW hE hN=>by have kk:=HV3.o.only hE;obtain⟨z0,z1,z2,z3,z4,z5,z6,z7⟩:=Qr.o.gq Qs.o kk;have y1:=(qL.o.w.gq qL.o.sw kk).cells;have y2:=(NU.o.gq Qq.o kk).cells;clear kk;exact gF) ?_;iterate 2 refine kD ?_
       refine kG (λW hE hN=>by have kk:=HV3.o.only hE;obtain⟨z0,z1,z2,z3,z4,z5,z6,z7⟩:=Qr.o.gq Qs.o kk;have y1:=(qL.o.w.gq qL.o.sw kk).cells;have y2:=(NU.o.gq Qq.o kk).cells;clear kk;exact gF) ?_;refine kD ?_;refine kG (λW hE hN=>by go_simp;refine⟨Below.refl _ _,?_⟩;first|rfl|(rw[hD1])) ?_
       refine kD ?_;refine aH dC rfl (λ_ _ _ ⟨h1,h2⟩ hb=>⟨h1,h2.ext hb⟩) (by rfl) (λW hE hN=>?_) (λu9=>?_)
       .go_simp;refine⟨Below.refl _ _,?_⟩;refine(HKD.o W hE).mono ?_;rintro e w' ⟨⟨vb,na,nl,nc,ma,ml,mc,rfl⟩,hw,ho⟩;exact⟨_,rfl,ho,⟨_,rfl,vb,na,nl,nc,ma,ml,mc,rfl⟩,hw.box⟩
       simp only[Act.put,pB,pC,pD];refine bZ dC rfl (λ_ _ _ h _=>h) (λ_ _ _ h _=>h) (by rfl) (λW hE hN=>?_) (λu10=>?_)
       .have h:=(show(LD u9/\Blk W q (wkC p B F false za zl zc last2.isSome 260) 116)/\True from hN).1.1;go_simp;first|exact⟨Below.refl _ _,h⟩|exact Below.refl _ _
       simp only[Act.put,pB,pC,pD];refine bZ dC rfl (λ_ _ _ h _=>h) (λ_ _ _ h _=>h) (by rfl) (λW hE hN=>?_) (λu11=>?_)
       .obtain⟨n,rfl,hn⟩:=(show LD u10/\True from hN).1;go_simp;first|exact⟨Below.refl _ _,hn⟩|exact Below.refl _ _
       simp only[Act.put,pB,pC,pD];refine kG (λW hE hN=>by obtain⟨n,rfl,hn⟩:=(show LD u10/\True from hN).1;exact gF) ?_;refine bZ dC rfl (dA.later) (dA.only HQL.o) (by rfl) (λW hE hN=>?_) (λu13=>?_)
       .go_simp;exact dB (cs:=[.bool false, .slice none 0 0, .slice none 0 0]) hE.size
       simp only[Act.put,pB,pC,pD];refine aU λW4 hE4 hG4=>?_;obtain⟨⟨pb,rfl,hpb,hbk⟩,⟨vb,na,nl,nc,ma,ml,mc,rfl⟩,_,⟨_,hq4⟩,_⟩:=(show dA w3.heap.size [.bool false, .slice none 0 0, .slice none 0 0] 67 u13 W4/\Xh u11/\LD u10/\(LD u9/\Blk W4 q (wkC p B F false za zl zc last2.isSome 260) 116)/\True from hG4);have bc:=hbk.cells;have bm:=hbk.marks;have bl:=hbk.lt;have HPB:=Hd hpb;have HQ4:=Hd hq4;have HE4:=Hd hE4;clear hG4 hE4 hq4 hbk hpb HKD;go_wp2_with fail;refine cO ?_;go_wp2_with fail;have ho:=(((aA.refl (· =pb) W4).set pb 0 (.bool vb) rfl).set pb 1 (.slice na nl nc) rfl).set pb 2 (.slice ma ml mc) rfl;obtain⟨W5,hW5⟩:∃W5,((W4.setCell ⟨pb,0,none⟩ (.bool vb)).setCell ⟨pb,1,none⟩ (.slice na nl nc)).setCell ⟨pb,2,none⟩ (.slice ma ml mc)=W5:=⟨_,rfl⟩;rw[hW5]at ho⊢;have hall:aA (· =q) w3 W5:=HE4.o.comp ho (λb hb=> .inr (by have:=HPB.o;omega));have HW5:=Hd ((HW3.o.again hall Sf.ne (HQ4.o.aQ ho (by have:=HPB.o;have:=HQL.o;omega))).mono λ_ hb=>hb.kpq (HV3.o.only hall));have HV5:=Hd (HV3.o.kpq (HV3.o.only hall));have HJ5:=Hd (HJQ.o _ _ _ HJ3.o hall);have HA5:=Hd hall;clear hW5 ho hall bc bm bl;refine' ah [.inl _, .inl _, .inl _, .inl undef, .inl undef, .inl undef, .inl undef, .inl undef, .inl undef, .inl undef, .inl undef, .inl undef, .inl undef, .inl undef, .inl undef, .inl _] kR kR ?fZ
       case fZ=>
        iterate 3 refine wD ?_
        iterate 12 refine wS ?_
        refine wD ?_;refine aj λW6 hE6 hG6=>?_;have Ol:=hE6.cF;have Om:=hE6.fF;have HNX:=Hd (cu.next (q:=q) (ob:=ob) (t:=116) (p:=p) (B:=B) (F:=F) (turned:=false) (J:=J) (pre:=pre) (W:=W1) (rest:=λz=>goK st (ord.drop k) z) (Ba:=λz=>goK st (ord.drop (k+1)) z) (e:= .returned (.bool false)) (Jx:=Jx) (w':=W6) HH1.o HH2.o HH4.o HTH.o (by
         rw[Td.o];exact⟨((HVr.o.below HB3.o).t (HV3.o.only HA5.o)).t (HV5.o.below hE6), .inl ⟨[],rfl,by rw[List.append_nil];exact HJQ.o _ _ _ HJ5.o (aA.of_below hE6),rfl,_,WkE.ext ⟨HV5.o,_,_,_,HW5.o⟩ hE6⟩⟩))
        clear hE6 hG6 Ol Om;go_wp2;go_ret;rcases HNX.o with⟨h,_⟩|⟨_,h⟩
        .cases h
        .exact h.after HK1.o
     |some M=>
      have HFM:=Hd (Aw hkp);rw[hkp]at NT HKD;clear hkp;have Td:=Hd (show st k last2=goN F.all B false d M x.at_ last2 from NT.o);obtain⟨z0,z1,z2,z3,z4,z5,z6,z7⟩:=Qr.o;have zl:=YQ.o;have y1:=qL.o.w.cells;have y2:=NU.o.cells;have y1l:=qL.o.w.lt;have y2l:=NU.o.lt;refine' dX [12] [.inl _, .inl _, .inl _, .inl _, .inl _, .inl _, .inl _, .inl _, .inl _, .inr (KdT w3.heap.size M), .inr (KdT w3.heap.size M), .inr (LdN w3.heap.size M), .inl _, .inr (dA w3.heap.size [.bool false, .slice none 0 0, .slice none 0 0] 67)] kR kR ?iT
      case iT=>
       refine wE ?_;refine wD ?_;refine wE ?_;iterate 2 refine wD ?_
       refine wE ?_;refine wD ?_;refine wG (λW hE hN=>by go_simp;refine⟨Below.refl _ _,?_⟩;first|rfl|(rw[hD1])) ?_
       refine wD ?_;refine aG rfl (KdT.later) (by rfl) (λW hE hN=>?_) (λu9=>?_)
       .go_simp;refine⟨Below.refl _ _,?_⟩;have hsz:=hE.size;refine(HKD.o W hE).mono ?_;rintro e w' ⟨na,nl,nc,ma,ml,mc,rfl,hN,hb⟩;exact⟨_,rfl,hb,_,rfl,na,nl,nc,ma,ml,mc,rfl,hN.mono (λb h=>Nat.le_trans hsz h)⟩
       simp only[Act.put,pB,pC,pD];refine aG rfl (KdT.later) (by rfl) (λW hE hN=>?_) (λu10=>?_)
       .have h:=(show KdT w3.heap.size M u9 W/\True from hN).1;go_simp;first|exact⟨Below.refl _ _,h⟩|exact Below.refl _ _
       simp only[Act.put,pB,pC,pD];refine aG rfl (LdN.later) (by rfl) (λW hE hN=>?_) (λu11=>?_)
       .obtain⟨n,rfl,hn⟩:=(show KdT w3.heap.size M u10 W/\True from hN).1;go_simp;first|exact⟨Below.refl _ _,hn⟩|exact Below.refl _ _
       simp only[Act.put,pB,pC,pD];refine wG (λW hE hN=>by obtain⟨n,rfl,hn⟩:=(show KdT w3.heap.size M u10 W/\True from hN).1;exact gF) ?_;refine aG rfl (dA.later) (by rfl) (λW hE hN=>?_) (λu13=>?_)
       .go_simp;exact dB (cs:=[.bool false, .slice none 0 0, .slice none 0 0]) hE.size
       simp only[Act.put,pB,pC,pD];refine aj λW4 hE4 hG4=>?_;have L9:=hE4.cF;have Mc:=hE4.fF;obtain⟨⟨pb,rfl,hpb,hbk⟩,⟨na,nl,nc,ma,ml,mc,rfl,hNM⟩,_⟩:=(show dA w3.heap.size [.bool false, .slice none 0 0, .slice none 0 0] 67 u13 W4/\LdN w3.heap.size M u11 W4/\_ from hG4);have bc:=hbk.cells;have bm:=hbk.marks;have bl:=hbk.lt;have HPB:=Hd hpb;have HBK:=Hd hbk;have HE4:=Hd hE4;have HNM:=Hd hNM;obtain⟨lm,hlm⟩:∃z,M.leaf=z:=⟨_,rfl⟩;rw[hlm];have HLM:=Hd hlm;clear hG4 hE4 hbk hpb HKD z0 z1 z2 z3 z4 z5 z6 z7 zl y1 y2 y1l y2l hNM hlm L9 Mc;go_wp2_with fail;refine cO ?_;go_upto_region 12 with fail;have ho:=(((aA.refl (· =pb) W4).set pb 0 (.bool lm) rfl).set pb 1 (.slice na nl nc) rfl).set pb 2 (.slice ma ml mc) rfl;have hP5:=((HBK.o.set 0 (.bool lm)).set 1 (.slice na nl nc)).set 2 (.slice ma ml mc);obtain⟨W5,hW5⟩:∃W5,((W4.setCell ⟨pb,0,none⟩ (.bool lm)).setCell ⟨pb,1,none⟩ (.slice na nl nc)).setCell ⟨pb,2,none⟩ (.slice ma ml mc)=W5:=⟨_,rfl⟩;rw[hW5]at ho hP5⊢;have hall:Below w3.heap.size w3 W5:=HE4.o.trans (ho.below HE4.o.size (λc e=>by have:=HPB.o;omega));have hk5:KpQ ob (pQ q ob) w3 W5:=HV3.o.below hall;have hV5:=HV3.o.kpq hk5;have Xj:WkE W5 q ob 116 p B F false last2 0:=WkE.ext ⟨HV3.o,_,_,_,HW3.o⟩ hall;have hJ5:=HJQ.o _ _ _ HJ3.o (aA.of_below hall);have hN5:bM W5 (Sf q ob W5) na nl nc ma ml mc M:=((HNM.o.JX HBK.o (Fz.mk _ _ _ _ _ _ _)).same ho.size λc h hl=>ho.block c hl h.2).bound.mono (λc h=>Sf.new HV3.o hall h.1.1 h.2);have Kt:=qL.o.go hk5;have HPS:=Hd (Sf.new HV3.o hall HPB.o hP5.lt);have Xk:=HK3.o.t hk5;obtain⟨RR,hRR⟩:∃RR,RR=Qo (jX q ob 116 p B F false J pre W1 g (λz=>goK st (ord.drop (k+1)) z)) (cu q ob 116 p B F false J Jx pre W1 g (.returned (.bool false))):=⟨_,rfl⟩;have VJ:=Hd (show ∀v W W',RR v W->Below W.heap.size W W'->RR v W' from λv W W' h hb=>by
        rw[hRR]at h⊢;exact h.imp (λ⟨h1,h2⟩=>⟨h1,h2.ext HJQ.o hb⟩) (λ⟨h1,h2⟩=>⟨h1,h2.ext HJQ.o VI.o hb⟩))
       have hfew:=GoT.few (rest:=λz=>goK st (ord.drop k) z) HH1.o HTH.o HNL.o;rw[Td.o]at hfew;have HT:=Hd (show ∀W,Below W5.heap.size W5 W->Calls Tryz.prog 93 #[.agg #[.bool lm, .slice na nl nc, .slice ma ml mc], .int .i64 x.at_, .int .i64 (d:Int), .pointer (some ⟨wb,0,none⟩), .pointer (some ⟨yb,0,none⟩), .pointer (some ⟨ib,0,none⟩)] W λe W'=>∃v,e= .returned v/\KpG q ob W W'/\RR v W' from λW hb=>by
        have hkb:KpQ ob (pQ q ob) W5 W:=hV5.below hb;have hc:=HIH.o M x.at_ na ma nl nc ml mc last2 (pre++ys) W HFM.o (hN5.go hkb) (Xj.ext hb) (Kt.go hkb) (HJQ.o _ _ _ hJ5 (aA.of_below hb)) (by rw[List.length_append];exact hfew);unfold vO at hc;rw[HLM.o]at hc;refine hc.mono λe W' hd=>?_;rw[hRR];rcases cu.next (q:=q) (ob:=ob) (t:=116) (p:=p) (B:=B) (F:=F) (turned:=false) (J:=J) (Jx:=Jx) (pre:=pre) (W:=W1) (rest:=λz=>goK st (ord.drop k) z) (Ba:=λz=>goK st (ord.drop (k+1)) z) HH1.o HH2.o (Xk.t hkb) HTH.o (by rw[Td.o];exact hd)with⟨rfl,h⟩|⟨rfl,h⟩
        .exact⟨_,rfl,λ_=>hd.1, .inl ⟨rfl,h⟩⟩
        .exact⟨_,rfl,λ_=>hd.1, .inr ⟨rfl,h⟩⟩)
       have HRR:=Hd hRR;have su:=Hd Kt;have HP5:=Hd hP5;have Tf:=Hd (NU.o.gq Qq.o hk5);have Ti:=Hd (Qq.o.kpq hk5);have Tj:=Hd (Qr.o.gq Qs.o hk5);have Tm:=Hd (Qs.o.kpq hk5);have HOB:=Hd hV5.ho;have hen:=rZ;clear hW5 ho hP5 hall hk5 hV5 Xj hJ5 hN5 Kt Xk hfew hRR bc bm bl;refine' aN (KpG q ob) (zu _ _) 13 [.inl _, .inl _, .inl _, .inl _, .inl _, .inl _, .inl _, .inl _, .inl _, .inl _, .inl _, .inl _, .inl _, .inr (RR)] kR kR ?jI
       case jI=>
        iterate 3 refine kD ?_
        refine kG (λW hE hN=>by have kk:=hE HOB.o;obtain⟨z0,z1,z2,z3,z4,z5,z6,z7⟩:=Tj.o.gq Tm.o kk;have y1:=(su.o.i.gq su.o.si kk).cells;have y2:=(Tf.o.gq Ti.o kk).cells;have y3:=(HP5.o.gq HPS.o kk).cells;clear kk;exact gF) ?_;refine kG (λW hE hN=>by have kk:=hE HOB.o;obtain⟨z0,z1,z2,z3,z4,z5,z6,z7⟩:=Tj.o.gq Tm.o kk;have y1:=(su.o.i.gq su.o.si kk).cells;have y2:=(Tf.o.gq Ti.o kk).cells;have y3:=(HP5.o.gq HPS.o kk).cells;clear kk;exact gF) ?_;refine kD ?_;refine kG (λW hE hN=>by have kk:=hE HOB.o;obtain⟨z0,z1,z2,z3,z4,z5,z6,z7⟩:=Tj.o.gq Tm.o kk;have y1:=(su.o.i.gq su.o.si kk).cells;have y2:=(Tf.o.gq Ti.o kk).cells;have y3:=(HP5.o.gq HPS.o kk).cells;clear kk;exact gF) ?_;iterate 3 refine kD ?_
        refine kG (λW hE hN=>by have kk:=hE HOB.o;obtain⟨z0,z1,z2,z3,z4,z5,z6,z7⟩:=Tj.o.gq Tm.o kk;have y1:=(su.o.i.gq su.o.si kk).cells;have y2:=(Tf.o.gq Ti.o kk).cells;have y3:=(HP5.o.gq HPS.o kk).cells;clear kk;exact gF) ?_;refine kD ?_;refine kG (λW hE hN=>by go_simp;refine⟨Below.refl _ _,?_⟩;first|rfl|(rw[hD1])) ?_
        refine aH dC rfl (VJ.o) (by rfl) (λW hE hN=>?_) (λu13=>?_)
        .go_simp;refine⟨Below.refl _ _,?_⟩;exact HT.o W hE
        simp only[Act.put,pB,pC,pD];refine aU λW6 hE6 hG6=>?_;have hu:=(show RR u13 W6/\True from hG6).1;rw[HRR.o]at hu;rcases hu with⟨rfl,hd⟩|⟨rfl,hd⟩
        .have HD:=Hd hd;clear hd hG6 hE6 hen;go_wp2_with fail;go_roundw
         case rel=>exact⟨k+1,HLT.o,by go_num,HD.o⟩
         case measure=>have:=HLT.o;simp[intOf];omega
        .have HD:=Hd hd;clear hd hG6 hE6 hen;go_wp2;go_ret;exact HD.o.after HK1.o
   |true=>
    have wj:(kl:Int)-1-(k:Int)=(j:Int):=by
     rw[if_pos rfl]at hj;omega
    have wk:IntKind.i64.wrap ((kl:Int)-1-(k:Int))=(j:Int):=by rw[wj];exact IntWalk.i64_in _ oM
    go_wp2_with fail;refine HIN.o.mono ?_;rintro e w3 ⟨rfl,hb3⟩;have HB3:=Hd hb3;clear q0 l0 w1 w2 r1 r2 hb3;cases hin:inP B N j with
    |false=>
     have NT:=Hd (show st j last2=([],some last2) by rw[HSJ.o,hin,if_neg Bool.false_ne_true]);clear hin;have HNX:=Hd (cu.next (Jx:=Jx) (q:=q) (ob:=ob) (t:=116) (p:=p) (B:=B) (F:=F) (turned:=true) (J:=J) (pre:=pre) (W:=W1) (rest:=λz=>goK st (ord.drop k) z) (Ba:=λz=>goK st (ord.drop (k+1)) z) (e:= .returned (.bool true)) (w':=w3) HH1.o HH2.o HH4.o HTH.o (by
      rw[NT.o];exact⟨HVr.o.below HB3.o, .inl ⟨[],rfl,by rw[List.append_nil];exact HJQ.o _ _ _ HH3.o (aA.of_below HB3.o),rfl,WkE.ext ⟨HVr.o,_,_,_,HH5.o⟩ HB3.o⟩⟩))
     go_wp2_with fail;go_roundw
     case rel=>
      rcases HNX.o with⟨_,h⟩|⟨h,_⟩
      .exact⟨k+1,HLT.o,by go_num,h⟩
      .cases h
     case measure=>have:=HLT.o;simp[intOf];omega
    |true=>
     have NT:=Hd (show st j last2=(match EU F.all d a x with
        |none=>([],none)
        |some M=>goN F.all B true d M x.at_ last2) by rw[HSJ.o,hin,if_pos rfl])
     clear hin;go_upto_region 11 with fail;have hk3:KpQ ob (pQ q ob) wr w3:=HVr.o.below HB3.o;have qL:=Hd (gZ.o.go hk3);have NU:=Hd (Kr.o.gq NR.o hk3);have Qq:=Hd (NR.o.kpq hk3);have Qr:=Hd (HCL.o.gq HSB.o hk3);have Qs:=Hd (HSB.o.kpq hk3);have HV3:=Hd (HVr.o.kpq hk3);have HW3:=Hd ((HH5.o.ext HB3.o).mono λ_ hb=>hb.kpq hk3);have HJ3:=Hd (HJQ.o _ _ _ HH3.o (aA.of_below HB3.o));have HK3:=Hd (HH4.o.t hk3);have YQ:=Hd (Nat.lt_of_lt_of_le HBW.o hk3.size);have HKD:=Hd (λW (hb:Below w3.heap.size w3 W)=>Ls x d a xa xl xc W (HW3.o.ext hb) Sf.ne HR.o ((HXK.o.1.ext HB3.o).ext hb) HXK.o.2.1 HXK.o.2.2);have HQL:=Hd HW3.o.box.lt;clear hk3 gZ Kr HCL HH5 HH3 HKR;unfold Oo at HKD;cases hkp:EU F.all d a x with
     |none=>
      rw[hkp]at NT HKD;clear hkp;have Td:=Hd (show st j last2=([],none)from NT.o);refine' rY (aA (· =q)) (dn _) 9 [12] [.inl _, .inl _, .inl _, .inl _, .inl _, .inl _, .inl _, .inl _, .inl _, .inr (λv W=>LD v/\Blk W q (wkC p B F true za zl zc last2.isSome 260) 116), .inr (λv _=>LD v), .inr (λv _=>Xh v), .inl _, .inr (dA w3.heap.size [.bool false, .slice none 0 0, .slice none 0 0] 67)] kR kR ?main5
      case main5=>
       refine kG (λW hE hN=>by have kk:=HV3.o.only hE;obtain⟨z0,z1,z2,z3,z4,z5,z6,z7⟩:=Qr.o.gq Qs.o kk;have y1:=(qL.o.w.gq qL.o.sw kk).cells;have y2:=(NU.o.gq Qq.o kk).cells;clear kk;exact gF) ?_;refine kD ?_;refine kG (λW hE hN=>by have kk:=HV3.o.only hE;obtain⟨z0,z1,z2,z3,z4,z5,z6,z7⟩:=Qr.o.gq Qs.o kk;have y1:=(qL.o.w.gq qL.o.sw kk).cells;have y2:=(NU.o.gq Qq.o kk).cells;clear kk;exact gF) ?_;iterate 2 refine kD ?_
       refine kG (λW hE hN=>by have kk:=HV3.o.only hE;obtain⟨z0,z1,z2,z3,z4,z5,z6,z7⟩:=Qr.o.gq Qs.o kk;have y1:=(qL.o.w.gq qL.o.sw kk).cells;have y2:=(NU.o.gq Qq.o kk).cells;clear kk;exact gF) ?_;refine kD ?_;refine kG (λW hE hN=>by go_simp;refine⟨Below.refl _ _,?_⟩;first|rfl|(rw[hD1])) ?_
       refine kD ?_;refine aH dC rfl (λ_ _ _ ⟨h1,h2⟩ hb=>⟨h1,h2.ext hb⟩) (by rfl) (λW hE hN=>?_) (λu9=>?_)
       .go_simp;refine⟨Below.refl _ _,?_⟩;refine(HKD.o W hE).mono ?_;rintro e w' ⟨⟨vb,na,nl,nc,ma,ml,mc,rfl⟩,hw,ho⟩;exact⟨_,rfl,ho,⟨_,rfl,vb,na,nl,nc,ma,ml,mc,rfl⟩,hw.box⟩
       simp only[Act.put,pB,pC,pD];refine bZ dC rfl (λ_ _ _ h _=>h) (λ_ _ _ h _=>h) (by rfl) (λW hE hN=>?_) (λu10=>?_)
       .have h:=(show(LD u9/\Blk W q (wkC p B F true za zl zc last2.isSome 260) 116)/\True from hN).1.1;go_simp;first|exact⟨Below.refl _ _,h⟩|exact Below.refl _ _
       simp only[Act.put,pB,pC,pD];refine bZ dC rfl (λ_ _ _ h _=>h) (λ_ _ _ h _=>h) (by rfl) (λW hE hN=>?_) (λu11=>?_)
       .obtain⟨n,rfl,hn⟩:=(show LD u10/\True from hN).1;go_simp;first|exact⟨Below.refl _ _,hn⟩|exact Below.refl _ _
       simp only[Act.put,pB,pC,pD];refine kG (λW hE hN=>by obtain⟨n,rfl,hn⟩:=(show LD u10/\True from hN).1;exact gF) ?_;refine bZ dC rfl (dA.later) (dA.only HQL.o) (by rfl) (λW hE hN=>?_) (λu13=>?_)
       .go_simp;exact dB (cs:=[.bool false, .slice none 0 0, .slice none 0 0]) hE.size
       simp only[Act.put,pB,pC,pD];refine aU λW4 hE4 hG4=>?_;obtain⟨⟨pb,rfl,hpb,hbk⟩,⟨vb,na,nl,nc,ma,ml,mc,rfl⟩,_,⟨_,hq4⟩,_⟩:=(show dA w3.heap.size [.bool false, .slice none 0 0, .slice none 0 0] 67 u13 W4/\Xh u11/\LD u10/\(LD u9/\Blk W4 q (wkC p B F true za zl zc last2.isSome 260) 116)/\True from hG4);have bc:=hbk.cells;have bm:=hbk.marks;have bl:=hbk.lt;have HPB:=Hd hpb;have HQ4:=Hd hq4;have HE4:=Hd hE4;clear hG4 hE4 hq4 hbk hpb HKD;go_wp2_with fail;refine cO ?_;go_wp2_with fail;have ho:=(((aA.refl (· =pb) W4).set pb 0 (.bool vb) rfl).set pb 1 (.slice na nl nc) rfl).set pb 2 (.slice ma ml mc) rfl;obtain⟨W5,hW5⟩:∃W5,((W4.setCell ⟨pb,0,none⟩ (.bool vb)).setCell ⟨pb,1,none⟩ (.slice na nl nc)).setCell ⟨pb,2,none⟩ (.slice ma ml mc)=W5:=⟨_,rfl⟩;rw[hW5]at ho⊢;have hall:aA (· =q) w3 W5:=HE4.o.comp ho (λb hb=> .inr (by have:=HPB.o;omega));have HW5:=Hd ((HW3.o.again hall Sf.ne (HQ4.o.aQ ho (by have:=HPB.o;have:=HQL.o;omega))).mono λ_ hb=>hb.kpq (HV3.o.only hall));have HV5:=Hd (HV3.o.kpq (HV3.o.only hall));have HJ5:=Hd (HJQ.o _ _ _ HJ3.o hall);have HA5:=Hd hall;clear hW5 ho hall bc bm bl;refine' ah [.inl _, .inl _, .inl _, .inl undef, .inl undef, .inl undef, .inl undef, .inl undef, .inl undef, .inl undef, .inl undef, .inl undef, .inl undef, .inl undef, .inl undef, .inl _] kR kR ?nH
       case nH=>
        iterate 3 refine wD ?_
        iterate 12 refine wS ?_
        refine wD ?_;refine aj λW6 hE6 hG6=>?_;have Ol:=hE6.cF;have Om:=hE6.fF;have HNX:=Hd (cu.next (q:=q) (ob:=ob) (t:=116) (p:=p) (B:=B) (F:=F) (turned:=true) (J:=J) (pre:=pre) (W:=W1) (rest:=λz=>goK st (ord.drop k) z) (Ba:=λz=>goK st (ord.drop (k+1)) z) (e:= .returned (.bool false)) (Jx:=Jx) (w':=W6) HH1.o HH2.o HH4.o HTH.o (by
         rw[Td.o];exact⟨((HVr.o.below HB3.o).t (HV3.o.only HA5.o)).t (HV5.o.below hE6), .inl ⟨[],rfl,by rw[List.append_nil];exact HJQ.o _ _ _ HJ5.o (aA.of_below hE6),rfl,_,WkE.ext ⟨HV5.o,_,_,_,HW5.o⟩ hE6⟩⟩))
        clear hE6 hG6 Ol Om;go_wp2;go_ret;rcases HNX.o with⟨h,_⟩|⟨_,h⟩
        .cases h
        .exact h.after HK1.o
     |some M=>
      have HFM:=Hd (Aw hkp);rw[hkp]at NT HKD;clear hkp;have Td:=Hd (show st j last2=goN F.all B true d M x.at_ last2 from NT.o);obtain⟨z0,z1,z2,z3,z4,z5,z6,z7⟩:=Qr.o;have zl:=YQ.o;have y1:=qL.o.w.cells;have y2:=NU.o.cells;have y1l:=qL.o.w.lt;have y2l:=NU.o.lt;refine' dX [12] [.inl _, .inl _, .inl _, .inl _, .inl _, .inl _, .inl _, .inl _, .inl _, .inr (KdT w3.heap.size M), .inr (KdT w3.heap.size M), .inr (LdN w3.heap.size M), .inl _, .inr (dA w3.heap.size [.bool false, .slice none 0 0, .slice none 0 0] 67)] kR kR ?uI
      case uI=>
       refine wE ?_;refine wD ?_;refine wE ?_;iterate 2 refine wD ?_
       refine wE ?_;refine wD ?_;refine wG (λW hE hN=>by go_simp;refine⟨Below.refl _ _,?_⟩;first|rfl|(rw[hD1])) ?_
       refine wD ?_;refine aG rfl (KdT.later) (by rfl) (λW hE hN=>?_) (λu9=>?_)
       .go_simp;refine⟨Below.refl _ _,?_⟩;have hsz:=hE.size;refine(HKD.o W hE).mono ?_;rintro e w' ⟨na,nl,nc,ma,ml,mc,rfl,hN,hb⟩;exact⟨_,rfl,hb,_,rfl,na,nl,nc,ma,ml,mc,rfl,hN.mono (λb h=>Nat.le_trans hsz h)⟩
       simp only[Act.put,pB,pC,pD];refine aG rfl (KdT.later) (by rfl) (λW hE hN=>?_) (λu10=>?_)
       .have h:=(show KdT w3.heap.size M u9 W/\True from hN).1;go_simp;first|exact⟨Below.refl _ _,h⟩|exact Below.refl _ _
       simp only[Act.put,pB,pC,pD];refine aG rfl (LdN.later) (by rfl) (λW hE hN=>?_) (λu11=>?_)
       .obtain⟨n,rfl,hn⟩:=(show KdT w3.heap.size M u10 W/\True from hN).1;go_simp;first|exact⟨Below.refl _ _,hn⟩|exact Below.refl _ _
       simp only[Act.put,pB,pC,pD];refine wG (λW hE hN=>by obtain⟨n,rfl,hn⟩:=(show KdT w3.heap.size M u10 W/\True from hN).1;exact gF) ?_;refine aG rfl (dA.later) (by rfl) (λW hE hN=>?_) (λu13=>?_)
       .go_simp;exact dB (cs:=[.bool false, .slice none 0 0, .slice none 0 0]) hE.size
       simp only[Act.put,pB,pC,pD];refine aj λW4 hE4 hG4=>?_;have L9:=hE4.cF;have Mc:=hE4.fF;obtain⟨⟨pb,rfl,hpb,hbk⟩,⟨na,nl,nc,ma,ml,mc,rfl,hNM⟩,_⟩:=(show dA w3.heap.size [.bool false, .slice none 0 0, .slice none 0 0] 67 u13 W4/\LdN w3.heap.size M u11 W4/\_ from hG4);have bc:=hbk.cells;have bm:=hbk.marks;have bl:=hbk.lt;have HPB:=Hd hpb;have HBK:=Hd hbk;have HE4:=Hd hE4;have HNM:=Hd hNM;obtain⟨lm,hlm⟩:∃z,M.leaf=z:=⟨_,rfl⟩;rw[hlm];have HLM:=Hd hlm;clear hG4 hE4 hbk hpb HKD z0 z1 z2 z3 z4 z5 z6 z7 zl y1 y2 y1l y2l hNM hlm L9 Mc;go_wp2_with fail;refine cO ?_;go_upto_region 12 with fail;have ho:=(((aA.refl (· =pb) W4).set pb 0 (.bool lm) rfl).set pb 1 (.slice na nl nc) rfl).set pb 2 (.slice ma ml mc) rfl;have hP5:=((HBK.o.set 0 (.bool lm)).set 1 (.slice na nl nc)).set 2 (.slice ma ml mc);obtain⟨W5,hW5⟩:∃W5,((W4.setCell ⟨pb,0,none⟩ (.bool lm)).setCell ⟨pb,1,none⟩ (.slice na nl nc)).setCell ⟨pb,2,none⟩ (.slice ma ml mc)=W5:=⟨_,rfl⟩;rw[hW5]at ho hP5⊢;have hall:Below w3.heap.size w3 W5:=HE4.o.trans (ho.below HE4.o.size (λc e=>by have:=HPB.o;omega));have hk5:KpQ ob (pQ q ob) w3 W5:=HV3.o.below hall;have hV5:=HV3.o.kpq hk5;have Xj:WkE W5 q ob 116 p B F true last2 0:=WkE.ext ⟨HV3.o,_,_,_,HW3.o⟩ hall;have hJ5:=HJQ.o _ _ _ HJ3.o (aA.of_below hall);have hN5:bM W5 (Sf q ob W5) na nl nc ma ml mc M:=((HNM.o.JX HBK.o (Fz.mk _ _ _ _ _ _ _)).same ho.size λc h hl=>ho.block c hl h.2).bound.mono (λc h=>Sf.new HV3.o hall h.1.1 h.2);have Kt:=qL.o.go hk5;have HPS:=Hd (Sf.new HV3.o hall HPB.o hP5.lt);have Xk:=HK3.o.t hk5;obtain⟨RR,hRR⟩:∃RR,RR=Qo (jX q ob 116 p B F true J pre W1 g (λz=>goK st (ord.drop (k+1)) z)) (cu q ob 116 p B F true J Jx pre W1 g (.returned (.bool false))):=⟨_,rfl⟩;have VJ:=Hd (show ∀v W W',RR v W->Below W.heap.size W W'->RR v W' from λv W W' h hb=>by
        rw[hRR]at h⊢;exact h.imp (λ⟨h1,h2⟩=>⟨h1,h2.ext HJQ.o hb⟩) (λ⟨h1,h2⟩=>⟨h1,h2.ext HJQ.o VI.o hb⟩))
       have hfew:=GoT.few (rest:=λz=>goK st (ord.drop k) z) HH1.o HTH.o HNL.o;rw[Td.o]at hfew;have HT:=Hd (show ∀W,Below W5.heap.size W5 W->Calls Tryz.prog 93 #[.agg #[.bool lm, .slice na nl nc, .slice ma ml mc], .int .i64 x.at_, .int .i64 (d:Int), .pointer (some ⟨wb,0,none⟩), .pointer (some ⟨yb,0,none⟩), .pointer (some ⟨ib,0,none⟩)] W λe W'=>∃v,e= .returned v/\KpG q ob W W'/\RR v W' from λW hb=>by
        have hkb:KpQ ob (pQ q ob) W5 W:=hV5.below hb;have hc:=HIH.o M x.at_ na ma nl nc ml mc last2 (pre++ys) W HFM.o (hN5.go hkb) (Xj.ext hb) (Kt.go hkb) (HJQ.o _ _ _ hJ5 (aA.of_below hb)) (by rw[List.length_append];exact hfew);unfold vO at hc;rw[HLM.o]at hc;refine hc.mono λe W' hd=>?_;rw[hRR];rcases cu.next (q:=q) (ob:=ob) (t:=116) (p:=p) (B:=B) (F:=F) (turned:=true) (J:=J) (Jx:=Jx) (pre:=pre) (W:=W1) (rest:=λz=>goK st (ord.drop k) z) (Ba:=λz=>goK st (ord.drop (k+1)) z) HH1.o HH2.o (Xk.t hkb) HTH.o (by rw[Td.o];exact hd)with⟨rfl,h⟩|⟨rfl,h⟩
        .exact⟨_,rfl,λ_=>hd.1, .inl ⟨rfl,h⟩⟩
        .exact⟨_,rfl,λ_=>hd.1, .inr ⟨rfl,h⟩⟩)
       have HRR:=Hd hRR;have su:=Hd Kt;have HP5:=Hd hP5;have Tf:=Hd (NU.o.gq Qq.o hk5);have Ti:=Hd (Qq.o.kpq hk5);have Tj:=Hd (Qr.o.gq Qs.o hk5);have Tm:=Hd (Qs.o.kpq hk5);have HOB:=Hd hV5.ho;have hen:=rZ;clear hW5 ho hP5 hall hk5 hV5 Xj hJ5 hN5 Kt Xk hfew hRR bc bm bl;refine' aN (KpG q ob) (zu _ _) 13 [.inl _, .inl _, .inl _, .inl _, .inl _, .inl _, .inl _, .inl _, .inl _, .inl _, .inl _, .inl _, .inl _, .inr (RR)] kR kR ?uJ
       case uJ=>
        iterate 3 refine kD ?_
        refine kG (λW hE hN=>by have kk:=hE HOB.o;obtain⟨z0,z1,z2,z3,z4,z5,z6,z7⟩:=Tj.o.gq Tm.o kk;have y1:=(su.o.i.gq su.o.si kk).cells;have y2:=(Tf.o.gq Ti.o kk).cells;have y3:=(HP5.o.gq HPS.o kk).cells;clear kk;exact gF) ?_;refine kG (λW hE hN=>by have kk:=hE HOB.o;obtain⟨z0,z1,z2,z3,z4,z5,z6,z7⟩:=Tj.o.gq Tm.o kk;have y1:=(su.o.i.gq su.o.si kk).cells;have y2:=(Tf.o.gq Ti.o kk).cells;have y3:=(HP5.o.gq HPS.o kk).cells;clear kk;exact gF) ?_;refine kD ?_;refine kG (λW hE hN=>by have kk:=hE HOB.o;obtain⟨z0,z1,z2,z3,z4,z5,z6,z7⟩:=Tj.o.gq Tm.o kk;have y1:=(su.o.i.gq su.o.si kk).cells;have y2:=(Tf.o.gq Ti.o kk).cells;have y3:=(HP5.o.gq HPS.o kk).cells;clear kk;exact gF) ?_;iterate 3 refine kD ?_
        refine kG (λW hE hN=>by have kk:=hE HOB.o;obtain⟨z0,z1,z2,z3,z4,z5,z6,z7⟩:=Tj.o.gq Tm.o kk;have y1:=(su.o.i.gq su.o.si kk).cells;have y2:=(Tf.o.gq Ti.o kk).cells;have y3:=(HP5.o.gq HPS.o kk).cells;clear kk;exact gF) ?_;refine kD ?_;refine kG (λW hE hN=>by go_simp;refine⟨Below.refl _ _,?_⟩;first|rfl|(rw[hD1])) ?_
        refine aH dC rfl (VJ.o) (by rfl) (λW hE hN=>?_) (λu13=>?_)
        .go_simp;refine⟨Below.refl _ _,?_⟩;exact HT.o W hE
        simp only[Act.put,pB,pC,pD];refine aU λW6 hE6 hG6=>?_;have hu:=(show RR u13 W6/\True from hG6).1;rw[HRR.o]at hu;rcases hu with⟨rfl,hd⟩|⟨rfl,hd⟩
        .have HD:=Hd hd;clear hd hG6 hE6 hen;go_wp2_with fail;go_roundw
         case rel=>exact⟨k+1,HLT.o,by go_num,HD.o⟩
         case measure=>have:=HLT.o;simp[intOf];omega
        .have HD:=Hd hd;clear hd hG6 hE6 hen;go_wp2;go_ret;exact HD.o.after HK1.o
  .obtain rfl:k=kl:=oM;have g1:¬(k:Int)<(k:Int):=oM;have HD:=Hd (λ(Jx:List iP->World->Prop) (e:Ending) he=>jX.done (Jx:=Jx) (e:=e) hst (λz=>U1 (by rw[HOL.o];exact Nat.le_refl _)) he);clear hst hlt hk;go_wp2;go_ret;exact(HD.o _ _ rfl).after HK1.o
end Go.Proofs.YtenmnhnlcnmloaaGreat
