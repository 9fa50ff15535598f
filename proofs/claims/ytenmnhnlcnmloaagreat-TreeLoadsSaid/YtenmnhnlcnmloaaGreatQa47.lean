/- Part of a proof of a law of the layer of trees. -/
import Derived.Test.YtenmnhnlcnmloaaGreatQa30
import Derived.Test.YtenmnhnlcnmloaaGreatQa46
import Derived.Test.YtenmnhnlcnmloaaGreatQa40
import Derived.Test.YtenmnhnlcnmloaaGreatQa42
import Derived.RegionTactic
import Derived.BigRegion
import Derived.Test.YtenmnhnlcnmloaaGreatQa01
set_option linter.unusedVariables false
set_option linter.unusedSimpArgs false
set_option maxHeartbeats 8000000
set_option maxRecDepth 8000
namespace Go.Dav
open Go Go.RowKit
def Og(w:World)(T:List (Nat×UInt8))(e:Ending)(w':World):Prop:=
 (∃p nx,fH T=some (p,nx)/\∃a n c,e= .returned (.tuple #[.slice a n c, .int .i64 (nx:Int), .bool true])/\au w' (λb=>w.heap.size<=b) a n c p/\Below w.heap.size w w')\/
 (fH T=none/\e= .returned (.tuple #[.slice none 0 0, .int .i64 0, .bool false])/\Below w.heap.size w w')
def xU(w:World)(o:Option aT)(e:Ending)(w':World):Prop:=match o with
 |none=>e= .returned (.tuple #[.agg #[.bool false, .slice none 0 0, .slice none 0 0], .bool false])/\Below w.heap.size w w'
 |some N=>∃ia il ic ka kl kc,e= .returned (.tuple #[.agg #[.bool N.leaf, .slice ia il ic, .slice ka kl kc], .bool true])/\bM w' (λb=>w.heap.size<=b) ia il ic ka kl kc N/\Below w.heap.size w w'
theorem KJ{l:List UInt8}(h:l.length<2):kS l=none:=by
 match l,h with
 |[],_=>rfl
 |[_],_=>rfl
theorem LQ{W:World}{p:Nat}{a b c:Int}{t:TypeId}(h:Blk W p [.int .i64 a, .int .i64 b, .int .i64 c] t)(ha:eY a)(hb:eY b)(hc:eY c):∀i,i<3->∃x,W.cell? ⟨p,i,none⟩=some (.int .i64 x)/\eY x
 |0,_=>⟨a,h.cell 0 rfl,ha⟩
 |1,_=>⟨b,h.cell 1 rfl,hb⟩
 |2,_=>⟨c,h.cell 2 rfl,hc⟩
 |i+3,hi=>by omega
theorem dZ.Zt{W:World}{S T:Nat->Prop}{a:Option Addr}{n c:Nat}{l:List dS}(h:dZ W S a n c l)(hs:∀b,S b->T b):dZ W T a n c l:=h.mono hs
theorem xU.form{W w':World}{o:Option aT}{e:Ending}(h:xU W o e w'):∃(bs lf:Bool) (ja:Option Addr) (jl jc:Nat) (qa:Option Addr) (ql qc:Nat),e= .returned (.tuple #[.agg #[.bool lf, .slice ja jl jc, .slice qa ql qc], .bool bs])/\bs=o.isSome/\(∀N,o=some N->lf=N.leaf/\bM w' (λb=>W.heap.size<=b) ja jl jc qa ql qc N)/\Below W.heap.size W w':=by
 cases o with
 |none=>exact⟨false,false,none,0,0,none,0,0,h.1,rfl,λN hN=>(by cases hN),h.2⟩
 |some M=>
  obtain⟨ia,il,ic,ka,kl,kc,h1,h2,h3⟩:=h;exact⟨true,M.leaf,ia,il,ic,ka,kl,kc,h1,rfl,λN hN=>(by cases hN;exact⟨rfl,h2⟩),h3⟩
theorem wJ.form{W w':World}{o:Option aT}{e:Ending}(h:wJ W o e w'):∃(ev:Int) (lf:Bool) (ja:Option Addr) (jl jc:Nat) (qa:Option Addr) (ql qc:Nat),e= .returned (.tuple #[.agg #[.bool lf, .slice ja jl jc, .slice qa ql qc], .int .i64 ev])/\(∀N,o=some N->ev=0/\lf=N.leaf/\bM w' (λb=>W.heap.size<=b) ja jl jc qa ql qc N)/\(o=none->ev=260/\jl=0/\ql=0)/\Below W.heap.size W w':=by
 cases o with
 |none=>exact⟨260,false,none,0,0,none,0,0,h.1,λN hN=>(by cases hN),λ_=>⟨rfl,rfl,rfl⟩,h.2⟩
 |some M=>
  obtain⟨ia,il,ic,ka,kl,kc,h1,h2,h3⟩:=h;exact⟨0,M.leaf,ia,il,ic,ka,kl,kc,h1,λN hN=>(by cases hN;exact⟨rfl,rfl,h2⟩),λe=>(by cases e),h3⟩
end Go.Dav
namespace Go.Proofs.YtenmnhnlcnmloaaGreat
open Go.RowKit Go.Dav Go.Shelf
attribute [local go_sem] Gives ite_val ay Oper.semAt_some
set_option maxRecDepth 100000 in
theorem Je(a:Option Addr)(n c:Nat)(l:List UInt8)(at_:Int)(w:World)(hl:BytesAt w a n c l)(ha:eY at_)(hn:n<=524288):
  Calls Tryz.prog 61 #[.slice a n c, .int .i64 at_] w (Og w (dF l at_)):=by
 obtain⟨T,hT⟩:∃T,dF l at_=T:=⟨_,rfl⟩;have hP:=IC a n c l at_ w hl ha oM;have htl:T.length<=524288/\∀x∈T,x.1<=524288:=by
  have:=hl.hlen;rw[<- hT];exact⟨Nat.le_trans (J8 _ _) oM,λx hx=>Nat.le_trans (Nat.le_of_lt (Fg _ _ x hx)) oM⟩
 rw[hT]at hP⊢;have HTP:=Hd htl.2;have ac5:=htl.1;clear hl ha hn hT htl;go_enter Tryz.func61,Tryz.ntmps61;go_wp2_with fail;refine hP.mono ?_;rintro e w1 ⟨vb,vp,rfl,hob,hop,hb1⟩;obtain⟨ra,rc,rfl,hz1,hz2,hz3,hz4⟩:=bf hob;obtain⟨pa,pc,rfl,hp1,hp2,hp3,hp4⟩:=bf hop;have JK:=Hd hb1;clear hb1 hP;by_cases h7:T.length<7
 .have d1:(T.length:Int)<7:=oM;have HN:=Hd (Fe h7);clear h7 hob hop hz4 hp4;go_wp2;refine bodyPost_ret (v:= .tuple #[.slice none 0 0, .int .i64 0, .bool false]) (by simp[results,Tryz.results61,go_sem]) rfl (.inr ⟨HN.o,rfl,JK.o⟩)
 .have d1:¬(T.length:Int)<7:=oM;obtain⟨l1,hl1⟩:∃l1,bytesIn T=l1:=⟨_,rfl⟩;have hlen:l1.length=T.length:=by rw[<- hl1,J9]
  have hff:=@II T oM;have hfs:=@IG T;have hfc:=@J7 T;rw[hl1]at hob hz4 hff hfs hfc;obtain⟨x0,hx0⟩:∃x,l1[0]? =some x:=⟨_,List.getElem?_eq_getElem oM⟩;obtain⟨x1,hx1⟩:∃x,l1[1]? =some x:=⟨_,List.getElem?_eq_getElem oM⟩;have hsz:oO l1=x0.toNat*256+x1.toNat:=La hx0 hx1;obtain⟨g,go,e1,hg0,hg1,hc0⟩:=hz4.at_ 0 _ (oG hx0);subst e1;obtain⟨_,_,e2,_,_,hc1⟩:=hz4.at_ 1 _ (oG hx1);cases e2;rw[Nat.add_zero]at hc0;have hn0:=x0.toNat_lt;have hn1:=x1.toNat_lt;obtain⟨sz,XJ⟩:∃sz,oO l1=sz:=⟨_,rfl⟩;rw[XJ]at hsz hff hfs hfc;have es:(x0.toNat:Int)*256+(x1.toNat:Int)=(sz:Int):=oM;have ac6:sz<=65535:=oM;have e3:IntKind.i64.wrap ((x0.toNat:Int)*256)=(x0.toNat:Int)*256:=IntWalk.i64_in _ oM;have e4:IntKind.i64.wrap ((x0.toNat:Int)*256+(x1.toNat:Int))=(sz:Int):=by rw[es];exact IntWalk.i64_in _ oM
  have e5:IntKind.i64.wrap (6+(sz:Int))=6+(sz:Int):=IntWalk.i64_in _ oM;have e6:IntKind.i64.wrap (5+(sz:Int))=5+(sz:Int):=IntWalk.i64_in _ oM;have HZ4:=Hd hz4;have HOP:=Hd hop;have HP4:=Hd hp4;have HFF:=Hd hff;have HFS:=Hd hfs;have HFC:=Hd hfc;have HL1:=Hd hl1;have HLEN:=Hd hlen;have h7i:7<=T.length:=oM;clear h7 hob hop hz4 hp4 hff hfs hfc hx0 hx1 hl1 hlen hsz XJ hg1;go_wp2_with fail;go_quiet (fail);have hbd:=below_drewN (Below.refl w1.heap.size w1) nq;obtain⟨W2,hW2⟩:∃W2,w1.drewN nq=W2:=⟨_,rfl⟩;rw[hW2]at hbd⊢;have Zu:=Hd (HZ4.o.ext hbd);have aaI:=Hd (HP4.o.ext hbd);have Q5:=Hd (JK.o.trans (hbd.mono JK.o.size));clear hbd hW2 hc0 hc1 HZ4 HP4 JK d1;by_cases hm:1<=sz/\sz<=4096
  .by_cases hcut:T.length<6+sz
   .have f1:¬(sz:Int)<1:=oM;have f2:¬(4096:Int)<(sz:Int):=oM;have f3:(T.length:Int)<6+(sz:Int):=oM;have HN:=Hd (HFC.o hcut);clear hm hcut;go_wp2;refine bodyPost_ret (v:= .tuple #[.slice none 0 0, .int .i64 0, .bool false]) (by simp[results,Tryz.results61,go_sem]) rfl (.inr ⟨HN.o,rfl,Q5.o⟩)
   .have f1:¬(sz:Int)<1:=oM;have f2:¬(4096:Int)<(sz:Int):=oM;have f3:¬(T.length:Int)<6+(sz:Int):=oM;have f4:6+sz<=T.length:=oM;have f5:sz<=4096:=hm.2;obtain⟨hyes,hno⟩:=HFF.o hm f4;have hpart:=(Zu.o.part (lo:=6) (hi:=6+sz) oM f4);rw[EO,List.drop_take,show 6+sz-6=sz by omega]at hpart;have hpl:((l1.drop 6).take sz).length=sz:=by rw[List.length_take,List.length_drop];have:=HLEN.o;omega
    obtain⟨p,hp⟩:∃p,(l1.drop 6).take sz=p:=⟨_,rfl⟩;rw[hp]at hpart hyes hno hpl;have hB:=au.of_cells hpart (cap:=rc-6) oM oM oM (λe=>by cases e);have hA:=AQ (some ⟨g,go+6,none⟩) sz (rc-6) p W2 _ hB oM;obtain⟨r,hr⟩:∃r,outOf p=r:=⟨_,rfl⟩;have hrl:r.length=6+sz:=by rw[<- hr,wC,hpl]
    rw[hr]at hA hyes hno;have g1:(6:Int)<=6+(sz:Int):=oM;have g2:6+(sz:Int)<=(rc:Int):=oM;have g3:6+(sz:Int)<=(T.length:Int):=oM;have HB:=Hd hB;have HA:=Hd hA;have TL:=Hd hyes;have HNO:=Hd hno;have HRL:=Hd hrl;clear hm hcut hpart hp hpl hB hA hr hrl hyes hno;go_wp2_with fail;refine HA.o.mono ?_;rintro e w3 ⟨vr,rfl,hor,hb3⟩;obtain⟨rb,rrc,rfl,hr1,hr2,hr3,hr4⟩:=bf hor;obtain⟨y0,hy0⟩:∃x,r[0]? =some x:=⟨_,List.getElem?_eq_getElem (by have:=HRL.o;omega)⟩;obtain⟨rg,ro,e1,_⟩:=hr4.at_ 0 _ (oG hy0);subst e1;have HR3:=Hd hr4;have ace:=Hd (Zu.o.ext hb3);have acf:=Hd (aaI.o.ext hb3);have HB3:=Hd (HB.o.ext hb3);have VA:=Hd (Q5.o.trans (hb3.mono Q5.o.size));clear hor hr4 hb3 hy0 Zu aaI HB Q5 HA;go_wp2_with fail;go_loopg [12] (6+sz) (λg2 ix wr=>∃i:Nat,i<=6+sz/\g2=6+sz-i/\ix= .int .i64 (i:Int)/\(∀j,j<i->r[j]? =l1[j]?)/\Below w3.heap.size w3 wr)
    case atStart=>exact⟨0,oM,rfl,by go_num,λj hj=>absurd hj (Nat.not_lt_zero _),Below.refl _ _⟩
    case round=>
     obtain⟨i,hi,rfl,rfl,hsame,hbl⟩:=hrel;have HBL:=Hd hbl;have Oh:=Hd hsame;clear hsame hbl;by_cases hin:i<6+sz
     .have g4:(i:Int)<6+(sz:Int):=oM;have g5:i<T.length:=oM;obtain⟨x,hx⟩:∃x,r[i]? =some x:=⟨_,List.getElem?_eq_getElem (by have:=HRL.o;omega)⟩;obtain⟨y,hy⟩:∃y,l1[i]? =some y:=⟨_,List.getElem?_eq_getElem (by have:=HLEN.o;omega)⟩;obtain⟨_,_,e5,hb5,_,aaJ⟩:=HR3.o.at_ i _ (oG hx);cases e5;obtain⟨_,_,e5,hb6,_,aaK⟩:=ace.o.at_ i _ (oG hy);cases e5;have hcx:=(HBL.o.cell (p:=⟨rg,ro+i,none⟩) hb5).trans aaJ;have hcy:=(HBL.o.cell (p:=⟨g,go+i,none⟩) hb6).trans aaK;have HX:=Hd hx;have HY:=Hd hy;clear aaJ aaK hb5 hb6 hx hy;go_wp2_with fail;go_quiet (fail);have hbd:=below_drewN (Below.refl wr.heap.size wr) nq;obtain⟨W2,hW2⟩:∃W2,wr.drewN nq=W2:=⟨_,rfl⟩;rw[hW2]at hbd⊢;have Xy:=Hd (HBL.o.trans (hbd.mono HBL.o.size));clear hbd hW2 hcx hcy HBL;by_cases hxy:x=y
      .subst hxy;go_wp2_with fail;go_roundg (6+sz-(i+1))
       case measure=>omega
       case rel=>
        refine⟨i+1,hin,rfl,by go_num,λj hj=>?_,Xy.o⟩;by_cases hji:j=i
        .subst hji;rw[HX.o,HY.o]
        .exact Oh.o j oM
      .have hne:((x.toNat:Int) !=(y.toNat:Int))=true:=by
        rw[bne_iff_ne];intro e;exact hxy (UInt8.toNat_inj.1 (by exact_mod_cast e))
       have HN:=Hd (HNO.o (λe=>hxy (Option.some.inj (by
        rw[<- HX.o,e,List.getElem?_take,if_pos hin];exact HY.o))))
       clear hxy;go_wp2_with fail;refine bodyPost_ret (v:= .tuple #[.slice none 0 0, .int .i64 0, .bool false]) (by simp[results,Tryz.results61,go_sem]) rfl (.inr ⟨HN.o,rfl,VA.o.trans (Xy.o.mono VA.o.size)⟩)
     .obtain rfl:i=6+sz:=oM;have g4:¬((6+sz:Nat):Int)<6+(sz:Int):=oM;have HN:=Hd (TL.o (List.ext_getElem? λj=>by
       by_cases hj:j<6+sz
       .rw[Oh.o j hj,List.getElem?_take,if_pos hj]
       .rw[List.getElem?_eq_none (by have:=HRL.o;omega),List.getElem?_eq_none (by rw[List.length_take];omega)]))
      obtain⟨t,ht⟩:∃t,T[5+sz]? =some t:=⟨_,List.getElem?_eq_getElem oM⟩;obtain⟨pg,po,e5,hb5,_,aaL⟩:=acf.o.at_ (5+sz) (.int .i64 (t.1:Int)) (by simp[intsOf,ht]);subst e5;have hct:=(HBL.o.cell (p:=⟨pg,po+(5+sz),none⟩) hb5).trans aaL;have acg:wr.cell? ⟨pg,po+5+sz,none⟩=some (.int .i64 (t.1:Int)):=by rw[Nat.add_assoc];exact hct
      have g5:5+sz<T.length:=oM;have g6:t.1<=524288:=HTP.o t (List.mem_of_getElem? ht);have g7:IntKind.i64.wrap ((t.1:Int)+1)=((t.1+1:Nat):Int):=by rw[Int.natCast_add];exact IntWalk.i64_in _ oM
      have g8:(5:Int)+(sz:Int)<(T.length:Int):=oM;have HT5:=Hd ht;clear aaL hb5 ht hin;go_wp2_with fail;go_quiet (fail);have hbd:=below_drewN (Below.refl wr.heap.size wr) nq;obtain⟨W2,hW2⟩:∃W2,wr.drewN nq=W2:=⟨_,rfl⟩;rw[hW2]at hbd⊢;have Xy:=Hd (HBL.o.trans (hbd.mono HBL.o.size));clear hbd hW2 hct acg HBL;go_wp2_with fail;refine bodyPost_ret (v:= .tuple #[.slice (some ⟨g,go+6,none⟩) sz (rc-6), .int .i64 ((t.1+1:Nat):Int), .bool true]) (by simp[results,Tryz.results61,go_sem]) rfl (.inl ⟨_,_,HN.o,_,_,_,by rw[HT5.o];rfl,(HB3.o.ext Xy.o).mono (λb h=>h),VA.o.trans (Xy.o.mono VA.o.size)⟩)
  .have HN:=Hd (HFS.o hm);by_cases h1:sz<1
   .have f1:(sz:Int)<1:=oM;clear hm h1;go_wp2;refine bodyPost_ret (v:= .tuple #[.slice none 0 0, .int .i64 0, .bool false]) (by simp[results,Tryz.results61,go_sem]) rfl (.inr ⟨HN.o,rfl,Q5.o⟩)
   .have f1:¬(sz:Int)<1:=oM;have f2:(4096:Int)<(sz:Int):=oM;clear hm h1;go_wp2;refine bodyPost_ret (v:= .tuple #[.slice none 0 0, .int .i64 0, .bool false]) (by simp[results,Tryz.results61,go_sem]) rfl (.inr ⟨HN.o,rfl,Q5.o⟩)
end Go.Proofs.YtenmnhnlcnmloaaGreat
namespace Go.Proofs.YtenmnhnlcnmloaaGreat
open Go.RowKit Go.Dav
attribute [local go_sem] Gives ite_val ay
theorem KL(S:Nat->Prop)(a:Option Addr)(n c:Nat)(l:List UInt8)(w:World)(hB:au w S a n c l)(hf:iH a)(hS:∀b,S b->b<w.heap.size):
  Calls Tryz.prog 62 #[.slice a n c] w (KG S w (kS l)):=by
 have hl:=hB.at_.hlen;by_cases h2:l.length<2
 .rw[KJ h2];exact yY a n c w oM
 .match l,h2 with
  |f::m::r,_=>
   by_cases hm:m.toNat<=6
   .by_cases hf1:f.toNat=1
    .exact BH S a n c f m r w hB hf hS hf1 hm
    .exact yZ S a n c f m r w hB hf hS hf1 hm
   .have e:kS (f::m::r)=none:=by unfold kS;rw[rO,if_neg hm]
    rw[e];exact CV S a n c f m r w hB hm
  |[],h=>exact absurd (by simp) h
  |[_],h=>exact absurd (by simp) h
theorem Em(a:Option Addr)(n c:Nat)(l:List UInt8)(at_ depth:Int)(w:World)(hl:BytesAt w a n c l)(ha:eY at_)(hn:n<=524288):
  Calls Tryz.prog 26 #[.slice a n c, .int .i64 at_, .int .i64 depth] w (xU w (jo l at_ depth)):=by
 have hb0:Below w.heap.size w (w.alloc (.cells #[.bool false, .slice none 0 0, .slice none 0 0] 67)):=bW;have HG:=Hd (Je a n c l at_ _ (hl.ext hb0) ha hn);have HB0:=Hd hb0;have HQ0:=Hd (Blk.new w [.bool false, .slice none 0 0, .slice none 0 0] 67);clear hb0 hl ha hn;go_enter Tryz.func26,Tryz.ntmps26;go_wp2_with fail;refine HG.o.mono ?_;rintro e w1 h1;rcases h1 with⟨p,nx,hf,pa,pn,pc,rfl,hB,hb1⟩|⟨hf,rfl,hb1⟩
 .have hpl:=AZ hB.at_ (AY hf);have HD:=Hd (KL _ pa pn pc p w1 hB.bound hpl (λb h=>h.2));have HL:=Hd (show jo l at_ depth=match kS p with|none=>none|some N=>if 0<=depth/\N.leaf=decide (depth=0)then some N else none by unfold jo;rw[hf];rfl)
  have B1:=Hd (HB0.o.trans (hb1.mono HB0.o.size));have hq1:=HQ0.o.ext hb1;have hs1:=hb1.size;simp only[World.size_alloc]at hs1;have HS1:=Hd hs1;have HN1:=Hd hq1;clear hb1 hB hf HQ0 HB0 HG hs1 hpl hq1;go_wp2_with fail;cases hrd:kS p with
  |none=>
   have HDN:=HD.o;rw[hrd]at HDN;refine HDN.mono ?_;rintro e w2 ⟨rfl,hb2⟩;have B2:=Hd (B1.o.trans (hb2.mono B1.o.size));have HLN:=Hd (show jo l at_ depth=none by rw[HL.o,hrd]);have hb3:Below w2.heap.size w2 (w2.alloc (.cells #[.bool false, .slice none 0 0, .slice none 0 0] 67)):=bW;have BX:=Hd (B2.o.trans (hb3.mono B2.o.size));have hq1:=(HN1.o.ext hb2).ext hb3;clear hb2 hb3 HD HDN hrd;have q1:=hq1.cells;have m1:=hq1.marks;have l1:=hq1.lt;have Q1:=Hd hq1;clear hq1;go_wp2;have c4:=(((Q1.o.set 0 (.bool false)).set 1 (.slice none 0 0)).set 2 (.slice none 0 0)).cells;have ho:=(((aA.refl (· =w.heap.size) (w2.alloc (.cells #[.bool false, .slice none 0 0, .slice none 0 0] 67))).set w.heap.size 0 (.bool false) rfl).set w.heap.size 1 (.slice none 0 0) rfl).set w.heap.size 2 (.slice none 0 0) rfl;refine bodyPost_ret (v:= .tuple #[.agg #[.bool false, .slice none 0 0, .slice none 0 0], .bool false]) (by simp[results,Tryz.results26,go_sem,c4]) rfl ?_;rw[HLN.o];exact⟨rfl,BX.o.trans (ho.below BX.o.size (λk e=>oM))⟩
  |some N=>
   have HDN:=HD.o;rw[hrd]at HDN;refine HDN.mono ?_;rintro e w2 ⟨ia,il,ic,ka,kl,kc,rfl,hN,hb2⟩;have B2:=Hd (B1.o.trans (hb2.mono B1.o.size));have hq2:=HN1.o.ext hb2;obtain⟨lf,hlf⟩:∃lf,N.leaf=lf:=⟨_,rfl⟩;obtain⟨dz,hdz⟩:∃dz,(depth==0)=dz:=⟨_,rfl⟩;rw[hlf];have hb3:Below w2.heap.size w2 (w2.alloc (.cells #[.bool lf, .slice ia il ic, .slice ka kl kc] 67)):=bW;have BX:=Hd (B2.o.trans (hb3.mono B2.o.size));have hq1:=hq2.ext hb3;have HNS:=Hd ((hN.ext hb3).mono λb h=>show w.heap.size+1<=b by
    have h1:=HS1.o;rcases h with h|h
    .have h2:=h.1;simp only[World.size_alloc]at h2;omega
    .omega)
   have HLF:=Hd hlf;have hl2:jo l at_ depth=if 0<=depth/\lf=decide (depth=0)then some N else none:=by rw[HL.o,hrd,<- hlf]
   have HL2:=Hd hl2;have hdd:decide (depth=0)=dz:=by rw[<- hdz];rfl
   have HDD:=Hd hdd;clear hq2 hb2 hN hlf hb3 HD HDN hl2 hdd hrd;by_cases hd0:depth<0
   .have hdec:decide (depth<0)=true:=decide_eq_true hd0;have HLN:=Hd (Au (all:=l) (at_:=at_) hd0);have q1:=hq1.cells;have m1:=hq1.marks;have l1:=hq1.lt;have Q1:=Hd hq1;clear hq1;go_wp2;have c4:=(((Q1.o.set 0 (.bool false)).set 1 (.slice none 0 0)).set 2 (.slice none 0 0)).cells;have ho:=(((aA.refl (· =w.heap.size) (w2.alloc (.cells #[.bool lf, .slice ia il ic, .slice ka kl kc] 67))).set w.heap.size 0 (.bool false) rfl).set w.heap.size 1 (.slice none 0 0) rfl).set w.heap.size 2 (.slice none 0 0) rfl;refine bodyPost_ret (v:= .tuple #[.agg #[.bool false, .slice none 0 0, .slice none 0 0], .bool false]) (by simp[results,Tryz.results26,go_sem,c4]) rfl ?_;rw[HLN.o];exact⟨rfl,BX.o.trans (ho.below BX.o.size (λk e=>oM))⟩
   .have hdec:decide (depth<0)=false:=decide_eq_false hd0;by_cases heq:lf=dz
    .subst heq;have HLS:=Hd (show jo l at_ depth=some N by rw[HL2.o,HDD.o,if_pos ⟨oM,rfl⟩]);have q1:=hq1.cells;have m1:=hq1.marks;have l1:=hq1.lt;have Q1:=Hd hq1;clear hq1;cases lf
     .clear HN1;go_wp2;have c4:=(((Q1.o.set 0 (.bool false)).set 1 (.slice ia il ic)).set 2 (.slice ka kl kc)).cells;have ho:=(((aA.refl (· =w.heap.size) (w2.alloc (.cells #[.bool false, .slice ia il ic, .slice ka kl kc] 67))).set w.heap.size 0 (.bool false) rfl).set w.heap.size 1 (.slice ia il ic) rfl).set w.heap.size 2 (.slice ka kl kc) rfl;refine bodyPost_ret (v:= .tuple #[.agg #[.bool false, .slice ia il ic, .slice ka kl kc], .bool true]) (by simp[results,Tryz.results26,go_sem,c4]) rfl ?_;rw[HLS.o];refine⟨ia,il,ic,ka,kl,kc,by rw[HLF.o],(HNS.o.same ho.size λb hb hl=>ho.block b hl oM).mono λb hb=>oM,BX.o.trans (ho.below BX.o.size (λk e=>oM))⟩
     .clear HN1;go_wp2;have c4:=(((Q1.o.set 0 (.bool true)).set 1 (.slice ia il ic)).set 2 (.slice ka kl kc)).cells;have ho:=(((aA.refl (· =w.heap.size) (w2.alloc (.cells #[.bool true, .slice ia il ic, .slice ka kl kc] 67))).set w.heap.size 0 (.bool true) rfl).set w.heap.size 1 (.slice ia il ic) rfl).set w.heap.size 2 (.slice ka kl kc) rfl;refine bodyPost_ret (v:= .tuple #[.agg #[.bool true, .slice ia il ic, .slice ka kl kc], .bool true]) (by simp[results,Tryz.results26,go_sem,c4]) rfl ?_;rw[HLS.o];refine⟨ia,il,ic,ka,kl,kc,by rw[HLF.o],(HNS.o.same ho.size λb hb hl=>ho.block b hl oM).mono λb hb=>oM,BX.o.trans (ho.below BX.o.size (λk e=>oM))⟩
    .have HLN:=Hd (show jo l at_ depth=none by rw[HL2.o,HDD.o,if_neg (λh=>heq h.2)]);cases lf<;>cases dz
     .exact(heq rfl).elim
     .clear HN1;have q1:=hq1.cells;have m1:=hq1.marks;have l1:=hq1.lt;have Q1:=Hd hq1;clear hq1;go_wp2;have c4:=(((Q1.o.set 0 (.bool false)).set 1 (.slice none 0 0)).set 2 (.slice none 0 0)).cells;have ho:=(((aA.refl (· =w.heap.size) (w2.alloc (.cells #[.bool false, .slice ia il ic, .slice ka kl kc] 67))).set w.heap.size 0 (.bool false) rfl).set w.heap.size 1 (.slice none 0 0) rfl).set w.heap.size 2 (.slice none 0 0) rfl;refine bodyPost_ret (v:= .tuple #[.agg #[.bool false, .slice none 0 0, .slice none 0 0], .bool false]) (by simp[results,Tryz.results26,go_sem,c4]) rfl ?_;rw[HLN.o];exact⟨rfl,BX.o.trans (ho.below BX.o.size (λk e=>oM))⟩
     .clear HN1;have q1:=hq1.cells;have m1:=hq1.marks;have l1:=hq1.lt;have Q1:=Hd hq1;clear hq1;go_wp2;have c4:=(((Q1.o.set 0 (.bool false)).set 1 (.slice none 0 0)).set 2 (.slice none 0 0)).cells;have ho:=(((aA.refl (· =w.heap.size) (w2.alloc (.cells #[.bool true, .slice ia il ic, .slice ka kl kc] 67))).set w.heap.size 0 (.bool false) rfl).set w.heap.size 1 (.slice none 0 0) rfl).set w.heap.size 2 (.slice none 0 0) rfl;refine bodyPost_ret (v:= .tuple #[.agg #[.bool false, .slice none 0 0, .slice none 0 0], .bool false]) (by simp[results,Tryz.results26,go_sem,c4]) rfl ?_;rw[HLN.o];exact⟨rfl,BX.o.trans (ho.below BX.o.size (λk e=>oM))⟩
     .exact(heq rfl).elim
 .have HLN:=Hd (show jo l at_ depth=none by unfold jo;rw[hf]);have BX:=Hd (HB0.o.trans (hb1.mono HB0.o.size));have hq1:=HQ0.o.ext hb1;clear hb1 hf;have q1:=hq1.cells;have m1:=hq1.marks;have l1:=hq1.lt;have Q1:=Hd hq1;clear hq1;go_wp2;have c4:=(((Q1.o.set 0 (.bool false)).set 1 (.slice none 0 0)).set 2 (.slice none 0 0)).cells;have ho:=(((aA.refl (· =w.heap.size) w1).set w.heap.size 0 (.bool false) rfl).set w.heap.size 1 (.slice none 0 0) rfl).set w.heap.size 2 (.slice none 0 0) rfl;refine bodyPost_ret (v:= .tuple #[.agg #[.bool false, .slice none 0 0, .slice none 0 0], .bool false]) (by simp[results,Tryz.results26,go_sem,c4]) rfl ?_;rw[HLN.o];exact⟨rfl,BX.o.trans (ho.below BX.o.size (λk e=>oM))⟩
end Go.Proofs.YtenmnhnlcnmloaaGreat
namespace Go.Proofs.YtenmnhnlcnmloaaGreat
open Go.RowKit Go.Dav
attribute [local go_sem] Gives dG ite_val ay
theorem CW(b:pY)(at_ depth:Int)(aa ia na:Option Addr)(an ac il ic fn fnc:Nat)(w:World)(hB:Bo w (λx=>x<w.heap.size) aa an ac ia il ic na fn fnc b)(hat:eY at_)(hde:eY depth):
  Calls Tryz.prog 5 #[.agg #[.slice aa an ac, .slice ia il ic, .slice na fn fnc, .int .i64 b.hu.kind, .int .i64 b.hu.node], .int .i64 at_, .int .i64 depth] w λe w'=>e= .returned (.bool true)/\Below w.heap.size w w':=by
 have hin:∀x∈b.items,eY x.n:=λx hx=>by obtain⟨k,hk,rfl⟩:=List.getElem_of_mem hx;exact(hB.items.hat k _ (List.getElem?_eq_getElem hk)).choose_spec.choose_spec.choose_spec.choose_spec.choose_spec.choose_spec.choose_spec.choose_spec.2.2.2.2.2.2.2.2.2
 have hmk:=Vj b hin;obtain⟨⟨F,t⟩,hr⟩:∃r,qW b=r:=⟨_,rfl⟩;rw[hr]at hmk;dsimp only at hmk;have HMK:=Hd hmk;have b0:Below w.heap.size w (w.alloc (.cells #[.slice aa an ac, .slice ia il ic, .slice na fn fnc, .int .i64 b.hu.kind, .int .i64 b.hu.node] 55)):=bW;have HB0:=Hd b0;have HBS:=Hd (hB.ext b0);have nS:=Hd (λ(W:World) (hE:Below (w.alloc (.cells #[.slice aa an ac, .slice ia il ic, .slice na fn fnc, .int .i64 b.hu.kind, .int .i64 b.hu.node] 55)).heap.size (w.alloc (.cells #[.slice aa an ac, .slice ia il ic, .slice na fn fnc, .int .i64 b.hu.kind, .int .i64 b.hu.node] 55)) W)=>by have q:=I7 b aa ia na an ac il ic fn fnc W _ (HBS.o.ext hE) (λx hx=>Nat.lt_of_lt_of_le hx (HB0.o.trans (hE.mono HB0.o.size)).size);unfold Bv at q;rw[hr]at q;exact q);have HWK:=Hd (Ja (w.alloc (.cells #[.slice aa an ac, .slice ia il ic, .slice na fn fnc, .int .i64 b.hu.kind, .int .i64 b.hu.node] 55)));have HQ:=Hd (Blk.new w [.slice aa an ac, .slice ia il ic, .slice na fn fnc, .int .i64 b.hu.kind, .int .i64 b.hu.node] 55);have HAD:=Hd (And.intro hat hde);clear hB hin hmk b0 hr hat hde;go_enter Tryz.func5,Tryz.ntmps5;go_wp2_with fail;refine HWK.o.mono ?_;rintro e w1 ⟨rfl,hb1⟩;have HB1:=Hd hb1;have q1:=(HQ.o.ext hb1).cells;have q1l:=(HQ.o.ext hb1).lt;clear hb1 HWK;go_wp2_with fail;refine(nS.o w1 HB1.o).mono ?_;rintro e w2 ⟨fa,fl,fc,la,ll,lc,ra,rn,rc,rfl,hF,hR,hb2⟩;have HF2:=Hd (hF.wL);have B2:=Hd ((HB0.o.trans (HB1.o.mono HB0.o.size)).trans (hb2.mono (Nat.le_trans HB0.o.size HB1.o.size)));clear hF hR hb2 nS q1 q1l HBS HQ;rw[show(fU t).toArray= #[.int .i64 t.at_, .int .i64 t.depth, .int .i64 t.red.c, .int .i64 t.red.n, .int .i64 (hi t.red.s), .int .u64 (lo t.red.s), .int .i64 t.red.l, .int .i64 t.red.m]from rfl];dsimp only;go_upto_region 4 with fail;obtain⟨W3,hW3⟩:∃X,(w2.alloc (.cells #[.slice fa fl fc, .slice la ll lc, .int .i64 F.fuse, .int .i64 F.fault, .bool F.off] 32)).alloc (.cells #[.int .i64 t.at_, .int .i64 t.depth, .int .i64 t.red.c, .int .i64 t.red.n, .int .i64 (hi t.red.s), .int .u64 (lo t.red.s), .int .i64 t.red.l, .int .i64 t.red.m] 37)=X:=⟨_,rfl⟩;have hb3:Below w2.heap.size w2 W3:=by rw[<- hW3];exact bW
 have HQF:=Hd (show Blk W3 w2.heap.size [.slice fa fl fc, .slice la ll lc, .int .i64 F.fuse, .int .i64 F.fault, .bool F.off] 32 by rw[<- hW3];exact(Blk.new _ _ _).alloc _);have hqt:Blk W3 (w2.heap.size+1) [.int .i64 t.at_, .int .i64 t.depth, .int .i64 t.red.c, .int .i64 t.red.n, .int .i64 (hi t.red.s), .int .u64 (lo t.red.s), .int .i64 t.red.l, .int .i64 t.red.m] 37:=by rw[<- hW3];exact Blk.new' _ _ _ (by simp)
 have HQT:=Hd hqt;rw[hW3];have HF3:=Hd (HF2.o.ext hb3);have B3:=Hd (B2.o.trans (hb3.mono B2.o.size));have HS3:=Hd hb3.size;obtain⟨r3,hr3⟩:∃z,at_.tmod 300=z:=⟨_,rfl⟩;have h3a:=Int.tmod_lt_of_pos at_ (show(0:Int)<300 by omega);have h3b:=Int.lt_tmod_of_pos at_ (show(0:Int)<300 by omega);rw[hr3]at h3a h3b;have mk:=HMK.o;have hwp:IntKind.i64.wrap (t.at_-r3)=t.at_-r3:=IntWalk.i64_in _ oM;have HPL:=Hd (show eY at_/\eY t.at_/\eY (t.at_-r3)/\eY (t.depth-1)/\eY t.depth by refine⟨HAD.o.1,?_,?_,?_,?_⟩<;>(unfold eY;omega));have hwd:IntKind.i64.wrap (t.depth-1)=t.depth-1:=IntWalk.i64_in _ oM;have HWD:=Hd hwd;have t1:=hqt.cells;have t1l:=hqt.lt;clear hW3 hb3 hqt HF2 B2 mk h3a h3b hwd;go_wp2_with fail;obtain⟨W4,hW4⟩:∃X,W3.alloc (.cells #[.int .i64 at_, .int .i64 t.at_, .int .i64 (t.at_-r3)] 3)=X:=⟨_,rfl⟩;have hb4:Below W3.heap.size W3 W4:=by rw[<- hW4];exact(Below.refl _ _).alloc (Nat.le_refl _) _
 have HQP:=Hd (show Blk W4 W3.heap.size [.int .i64 at_, .int .i64 t.at_, .int .i64 (t.at_-r3)] 3 by rw[<- hW4];exact Blk.new _ _ _);rw[hW4];have E4:=Hd hb4;clear hW4 hb4 t1 t1l hwp hr3;go_loopw [36] (λiv wr=>∃i:Nat,iv= .int .i64 (i:Int)/\i<=3/\Below W4.heap.size W4 wr) (λiv _=>3-(intOf iv).toNat)
 case atStart=>exact⟨0,rfl,oM,Below.refl _ _⟩
 case round=>
  obtain⟨i,rfl,hi,hbel⟩:=hrel;rename World=>w5
  by_cases hlt:i<3
  .obtain⟨pl,hpl,aaM⟩:=LQ HQP.o HPL.o.1 HPL.o.2.1 HPL.o.2.2.1 i hlt;have ach:=(hbel.cell (p:=⟨W3.heap.size,i,none⟩) HQP.o.lt).trans hpl;have aci:=Nat.lt_of_lt_of_le HQP.o.lt hbel.size;have E5:=Hd (E4.o.trans (hbel.mono E4.o.size));have HB5:=Hd hbel;have Zv:=Hd aaM;have X3:(i:Int)<3:=oM;have hi0:¬(i:Int)<0:=oM;have t1:=(HQT.o.ext E5.o).cells;have t1l:=(HQT.o.ext E5.o).lt;have hwd:=HWD.o;clear hpl aaM hbel;go_wp2_with fail;obtain⟨W6,hW6⟩:∃X,w5.alloc (.cells #[.int .i64 depth, .int .i64 t.depth, .int .i64 (t.depth-1)] 3)=X:=⟨_,rfl⟩;have hb6:Below w5.heap.size w5 W6:=by rw[<- hW6];exact(Below.refl _ _).alloc (Nat.le_refl _) _
   have HQL:=Hd (show Blk W6 w5.heap.size [.int .i64 depth, .int .i64 t.depth, .int .i64 (t.depth-1)] 3 by rw[<- hW6];exact Blk.new _ _ _);rw[hW6];have E6:=Hd (E5.o.trans (hb6.mono E5.o.size));have HB6:=Hd (HB5.o.trans (hb6.mono HB5.o.size));clear hW6 hb6 t1 t1l hwd ach aci HB5;go_loopw [48] (λjv wr=>∃j:Nat,jv= .int .i64 (j:Int)/\j<=3/\Below W6.heap.size W6 wr) (λjv _=>3-(intOf jv).toNat)
   case atStart=>exact⟨0,rfl,oM,Below.refl _ _⟩
   case round=>
    obtain⟨j,rfl,hj,hbel⟩:=hrel;rename World=>w7
    by_cases hjlt:j<3
    .obtain⟨lv,hlv,aaN⟩:=LQ HQL.o HAD.o.2 HPL.o.2.2.2.2 HPL.o.2.2.2.1 j hjlt;have ac7:=True.intro;have hjI:(j:Int)<3:=oM;have hj0:¬(j:Int)<0:=oM;have acj:=(hbel.cell (p:=⟨w5.heap.size,j,none⟩) HQL.o.lt).trans hlv;have acn:=Nat.lt_of_lt_of_le HQL.o.lt hbel.size;have HB7:=Hd hbel;have E7:=Hd (E6.o.trans (hbel.mono E6.o.size));obtain⟨o,ho⟩:∃o,jo F.all pl lv=o:=⟨_,rfl⟩;have HO:=Hd ho;have Xz:=Hd (show ∀W:World,Below W3.heap.size W3 W->Calls Tryz.prog 25 #[.agg #[.slice fa fl fc, .slice la ll lc, .int .i64 F.fuse, .int .i64 F.fault, .bool F.off], .int .i64 pl, .int .i64 lv] W (wJ W o)from λW hE=>by
      rw[<- HO.o];have hx:∀x,(Or (λx=>x<w.heap.size) w1 x/\x<w2.heap.size)->x<W.heap.size:=λx h=>Nat.lt_of_lt_of_le h.2 (Nat.le_trans HS3.o hE.size);have p1:=(HF3.o.ext hE).mono hx;have p2:=HMK.o.1;have p3:=Zv.o;have p4:=tJ F fa la fl fc ll lc pl lv W _ p1;have p5:=p4 (λx h=>h);exact p5 p2 p3)
     have tf:=(HQF.o.ext E7.o).cells;have tfl:=(HQF.o.ext E7.o).lt;have ac8:=Hd aaN;have HJ:=Hd hjlt;clear hbel hlv aaN ho hjlt hj;go_wp2_with fail;refine(Xz.o w7 E7.o).mono ?_;rintro e w8 hg;obtain⟨ev,lf,ja,jl,jc,qa,ql,qc,rfl,hN,hZ,hb8⟩:=hg.form;have HN8:=Hd (λN h=>(show ev=0/\lf=N.leaf/\bM w8 (λb=>b<w8.heap.size) ja jl jc qa ql qc N from⟨(hN N h).1,(hN N h).2.1,(hN N h).2.2.items.bound.mono (λb h=>h.2),(hN N h).2.2.kids.wL.Zt (λb h=>h.2)⟩));have HZ:=Hd hZ;have HB8:=Hd (HB7.o.trans (hb8.mono HB7.o.size));have E8:=Hd (E7.o.trans (hb8.mono E7.o.size));clear hg hN hZ hb8 tf tfl acj acn Xz HB7;go_upto_region 11 with fail;obtain⟨w9,hW⟩:∃X,w8.alloc (.cells ([.bool lf, .slice ja jl jc, .slice qa ql qc]:List Value).toArray 67)=X:=⟨_,rfl⟩;have hb4:Below w8.heap.size w8 w9:=by rw[<- hW];exact(Below.refl _ _).alloc (Nat.le_refl _) _
     have E9:=Hd (E8.o.trans (hb4.mono E8.o.size));have HB9:=Hd (HB8.o.trans (hb4.mono HB8.o.size));have HQ9:=Hd (show Blk w9 w8.heap.size [.bool lf, .slice ja jl jc, .slice qa ql qc] 67 by rw[<- hW];exact Blk.new _ _ _);have tf:=(HQF.o.ext E9.o).cells;have tfl:=(HQF.o.ext E9.o).lt;rw[hW];have HN9:=Hd (λN hN=>(show ev=0/\lf=N.leaf/\bM w9 (λb=>b<w8.heap.size) ja jl jc qa ql qc N from⟨(HN8.o N hN).1,(HN8.o N hN).2.1,(HN8.o N hN).2.2.items.ext1 hb4,(HN8.o N hN).2.2.kids.ext1 hb4⟩));clear hW hb4 HN8 HB8;have hff:=(HF3.o.ext E9.o).jH.at_;obtain⟨o2,ho2⟩:∃o,jo F.jH pl lv=o:=⟨_,rfl⟩;have HO2:=Hd ho2;have HML:=Hd (show F.all.length<=524288 by rw[F.gu];exact(aB.cZ.1 HMK.o.1).2.2.2.2);have XA:=Hd (by have q:=Em fa fl fc F.jH pl lv w9 hff Zv.o (by have h1:=HML.o;have h2:=hff.hlen;unfold aB.all at h1;rw[List.length_append]at h1;omega);rw[ho2]at q;exact q);clear hff ho2;go_wp2_with fail;refine XA.o.mono ?_;rintro e w10 hg;obtain⟨bs,lf2,ja2,jl2,jc2,qa2,ql2,qc2,rfl,hbs,hN,hb8⟩:=hg.form;have aaO:=Hd hbs;clear hbs;have TM:=Hd hN;have X8:=Hd (HB9.o.trans (hb8.mono HB9.o.size));have E10:=Hd (E9.o.trans (hb8.mono E9.o.size));have Zw:=Hd (HQ9.o.ext hb8);have Us:=Hd (λN hN=>(show ev=0/\lf=N.leaf/\bM w10 (λb=>b<w8.heap.size) ja jl jc qa ql qc N from⟨(HN9.o N hN).1,(HN9.o N hN).2.1,(HN9.o N hN).2.2.items.ext1 hb8,(HN9.o N hN).2.2.kids.ext1 hb8⟩));clear hg hN hb8 tf tfl XA HB9 HQ9 HN9;go_upto_region 12 with fail;obtain⟨w11,hW⟩:∃X,w10.alloc (.cells ([.bool lf2, .slice ja2 jl2 jc2, .slice qa2 ql2 qc2]:List Value).toArray 67)=X:=⟨_,rfl⟩;have hb4:Below w10.heap.size w10 w11:=by rw[<- hW];exact(Below.refl _ _).alloc (Nat.le_refl _) _
     have E11:=Hd (E10.o.trans (hb4.mono E10.o.size));have XB:=Hd (X8.o.trans (hb4.mono X8.o.size));have Uu:=Hd (show Blk w11 w10.heap.size [.bool lf2, .slice ja2 jl2 jc2, .slice qa2 ql2 qc2] 67 by rw[<- hW];exact Blk.new _ _ _);have tf:=(HQF.o.ext E11.o).cells;have tfl:=(HQF.o.ext E11.o).lt;rw[hW];have Q8:=Hd (Zw.o.ext hb4);have Ri:=Hd (λN hN=>(show ev=0/\lf=N.leaf/\bM w11 (λb=>b<w8.heap.size) ja jl jc qa ql qc N from⟨(Us.o N hN).1,(Us.o N hN).2.1,(Us.o N hN).2.2.items.ext1 hb4,(Us.o N hN).2.2.kids.ext1 hb4⟩));have aaP:=Hd (λN hN=>(show lf2=N.leaf/\bM w11 (λb=>w9.heap.size<=b) ja2 jl2 jc2 qa2 ql2 qc2 N from⟨(TM.o N hN).1,(TM.o N hN).2.items.ext1 hb4,(TM.o N hN).2.kids.ext1 hb4⟩));have Zx:=Hd (show w8.heap.size<w10.heap.size from Zw.o.lt);have aco:=Hd (show W6.heap.size<=w10.heap.size from X8.o.size);clear hW hb4 Us TM X8 Zw;by_cases hl0:ll=0
     .have hlI:¬(0:Int)<(ll:Int):=oM;have heq:F.jH=F.all:=by
       have h1:=HF3.o.loose.hlen;unfold aB.all;rw[List.length_eq_zero_iff.1 (h1.trans hl0)];simp
      obtain rfl:o=o2:=by rw[<- HO2.o,<- HO.o,heq]
      have W81:w8.heap.size<w11.heap.size:=Q8.o.lt;clear heq hl0;go_upto_region 14 with fail;have g14:=Q8.o.cells;have acp:=Q8.o.lt;cases o with
      |none=>
       obtain⟨rfl,rfl,rfl⟩:=HZ.o rfl;obtain rfl:bs=false:=aaO.o;go_wp2_with fail;go_roundw
       case rel=>exact⟨j+1,by go_num,HJ.o,XB.o⟩
       case measure=>have:=HJ.o;simp[intOf];omega
      |some N=>
       obtain⟨rfl,rfl,hA⟩:=Ri.o N rfl;obtain rfl:bs=true:=aaO.o;obtain⟨rfl,hC⟩:=aaP.o N rfl;have Oh:=Hd (by have q:=DN N N ja qa ja2 qa2 jl jc ql qc jl2 jc2 ql2 qc2 _ _ w11 hA hC;rw[Ed]at q;exact q);have g16:=Uu.o.cells;have acr:=Uu.o.lt;have HBX:=Hd XB.o;clear hA hC;go_wp2_with fail;refine Oh.o.mono ?_;rintro e wz ⟨rfl,hbz⟩;have HBZ:=Hd (HBX.o.trans (hbz.mono HBX.o.size));clear hbz;go_wp2_with fail;go_roundw
       case rel=>exact⟨j+1,by go_num,HJ.o,HBZ.o⟩
       case measure=>have:=HJ.o;simp[intOf];omega
     .have hlI:(0:Int)<(ll:Int):=oM;have wV:=Hd (KA F fa la fl fc ll lc w11 (HF3.o.ext E11.o).at_ (by have:=HML.o;rw[F.gu]at this;omega));clear hl0;go_wp2_with fail;refine wV.o.mono ?_;rintro e w12 ⟨ya,yn,yc,rfl,hY,Ub⟩;have XA:=Hd (by have q:=Em ya yn yc F.all pl lv w12 hY.at_ Zv.o (by have h1:=HML.o;have h2:=hY.at_.hlen;omega);rw[HO.o]at q;exact q);have E12:=Hd (E11.o.trans (Ub.mono E11.o.size));have Oi:=Hd Ub;clear hY Ub wV tf tfl;have m16:=(Uu.o.ext Oi.o).cells;have Zy:=(Uu.o.ext Oi.o).lt;go_wp2_with fail;refine XA.o.mono ?_;rintro e w13 hg;obtain⟨bs3,lf3,ja3,jl3,jc3,qa3,ql3,qc3,rfl,aaQ,hN3,TW⟩:=hg.form;have Un:=Hd aaQ;have BL:=Oi.o.trans (TW.mono Oi.o.size);have VK:=Uu.o.ext BL;have acs:=Hd VK;have Xr:=Hd (Q8.o.ext BL);have Zz:=Hd (XB.o.trans (BL.mono XB.o.size));have XC:=Hd (λN hN=>(show ev=0/\lf=N.leaf/\bM w13 (λb=>b<w8.heap.size) ja jl jc qa ql qc N from⟨(Ri.o N hN).1,(Ri.o N hN).2.1,(Ri.o N hN).2.2.items.ext1 BL,(Ri.o N hN).2.2.kids.ext1 BL⟩));have HN3:=Hd hN3;have ac9:=Hd (E11.o.trans (BL.mono E11.o.size));have H12:=Hd Oi.o.size;clear hg aaQ hN3 TW BL m16 Zy XA E12 Oi;have m16:=VK.cells;have Zy:=VK.lt;have acu:=VK.marks;go_upto_region 14 with fail;have ho:=(((aA.refl (· =w10.heap.size) w13).set w10.heap.size 0 (.bool lf3) rfl).set w10.heap.size 1 (.slice ja3 jl3 jc3) rfl).set w10.heap.size 2 (.slice qa3 ql3 qc3) rfl;have e16:=((VK.set 0 (.bool lf3)).set 1 (.slice ja3 jl3 jc3)).set 2 (.slice qa3 ql3 qc3);obtain⟨w14,aaR⟩:∃X,((w13.setCell ⟨w10.heap.size,0,none⟩ (.bool lf3)).setCell ⟨w10.heap.size,1,none⟩ (.slice ja3 jl3 jc3)).setCell ⟨w10.heap.size,2,none⟩ (.slice qa3 ql3 qc3)=X:=⟨_,rfl⟩;rw[aaR]at ho e16⊢;have hs8:w8.heap.size<w10.heap.size:=Zx.o;have aaS:=Hd (show Blk w14 w10.heap.size [.bool lf3, .slice ja3 jl3 jc3, .slice qa3 ql3 qc3] 67 from e16);have CP:=Hd (Xr.o.aQ ho oM);have aaT:=Hd (Zz.o.trans (ho.below Zz.o.size (λk e=>by have:=aco.o;omega)));have acv:=Hd (λN hN=>(show ev=0/\lf=N.leaf/\bM w14 (λb=>b<w8.heap.size) ja jl jc qa ql qc N from⟨(XC.o N hN).1,(XC.o N hN).2.1,(XC.o N hN).2.2.items.same ho.size (λb h hl=>ho.block b hl oM),(XC.o N hN).2.2.kids.same ho.size (λb h hl=>ho.block b hl oM)⟩));have acw:=Hd (λN hN=>(show lf3=N.leaf/\bM w14 (λb=>w12.heap.size<=b) ja3 jl3 jc3 qa3 ql3 qc3 N from⟨(HN3.o N hN).1,(HN3.o N hN).2.items.same ho.size (λb h hl=>ho.block b hl (by have:=Uu.o.lt;have:=H12.o;omega)),(HN3.o N hN).2.kids.same ho.size (λb h hl=>ho.block b hl (by have:=Uu.o.lt;have:=H12.o;omega))⟩));clear VK m16 Zy acu ho e16 aaR acs Xr XC HN3 Zz Q8 Uu Ri aaP XB;have g14:=CP.o.cells;have acp:=CP.o.lt;cases o with
      |none=>
       obtain⟨rfl,rfl,rfl⟩:=HZ.o rfl;obtain rfl:bs3=false:=Un.o;go_wp2_with fail;go_roundw
       case rel=>exact⟨j+1,by go_num,HJ.o,aaT.o⟩
       case measure=>have:=HJ.o;simp[intOf];omega
      |some N=>
       obtain⟨rfl,rfl,hA⟩:=acv.o N rfl;obtain rfl:bs3=true:=Un.o;obtain⟨rfl,hC⟩:=acw.o N rfl;have Oh:=Hd (by have q:=DN N N ja qa ja3 qa3 jl jc ql qc jl3 jc3 ql3 qc3 _ _ w14 hA hC;rw[Ed]at q;exact q);have g16:=aaS.o.cells;have acr:=aaS.o.lt;have HBX:=Hd aaT.o;clear hA hC;go_wp2_with fail;refine Oh.o.mono ?_;rintro e wz ⟨rfl,hbz⟩;have HBZ:=Hd (HBX.o.trans (hbz.mono HBX.o.size));clear hbz;go_wp2_with fail;go_roundw
       case rel=>exact⟨j+1,by go_num,HJ.o,HBZ.o⟩
       case measure=>have:=HJ.o;simp[intOf];omega
    .have hjI:¬(j:Int)<3:=oM;have HB7:=Hd (HB6.o.trans (hbel.mono HB6.o.size));clear hbel;go_wp2_with fail;go_roundw
     case rel=>exact⟨i+1,by go_num,hlt,HB7.o⟩
     case measure=>simp[intOf];omega
  .have hiI:¬(i:Int)<3:=oM;have HBE:=Hd (B3.o.trans ((E4.o.trans (hbel.mono E4.o.size)).mono B3.o.size));clear hbel;go_wp2;go_ret;exact⟨rfl,HBE.o⟩
end Go.Proofs.YtenmnhnlcnmloaaGreat
