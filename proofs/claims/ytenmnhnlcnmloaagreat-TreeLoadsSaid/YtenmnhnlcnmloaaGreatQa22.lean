/- Part of a proof of a law of the layer of trees. -/
import Derived.Test.YtenmnhnlcnmloaaGreatQa14
import Derived.Test.YtenmnhnlcnmloaaGreatQa12
import Derived.Test.YtenmnhnlcnmloaaGreatQa01
set_option linter.unusedVariables false
set_option linter.unusedSimpArgs false
set_option maxHeartbeats 8000000
set_option maxRecDepth 8000
namespace Go.Dav
open Go Go.RowKit
def lW:List aP->List aP->Bool
 |[],[]=>true
 |x::l,y::m=>oh x y&&lW l m
 |_,_=>false
theorem DJ:∀ {l m:List aP},l.length≠m.length->lW l m=false
 |[],[],h=>absurd rfl h
 |[],_::_,_=>rfl
 |_::_,[],_=>rfl
 |x::l,y::m,h=>by
  have:=DJ (l:=l) (m:=m) (by simpa using h);unfold lW;rw[this,Bool.and_false]
theorem Az{l m:List aP}{k:Nat}{x y:aP}(hx:l[k]? =some x)(hy:m[k]? =some y):lW (l.drop k) (m.drop k)=(oh x y&&lW (l.drop (k+1)) (m.drop (k+1))):=by
 obtain⟨h1,h2⟩:=List.getElem?_eq_some_iff.1 hx;obtain⟨h3,h4⟩:=List.getElem?_eq_some_iff.1 hy;rw[List.drop_eq_getElem_cons h1,List.drop_eq_getElem_cons h3,h2,h4];rfl
def lX:List dS->List dS->Bool
 |[],[]=>true
 |x::l,y::m=>uT x y&&lX l m
 |_,_=>false
theorem DL:∀ {l m:List dS},l.length≠m.length->lX l m=false
 |[],[],h=>absurd rfl h
 |[],_::_,_=>rfl
 |_::_,[],_=>rfl
 |x::l,y::m,h=>by
  have:=DL (l:=l) (m:=m) (by simpa using h);unfold lX;rw[this,Bool.and_false]
theorem AA{l m:List dS}{k:Nat}{x y:dS}(hx:l[k]? =some x)(hy:m[k]? =some y):lX (l.drop k) (m.drop k)=(uT x y&&lX (l.drop (k+1)) (m.drop (k+1))):=by
 obtain⟨h1,h2⟩:=List.getElem?_eq_some_iff.1 hx;obtain⟨h3,h4⟩:=List.getElem?_eq_some_iff.1 hy;rw[List.drop_eq_getElem_cons h1,List.drop_eq_getElem_cons h3,h2,h4];rfl
theorem EX(p1 p2 p3 p4 p5 p6:Prop) [Decidable p1] [Decidable p2] [Decidable p3] [Decidable p4] [Decidable p5] [Decidable p6](W:World):
  (if p1 then if p2 then if p3 then if p4 then if p5 then if p6 then Result.ok (Next.value (.bool false)) W else Result.ok (Next.value (.bool true)) W else Result.ok (Next.value (.bool true)) W else Result.ok (Next.value (.bool true)) W else Result.ok (Next.value (.bool true)) W else Result.ok (Next.value (.bool true)) W else Result.ok (Next.value (.bool true)) W)
   =Result.ok (Next.value (.bool (!(decide p1&&(decide p2&&(decide p3&&(decide p4&&(decide p5&&decide p6)))))))) W:=by
 by_cases h1:p1<;>by_cases h2:p2<;>by_cases h3:p3<;>by_cases h4:p4<;>by_cases h5:p5<;>by_cases h6:p6<;>simp[h1,h2,h3,h4,h5,h6]
def pJ(a b:aT):Bool:=decide (a.leaf=b.leaf)&&(lW a.items b.items&&lX a.kids b.kids)
end Go.Dav
namespace Go.Proofs.YtenmnhnlcnmloaaGreat
open Go.RowKit Go.Dav
attribute [local go_sem] Gives ite_val ay
theorem lu{S T:Nat->Prop}{x y:aP}{u v:Value}{w:World}(hx:jR w S u x)(hy:jR w T v y):
  Calls Tryz.prog 35 #[u,v] w λe w'=>e= .returned (.bool (oh x y))/\Below w.heap.size w w':=by
 obtain⟨ka,kl,kc,va,vl,vc,rfl,h2,h3,h4⟩:=hx;obtain⟨la,ll,lc,za,zl,zc,rfl,g2,g3,g4⟩:=hy;have hb0:Below w.heap.size w ((w.alloc (.cells #[.slice ka kl kc, .slice va vl vc, .bool x.int, .int .i64 x.n] 60)).alloc (.cells #[.slice la ll lc, .slice za zl zc, .bool y.int, .int .i64 y.n] 60)):=bW;have k1:=aO (h2.ext hb0).at_ 22 9 5 Tryz.underlying22 Tryz.underlying5 Tryz.underlying9;have k2:=aO (h3.ext hb0).at_ 22 9 5 Tryz.underlying22 Tryz.underlying5 Tryz.underlying9;have k3:=aO (g2.ext hb0).at_ 22 9 5 Tryz.underlying22 Tryz.underlying5 Tryz.underlying9;have k4:=aO (g3.ext hb0).at_ 22 9 5 Tryz.underlying22 Tryz.underlying5 Tryz.underlying9;obtain⟨p1,hp1⟩:∃p,decide (x.key=y.key)=p:=⟨_,rfl⟩;obtain⟨p2,hp2⟩:∃p,decide (x.value=y.value)=p:=⟨_,rfl⟩;have q1:(x.key==y.key)=p1:=by rw[gQ,hp1]
 have q2:(x.value==y.value)=p2:=by rw[gQ,hp2]
 have HV:=Hd (show oh x y=(p1&&(p2&&(decide (x.int=y.int)&&decide (x.n=y.n)))) by unfold oh;rw[hp1,hp2]);clear h2 h3 h4 g2 g3 g4 hp1 hp2 hb0;obtain⟨i1,hi1⟩:∃i,x.int=i:=⟨_,rfl⟩;obtain⟨i2,hi2⟩:∃i,y.int=i:=⟨_,rfl⟩;rw[hi1,hi2]at HV;rw[hi1,hi2]at k1 k2 k3 k4;rw[hi1,hi2];clear hi1 hi2;cases p1<;>cases p2<;>cases i1<;>cases i2;all_goals
  go_enter Tryz.func35,Tryz.ntmps35;go_wp2;go_ret;exact⟨bg (by rw[HV.o];first|rfl|(simp;done)|(simp<;>(rw[Bool.eq_iff_iff];simp))),bW⟩
def wH(w:World)(n:Nat)(c1 c2:List Value)(F:Nat->Bool)(ix:Value)(wr:World):Prop:=
 ∃k:Nat,k<=n/\ix= .int .i64 k/\F 0=F k/\Blk wr w.heap.size c1 67/\Blk wr (w.heap.size+1) c2 67/\Below w.heap.size w wr
theorem DN(A B:aT)(ia ka ja la:Option Addr)(il ic kl kc jl jc ll lc:Nat)(S T:Nat->Prop)(w:World)(hA:bM w S ia il ic ka kl kc A)(hB:bM w T ja jl jc la ll lc B):
  Calls Tryz.prog 28 #[.agg #[.bool A.leaf, .slice ia il ic, .slice ka kl kc], .agg #[.bool B.leaf, .slice ja jl jc, .slice la ll lc]] w λe w'=>e= .returned (.bool (pJ A B))/\Below w.heap.size w w':=by
 obtain⟨f,hf⟩:∃f,A.leaf=f:=⟨_,rfl⟩;obtain⟨g,hg⟩:∃g,B.leaf=g:=⟨_,rfl⟩;rw[hf,hg];have hb0:Below w.heap.size w ((w.alloc (.cells #[.bool f, .slice ia il ic, .slice ka kl kc] 67)).alloc (.cells #[.bool g, .slice ja jl jc, .slice la ll lc] 67)):=bW;have hq1:=(Blk.new w [.bool f, .slice ia il ic, .slice ka kl kc] 67).alloc (.cells #[.bool g, .slice ja jl jc, .slice la ll lc] 67);have hq2:=Blk.new' (w.alloc (.cells #[.bool f, .slice ia il ic, .slice ka kl kc] 67)) [.bool g, .slice ja jl jc, .slice la ll lc] 67 (p:=w.heap.size+1) (by simp);have e1:=hA.items.hlen;have e2:=hA.kids.hlen;have e3:=hB.items.hlen;have e4:=hB.kids.hlen;have b1:(il:Int)<=140737488355328:=by have:=hA.items.hfew;omega
 have b2:(kl:Int)<=140737488355328:=by have:=hA.kids.hfew;omega
 have b3:(jl:Int)<=140737488355328:=by have:=hB.items.hfew;omega
 have b4:(ll:Int)<=140737488355328:=by have:=hB.kids.hfew;omega
 have HA:=Hd hA;have HBN:=Hd hB;have Q1:=Hd hq1;have Q2:=Hd hq2;have HB0:=Hd hb0;have E1:=Hd e1;have E2:=Hd e2;have E3:=Hd e3;have E4:=Hd e4;have HV:=Hd (show pJ A B=(decide (f=g)&&(lW A.items B.items&&lX A.kids B.kids)) by unfold pJ;rw[hf,hg]);clear hA hB hq1 hq2 hb0 e1 e2 e3 e4 hf hg;by_cases hfg:f=g;rotate_left
 .have HW:=Hd (show pJ A B=false by rw[HV.o,decide_eq_false hfg,Bool.false_and]);cases f<;>cases g;all_goals try exact absurd rfl hfg
  all_goals
   clear hfg;go_enter Tryz.func28,Tryz.ntmps28;go_wp2;go_ret;exact⟨bg HW.o.symm,HB0.o⟩
 subst hfg;rw[decide_eq_true rfl,Bool.true_and]at HV;by_cases h1:il=jl;rotate_left
 .have HW:=Hd (show pJ A B=false by rw[HV.o,DJ (by rw[E1.o,E3.o];exact h1),Bool.false_and]);have hn:((il:Int) !=(jl:Int))=true:=by rw[bne_iff_ne];omega
  cases f;all_goals
   go_enter Tryz.func28,Tryz.ntmps28;go_wp2;go_ret;exact⟨bg HW.o.symm,HB0.o⟩
 subst h1;by_cases h2:kl=ll;rotate_left
 .have HW:=Hd (show pJ A B=false by rw[HV.o,DL (by rw[E2.o,E4.o];exact h2),Bool.and_false]);have hn:((kl:Int) !=(ll:Int))=true:=by rw[bne_iff_ne];omega
  have hn2:((il:Int) !=(il:Int))=false:=by simp
  cases f;all_goals
   go_enter Tryz.func28,Tryz.ntmps28;go_wp2;go_ret;exact⟨bg HW.o.symm,HB0.o⟩
 subst h2;have hn1:((il:Int) !=(il:Int))=false:=by simp
 have hn2:((kl:Int) !=(kl:Int))=false:=by simp
 have hff:(f !=f)=false:=by simp
 cases f with
 |true=>
  go_enter Tryz.func28,Tryz.ntmps28;go_wp2_with fail;go_loopw [5] (λix wr=>wH w il [.bool true, .slice ia il ic, .slice ka kl kc] [.bool true, .slice ja il jc, .slice la kl lc] (λk=>lW (A.items.drop k) (B.items.drop k)) ix wr) (λix _=>il-(intOf ix).toNat)
  case atStart=>exact⟨0,Nat.zero_le _,rfl,rfl,Q1.o,Q2.o,HB0.o⟩
  case round=>
   obtain⟨k,hk,rfl,hst,hx1,hx2,hbel⟩:=hrel;have HST:=Hd hst;have HX1:=Hd hx1;have HX2:=Hd hx2;have HB:=Hd hbel;have c1:=hx1.cells;have c2:=hx2.cells;have l1:=hx1.lt;have l2:=hx2.lt;clear hst hx1 hx2;by_cases hlt:k<il
   .obtain⟨x,hx⟩:∃x,A.items[k]? =some x:=⟨_,List.getElem?_eq_getElem (by have:=E1.o;omega)⟩;obtain⟨y,hy⟩:∃y,B.items[k]? =some y:=⟨_,List.getElem?_eq_getElem (by have:=E3.o;omega)⟩;obtain⟨bx,ox,xa,xl,xc,va,vl,vc,rfl,hb1,hs1,d0,d1,d2,d3,h4,h5,h6⟩:=(HA.o.ext HB.o).items.hat k x hx;obtain⟨by_,oy,ya,yl,yc,za,zl,zc,rfl,hb2,hs2,f0,f1,f2,f3,g4,g5,g6⟩:=(HBN.o.ext HB.o).items.hat k y hy;have HU:=Hd (show jR wr S (.agg #[.slice xa xl xc, .slice va vl vc, .bool x.int, .int .i64 x.n]) x from⟨_,_,_,_,_,_,rfl,h4,h5,h6⟩);have HW:=Hd (show jR wr T (.agg #[.slice ya yl yc, .slice za zl zc, .bool y.int, .int .i64 y.n]) y from⟨_,_,_,_,_,_,rfl,g4,g5,g6⟩);have HSD:=Hd (Az hx hy);have hlt':(k:Int)<(il:Int):=oM;have HLT:=Hd hlt;have hk0:¬(k:Int)<0:=oM;clear hx hy h4 h5 h6 g4 g5 g6 hs1 hs2 hk hlt hbel;obtain⟨q,hq⟩:∃q,oh x y=q:=⟨_,rfl⟩;have HQ:=Hd hq;clear hq;cases q with
    |true=>
     go_wp2_with fail;refine' ah [.inl _, .inl _, .inl _, .inl _, .inl _, .inl _, .inl _, .inl _, .inl _, .inl _, .inl _, .inl _] kR kR ?dN
     case dN=>
      refine wD ?_;refine wE ?_;iterate 2 refine wD ?_
      refine wE ?_;refine wD ?_;refine wE ?_;iterate 2 refine wD ?_
      refine wE ?_;refine wG (λW hE hN=>by go_simp;refine⟨Below.refl _ _,?_⟩;refine(lu (S:=S) (T:=T) (x:=x) (y:=y) (dD.ext (x:= .inl x) HU.o hE) (dD.ext (x:= .inl y) HW.o hE)).mono ?_;rw[HQ.o];rintro e w' ⟨rfl,hb⟩;refine⟨?_,hb⟩;rfl) ?_;refine wD ?_;refine aj λW1 hE1 hG1=>?_;have jC:=hE1.cF;have kK:=hE1.fF;have HB1:=Hd (HB.o.trans (hE1.mono HB.o.size));have HY1:=Hd (HX1.o.ext hE1);have HY2:=Hd (HX2.o.ext hE1);have Ez:=Hd (show lW (A.items.drop 0) (B.items.drop 0)=lW (A.items.drop (k+1)) (B.items.drop (k+1)) by rw[HST.o,HSD.o,HQ.o,Bool.true_and]);clear hE1 hG1 c1 c2;go_wp2_with fail;go_roundw
      case rel=>exact⟨k+1,HLT.o,by go_num,Ez.o,HY1.o,HY2.o,HB1.o⟩
      case measure=>simp[intOf];omega
    |false=>
     have HWV:=Hd (show pJ A B=false by
      have h:=HST.o;simp only[List.drop_zero]at h;rw[HV.o,h,HSD.o,HQ.o,Bool.false_and,Bool.false_and])
     go_wp2_with fail;refine' ah [.inl _, .inl _, .inl _, .inl _, .inl _, .inl _, .inl _, .inl _, .inl _, .inl _, .inl _, .inl _] kR kR ?fZ
     case fZ=>
      refine wD ?_;refine wE ?_;iterate 2 refine wD ?_
      refine wE ?_;refine wD ?_;refine wE ?_;iterate 2 refine wD ?_
      refine wE ?_;refine wG (λW hE hN=>by go_simp;refine⟨Below.refl _ _,?_⟩;refine(lu (S:=S) (T:=T) (x:=x) (y:=y) (dD.ext (x:= .inl x) HU.o hE) (dD.ext (x:= .inl y) HW.o hE)).mono ?_;rw[HQ.o];rintro e w' ⟨rfl,hb⟩;refine⟨?_,hb⟩;rfl) ?_;refine wD ?_;refine aj λW1 hE1 hG1=>?_;have jC:=hE1.cF;have kK:=hE1.fF;have HB1:=Hd (HB.o.trans (hE1.mono HB.o.size));clear hE1 hG1 c1 c2;go_wp2;go_ret;exact⟨bg HWV.o.symm,HB1.o⟩
   .have hlt':¬(k:Int)<(il:Int):=oM;have HIS:=Hd (show lW A.items B.items=true by
     have h:=HST.o;simp only[List.drop_zero]at h;rw[h,List.drop_of_length_le (by have:=E1.o;omega),List.drop_of_length_le (by have:=E3.o;omega)];rfl)
    have HV2:=Hd (show pJ A B=lX A.kids B.kids by rw[HV.o,HIS.o,Bool.true_and]);clear hlt hk hbel;go_wp2_with fail;go_loopw [6] (λix wr=>wH w kl [.bool true, .slice ia il ic, .slice ka kl kc] [.bool true, .slice ja il jc, .slice la kl lc] (λk=>lX (A.kids.drop k) (B.kids.drop k)) ix wr) (λix _=>kl-(intOf ix).toNat)
    case atStart=>exact⟨0,Nat.zero_le _,rfl,rfl,HX1.o,HX2.o,HB.o⟩
    clear HST HX1 HX2 HB c1 c2 l1 l2
    case round=>
     obtain⟨k,hk,rfl,hst,hx1,hx2,hbel⟩:=hrel;have HST:=Hd hst;have HX1:=Hd hx1;have HX2:=Hd hx2;have HB:=Hd hbel;have c1:=hx1.cells;have c2:=hx2.cells;have l1:=hx1.lt;have l2:=hx2.lt;clear hst hx1 hx2;by_cases hlt:k<kl
     .obtain⟨x,hx⟩:∃x,A.kids[k]? =some x:=⟨_,List.getElem?_eq_getElem (by have:=E2.o;omega)⟩;obtain⟨y,hy⟩:∃y,B.kids[k]? =some y:=⟨_,List.getElem?_eq_getElem (by have:=E4.o;omega)⟩;obtain⟨bx,ox,xa,xl,xc,rfl,hb1,hs1,d0,d1,d2,d3,d4,d5,d6,d7,h4,h5,h6⟩:=(HA.o.ext HB.o).kids.hat k x hx;obtain⟨by_,oy,ya,yl,yc,rfl,hb2,hs2,f0,f1,f2,f3,f4,f5,f6,f7,g4,g5,g6⟩:=(HBN.o.ext HB.o).kids.hat k y hy;have HK1:=Hd h4.at_;have HK2:=Hd g4.at_;have HSD:=Hd (AA hx hy);have hlt':(k:Int)<(kl:Int):=oM;have HLT:=Hd hlt;have hk0:¬(k:Int)<0:=oM;clear hx hy h4 h5 h6 g4 g5 g6 hs1 hs2 hk hlt hbel;obtain⟨q,hq⟩:∃q,decide (x.key=y.key)=q:=⟨_,rfl⟩;obtain⟨r,hr⟩:∃r,decide (x.at_=y.at_)=r:=⟨_,rfl⟩;obtain⟨t,ht⟩:∃t,je x.red y.red=t:=⟨_,rfl⟩;have HQ:=Hd (show uT x y=(q&&(r&&t)) by unfold uT;rw[hq,hr,ht]);have hq1:(x.key==y.key)=q:=by rw[gQ,hq]
      have hq2:(x.key !=y.key)= !q:=by rw[bne,gQ,hq]
      have hr1:(x.at_==y.at_)=r:=by rw[<- hr,Bool.eq_iff_iff];simp
      have hr2:(x.at_ !=y.at_)= !r:=by rw[bne,hr1]
      have ht1:(decide (x.red.c=y.red.c)&&(decide (x.red.n=y.red.n)&&(decide (hi x.red.s=hi y.red.s)&&(decide (lo x.red.s=lo y.red.s)&&(decide (x.red.l=y.red.l)&&decide (x.red.m=y.red.m))))))=t:=ht;clear hq hr ht;cases q with
      |false=>
       have HWV:=Hd (show pJ A B=false by
        have h:=HST.o;simp only[List.drop_zero]at h;rw[HV2.o,h,HSD.o,HQ.o,Bool.false_and,Bool.false_and])
       clear hr1 hr2 ht1;go_wp2_with fail;refine' ah [(Sum.inl _:Piece),(Sum.inl _:Piece),(Sum.inl _:Piece),(Sum.inl _:Piece),(Sum.inl _:Piece),(Sum.inl _:Piece),(Sum.inl _:Piece),(Sum.inl _:Piece),(Sum.inl _:Piece),(Sum.inl _:Piece),(Sum.inl _:Piece),(Sum.inl _:Piece),(Sum.inl _:Piece),(Sum.inl _:Piece),(Sum.inl _:Piece),(Sum.inl _:Piece),(Sum.inl undef:Piece),(Sum.inl undef:Piece),(Sum.inl undef:Piece),(Sum.inl undef:Piece),(Sum.inl undef:Piece),(Sum.inl undef:Piece),(Sum.inl undef:Piece),(Sum.inl undef:Piece),(Sum.inl undef:Piece),(Sum.inl undef:Piece),(Sum.inl undef:Piece),(Sum.inl undef:Piece),(Sum.inl undef:Piece),(Sum.inl _:Piece),(Sum.inl _:Piece),(Sum.inl undef:Piece),(Sum.inl undef:Piece),(Sum.inl undef:Piece),(Sum.inl undef:Piece),(Sum.inl undef:Piece),(Sum.inl undef:Piece),(Sum.inl undef:Piece),(Sum.inl undef:Piece),(Sum.inl undef:Piece),(Sum.inl undef:Piece),(Sum.inl undef:Piece),(Sum.inl undef:Piece),(Sum.inl undef:Piece),(Sum.inl _:Piece)] kR kR ?iT
       case iT=>
        refine wD ?_;refine wE ?_;iterate 3 refine wD ?_
        refine wE ?_;refine wG (λW hE hN=>by have k1:=aO (HK1.o.ext hE) 22 9 5 Tryz.underlying22 Tryz.underlying5 Tryz.underlying9;exact gF) ?_;refine wD ?_;refine wE ?_;iterate 3 refine wD ?_
        refine wE ?_;refine wG (λW hE hN=>by have k1:=aO (HK2.o.ext hE) 22 9 5 Tryz.underlying22 Tryz.underlying5 Tryz.underlying9;exact gF) ?_;iterate 2 refine wD ?_
        iterate 13 refine wS ?_
        iterate 2 refine wD ?_
        iterate 13 refine wS ?_
        refine wD ?_;refine aj λW1 hE1 hG1=>?_;have jC:=hE1.cF;have kK:=hE1.fF;have HB1:=Hd (HB.o.trans (hE1.mono HB.o.size));clear hE1 hG1 c1 c2;go_wp2;go_ret;exact⟨bg HWV.o.symm,HB1.o⟩
      |true=>
       cases r with
       |false=>
        have HWV:=Hd (show pJ A B=false by
         have h:=HST.o;simp only[List.drop_zero]at h;rw[HV2.o,h,HSD.o,HQ.o,Bool.true_and,Bool.false_and,Bool.false_and])
        clear ht1;go_wp2_with fail;refine' ah [(Sum.inl _:Piece),(Sum.inl _:Piece),(Sum.inl _:Piece),(Sum.inl _:Piece),(Sum.inl _:Piece),(Sum.inl _:Piece),(Sum.inl _:Piece),(Sum.inl _:Piece),(Sum.inl _:Piece),(Sum.inl _:Piece),(Sum.inl _:Piece),(Sum.inl _:Piece),(Sum.inl _:Piece),(Sum.inl _:Piece),(Sum.inl _:Piece),(Sum.inl _:Piece),(Sum.inl _:Piece),(Sum.inl _:Piece),(Sum.inl _:Piece),(Sum.inl _:Piece),(Sum.inl _:Piece),(Sum.inl _:Piece),(Sum.inl _:Piece),(Sum.inl _:Piece),(Sum.inl _:Piece),(Sum.inl _:Piece),(Sum.inl _:Piece),(Sum.inl _:Piece),(Sum.inl _:Piece),(Sum.inl _:Piece),(Sum.inl _:Piece),(Sum.inl undef:Piece),(Sum.inl undef:Piece),(Sum.inl undef:Piece),(Sum.inl undef:Piece),(Sum.inl undef:Piece),(Sum.inl undef:Piece),(Sum.inl undef:Piece),(Sum.inl undef:Piece),(Sum.inl undef:Piece),(Sum.inl undef:Piece),(Sum.inl undef:Piece),(Sum.inl undef:Piece),(Sum.inl undef:Piece),(Sum.inl _:Piece)] kR kR ?jI
        case jI=>
         refine wD ?_;refine wE ?_;iterate 3 refine wD ?_
         refine wE ?_;refine wG (λW hE hN=>by have k1:=aO (HK1.o.ext hE) 22 9 5 Tryz.underlying22 Tryz.underlying5 Tryz.underlying9;exact gF) ?_;refine wD ?_;refine wE ?_;iterate 3 refine wD ?_
         refine wE ?_;refine wG (λW hE hN=>by have k1:=aO (HK2.o.ext hE) 22 9 5 Tryz.underlying22 Tryz.underlying5 Tryz.underlying9;exact gF) ?_;iterate 3 refine wD ?_
         refine wE ?_;iterate 3 refine wD ?_
         refine wE ?_;refine wD ?_;refine wE ?_;iterate 3 refine wD ?_
         refine wE ?_;iterate 3 refine wD ?_
         iterate 13 refine wS ?_
         refine wD ?_;refine aj λW1 hE1 hG1=>?_;have jC:=hE1.cF;have kK:=hE1.fF;have HB1:=Hd (HB.o.trans (hE1.mono HB.o.size));clear hE1 hG1 c1 c2;go_wp2;go_ret;exact⟨bg HWV.o.symm,HB1.o⟩
       |true=>
        cases t with
        |false=>
         have HWV:=Hd (show pJ A B=false by
          have h:=HST.o;simp only[List.drop_zero]at h;rw[HV2.o,h,HSD.o,HQ.o];rfl)
         go_wp2_with fail;refine' ah [(Sum.inl _:Piece),(Sum.inl _:Piece),(Sum.inl _:Piece),(Sum.inl _:Piece),(Sum.inl _:Piece),(Sum.inl _:Piece),(Sum.inl _:Piece),(Sum.inl _:Piece),(Sum.inl _:Piece),(Sum.inl _:Piece),(Sum.inl _:Piece),(Sum.inl _:Piece),(Sum.inl _:Piece),(Sum.inl _:Piece),(Sum.inl _:Piece),(Sum.inl _:Piece),(Sum.inl _:Piece),(Sum.inl _:Piece),(Sum.inl _:Piece),(Sum.inl _:Piece),(Sum.inl _:Piece),(Sum.inl _:Piece),(Sum.inl _:Piece),(Sum.inl _:Piece),(Sum.inl _:Piece),(Sum.inl _:Piece),(Sum.inl _:Piece),(Sum.inl _:Piece),(Sum.inl _:Piece),(Sum.inl _:Piece),(Sum.inl _:Piece),(Sum.inl _:Piece),(Sum.inl _:Piece),(Sum.inl _:Piece),(Sum.inl _:Piece),(Sum.inl _:Piece),(Sum.inl _:Piece),(Sum.inl _:Piece),(Sum.inl _:Piece),(Sum.inl _:Piece),(Sum.inl _:Piece),(Sum.inl _:Piece),(Sum.inl _:Piece),(Sum.inl _:Piece),(Sum.inl _:Piece)] kR kR ?main5
         case main5=>
          refine wD ?_;refine wE ?_;iterate 3 refine wD ?_
          refine wE ?_;refine wG (λW hE hN=>by have k1:=aO (HK1.o.ext hE) 22 9 5 Tryz.underlying22 Tryz.underlying5 Tryz.underlying9;exact gF) ?_;refine wD ?_;refine wE ?_;iterate 3 refine wD ?_
          refine wE ?_;refine wG (λW hE hN=>by have k1:=aO (HK2.o.ext hE) 22 9 5 Tryz.underlying22 Tryz.underlying5 Tryz.underlying9;exact gF) ?_;iterate 3 refine wD ?_
          refine wE ?_;iterate 3 refine wD ?_
          refine wE ?_;refine wD ?_;refine wE ?_;iterate 3 refine wD ?_
          refine wE ?_;iterate 4 refine wD ?_
          refine wE ?_;iterate 3 refine wD ?_
          refine wE ?_;refine wD ?_;refine wE ?_;iterate 3 refine wD ?_
          refine wE ?_;refine wG (λW hE hN=>by go_simp;rw[EX,ht1];refine⟨Below.refl _ _,?_⟩;rfl) ?_;refine wD ?_;refine aj λW1 hE1 hG1=>?_;have jC:=hE1.cF;have kK:=hE1.fF;have HB1:=Hd (HB.o.trans (hE1.mono HB.o.size));clear hE1 hG1 c1 c2;go_wp2;go_ret;exact⟨bg HWV.o.symm,HB1.o⟩
        |true=>
         have Ez:=Hd (show lX (A.kids.drop 0) (B.kids.drop 0)=lX (A.kids.drop (k+1)) (B.kids.drop (k+1)) by have h:=HST.o;dsimp only at h;rw[h,HSD.o,HQ.o];rfl);go_wp2_with fail;refine' ah [(Sum.inl _:Piece),(Sum.inl _:Piece),(Sum.inl _:Piece),(Sum.inl _:Piece),(Sum.inl _:Piece),(Sum.inl _:Piece),(Sum.inl _:Piece),(Sum.inl _:Piece),(Sum.inl _:Piece),(Sum.inl _:Piece),(Sum.inl _:Piece),(Sum.inl _:Piece),(Sum.inl _:Piece),(Sum.inl _:Piece),(Sum.inl _:Piece),(Sum.inl _:Piece),(Sum.inl _:Piece),(Sum.inl _:Piece),(Sum.inl _:Piece),(Sum.inl _:Piece),(Sum.inl _:Piece),(Sum.inl _:Piece),(Sum.inl _:Piece),(Sum.inl _:Piece),(Sum.inl _:Piece),(Sum.inl _:Piece),(Sum.inl _:Piece),(Sum.inl _:Piece),(Sum.inl _:Piece),(Sum.inl _:Piece),(Sum.inl _:Piece),(Sum.inl _:Piece),(Sum.inl _:Piece),(Sum.inl _:Piece),(Sum.inl _:Piece),(Sum.inl _:Piece),(Sum.inl _:Piece),(Sum.inl _:Piece),(Sum.inl _:Piece),(Sum.inl _:Piece),(Sum.inl _:Piece),(Sum.inl _:Piece),(Sum.inl _:Piece),(Sum.inl _:Piece),(Sum.inl _:Piece)] kR kR ?nH
         case nH=>
          refine wD ?_;refine wE ?_;iterate 3 refine wD ?_
          refine wE ?_;refine wG (λW hE hN=>by have k1:=aO (HK1.o.ext hE) 22 9 5 Tryz.underlying22 Tryz.underlying5 Tryz.underlying9;exact gF) ?_;refine wD ?_;refine wE ?_;iterate 3 refine wD ?_
          refine wE ?_;refine wG (λW hE hN=>by have k1:=aO (HK2.o.ext hE) 22 9 5 Tryz.underlying22 Tryz.underlying5 Tryz.underlying9;exact gF) ?_;iterate 3 refine wD ?_
          refine wE ?_;iterate 3 refine wD ?_
          refine wE ?_;refine wD ?_;refine wE ?_;iterate 3 refine wD ?_
          refine wE ?_;iterate 4 refine wD ?_
          refine wE ?_;iterate 3 refine wD ?_
          refine wE ?_;refine wD ?_;refine wE ?_;iterate 3 refine wD ?_
          refine wE ?_;refine wG (λW hE hN=>by go_simp;rw[EX,ht1];refine⟨Below.refl _ _,?_⟩;rfl) ?_;refine wD ?_;refine aj λW1 hE1 hG1=>?_;have jC:=hE1.cF;have kK:=hE1.fF;have HB1:=Hd (HB.o.trans (hE1.mono HB.o.size));have HY1:=Hd (HX1.o.ext hE1);have HY2:=Hd (HX2.o.ext hE1);clear hE1 hG1 c1 c2;go_wp2_with fail;go_roundw
          case rel=>exact⟨k+1,HLT.o,by go_num,Ez.o,HY1.o,HY2.o,HB1.o⟩
          case measure=>simp[intOf];omega
     .have hlt':¬(k:Int)<(kl:Int):=oM;have HIS:=Hd (show pJ A B=true by
       have h:=HST.o;simp only[List.drop_zero]at h;rw[HV2.o,h,List.drop_of_length_le (by have:=E2.o;omega),List.drop_of_length_le (by have:=E4.o;omega)];rfl)
      clear hlt hk hbel;go_wp2;go_ret;exact⟨bg HIS.o.symm,HB.o⟩
 |false=>
  go_enter Tryz.func28,Tryz.ntmps28;go_wp2_with fail;go_loopw [5] (λix wr=>wH w il [.bool false, .slice ia il ic, .slice ka kl kc] [.bool false, .slice ja il jc, .slice la kl lc] (λk=>lW (A.items.drop k) (B.items.drop k)) ix wr) (λix _=>il-(intOf ix).toNat)
  case atStart=>exact⟨0,Nat.zero_le _,rfl,rfl,Q1.o,Q2.o,HB0.o⟩
  case round=>
   obtain⟨k,hk,rfl,hst,hx1,hx2,hbel⟩:=hrel;have HST:=Hd hst;have HX1:=Hd hx1;have HX2:=Hd hx2;have HB:=Hd hbel;have c1:=hx1.cells;have c2:=hx2.cells;have l1:=hx1.lt;have l2:=hx2.lt;clear hst hx1 hx2;by_cases hlt:k<il
   .obtain⟨x,hx⟩:∃x,A.items[k]? =some x:=⟨_,List.getElem?_eq_getElem (by have:=E1.o;omega)⟩;obtain⟨y,hy⟩:∃y,B.items[k]? =some y:=⟨_,List.getElem?_eq_getElem (by have:=E3.o;omega)⟩;obtain⟨bx,ox,xa,xl,xc,va,vl,vc,rfl,hb1,hs1,d0,d1,d2,d3,h4,h5,h6⟩:=(HA.o.ext HB.o).items.hat k x hx;obtain⟨by_,oy,ya,yl,yc,za,zl,zc,rfl,hb2,hs2,f0,f1,f2,f3,g4,g5,g6⟩:=(HBN.o.ext HB.o).items.hat k y hy;have HU:=Hd (show jR wr S (.agg #[.slice xa xl xc, .slice va vl vc, .bool x.int, .int .i64 x.n]) x from⟨_,_,_,_,_,_,rfl,h4,h5,h6⟩);have HW:=Hd (show jR wr T (.agg #[.slice ya yl yc, .slice za zl zc, .bool y.int, .int .i64 y.n]) y from⟨_,_,_,_,_,_,rfl,g4,g5,g6⟩);have HSD:=Hd (Az hx hy);have hlt':(k:Int)<(il:Int):=oM;have HLT:=Hd hlt;have hk0:¬(k:Int)<0:=oM;clear hx hy h4 h5 h6 g4 g5 g6 hs1 hs2 hk hlt hbel;obtain⟨q,hq⟩:∃q,oh x y=q:=⟨_,rfl⟩;have HQ:=Hd hq;clear hq;cases q with
    |true=>
     go_wp2_with fail;refine' ah [.inl _, .inl _, .inl _, .inl _, .inl _, .inl _, .inl _, .inl _, .inl _, .inl _, .inl _, .inl _] kR kR ?uI
     case uI=>
      refine wD ?_;refine wE ?_;iterate 2 refine wD ?_
      refine wE ?_;refine wD ?_;refine wE ?_;iterate 2 refine wD ?_
      refine wE ?_;refine wG (λW hE hN=>by go_simp;refine⟨Below.refl _ _,?_⟩;refine(lu (S:=S) (T:=T) (x:=x) (y:=y) (dD.ext (x:= .inl x) HU.o hE) (dD.ext (x:= .inl y) HW.o hE)).mono ?_;rw[HQ.o];rintro e w' ⟨rfl,hb⟩;refine⟨?_,hb⟩;rfl) ?_;refine wD ?_;refine aj λW1 hE1 hG1=>?_;have jC:=hE1.cF;have kK:=hE1.fF;have HB1:=Hd (HB.o.trans (hE1.mono HB.o.size));have HY1:=Hd (HX1.o.ext hE1);have HY2:=Hd (HX2.o.ext hE1);have Ez:=Hd (show lW (A.items.drop 0) (B.items.drop 0)=lW (A.items.drop (k+1)) (B.items.drop (k+1)) by rw[HST.o,HSD.o,HQ.o,Bool.true_and]);clear hE1 hG1 c1 c2;go_wp2_with fail;go_roundw
      case rel=>exact⟨k+1,HLT.o,by go_num,Ez.o,HY1.o,HY2.o,HB1.o⟩
      case measure=>simp[intOf];omega
    |false=>
     have HWV:=Hd (show pJ A B=false by
      have h:=HST.o;simp only[List.drop_zero]at h;rw[HV.o,h,HSD.o,HQ.o,Bool.false_and,Bool.false_and])
     go_wp2_with fail;refine' ah [.inl _, .inl _, .inl _, .inl _, .inl _, .inl _, .inl _, .inl _, .inl _, .inl _, .inl _, .inl _] kR kR ?uJ
     case uJ=>
      refine wD ?_;refine wE ?_;iterate 2 refine wD ?_
      refine wE ?_;refine wD ?_;refine wE ?_;iterate 2 refine wD ?_
      refine wE ?_;refine wG (λW hE hN=>by go_simp;refine⟨Below.refl _ _,?_⟩;refine(lu (S:=S) (T:=T) (x:=x) (y:=y) (dD.ext (x:= .inl x) HU.o hE) (dD.ext (x:= .inl y) HW.o hE)).mono ?_;rw[HQ.o];rintro e w' ⟨rfl,hb⟩;refine⟨?_,hb⟩;rfl) ?_;refine wD ?_;refine aj λW1 hE1 hG1=>?_;have jC:=hE1.cF;have kK:=hE1.fF;have HB1:=Hd (HB.o.trans (hE1.mono HB.o.size));clear hE1 hG1 c1 c2;go_wp2;go_ret;exact⟨bg HWV.o.symm,HB1.o⟩
   .have hlt':¬(k:Int)<(il:Int):=oM;have HIS:=Hd (show lW A.items B.items=true by
     have h:=HST.o;simp only[List.drop_zero]at h;rw[h,List.drop_of_length_le (by have:=E1.o;omega),List.drop_of_length_le (by have:=E3.o;omega)];rfl)
    have HV2:=Hd (show pJ A B=lX A.kids B.kids by rw[HV.o,HIS.o,Bool.true_and]);clear hlt hk hbel;go_wp2_with fail;go_loopw [6] (λix wr=>wH w kl [.bool false, .slice ia il ic, .slice ka kl kc] [.bool false, .slice ja il jc, .slice la kl lc] (λk=>lX (A.kids.drop k) (B.kids.drop k)) ix wr) (λix _=>kl-(intOf ix).toNat)
    case atStart=>exact⟨0,Nat.zero_le _,rfl,rfl,HX1.o,HX2.o,HB.o⟩
    clear HST HX1 HX2 HB c1 c2 l1 l2
    case round=>
     obtain⟨k,hk,rfl,hst,hx1,hx2,hbel⟩:=hrel;have HST:=Hd hst;have HX1:=Hd hx1;have HX2:=Hd hx2;have HB:=Hd hbel;have c1:=hx1.cells;have c2:=hx2.cells;have l1:=hx1.lt;have l2:=hx2.lt;clear hst hx1 hx2;by_cases hlt:k<kl
     .obtain⟨x,hx⟩:∃x,A.kids[k]? =some x:=⟨_,List.getElem?_eq_getElem (by have:=E2.o;omega)⟩;obtain⟨y,hy⟩:∃y,B.kids[k]? =some y:=⟨_,List.getElem?_eq_getElem (by have:=E4.o;omega)⟩;obtain⟨bx,ox,xa,xl,xc,rfl,hb1,hs1,d0,d1,d2,d3,d4,d5,d6,d7,h4,h5,h6⟩:=(HA.o.ext HB.o).kids.hat k x hx;obtain⟨by_,oy,ya,yl,yc,rfl,hb2,hs2,f0,f1,f2,f3,f4,f5,f6,f7,g4,g5,g6⟩:=(HBN.o.ext HB.o).kids.hat k y hy;have HK1:=Hd h4.at_;have HK2:=Hd g4.at_;have HSD:=Hd (AA hx hy);have hlt':(k:Int)<(kl:Int):=oM;have HLT:=Hd hlt;have hk0:¬(k:Int)<0:=oM;clear hx hy h4 h5 h6 g4 g5 g6 hs1 hs2 hk hlt hbel;obtain⟨q,hq⟩:∃q,decide (x.key=y.key)=q:=⟨_,rfl⟩;obtain⟨r,hr⟩:∃r,decide (x.at_=y.at_)=r:=⟨_,rfl⟩;obtain⟨t,ht⟩:∃t,je x.red y.red=t:=⟨_,rfl⟩;have HQ:=Hd (show uT x y=(q&&(r&&t)) by unfold uT;rw[hq,hr,ht]);have hq1:(x.key==y.key)=q:=by rw[gQ,hq]
      have hq2:(x.key !=y.key)= !q:=by rw[bne,gQ,hq]
      have hr1:(x.at_==y.at_)=r:=by rw[<- hr,Bool.eq_iff_iff];simp
      have hr2:(x.at_ !=y.at_)= !r:=by rw[bne,hr1]
      have ht1:(decide (x.red.c=y.red.c)&&(decide (x.red.n=y.red.n)&&(decide (hi x.red.s=hi y.red.s)&&(decide (lo x.red.s=lo y.red.s)&&(decide (x.red.l=y.red.l)&&decide (x.red.m=y.red.m))))))=t:=ht;clear hq hr ht;cases q with
      |false=>
       have HWV:=Hd (show pJ A B=false by
        have h:=HST.o;simp only[List.drop_zero]at h;rw[HV2.o,h,HSD.o,HQ.o,Bool.false_and,Bool.false_and])
       clear hr1 hr2 ht1;go_wp2_with fail;refine' ah [(Sum.inl _:Piece),(Sum.inl _:Piece),(Sum.inl _:Piece),(Sum.inl _:Piece),(Sum.inl _:Piece),(Sum.inl _:Piece),(Sum.inl _:Piece),(Sum.inl _:Piece),(Sum.inl _:Piece),(Sum.inl _:Piece),(Sum.inl _:Piece),(Sum.inl _:Piece),(Sum.inl _:Piece),(Sum.inl _:Piece),(Sum.inl _:Piece),(Sum.inl _:Piece),(Sum.inl undef:Piece),(Sum.inl undef:Piece),(Sum.inl undef:Piece),(Sum.inl undef:Piece),(Sum.inl undef:Piece),(Sum.inl undef:Piece),(Sum.inl undef:Piece),(Sum.inl undef:Piece),(Sum.inl undef:Piece),(Sum.inl undef:Piece),(Sum.inl undef:Piece),(Sum.inl undef:Piece),(Sum.inl undef:Piece),(Sum.inl _:Piece),(Sum.inl _:Piece),(Sum.inl undef:Piece),(Sum.inl undef:Piece),(Sum.inl undef:Piece),(Sum.inl undef:Piece),(Sum.inl undef:Piece),(Sum.inl undef:Piece),(Sum.inl undef:Piece),(Sum.inl undef:Piece),(Sum.inl undef:Piece),(Sum.inl undef:Piece),(Sum.inl undef:Piece),(Sum.inl undef:Piece),(Sum.inl undef:Piece),(Sum.inl _:Piece)] kR kR ?PZ
       case PZ=>
        refine wD ?_;refine wE ?_;iterate 3 refine wD ?_
        refine wE ?_;refine wG (λW hE hN=>by have k1:=aO (HK1.o.ext hE) 22 9 5 Tryz.underlying22 Tryz.underlying5 Tryz.underlying9;exact gF) ?_;refine wD ?_;refine wE ?_;iterate 3 refine wD ?_
        refine wE ?_;refine wG (λW hE hN=>by have k1:=aO (HK2.o.ext hE) 22 9 5 Tryz.underlying22 Tryz.underlying5 Tryz.underlying9;exact gF) ?_;iterate 2 refine wD ?_
        iterate 13 refine wS ?_
        iterate 2 refine wD ?_
        iterate 13 refine wS ?_
        refine wD ?_;refine aj λW1 hE1 hG1=>?_;have jC:=hE1.cF;have kK:=hE1.fF;have HB1:=Hd (HB.o.trans (hE1.mono HB.o.size));clear hE1 hG1 c1 c2;go_wp2;go_ret;exact⟨bg HWV.o.symm,HB1.o⟩
      |true=>
       cases r with
       |false=>
        have HWV:=Hd (show pJ A B=false by
         have h:=HST.o;simp only[List.drop_zero]at h;rw[HV2.o,h,HSD.o,HQ.o,Bool.true_and,Bool.false_and,Bool.false_and])
        clear ht1;go_wp2_with fail;refine' ah [(Sum.inl _:Piece),(Sum.inl _:Piece),(Sum.inl _:Piece),(Sum.inl _:Piece),(Sum.inl _:Piece),(Sum.inl _:Piece),(Sum.inl _:Piece),(Sum.inl _:Piece),(Sum.inl _:Piece),(Sum.inl _:Piece),(Sum.inl _:Piece),(Sum.inl _:Piece),(Sum.inl _:Piece),(Sum.inl _:Piece),(Sum.inl _:Piece),(Sum.inl _:Piece),(Sum.inl _:Piece),(Sum.inl _:Piece),(Sum.inl _:Piece),(Sum.inl _:Piece),(Sum.inl _:Piece),(Sum.inl _:Piece),(Sum.inl _:Piece),(Sum.inl _:Piece),(Sum.inl _:Piece),(Sum.inl _:Piece),(Sum.inl _:Piece),(Sum.inl _:Piece),(Sum.inl _:Piece),(Sum.inl _:Piece),(Sum.inl _:Piece),(Sum.inl undef:Piece),(Sum.inl undef:Piece),(Sum.inl undef:Piece),(Sum.inl undef:Piece),(Sum.inl undef:Piece),(Sum.inl undef:Piece),(Sum.inl undef:Piece),(Sum.inl undef:Piece),(Sum.inl undef:Piece),(Sum.inl undef:Piece),(Sum.inl undef:Piece),(Sum.inl undef:Piece),(Sum.inl undef:Piece),(Sum.inl _:Piece)] kR kR ?P5
        case P5=>
         refine wD ?_;refine wE ?_;iterate 3 refine wD ?_
         refine wE ?_;refine wG (λW hE hN=>by have k1:=aO (HK1.o.ext hE) 22 9 5 Tryz.underlying22 Tryz.underlying5 Tryz.underlying9;exact gF) ?_;refine wD ?_;refine wE ?_;iterate 3 refine wD ?_
         refine wE ?_;refine wG (λW hE hN=>by have k1:=aO (HK2.o.ext hE) 22 9 5 Tryz.underlying22 Tryz.underlying5 Tryz.underlying9;exact gF) ?_;iterate 3 refine wD ?_
         refine wE ?_;iterate 3 refine wD ?_
         refine wE ?_;refine wD ?_;refine wE ?_;iterate 3 refine wD ?_
         refine wE ?_;iterate 3 refine wD ?_
         iterate 13 refine wS ?_
         refine wD ?_;refine aj λW1 hE1 hG1=>?_;have jC:=hE1.cF;have kK:=hE1.fF;have HB1:=Hd (HB.o.trans (hE1.mono HB.o.size));clear hE1 hG1 c1 c2;go_wp2;go_ret;exact⟨bg HWV.o.symm,HB1.o⟩
       |true=>
        cases t with
        |false=>
         have HWV:=Hd (show pJ A B=false by
          have h:=HST.o;simp only[List.drop_zero]at h;rw[HV2.o,h,HSD.o,HQ.o];rfl)
         go_wp2_with fail;refine' ah [(Sum.inl _:Piece),(Sum.inl _:Piece),(Sum.inl _:Piece),(Sum.inl _:Piece),(Sum.inl _:Piece),(Sum.inl _:Piece),(Sum.inl _:Piece),(Sum.inl _:Piece),(Sum.inl _:Piece),(Sum.inl _:Piece),(Sum.inl _:Piece),(Sum.inl _:Piece),(Sum.inl _:Piece),(Sum.inl _:Piece),(Sum.inl _:Piece),(Sum.inl _:Piece),(Sum.inl _:Piece),(Sum.inl _:Piece),(Sum.inl _:Piece),(Sum.inl _:Piece),(Sum.inl _:Piece),(Sum.inl _:Piece),(Sum.inl _:Piece),(Sum.inl _:Piece),(Sum.inl _:Piece),(Sum.inl _:Piece),(Sum.inl _:Piece),(Sum.inl _:Piece),(Sum.inl _:Piece),(Sum.inl _:Piece),(Sum.inl _:Piece),(Sum.inl _:Piece),(Sum.inl _:Piece),(Sum.inl _:Piece),(Sum.inl _:Piece),(Sum.inl _:Piece),(Sum.inl _:Piece),(Sum.inl _:Piece),(Sum.inl _:Piece),(Sum.inl _:Piece),(Sum.inl _:Piece),(Sum.inl _:Piece),(Sum.inl _:Piece),(Sum.inl _:Piece),(Sum.inl _:Piece)] kR kR ?P6
         case P6=>
          refine wD ?_;refine wE ?_;iterate 3 refine wD ?_
          refine wE ?_;refine wG (λW hE hN=>by have k1:=aO (HK1.o.ext hE) 22 9 5 Tryz.underlying22 Tryz.underlying5 Tryz.underlying9;exact gF) ?_;refine wD ?_;refine wE ?_;iterate 3 refine wD ?_
          refine wE ?_;refine wG (λW hE hN=>by have k1:=aO (HK2.o.ext hE) 22 9 5 Tryz.underlying22 Tryz.underlying5 Tryz.underlying9;exact gF) ?_;iterate 3 refine wD ?_
          refine wE ?_;iterate 3 refine wD ?_
          refine wE ?_;refine wD ?_;refine wE ?_;iterate 3 refine wD ?_
          refine wE ?_;iterate 4 refine wD ?_
          refine wE ?_;iterate 3 refine wD ?_
          refine wE ?_;refine wD ?_;refine wE ?_;iterate 3 refine wD ?_
          refine wE ?_;refine wG (λW hE hN=>by go_simp;rw[EX,ht1];refine⟨Below.refl _ _,?_⟩;rfl) ?_;refine wD ?_;refine aj λW1 hE1 hG1=>?_;have jC:=hE1.cF;have kK:=hE1.fF;have HB1:=Hd (HB.o.trans (hE1.mono HB.o.size));clear hE1 hG1 c1 c2;go_wp2;go_ret;exact⟨bg HWV.o.symm,HB1.o⟩
        |true=>
         have Ez:=Hd (show lX (A.kids.drop 0) (B.kids.drop 0)=lX (A.kids.drop (k+1)) (B.kids.drop (k+1)) by have h:=HST.o;dsimp only at h;rw[h,HSD.o,HQ.o];rfl);go_wp2_with fail;refine' ah [(Sum.inl _:Piece),(Sum.inl _:Piece),(Sum.inl _:Piece),(Sum.inl _:Piece),(Sum.inl _:Piece),(Sum.inl _:Piece),(Sum.inl _:Piece),(Sum.inl _:Piece),(Sum.inl _:Piece),(Sum.inl _:Piece),(Sum.inl _:Piece),(Sum.inl _:Piece),(Sum.inl _:Piece),(Sum.inl _:Piece),(Sum.inl _:Piece),(Sum.inl _:Piece),(Sum.inl _:Piece),(Sum.inl _:Piece),(Sum.inl _:Piece),(Sum.inl _:Piece),(Sum.inl _:Piece),(Sum.inl _:Piece),(Sum.inl _:Piece),(Sum.inl _:Piece),(Sum.inl _:Piece),(Sum.inl _:Piece),(Sum.inl _:Piece),(Sum.inl _:Piece),(Sum.inl _:Piece),(Sum.inl _:Piece),(Sum.inl _:Piece),(Sum.inl _:Piece),(Sum.inl _:Piece),(Sum.inl _:Piece),(Sum.inl _:Piece),(Sum.inl _:Piece),(Sum.inl _:Piece),(Sum.inl _:Piece),(Sum.inl _:Piece),(Sum.inl _:Piece),(Sum.inl _:Piece),(Sum.inl _:Piece),(Sum.inl _:Piece),(Sum.inl _:Piece),(Sum.inl _:Piece)] kR kR ?P7
         case P7=>
          refine wD ?_;refine wE ?_;iterate 3 refine wD ?_
          refine wE ?_;refine wG (λW hE hN=>by have k1:=aO (HK1.o.ext hE) 22 9 5 Tryz.underlying22 Tryz.underlying5 Tryz.underlying9;exact gF) ?_;refine wD ?_;refine wE ?_;iterate 3 refine wD ?_
          refine wE ?_;refine wG (λW hE hN=>by have k1:=aO (HK2.o.ext hE) 22 9 5 Tryz.underlying22 Tryz.underlying5 Tryz.underlying9;exact gF) ?_;iterate 3 refine wD ?_
          refine wE ?_;iterate 3 refine wD ?_
          refine wE ?_;refine wD ?_;refine wE ?_;iterate 3 refine wD ?_
          refine wE ?_;iterate 4 refine wD ?_
          refine wE ?_;iterate 3 refine wD ?_
          refine wE ?_;refine wD ?_;refine wE ?_;iterate 3 refine wD ?_
          refine wE ?_;refine wG (λW hE hN=>by go_simp;rw[EX,ht1];refine⟨Below.refl _ _,?_⟩;rfl) ?_;refine wD ?_;refine aj λW1 hE1 hG1=>?_;have jC:=hE1.cF;have kK:=hE1.fF;have HB1:=Hd (HB.o.trans (hE1.mono HB.o.size));have HY1:=Hd (HX1.o.ext hE1);have HY2:=Hd (HX2.o.ext hE1);clear hE1 hG1 c1 c2;go_wp2_with fail;go_roundw
          case rel=>exact⟨k+1,HLT.o,by go_num,Ez.o,HY1.o,HY2.o,HB1.o⟩
          case measure=>simp[intOf];omega
     .have hlt':¬(k:Int)<(kl:Int):=oM;have HIS:=Hd (show pJ A B=true by
       have h:=HST.o;simp only[List.drop_zero]at h;rw[HV2.o,h,List.drop_of_length_le (by have:=E2.o;omega),List.drop_of_length_le (by have:=E4.o;omega)];rfl)
      clear hlt hk hbel;go_wp2;go_ret;exact⟨bg HIS.o.symm,HB.o⟩
end Go.Proofs.YtenmnhnlcnmloaaGreat
