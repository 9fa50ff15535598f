/- Part of a proof of a law of the layer of trees. -/
import Derived.Test.YtenmnhnlcnmloaaGreatQa36
import Derived.Test.YtenmnhnlcnmloaaGreatQa12
import Derived.IntWalk
import Derived.Test.YtenmnhnlcnmloaaGreatQa01
set_option linter.unusedVariables false
set_option linter.unusedSimpArgs false
set_option maxHeartbeats 8000000
set_option maxRecDepth 8000
namespace Go.Dav
open Go Go.RowKit
theorem wP{α:Type}{p:α->Bool}{l:List α}{k:Nat}{x:α}(h:l[k]? =some x):(l.take (k+1)).all p=((l.take k).all p&&p x):=by
 rw[List.take_add_one,h,List.all_append];simp
theorem wQ{l:List aP}{k:Nat}{x:aP}(h:l[k]? =some x):(l.map (·.key)).getD k []=x.key:=by
 rw[List.getD_eq_getElem?_getD,List.getElem?_map,h];rfl
theorem wR{l:List dS}{k:Nat}{x:dS}(h:l[k]? =some x):(l.map (·.key)).getD k []=x.key:=by
 rw[List.getD_eq_getElem?_getD,List.getElem?_map,h];rfl
theorem Jb{l:List (List UInt8)}{j n:Nat}(hn:j+1<n)(h:bH (l.getD j []) (l.getD (j+1) [])=false):jw l n=false:=by
 unfold jw;rw[List.all_eq_false];exact⟨j+1,List.mem_range.2 hn,by rw[Nat.add_sub_cancel,h];simp⟩
theorem KD{N:aT}{k:Nat}{x:aP}(hl:N.leaf=true)(hx:N.items[k]? =some x)(h:fD x=false):bI N=false:=by
 unfold bI;rw[if_pos hl];have:N.items.all fD=false:=by
  rw[List.all_eq_false];exact⟨x,List.mem_of_getElem? hx,by rw[h];simp⟩
 rw[this,Bool.false_and]
theorem KE{N:aT}{j:Nat}{x y:aP}(hl:N.leaf=true)(hy:N.items[j]? =some y)(hx:N.items[j+1]? =some x)(h:bH y.key x.key=false):bI N=false:=by
 unfold bI;rw[if_pos hl];have:jw (N.items.map (·.key)) N.items.length=false:=
  Jb (List.getElem?_eq_some_iff.1 hx).1 (by rw[wQ hy,wQ hx];exact h)
 rw[this,Bool.false_and,Bool.and_false]
theorem Oc{N:aT}{k:Nat}{x:dS}(hl:N.leaf=false)(hx:N.kids[k]? =some x)(h:uG x=false):bI N=false:=by
 unfold bI;rw[hl,if_neg Bool.false_ne_true];have:N.kids.all uG=false:=by
  rw[List.all_eq_false];exact⟨x,List.mem_of_getElem? hx,by rw[h];simp⟩
 rw[this];simp
theorem KF{N:aT}{j:Nat}{x y:dS}(hl:N.leaf=false)(hy:N.kids[j]? =some y)(hx:N.kids[j+1]? =some x)(h:bH y.key x.key=false):bI N=false:=by
 unfold bI;rw[hl,if_neg Bool.false_ne_true];have:jw (N.kids.map (·.key)) N.kids.length=false:=
  Jb (List.getElem?_eq_some_iff.1 hx).1 (by rw[wR hy,wR hx];exact h)
 rw[this];simp
theorem tV{l:List (List UInt8)}{k:Nat}(h:jw l k=true)(h2:k=0\/bH (l.getD (k-1) []) (l.getD k [])=true):jw l (k+1)=true:=by
 rw[FM,h,Bool.true_and];rcases h2 with h2|h2
 .simp[h2]
 .rw[h2,Bool.or_true]
theorem Jc{l:List dS}{k:Nat}{x:dS}(h:l[k]? =some x):jQ l (k+1)=jQ l k+x.red.c:=by
 unfold jQ;rw[List.take_add_one,h];simp
theorem Vs{x:dS}(h:uG x=true):0<=x.red.c/\x.red.c<=1073741824:=by
 unfold uG at h;simp only[Bool.and_eq_true,decide_eq_true_eq]at h;have:=Red.Jl h.2.2.2.2.2;omega
end Go.Dav
namespace Go.Proofs.YtenmnhnlcnmloaaGreat
open Go.RowKit Go.Dav
attribute [local go_sem] Gives ite_val ay
theorem wU(k:dS)(ka:Option Addr)(kl kc:Nat)(w:World)(hk:k.key.length=kl)(hf:k.red.fits):
  Calls Tryz.prog 158 #[.agg #[.slice ka kl kc, .int .i64 k.at_, .int .i64 k.red.c, .int .i64 k.red.n, .int .i64 (hi k.red.s), .int .u64 (lo k.red.s), .int .i64 k.red.l, .int .i64 k.red.m]] w λe w'=>e= .returned (.bool (uG k))/\Below w.heap.size w w':=by
 have hl:I64 k.red.l:=hf.2.2.1;have hm:I64 k.red.m:=hf.2.2.2;obtain⟨r,hr⟩:∃r,uG k=r:=⟨_,rfl⟩;rw[hr];unfold uG at hr;rw[hk]at hr;have HR:=Hd hr;clear hr hf hk;obtain⟨key,at_,red⟩:=k;dsimp only at*;by_cases f1:1<=kl;rotate_left
 .have e:r=false:=by rw[<- HR.o];simp;omega
  subst e;go_enter Tryz.func158,Tryz.ntmps158;go_wp2;go_ret;exact⟨rfl,bW⟩
 by_cases f2:kl<=120;rotate_left
 .have e:r=false:=by rw[<- HR.o];simp;omega
  subst e;go_enter Tryz.func158,Tryz.ntmps158;go_wp2;go_ret;exact⟨rfl,bW⟩
 by_cases g1:1<=at_;rotate_left
 .have e:r=false:=by rw[<- HR.o];simp;omega
  subst e;go_enter Tryz.func158,Tryz.ntmps158;go_wp2;go_ret;exact⟨rfl,bW⟩
 by_cases g2:at_<524288;rotate_left
 .have e:r=false:=by rw[<- HR.o];simp;omega
  subst e;go_enter Tryz.func158,Tryz.ntmps158;go_wp2;go_ret;exact⟨rfl,bW⟩
 by_cases g3:1<=red.c;rotate_left
 .have e:r=false:=by rw[<- HR.o];simp;omega
  subst e;go_enter Tryz.func158,Tryz.ntmps158;go_wp2;go_ret;exact⟨rfl,bW⟩
 go_enter Tryz.func158,Tryz.ntmps158;go_wp2_with fail;(with_reducible refine(Jp red _ hl hm).mono ?_);rintro e w1 ⟨rfl,hb⟩
 obtain⟨q,hq⟩:∃q,red.ok=q:=⟨_,rfl⟩;have e:r=q:=by rw[<- HR.o,<- hq,decide_eq_true f1,decide_eq_true f2,decide_eq_true g1,decide_eq_true g2,decide_eq_true g3];rfl
 rw[hq];subst e;clear hq;go_wp2;go_ret;exact⟨rfl,(by have hz:=hb;exact bV)⟩
def Vt(w:World)(cs:List Value)(N:aT)(n:Nat)(ix:Value)(wr:World):Prop:=
 ∃k:Nat,k<=n/\ix= .int .i64 k/\(N.items.take k).all fD=true/\jw (N.items.map (·.key)) k=true/\Blk wr w.heap.size cs 67/\Below w.heap.size w wr
def Vu(w:World)(cs:List Value)(N:aT)(n:Nat)(cv ix:Value)(wr:World):Prop:=
 ∃k:Nat,k<=n/\ix= .int .i64 k/\cv= .int .i64 (jQ N.kids k)/\0<=jQ N.kids k/\jQ N.kids k<=1073741824*k/\(N.kids.take k).all uG=true/\jw (N.kids.map (·.key)) k=true/\Blk wr w.heap.size cs 67/\Below w.heap.size w wr
theorem fK(N:aT)(ia ka:Option Addr)(il ic kl kc:Nat)(S:Nat->Prop)(w:World)(hN:bM w S ia il ic ka kl kc N):
  Calls Tryz.prog 113 #[.agg #[.bool N.leaf, .slice ia il ic, .slice ka kl kc]] w λe w'=>e= .returned (.bool (bI N))/\Below w.heap.size w w':=by
 obtain⟨f,hf⟩:∃f,N.leaf=f:=⟨_,rfl⟩;rw[hf];have hb0:Below w.heap.size w (w.alloc (.cells #[.bool f, .slice ia il ic, .slice ka kl kc] 67)):=bW;have hq0:=Blk.new w [.bool f, .slice ia il ic, .slice ka kl kc] 67;have e1:=hN.items.hlen;have e2:=hN.kids.hlen;have b1:(il:Int)<=140737488355328:=by have:=hN.items.hfew;omega
 have b2:(kl:Int)<=140737488355328:=by have:=hN.kids.hfew;omega
 have HN:=Hd hN;have HQ0:=Hd hq0;have HB0:=Hd hb0;have E1:=Hd e1;have E2:=Hd e2;have HF:=Hd hf;clear hN hq0 hb0 e1 e2 hf;cases f with
 |true=>
  go_enter Tryz.func113,Tryz.ntmps113;go_wp2_with fail;go_loopw [3] (λix wr=>Vt w [.bool true, .slice ia il ic, .slice ka kl kc] N il ix wr) (λix _=>il-(intOf ix).toNat)
  case atStart=>exact⟨0,Nat.zero_le _,rfl,rfl,rfl,HQ0.o,HB0.o⟩
  case round=>
   obtain⟨k,hk,rfl,hall,hri,hq,hbel⟩:=hrel;have wV:=Hd hall;have HRI:=Hd hri;have HQ:=Hd hq;have HB:=Hd hbel;have c0:=hq.cells;have m0:=hq.marks;have l0:=hq.lt;clear hall hri hq;by_cases hlt:k<il
   .obtain⟨x,hx⟩:∃x,N.items[k]? =some x:=⟨_,List.getElem?_eq_getElem (by have:=E1.o;omega)⟩;obtain⟨b,o,xa,xl,xc,va,vl,vc,rfl,hb1,hs1,d0,d1,d2,d3,h4,h5,h6⟩:=(HN.o.ext HB.o).items.hat k x hx;have HXL:=Hd h4.at_.hlen;have HVL:=Hd h5.at_.hlen;have HK:=Hd h4.at_;have HX:=Hd hx;have hlt':(k:Int)<(il:Int):=oM;have HLT:=Hd hlt;have hk0:¬(k:Int)<0:=oM;clear hx h4 h5 h6 hs1 hk hlt hbel;obtain⟨q,hq⟩:∃q,fD x=q:=⟨_,rfl⟩;have HQQ:=Hd hq;clear hq;cases q with
    |false=>
     have HV:=Hd (KD HF.o HX.o HQQ.o);go_wp2_with fail;refine' ah [(Sum.inl _:Piece),(Sum.inl _:Piece),(Sum.inl _:Piece),(Sum.inl _:Piece),(Sum.inl _:Piece),(Sum.inl _:Piece),(Sum.inl _:Piece),(Sum.inl _:Piece),(Sum.inl undef:Piece),(Sum.inl undef:Piece),(Sum.inl undef:Piece),(Sum.inl undef:Piece),(Sum.inl undef:Piece),(Sum.inl undef:Piece),(Sum.inl undef:Piece),(Sum.inl undef:Piece),(Sum.inl undef:Piece),(Sum.inl undef:Piece),(Sum.inl undef:Piece),(Sum.inl undef:Piece),(Sum.inl undef:Piece),(Sum.inl undef:Piece),(Sum.inl undef:Piece),(Sum.inl undef:Piece),(Sum.inl undef:Piece),(Sum.inl undef:Piece),(Sum.inl undef:Piece),(Sum.inl _:Piece)] kR kR ?dN
     case dN=>
      refine wD ?_;refine wE ?_;iterate 2 refine wD ?_
      refine wE ?_;refine wG (λW hE hN=>by go_simp;refine⟨Below.refl _ _,?_⟩;refine(pV x _ _ _ _ _ _ W HXL.o HVL.o).mono ?_;rw[HQQ.o];rintro e w' ⟨rfl,hb⟩;refine⟨?_,hb⟩;rfl) ?_;iterate 2 refine wD ?_
      iterate 19 refine wS ?_
      refine wD ?_;refine aj λW1 hE1 hG1=>?_;have jC:=hE1.cF;have kK:=hE1.fF;have HB1:=Hd (HB.o.trans (hE1.mono HB.o.size));clear hE1 hG1 c0 m0 l0;go_wp2;go_ret;exact⟨bg HV.o.symm,HB1.o⟩
    |true=>
     have HA2:=Hd (show(N.items.take (k+1)).all fD=true by rw[wP HX.o,wV.o,HQQ.o];rfl);by_cases Vw:k=0
     .have HR2:=Hd (tV HRI.o (.inl Vw));have g3:¬0<k:=oM;have g4:decide (0<(k:Int))=false:=by simp;omega
      clear Vw;go_wp2_with fail;refine' ah [(Sum.inl _:Piece),(Sum.inl _:Piece),(Sum.inl _:Piece),(Sum.inl _:Piece),(Sum.inl _:Piece),(Sum.inl _:Piece),(Sum.inl _:Piece),(Sum.inl _:Piece),(Sum.inl _:Piece),(Sum.inl _:Piece),(Sum.inl _:Piece),(Sum.inl undef:Piece),(Sum.inl undef:Piece),(Sum.inl undef:Piece),(Sum.inl undef:Piece),(Sum.inl undef:Piece),(Sum.inl undef:Piece),(Sum.inl undef:Piece),(Sum.inl undef:Piece),(Sum.inl undef:Piece),(Sum.inl undef:Piece),(Sum.inl undef:Piece),(Sum.inl undef:Piece),(Sum.inl undef:Piece),(Sum.inl undef:Piece),(Sum.inl undef:Piece),(Sum.inl _:Piece),(Sum.inl _:Piece)] kR kR ?fZ
      case fZ=>
       refine wD ?_;refine wE ?_;iterate 2 refine wD ?_
       refine wE ?_;refine wG (λW hE hN=>by go_simp;refine⟨Below.refl _ _,?_⟩;refine(pV x _ _ _ _ _ _ W HXL.o HVL.o).mono ?_;rw[HQQ.o];rintro e w' ⟨rfl,hb⟩;refine⟨?_,hb⟩;rfl) ?_;iterate 5 refine wD ?_
       iterate 15 refine wS ?_
       iterate 2 refine wD ?_
       refine aj λW1 hE1 hG1=>?_;have jC:=hE1.cF;have kK:=hE1.fF;have HB1:=Hd (HB.o.trans (hE1.mono HB.o.size));have HY1:=Hd (HQ.o.ext hE1);clear hE1 hG1 c0 m0;go_wp2_with fail;go_roundw
       case rel=>exact⟨k+1,HLT.o,by go_num,HA2.o,HR2.o,HY1.o,HB1.o⟩
       case measure=>simp[intOf];omega
     .obtain⟨j,hj⟩:∃j,k=j+1:=⟨k-1,oM⟩;obtain⟨y,hy⟩:∃y,N.items[j]? =some y:=⟨_,List.getElem?_eq_getElem (by have:=E1.o;have:=HLT.o;omega)⟩;obtain⟨b2',o2,ya,yl,yc,za,zl,zc,heq,_,_,f0,f1,f2,f3,g4,g5,g6⟩:=(HN.o.ext HB.o).items.hat j y hy;cases heq;have hkj:(k:Int)-1=(j:Int):=oM;have hwj:IntKind.i64.wrap (j:Int)=(j:Int):=IntWalk.i64_in _ oM;have g3:0<k:=oM;have g7:decide (0<(k:Int))=true:=by simp;omega
      have g8:(j:Int)<(il:Int):=oM;have g9:¬(j:Int)<0:=oM;have HKY:=Hd g4.at_;have HX':=Hd (show N.items[j+1]? =some x by rw[<- hj];exact HX.o);have HJ:=Hd hj;have HY:=Hd hy;clear hj Vw hy g4 g5 g6;obtain⟨r,hr⟩:∃r,bH y.key x.key=r:=⟨_,rfl⟩;have HRR:=Hd hr;clear hr;cases r with
      |false=>
       have HV:=Hd (KE HF.o HY.o HX'.o HRR.o);go_wp2_with fail;refine' ah [(Sum.inl _:Piece),(Sum.inl _:Piece),(Sum.inl _:Piece),(Sum.inl _:Piece),(Sum.inl _:Piece),(Sum.inl _:Piece),(Sum.inl _:Piece),(Sum.inl _:Piece),(Sum.inl _:Piece),(Sum.inl _:Piece),(Sum.inl _:Piece),(Sum.inl _:Piece),(Sum.inl _:Piece),(Sum.inl _:Piece),(Sum.inl _:Piece),(Sum.inl _:Piece),(Sum.inl _:Piece),(Sum.inl _:Piece),(Sum.inl _:Piece),(Sum.inl _:Piece),(Sum.inl _:Piece),(Sum.inl _:Piece),(Sum.inl _:Piece),(Sum.inl _:Piece),(Sum.inl _:Piece),(Sum.inl _:Piece),(Sum.inl _:Piece),(Sum.inl _:Piece)] kR kR ?iT
       case iT=>
        refine wD ?_;refine wE ?_;iterate 2 refine wD ?_
        refine wE ?_;refine wG (λW hE hN=>by go_simp;refine⟨Below.refl _ _,?_⟩;refine(pV x _ _ _ _ _ _ W HXL.o HVL.o).mono ?_;rw[HQQ.o];rintro e w' ⟨rfl,hb⟩;refine⟨?_,hb⟩;rfl) ?_;iterate 6 refine wD ?_
        refine wE ?_;iterate 4 refine wD ?_
        refine wE ?_;refine wD ?_;refine wE ?_;iterate 3 refine wD ?_
        refine wE ?_;refine wG (λW hE hN=>by go_simp;refine⟨Below.refl _ _,?_⟩;refine(kJ _ _ _ _ _ _ _ _ W (HKY.o.ext hE) (HK.o.ext hE)).mono ?_;rw[HRR.o];rintro e w' ⟨rfl,hb⟩;refine⟨?_,hb⟩;rfl) ?_;iterate 3 refine wD ?_
        refine aj λW1 hE1 hG1=>?_;have jC:=hE1.cF;have kK:=hE1.fF;have HB1:=Hd (HB.o.trans (hE1.mono HB.o.size));clear hE1 hG1 c0 m0 l0;go_wp2;go_ret;exact⟨bg HV.o.symm,HB1.o⟩
      |true=>
       have HR2:=Hd (tV HRI.o (.inr (by rw[HJ.o,Nat.add_sub_cancel,wQ HY.o,wQ HX'.o];exact HRR.o)));go_wp2_with fail;refine' ah [(Sum.inl _:Piece),(Sum.inl _:Piece),(Sum.inl _:Piece),(Sum.inl _:Piece),(Sum.inl _:Piece),(Sum.inl _:Piece),(Sum.inl _:Piece),(Sum.inl _:Piece),(Sum.inl _:Piece),(Sum.inl _:Piece),(Sum.inl _:Piece),(Sum.inl _:Piece),(Sum.inl _:Piece),(Sum.inl _:Piece),(Sum.inl _:Piece),(Sum.inl _:Piece),(Sum.inl _:Piece),(Sum.inl _:Piece),(Sum.inl _:Piece),(Sum.inl _:Piece),(Sum.inl _:Piece),(Sum.inl _:Piece),(Sum.inl _:Piece),(Sum.inl _:Piece),(Sum.inl _:Piece),(Sum.inl _:Piece),(Sum.inl _:Piece),(Sum.inl _:Piece)] kR kR ?jI
       case jI=>
        refine wD ?_;refine wE ?_;iterate 2 refine wD ?_
        refine wE ?_;refine wG (λW hE hN=>by go_simp;refine⟨Below.refl _ _,?_⟩;refine(pV x _ _ _ _ _ _ W HXL.o HVL.o).mono ?_;rw[HQQ.o];rintro e w' ⟨rfl,hb⟩;refine⟨?_,hb⟩;rfl) ?_;iterate 6 refine wD ?_
        refine wE ?_;iterate 4 refine wD ?_
        refine wE ?_;refine wD ?_;refine wE ?_;iterate 3 refine wD ?_
        refine wE ?_;refine wG (λW hE hN=>by go_simp;refine⟨Below.refl _ _,?_⟩;refine(kJ _ _ _ _ _ _ _ _ W (HKY.o.ext hE) (HK.o.ext hE)).mono ?_;rw[HRR.o];rintro e w' ⟨rfl,hb⟩;refine⟨?_,hb⟩;rfl) ?_;iterate 3 refine wD ?_
        refine aj λW1 hE1 hG1=>?_;have jC:=hE1.cF;have kK:=hE1.fF;have HB1:=Hd (HB.o.trans (hE1.mono HB.o.size));have HY1:=Hd (HQ.o.ext hE1);clear hE1 hG1 c0 m0;go_wp2_with fail;go_roundw
        case rel=>exact⟨k+1,HLT.o,by go_num,HA2.o,HR2.o,HY1.o,HB1.o⟩
        case measure=>simp[intOf];omega
   .obtain rfl:k=il:=oM;have hlt':¬(k:Int)<(k:Int):=oM;have HV:=Hd (show bI N=(decide (1<=k)&&(decide (k<=6)&&decide (kl=0))) by
     have h1:=wV.o;have h2:=HRI.o;rw[List.take_of_length_le (by rw[E1.o];exact Nat.le_refl _)]at h1;unfold bI;rw[if_pos HF.o,h1,E1.o,E2.o,h2,Bool.true_and,Bool.true_and])
    clear hk hbel hlt;by_cases f1:1<=k;rotate_left
    .have HW:=Hd (show bI N=false by rw[HV.o];simp;omega);go_wp2;go_ret;exact⟨bg HW.o.symm,HB.o⟩
    by_cases f2:k<=6;rotate_left
    .have HW:=Hd (show bI N=false by rw[HV.o];simp;omega);go_wp2;go_ret;exact⟨bg HW.o.symm,HB.o⟩
    by_cases f3:kl=0
    .have HW:=Hd (show bI N=true by rw[HV.o];simp;omega);subst f3;go_wp2;go_ret;exact⟨bg HW.o.symm,HB.o⟩
    .have HW:=Hd (show bI N=false by rw[HV.o];simp;omega);have f4:((kl:Int)==0)=false:=by simp;omega
     go_wp2;go_ret;exact⟨bg HW.o.symm,HB.o⟩
 |false=>
  have HV:=Hd (show bI N=(decide (2<=kl)&&(decide (kl<=6)&&(decide (il=0)&&(N.kids.all uG&&(jw (N.kids.map (·.key)) kl&&decide (jQ N.kids kl<=1073741824)))))) by
   unfold bI;rw[HF.o,if_neg Bool.false_ne_true,E1.o,E2.o])
  by_cases f1:2<=kl;rotate_left
  .have HW:=Hd (show bI N=false by rw[HV.o];simp;omega);have f1':(kl:Int)<2:=oM;go_enter Tryz.func113,Tryz.ntmps113;go_wp2;go_ret;exact⟨bg HW.o.symm,HB0.o⟩
  have f1':¬(kl:Int)<2:=oM;by_cases f2:kl<=6;rotate_left
  .have HW:=Hd (show bI N=false by rw[HV.o];simp;omega);have f2':6<(kl:Int):=oM;go_enter Tryz.func113,Tryz.ntmps113;go_wp2;go_ret;exact⟨bg HW.o.symm,HB0.o⟩
  have f2':¬6<(kl:Int):=oM;by_cases f3:il=0;rotate_left
  .have HW:=Hd (show bI N=false by rw[HV.o];simp;omega);have f3':0<il:=oM;go_enter Tryz.func113,Tryz.ntmps113;go_wp2;go_ret;exact⟨bg HW.o.symm,HB0.o⟩
  subst f3;have HF6:=Hd f2;have HF2:=Hd f1;go_enter Tryz.func113,Tryz.ntmps113;go_wp2_with fail;clear f1 f2 f1' f2';go_loopw [4,5] (λcv ix wr=>Vu w [.bool false, .slice ia 0 ic, .slice ka kl kc] N kl cv ix wr) (λ_ ix _=>kl-(intOf ix).toNat)
  case atStart=>exact⟨0,Nat.zero_le _,rfl,rfl,by simp[jQ],by simp[jQ],rfl,rfl,HQ0.o,HB0.o⟩
  case round=>
   obtain⟨k,hk,rfl,rfl,hc0,hc1,hall,hri,hq,hbel⟩:=hrel;have wV:=Hd hall;have HRI:=Hd hri;have HQ:=Hd hq;have HB:=Hd hbel;have c0:=hq.cells;have m0:=hq.marks;have l0:=hq.lt;obtain⟨s,hs⟩:∃s,jQ N.kids k=s:=⟨_,rfl⟩;rw[hs]at hc0 hc1⊢;have HS:=Hd hs;have hs7:s<=6442450944:=by have:=HF6.o;omega
   clear hall hri hq hs;by_cases hlt:k<kl
   .obtain⟨x,hx⟩:∃x,N.kids[k]? =some x:=⟨_,List.getElem?_eq_getElem (by have:=E2.o;omega)⟩;obtain⟨b,o,xa,xl,xc,rfl,hb1,hs1,d0,d1,d2,d3,d4,d5,d6,d7,h4,h5,h6⟩:=(HN.o.ext HB.o).kids.hat k x hx;have HXL:=Hd h4.at_.hlen;have HK:=Hd h4.at_;have HFI:=Hd h6;have HX:=Hd hx;have hlt':(k:Int)<(kl:Int):=oM;have HLT:=Hd hlt;have HC1:=Hd hc1;have hk0:¬(k:Int)<0:=oM;clear hx h4 h5 h6 hs1 hk hlt hbel hc1;obtain⟨q,hq⟩:∃q,uG x=q:=⟨_,rfl⟩;have HQQ:=Hd hq;clear hq;cases q with
    |false=>
     have HW:=Hd (Oc HF.o HX.o HQQ.o);go_wp2_with fail;refine' ah [(Sum.inl _:Piece),(Sum.inl _:Piece),(Sum.inl _:Piece),(Sum.inl _:Piece),(Sum.inl _:Piece),(Sum.inl _:Piece),(Sum.inl _:Piece),(Sum.inl _:Piece),(Sum.inl undef:Piece),(Sum.inl undef:Piece),(Sum.inl undef:Piece),(Sum.inl undef:Piece),(Sum.inl undef:Piece),(Sum.inl undef:Piece),(Sum.inl undef:Piece),(Sum.inl undef:Piece),(Sum.inl undef:Piece),(Sum.inl undef:Piece),(Sum.inl undef:Piece),(Sum.inl undef:Piece),(Sum.inl undef:Piece),(Sum.inl undef:Piece),(Sum.inl undef:Piece),(Sum.inl undef:Piece),(Sum.inl undef:Piece),(Sum.inl undef:Piece),(Sum.inl undef:Piece),(Sum.inl _:Piece)] kR kR ?main5
     case main5=>
      refine wD ?_;refine wE ?_;iterate 2 refine wD ?_
      refine wE ?_;refine wG (λW hE hN=>by go_simp;refine⟨Below.refl _ _,?_⟩;refine(wU x _ _ _ W HXL.o HFI.o).mono ?_;rw[HQQ.o];rintro e w' ⟨rfl,hb⟩;refine⟨?_,hb⟩;rfl) ?_;iterate 2 refine wD ?_
      iterate 19 refine wS ?_
      refine wD ?_;refine aj λW1 hE1 hG1=>?_;have jC:=hE1.cF;have kK:=hE1.fF;have HB1:=Hd (HB.o.trans (hE1.mono HB.o.size));clear hE1 hG1 c0 m0 l0;go_wp2;go_ret;exact⟨bg HW.o.symm,HB1.o⟩
    |true=>
     have HA2:=Hd (show(N.kids.take (k+1)).all uG=true by rw[wP HX.o,wV.o,HQQ.o];rfl);obtain⟨hr0,hr1⟩:=Vs HQQ.o;have HCN:=Hd (show jQ N.kids (k+1)=s+x.red.c by rw[Jc HX.o,HS.o]);by_cases Vw:k=0
     .have HR2:=Hd (tV HRI.o (.inl Vw));have g3:¬0<k:=oM;have g4:decide (0<(k:Int))=false:=by simp;omega
      clear Vw;go_wp2_with fail;refine' ah [(Sum.inl _:Piece),(Sum.inl _:Piece),(Sum.inl _:Piece),(Sum.inl _:Piece),(Sum.inl _:Piece),(Sum.inl _:Piece),(Sum.inl _:Piece),(Sum.inl _:Piece),(Sum.inl _:Piece),(Sum.inl _:Piece),(Sum.inl _:Piece),(Sum.inl undef:Piece),(Sum.inl undef:Piece),(Sum.inl undef:Piece),(Sum.inl undef:Piece),(Sum.inl undef:Piece),(Sum.inl undef:Piece),(Sum.inl undef:Piece),(Sum.inl undef:Piece),(Sum.inl undef:Piece),(Sum.inl undef:Piece),(Sum.inl undef:Piece),(Sum.inl undef:Piece),(Sum.inl undef:Piece),(Sum.inl undef:Piece),(Sum.inl undef:Piece),(Sum.inl _:Piece),(Sum.inl _:Piece)] kR kR ?nH
      case nH=>
       refine wD ?_;refine wE ?_;iterate 2 refine wD ?_
       refine wE ?_;refine wG (λW hE hN=>by go_simp;refine⟨Below.refl _ _,?_⟩;refine(wU x _ _ _ W HXL.o HFI.o).mono ?_;rw[HQQ.o];rintro e w' ⟨rfl,hb⟩;refine⟨?_,hb⟩;rfl) ?_;iterate 5 refine wD ?_
       iterate 15 refine wS ?_
       iterate 2 refine wD ?_
       refine aj λW1 hE1 hG1=>?_;have jC:=hE1.cF;have kK:=hE1.fF;have HB1:=Hd (HB.o.trans (hE1.mono HB.o.size));have HY1:=Hd (HQ.o.ext hE1);have c1:=HY1.o.cells;have m1:=HY1.o.marks;have d2':=(jC b (o+k*8+2) hb1).trans d2;clear hE1 hG1 c0 m0 jC;go_wp2_with fail;go_roundw
       case rel=>exact⟨k+1,HLT.o,by go_num,by rw[HCN.o],by rw[HCN.o];omega,by rw[HCN.o];have:=HC1.o;omega,HA2.o,HR2.o,HY1.o,HB1.o⟩
       case measure=>simp[intOf];omega
     .obtain⟨j,hj⟩:∃j,k=j+1:=⟨k-1,oM⟩;obtain⟨y,hy⟩:∃y,N.kids[j]? =some y:=⟨_,List.getElem?_eq_getElem (by have:=E2.o;have:=HLT.o;omega)⟩;obtain⟨b2',o2,ya,yl,yc,heq,_,_,f0,f1,f2,f3,f4,f5,f6,f7,g4,g5,g6⟩:=(HN.o.ext HB.o).kids.hat j y hy;cases heq;have hkj:(k:Int)-1=(j:Int):=oM;have hwj:IntKind.i64.wrap (j:Int)=(j:Int):=IntWalk.i64_in _ oM;have g3:0<k:=oM;have g7:decide (0<(k:Int))=true:=by simp;omega
      have g8:(j:Int)<(kl:Int):=oM;have g9:¬(j:Int)<0:=oM;have HKY:=Hd g4.at_;have HX':=Hd (show N.kids[j+1]? =some x by rw[<- hj];exact HX.o);have HJ:=Hd hj;have HY:=Hd hy;clear hj Vw hy g4 g5 g6 f1 f2 f3 f4 f5 f6 f7;obtain⟨r,hr⟩:∃r,bH y.key x.key=r:=⟨_,rfl⟩;have HRR:=Hd hr;clear hr;cases r with
      |false=>
       have HW:=Hd (KF HF.o HY.o HX'.o HRR.o);go_wp2_with fail;refine' ah [(Sum.inl _:Piece),(Sum.inl _:Piece),(Sum.inl _:Piece),(Sum.inl _:Piece),(Sum.inl _:Piece),(Sum.inl _:Piece),(Sum.inl _:Piece),(Sum.inl _:Piece),(Sum.inl _:Piece),(Sum.inl _:Piece),(Sum.inl _:Piece),(Sum.inl _:Piece),(Sum.inl _:Piece),(Sum.inl _:Piece),(Sum.inl _:Piece),(Sum.inl _:Piece),(Sum.inl _:Piece),(Sum.inl _:Piece),(Sum.inl _:Piece),(Sum.inl _:Piece),(Sum.inl _:Piece),(Sum.inl _:Piece),(Sum.inl _:Piece),(Sum.inl _:Piece),(Sum.inl _:Piece),(Sum.inl _:Piece),(Sum.inl _:Piece),(Sum.inl _:Piece)] kR kR ?uI
       case uI=>
        refine wD ?_;refine wE ?_;iterate 2 refine wD ?_
        refine wE ?_;refine wG (λW hE hN=>by go_simp;refine⟨Below.refl _ _,?_⟩;refine(wU x _ _ _ W HXL.o HFI.o).mono ?_;rw[HQQ.o];rintro e w' ⟨rfl,hb⟩;refine⟨?_,hb⟩;rfl) ?_;iterate 6 refine wD ?_
        refine wE ?_;iterate 4 refine wD ?_
        refine wE ?_;refine wD ?_;refine wE ?_;iterate 3 refine wD ?_
        refine wE ?_;refine wG (λW hE hN=>by go_simp;refine⟨Below.refl _ _,?_⟩;refine(kJ _ _ _ _ _ _ _ _ W (HKY.o.ext hE) (HK.o.ext hE)).mono ?_;rw[HRR.o];rintro e w' ⟨rfl,hb⟩;refine⟨?_,hb⟩;rfl) ?_;iterate 3 refine wD ?_
        refine aj λW1 hE1 hG1=>?_;have jC:=hE1.cF;have kK:=hE1.fF;have HB1:=Hd (HB.o.trans (hE1.mono HB.o.size));clear hE1 hG1 c0 m0 l0;go_wp2;go_ret;exact⟨bg HW.o.symm,HB1.o⟩
      |true=>
       have HR2:=Hd (tV HRI.o (.inr (by rw[HJ.o,Nat.add_sub_cancel,wR HY.o,wR HX'.o];exact HRR.o)));go_wp2_with fail;refine' ah [(Sum.inl _:Piece),(Sum.inl _:Piece),(Sum.inl _:Piece),(Sum.inl _:Piece),(Sum.inl _:Piece),(Sum.inl _:Piece),(Sum.inl _:Piece),(Sum.inl _:Piece),(Sum.inl _:Piece),(Sum.inl _:Piece),(Sum.inl _:Piece),(Sum.inl _:Piece),(Sum.inl _:Piece),(Sum.inl _:Piece),(Sum.inl _:Piece),(Sum.inl _:Piece),(Sum.inl _:Piece),(Sum.inl _:Piece),(Sum.inl _:Piece),(Sum.inl _:Piece),(Sum.inl _:Piece),(Sum.inl _:Piece),(Sum.inl _:Piece),(Sum.inl _:Piece),(Sum.inl _:Piece),(Sum.inl _:Piece),(Sum.inl _:Piece),(Sum.inl _:Piece)] kR kR ?uJ
       case uJ=>
        refine wD ?_;refine wE ?_;iterate 2 refine wD ?_
        refine wE ?_;refine wG (λW hE hN=>by go_simp;refine⟨Below.refl _ _,?_⟩;refine(wU x _ _ _ W HXL.o HFI.o).mono ?_;rw[HQQ.o];rintro e w' ⟨rfl,hb⟩;refine⟨?_,hb⟩;rfl) ?_;iterate 6 refine wD ?_
        refine wE ?_;iterate 4 refine wD ?_
        refine wE ?_;refine wD ?_;refine wE ?_;iterate 3 refine wD ?_
        refine wE ?_;refine wG (λW hE hN=>by go_simp;refine⟨Below.refl _ _,?_⟩;refine(kJ _ _ _ _ _ _ _ _ W (HKY.o.ext hE) (HK.o.ext hE)).mono ?_;rw[HRR.o];rintro e w' ⟨rfl,hb⟩;refine⟨?_,hb⟩;rfl) ?_;iterate 3 refine wD ?_
        refine aj λW1 hE1 hG1=>?_;have jC:=hE1.cF;have kK:=hE1.fF;have HB1:=Hd (HB.o.trans (hE1.mono HB.o.size));have HY1:=Hd (HQ.o.ext hE1);have c1:=HY1.o.cells;have m1:=HY1.o.marks;have d2':=(jC b (o+k*8+2) hb1).trans d2;clear hE1 hG1 c0 m0 jC;go_wp2_with fail;go_roundw
        case rel=>exact⟨k+1,HLT.o,by go_num,by rw[HCN.o],by rw[HCN.o];omega,by rw[HCN.o];have:=HC1.o;omega,HA2.o,HR2.o,HY1.o,HB1.o⟩
        case measure=>simp[intOf];omega
   .obtain rfl:k=kl:=oM;have hlt':¬(k:Int)<(k:Int):=oM;have HW:=Hd (show bI N=decide (s<=1073741824) by
     have h1:=wV.o;have h2:=HRI.o;rw[List.take_of_length_le (by rw[E2.o];exact Nat.le_refl _)]at h1;have g1:=HF2.o;have g2:=HF6.o;rw[HV.o,h1,h2,HS.o,decide_eq_true g1,decide_eq_true g2];simp)
    clear hlt hk hbel hc1;by_cases g:s<=1073741824
    .have HW2:=Hd (show bI N=true by rw[HW.o];simpa using g);go_wp2;go_ret;exact⟨bg HW2.o.symm,HB.o⟩
    .have HW2:=Hd (show bI N=false by rw[HW.o];simpa using g);go_wp2;go_ret;exact⟨bg HW2.o.symm,HB.o⟩
end Go.Proofs.YtenmnhnlcnmloaaGreat
