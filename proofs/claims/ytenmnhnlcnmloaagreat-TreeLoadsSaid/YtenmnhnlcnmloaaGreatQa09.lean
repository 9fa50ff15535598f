/- Part of a proof of a law of the layer of trees. -/
import Derived.Test.YtenmnhnlcnmloaaGreatQa08
import Derived.Outline
import Derived.Test.YtenmnhnlcnmloaaGreatQa04
import Derived.Lib.AppendZerosOnto
import Derived.Test.YtenmnhnlcnmloaaGreatQa03
import Derived.RegionTactic
import Derived.Test.YtenmnhnlcnmloaaGreatProg
import Derived.Test.YtenmnhnlcnmloaaGreatQa07
import Derived.WalkKit
import Derived.WalkSpells
import Derived.WalkLawsBesides
import Derived.BigQuiet
import Derived.Lib.Hide
import Derived.Test.YtenmnhnlcnmloaaGreatQa01
set_option linter.unusedVariables false
set_option linter.unusedSimpArgs false
set_option maxHeartbeats 8000000
set_option maxRecDepth 8000
namespace Go.Dav
open Go Go.RowKit
theorem mZ{L:List dw}{k:Nat}{x:dw}(h:L[k]? =some x)(hx:pOk x=false):uM L k=false:=by
 unfold uM;rw[h];simp[hx]
theorem Dh{L:List dw}{k:Nat}(h:iL L k=false):uM L k=false:=by
 unfold uM;simp[h]
theorem sW{L:List dw}{k:Nat}(h:¬gX L (k+1)<=1073741824):uM L k=false:=by
 unfold uM;simp[h]
theorem zi{L:List dw}{k:Nat}{x:dw}(h:L[k]? =some x)(hx:pOk x=true)(h2:iL L k=true)(h3:gX L (k+1)<=1073741824):uM L k=true:=by
 unfold uM;rw[h];simp[hx,h2,h3]
theorem Gm{L:List dw}{k:Nat}{x y:dw}(hy:L[k]? =some y)(hx:L[k+1]? =some x):iL L (k+1)=bH (qX y) (qX x):=by
 unfold iL;rw[Nat.add_sub_cancel,hy,hx];simp
theorem KP{x:dw}(h:¬1<=(qX x).length):pOk x=false:=by unfold pOk;simp[h]
theorem KQ{x:dw}(h:¬(qX x).length<=120):pOk x=false:=by unfold pOk;simp[h]
theorem O9{x:dw}(h:O1 x=false):pOk x=false:=by unfold pOk;simp[h]
theorem TR{x:dw}(h1:1<=(qX x).length)(h2:(qX x).length<=120)(h3:O1 x=true):pOk x=true:=by unfold pOk;simp[h1,h2,h3]
theorem TS{x:dw}(h:O1 x=true):0<=(BO x).c/\(BO x).c<=1073741824:=by
 cases x with
 |inl x=>unfold BO ig;dsimp only;split<;>simp
 |inr x=>
  unfold O1 at h;simp only[Bool.and_eq_true,decide_eq_true_eq]at h;have:=Red.Jl h.2.2.2;unfold BO;dsimp only;omega
def bQ(x n:Nat):List UInt8:=(List.range n).map λi=>UInt8.ofNat (x/2^(8*(n-1-i)))
theorem bG(x n:Nat):(bQ x n).length=n:=by simp[bQ]
theorem Di{x n j:Nat}(h:j<n):(bQ x n)[j]? =some (UInt8.ofNat (x/2^(8*(n-1-j)))):=by simp[bQ,h]
theorem Jv{x n j:Nat}(h:j<n):(bQ x n).take (j+1)=(bQ x n).take j++[UInt8.ofNat (x/2^(8*(n-1-j)))]:=by
 rw[List.take_add_one,Di h];rfl
theorem Ru(x e:Nat):u8s [UInt8.ofNat (x/2^e)]=[.int .u8 ((x:Int)/2^e%256)]:=by
 simp[u8s]
structure Grew(n:Nat)(e:TypeId)(W W':World):Prop where
 os:W'.os=W.os
 tape:W'.tape=W.tape
 output:W'.output=W.output
 size:W.heap.size<=W'.heap.size
 block:∀k,k<W.heap.size->(k<n\/∃cs t fz,W.heap[k]? =some (.cells cs t fz)/\t≠e)->W'.heap[k]? =W.heap[k]?
theorem Grew.refl(n:Nat)(e:TypeId)(W:World):Grew n e W W:=⟨rfl,rfl,rfl,Nat.le_refl _,λ_ _ _=>rfl⟩
theorem Grew.trans{n:Nat}{e:TypeId}{A B C:World}(h:Grew n e A B)(k:Grew n e B C):Grew n e A C:=
 ⟨k.os.trans h.os,k.tape.trans h.tape,k.output.trans h.output,Nat.le_trans h.size k.size,λj hj hc=>by
  have h1:=h.block j hj hc;refine(k.block j (Nat.lt_of_lt_of_le hj h.size) ?_).trans h1;rcases hc with hc|⟨cs,t,fz,h2,h3⟩
  .exact .inl hc
  .exact .inr ⟨cs,t,fz,h1.trans h2,h3⟩⟩
theorem Grew.below{n:Nat}{e:TypeId}{W W':World}(h:Grew n e W W')(hn:n<=W.heap.size):Below n W W':=⟨h.os,h.tape,h.output,h.size,λk hk=>h.block k oM (.inl hk)⟩
theorem Grew.blk{n p:Nat}{e t:TypeId}{cs:List Value}{W W':World}(h:Grew n e W W')(hb:Blk W p cs t)(ht:t≠e):Blk W' p cs t:=(h.block p hb.lt (.inr ⟨_,_,_,hb,ht⟩)).trans hb
theorem Grew.of_below{n:Nat}{e:TypeId}{W W':World}(h:Below W.heap.size W W'):Grew n e W W':=⟨h.os,h.tape,h.output,h.size,λk hk _=>h.block k hk⟩
theorem Grew.Gn{n N:Nat}{e:TypeId}{W W':World}{v:Value}{xs:List Value}(hown:W.ownsRow n e 1 v N xs)(hg:W.grownBy W' v.ownBlock):Grew n e W W':=
 ⟨hg.os,hg.tape,hg.output,hg.size,λk hk hc=>hg.block k hk λe'=>by
  rcases hown.2 with⟨rfl,_⟩|⟨g,cap,cur,rfl,hb,hgb,_⟩
  .simp[Value.ownBlock]at e'
  .obtain rfl:k=g:=by simpa[Value.ownBlock]using e'
   rcases hc with hc|⟨cs,t,fz,h2,h3⟩
   .omega
   .rw[hgb]at h2;cases h2;exact h3 rfl⟩
def Pg(e:TypeId)(S:Nat->Prop)(n:Nat)(v:Value)(l:List UInt8)(W:World):Prop:=
 (∃a,v= .slice a l.length l.length/\bP W S a l.length (u8s l)/\(a=none->l.length=0))\/W.ownsRow n e 1 v l.length (u8s l)
theorem Pg.ext{e:TypeId}{S:Nat->Prop}{n:Nat}{v:Value}{l:List UInt8}{W W':World}(h:Pg e S n v l W)(hb:Below W.heap.size W W'):Pg e S n v l W':=by
 rcases h with⟨a,h1,h2,h3⟩|h
 .exact .inl ⟨a,h1,h2.ext hb,h3⟩
 .exact .inr (aK h hb)
theorem Ey{P:Program}{o:Oper}{a:Act}{W w':World}{s x:Operand}{t tx:TypeId}{v1 v2 v':Value}(ho:o.op= .call { callee:= .builtin .append,args:= #[s,x],argTypes:= #[t,tx]})(hs:a.eval s=v1)(hx:a.eval x=v2)
  (hr:(Builtin.append_ #[t,tx] o.type #[v1,v2]).run P W= .ok v' w'):(execOp a.eval o).run P W= .ok (.value v') w':=by
 unfold execOp;simp only[ho,resolve,invoke,builtin,Sem.run_bind,Sem.run_pure,Result.andThen_ok,List.map_toArray,List.map_cons,List.map_nil,hs,hx,hr]
theorem bP.take{W:World}{S:Nat->Prop}{a:Option Addr}{n k:Nat}{xs:List Value}(h:bP W S a n xs)(hk:k<=n):bP W S a k (xs.take k):=
 ⟨by rw[List.length_take,h.len];omega,λi v hi=>h.at_ i v (by rw[List.getElem?_take]at hi;split at hi<;>first|exact hi|cases hi)⟩
theorem xw{w:World}{base e size n G i:Nat}{t:TypeId}{v u:Value}{xs cs:List Value}(h:w.ownsRow base e size v n xs)(hb:Blk w G cs t)(ht:t≠e):(w.setCell ⟨G,i,none⟩ u).ownsRow base e size v n xs:=by
 refine⟨h.1,?_⟩;rcases h.2 with h2|⟨g,cap,cur,h1,h2,h3,h4⟩
 .exact .inl h2
 .refine .inr ⟨g,cap,cur,h1,h2,(Below.heap_setCell w ⟨G,i,none⟩ u g (λe'=>?_)).trans h3,h4⟩;subst e';rw[show w.heap[g]? =_ from hb]at h3;cases h3;exact ht rfl
theorem Grew.set{n G i:Nat}{e:TypeId}{W W':World}{u:Value}(h:Grew n e W W')(hG:n<=G):Below n W' (W'.setCell ⟨G,i,none⟩ u):=(Below.refl _ _).setCell (p:=⟨G,i,none⟩) hG u
theorem Gp(k:Nat):u8s (List.replicate k 0)=List.replicate k (.int .u8 0):=by simp[u8s]
section
variable{P:Program}{W:World}
variable{md:Region.Mode}{ops:Array Oper}{Q:Exit->Act->World->Prop}
end
end Go.Dav
namespace Go.Proofs.YtenmnhnlcnmloaaGreat
open Go.RowKit Go.Dav
attribute [local go_sem] Gives ite_val ay
theorem nV(c n h l x y:Int)(W:World):(Instr.field 35 (.agg #[.int .i64 c, .int .i64 n, .int .i64 h, .int .u64 l, .int .i64 x, .int .i64 y]) 0).run Tryz.prog W= .ok (.int .i64 c) W:=kR
def yh(w1:World)(L:List dw)(ix cv:Value)(wr:World):Prop:=
 ∃k:Nat,k<=L.length/\ix= .int .i64 k/\cv= .int .i64 (gX L k)/\0<=gX L k/\gX L k<=1073741824/\iU L k=true/\Below w1.heap.size w1 wr
theorem yT(N:aT)(ia ka:Option Addr)(il ic kl kc:Nat)(S:Nat->Prop)(w:World)(hN:bM w S ia il ic ka kl kc N)(hs:xZ N=true):
  Calls Tryz.prog 151 #[.agg #[.bool N.leaf, .slice ia il ic, .slice ka kl kc]] w λe w'=>e= .returned (.int .i64 (qQ N))/\Below w.heap.size w w':=by
 have hw:Below w.heap.size w (w.alloc (.cells #[.bool N.leaf, .slice ia il ic, .slice ka kl kc] 67)):=bW;have hparts:=sV N ia ka il ic kl kc S _ (hN.ext hw) (iW hs).2.2;have hL6:=(iW hs).2.2;have e1:=hN.items.hlen;have e2:=hN.kids.hlen;have i6:(il:Int)<=6:=by have:=(iW hs).1;omega
 have k6:(kl:Int)<=6:=by have:=(iW hs).2.1;omega
 have hsh:(N.leaf=true->kl=0)/\(N.leaf=false->il=0):=by
  unfold xZ at hs;simp only[Bool.and_eq_true]at hs;refine⟨λh=>?_,λh=>?_⟩
  .have:=hs.2.2;rw[if_pos h,decide_eq_true_eq]at this;omega
  .have:=hs.2.2;rw[h,if_neg Bool.false_ne_true,decide_eq_true_eq]at this;omega
 have HP:=Hd hparts;have HS:=Hd hs;have HSH:=Hd hsh;have HL6:=Hd hL6;have HCE:=Hd (show ug N=(decide (leastOf N<=(partsOf N).length)&&iU (partsOf N) (partsOf N).length) by unfold ug;rw[hs,Bool.true_and]);obtain⟨L,hL⟩:∃L,partsOf N=L:=⟨_,rfl⟩;obtain⟨m,hm⟩:∃m,leastOf N=m:=⟨_,rfl⟩;obtain⟨f,hf⟩:∃f,N.leaf=f:=⟨_,rfl⟩;have hm2:m<=2:=by rw[<- hm];unfold leastOf;split<;>omega
 rw[hf];rw[hf]at HP HSH;rw[hL,hm]at HCE;rw[hL]at HL6;have HL:=Hd hL;have HM:=Hd hm;clear hparts hs hsh hN e1 e2 hL6 hL hm hw hf;have i7:decide (6<(il:Int))=false:=by simp;omega
 have k7:decide (6<(kl:Int))=false:=by simp;omega
 cases f with
 |true=>
  have k0:kl=0:=HSH.o.1 rfl;subst k0;go_enter Tryz.func151,Tryz.ntmps151;go_wp2_with fail;(with_reducible refine HP.o.mono ?_);rintro e w1 ⟨pa,pn,pc,rfl,hPS,hb1⟩
  rw[HL.o]at hPS;rw[HM.o];have hpl:=hPS.hlen;have h6:(pn:Int)<=6:=by have:=HL6.o;omega
  have hpc:=hPS.hcap;have hs1:w.heap.size+1<=w1.heap.size:=by have:=hb1.size;simpa using this
  have HPS:=Hd hPS;have HB1:=Hd hb1;have HPL:=Hd hpl;clear hPS hb1 hpl;by_cases hlm:pn<m
  .have hv:qQ N=240:=rG (by rw[HCE.o,HPL.o];simp;omega);have HV:=Hd hv;have Uz:(pn:Int)<(m:Int):=oM;clear hv;go_wp2;go_ret;exact⟨by rw[HV.o];rfl,by have hb:=HB1.o;exact(by have hz:=hb;exact bV)⟩
  have Uz:¬(pn:Int)<(m:Int):=oM;have V8:=Hd (show ug N=iU L L.length by rw[HCE.o,HPL.o];simp;omega);go_wp2_with fail;clear hlm Uz hm2;go_loopw [51,5] (λix cv wr=>yh w1 L ix cv wr) (λix _ _=>pn-(intOf ix).toNat)
  case atStart=>exact⟨0,Nat.zero_le _,rfl,by rw[kM],by rw[kM];omega,by rw[kM];omega,rfl,Below.refl _ _⟩
  case round=>
   obtain⟨k,hk,rfl,rfl,hr0,hr1,hst,hbel⟩:=hrel;have HB:=Hd hbel;have HST:=Hd hst;have hbs:=hbel.size;clear hst hbel;by_cases hlt:k<pn
   .have hkL:k<L.length:=by have:=HPL.o;omega
    obtain⟨x,hx⟩:∃x,L[k]? =some x:=⟨_,List.getElem?_eq_getElem hkL⟩;obtain⟨b,o,u,rfl,hb,_,hcell,hu⟩:=(HPS.o.ext HB.o).hat k x hx;obtain⟨xa,xn,xc,hku,hkb⟩:=jJ hu;have hxl:=hkb.at_.hlen;have hmn:=λW=>jD x u W;have hmm:=λW=>vI x u W;have hmr:=λW=>qw x u W;have hen:=λargs W=>lI x args W;have hem:=λargs W=>zT x args W;have her:=λargs W=>uN x args W;have hlt':(k:Int)<(pn:Int):=oM;have HKL:=Hd hkL;have HX:=Hd hx;have HU:=Hd hu;have HKU:=Hd hku;have HXL:=Hd hxl;have HKB:=Hd hkb;have HBAD:=Hd (λh:uM L k=false=>(rG (N:=N) (by rw[V8.o];exact Gl hkL h)));have hxf:=hkb.at_.hfew;have aaV:(xn:Int)<=140737488355328:=oM;clear hkL hx hu hku hxl hkb hlt hk hxf;go_wp2_with fail;(with_reducible refine(rF HU.o HKU.o).mono ?_);rintro e w2 ⟨rfl,hb2⟩
    have hs2:=hb2.size;have HB2:=Hd (HB.o.trans (hb2.mono oM));have HU2:=Hd (HU.o.ext hb2);have q1:=after hb2;have hcell2:=(q1.1 b (o+k) hb).trans hcell;clear q1;by_cases g1:1<=xn;rotate_left
    .have HV:=Hd (HBAD.o (mZ HX.o (KP (by rw[HXL.o];exact g1))));have g1':(xn:Int)<1:=oM;go_wp2;go_ret;exact⟨by rw[HV.o];rfl,by have hb:=HB1.o;have hb2:=HB2.o;exact(by have hz:=hb;have hy:=hb2;exact bY)⟩
    by_cases g2:xn<=120;rotate_left
    .have HV:=Hd (HBAD.o (mZ HX.o (KQ (by rw[HXL.o];exact g2))));have g2':120<(xn:Int):=oM;have g1':¬(xn:Int)<1:=oM;go_wp2;go_ret;exact⟨by rw[HV.o];rfl,by have hb:=HB1.o;have hb2:=HB2.o;exact(by have hz:=hb;have hy:=hb2;exact bY)⟩
    have g1':decide ((xn:Int)<1)=false:=by simp;omega
    have g2':decide (120<(xn:Int))=false:=by simp;omega
    have HG1:=Hd g1;have HG2:=Hd g2;clear g1 g2;go_wp2_with fail;(with_reducible refine(KO HU2.o).mono ?_);rintro e w3 ⟨rfl,hb3⟩
    have hs3:=hb3.size;have HB3:=Hd (HB2.o.trans (hb3.mono oM));have HU3:=Hd (HU2.o.ext hb3);obtain⟨q,hq⟩:∃q,O1 x=q:=⟨_,rfl⟩;rw[hq];have HQ:=Hd hq;clear hq;cases q with
    |false=>
     have HV:=Hd (HBAD.o (mZ HX.o (O9 HQ.o)));go_wp2;go_ret;exact⟨by rw[HV.o];rfl,by have hb:=HB1.o;have hb2:=HB3.o;exact(by have hz:=hb;have hy:=hb2;exact bY)⟩
    |true=>
     have HPO:=Hd (TR (by rw[HXL.o];exact HG1.o) (by rw[HXL.o];exact HG2.o) HQ.o);obtain⟨r,hr⟩:∃r,BO x=r:=⟨_,rfl⟩;have hrc:=TS HQ.o;rw[hr]at hrc;obtain⟨aaW,aaX⟩:=hrc;have HR:=Hd hr;clear hr;obtain⟨s,hs⟩:∃s,gX L k=s:=⟨_,rfl⟩;rw[hs]at hr0 hr1⊢;have HS1:=Hd hs;have HSU:=Hd (show gX L (k+1)=s+r.c by rw[qp HX.o,HS1.o,HR.o]);clear hs;by_cases hk0:k=0
     .have HBH:=Hd (show iL L k=true by unfold iL;simp[hk0]);have g3:¬0<k:=oM;have g4:decide (0<(k:Int))=false:=by simp;omega
      clear hk0;go_wp2_with fail;have zk:=vK HU3.o;rw[HR.o]at zk;unfold uO at zk;have HRE:=Hd zk;clear zk;(with_reducible refine HRE.o.mono ?_);rintro e w5 ⟨rfl,hb5⟩
      have hs5:=hb5.size;have hfld:=λ(c n h l x y:Int) (W:World)=>nV c n h l x y W;have HB5:=Hd (HB3.o.trans (hb5.mono oM));by_cases g6:s+r.c<=1073741824
      .have Ez:=Hd (show iU L (k+1)=true by rw[nU,HST.o,Bool.true_and];exact zi HX.o HPO.o HBH.o (by rw[HSU.o];exact g6));have g5:¬1073741824<s+r.c:=oM;have g7:0<=s+r.c:=oM;have HG6:=Hd g6;have HG7:=Hd g7;go_wp2_with fail;go_roundw
       case rel=>exact⟨k+1,HKL.o,by go_num,by rw[HSU.o],by rw[HSU.o];exact HG7.o,by rw[HSU.o];exact HG6.o,Ez.o,HB5.o⟩
       case measure=>simp[intOf];omega
      .have HV:=Hd (HBAD.o (sW (by rw[HSU.o];exact g6)));have g5:1073741824<s+r.c:=oM;go_wp2;go_ret;exact⟨by rw[HV.o];rfl,by have hb:=HB1.o;have hb2:=HB5.o;exact(by have hz:=hb;have hy:=hb2;exact bY)⟩
     .obtain⟨j,hj⟩:∃j,k=j+1:=⟨k-1,oM⟩;obtain⟨y,hy⟩:∃y,L[j]? =some y:=⟨_,List.getElem?_eq_getElem (by have:=HKL.o;omega)⟩;obtain⟨b2,o2,u2',heq,_,_,hcy,huy⟩:=(HPS.o.ext HB3.o).hat j y hy;cases heq;obtain⟨ya,yn,yc,V9,Wh⟩:=jJ huy;obtain⟨xa',xn',xc',Wi,Wj⟩:=jJ HU3.o;have hcast:=HKU.o.symm.trans Wi;cases hcast;have hmy:=λW=>jD y u2' W;have hey:=λargs W=>lI y args W;have hkj:(k:Int)-1=(j:Int):=oM;have g3:0<k:=oM;have g4:decide (0<(k:Int))=true:=by simp;omega
      have g8:(j:Int)<(pn:Int):=oM;have HBX:=Hd Wj;have HBY:=Hd Wh;have HUY:=Hd huy;have HKY:=Hd V9;have HBA:=Hd (show iL L k=bH (qX y) (qX x) by
       have h1:=HX.o;rw[hj]at h1⊢;exact Gm hy h1)
      clear hy V9 Wi Wj Wh huy hj hk0;go_wp2_with fail;(with_reducible refine(rF HUY.o HKY.o).mono ?_);rintro e w4 ⟨rfl,hb4⟩
      have hs4:=hb4.size;have HB4:=Hd (HB3.o.trans (hb4.mono oM));have HU4:=Hd (HU3.o.ext hb4);have hcmp:=iY ya xa yn yc xn xc _ _ _ (HBY.o.ext hb4).at_ (HBX.o.ext hb4).at_;obtain⟨c,hc⟩:∃c,Lib.compareBytes (qX y) (qX x)=c:=⟨_,rfl⟩;rw[hc]at hcmp;have HCM:=Hd hcmp;have HC:=Hd hc;clear hcmp hc;go_wp2_with fail;(with_reducible refine HCM.o.mono ?_);rintro e w6 ⟨rfl,hb6⟩
      have hs6:=hb6.size;have HB6:=Hd (HB4.o.trans (hb6.mono oM));have HU6:=Hd (HU4.o.ext hb6);have hca:=(ji (qX y) (qX x)).1;rw[HC.o]at hca;by_cases hc0:0<=c
      .have HBH:=Hd (show iL L k=false by
        rw[HBA.o];cases hq:bH (qX y) (qX x)with
        |false=>rfl
        |true=>have:=hca.2 hq;omega)
       have HV:=Hd (HBAD.o (Dh HBH.o));clear hca;go_wp2;go_ret;exact⟨by rw[HV.o];rfl,by have hb:=HB1.o;have hb2:=HB6.o;exact(by have hz:=hb;have hy:=hb2;exact bY)⟩
      .have HBH:=Hd (show iL L k=true by rw[HBA.o];exact hca.1 oM);clear hca;go_wp2_with fail;have zk:=vK HU6.o;rw[HR.o]at zk;unfold uO at zk;have HRE:=Hd zk;clear zk;(with_reducible refine HRE.o.mono ?_);rintro e w5 ⟨rfl,hb5⟩
       have hs5:=hb5.size;have hfld:=λ(c n h l x y:Int) (W:World)=>nV c n h l x y W;have HB5:=Hd (HB6.o.trans (hb5.mono oM));by_cases g6:s+r.c<=1073741824
       .have Ez:=Hd (show iU L (k+1)=true by rw[nU,HST.o,Bool.true_and];exact zi HX.o HPO.o HBH.o (by rw[HSU.o];exact g6));have g5:¬1073741824<s+r.c:=oM;have g7:0<=s+r.c:=oM;have HG6:=Hd g6;have HG7:=Hd g7;go_wp2_with fail;go_roundw
        case rel=>exact⟨k+1,HKL.o,by go_num,by rw[HSU.o],by rw[HSU.o];exact HG7.o,by rw[HSU.o];exact HG6.o,Ez.o,HB5.o⟩
        case measure=>simp[intOf];omega
       .have HV:=Hd (HBAD.o (sW (by rw[HSU.o];exact g6)));have g5:1073741824<s+r.c:=oM;go_wp2;go_ret;exact⟨by rw[HV.o];rfl,by have hb:=HB1.o;have hb2:=HB5.o;exact(by have hz:=hb;have hy:=hb2;exact bY)⟩
   .have hv:qQ N=0:=Df (by
     have:=HPL.o;have e:k=L.length:=oM;rw[V8.o,<- e];exact HST.o)
    have HV:=Hd hv;have hlt':¬(k:Int)<(pn:Int):=oM;clear hv hk hlt;go_wp2;go_ret;exact⟨by rw[HV.o];rfl,by have hb:=HB1.o;have hb2:=HB.o;exact(by have hz:=hb;have hy:=hb2;exact bY)⟩
 |false=>
  have k0:il=0:=HSH.o.2 rfl;subst k0;go_enter Tryz.func151,Tryz.ntmps151;go_wp2_with fail;(with_reducible refine HP.o.mono ?_);rintro e w1 ⟨pa,pn,pc,rfl,hPS,hb1⟩
  rw[HL.o]at hPS;rw[HM.o];have hpl:=hPS.hlen;have h6:(pn:Int)<=6:=by have:=HL6.o;omega
  have hpc:=hPS.hcap;have hs1:w.heap.size+1<=w1.heap.size:=by have:=hb1.size;simpa using this
  have HPS:=Hd hPS;have HB1:=Hd hb1;have HPL:=Hd hpl;clear hPS hb1 hpl;by_cases hlm:pn<m
  .have hv:qQ N=240:=rG (by rw[HCE.o,HPL.o];simp;omega);have HV:=Hd hv;have Uz:(pn:Int)<(m:Int):=oM;clear hv;go_wp2;go_ret;exact⟨by rw[HV.o];rfl,by have hb:=HB1.o;exact(by have hz:=hb;exact bV)⟩
  have Uz:¬(pn:Int)<(m:Int):=oM;have V8:=Hd (show ug N=iU L L.length by rw[HCE.o,HPL.o];simp;omega);go_wp2_with fail;clear hlm Uz hm2;go_loopw [51,5] (λix cv wr=>yh w1 L ix cv wr) (λix _ _=>pn-(intOf ix).toNat)
  case atStart=>exact⟨0,Nat.zero_le _,rfl,by rw[kM],by rw[kM];omega,by rw[kM];omega,rfl,Below.refl _ _⟩
  case round=>
   obtain⟨k,hk,rfl,rfl,hr0,hr1,hst,hbel⟩:=hrel;have HB:=Hd hbel;have HST:=Hd hst;have hbs:=hbel.size;clear hst hbel;by_cases hlt:k<pn
   .have hkL:k<L.length:=by have:=HPL.o;omega
    obtain⟨x,hx⟩:∃x,L[k]? =some x:=⟨_,List.getElem?_eq_getElem hkL⟩;obtain⟨b,o,u,rfl,hb,_,hcell,hu⟩:=(HPS.o.ext HB.o).hat k x hx;obtain⟨xa,xn,xc,hku,hkb⟩:=jJ hu;have hxl:=hkb.at_.hlen;have hmn:=λW=>jD x u W;have hmm:=λW=>vI x u W;have hmr:=λW=>qw x u W;have hen:=λargs W=>lI x args W;have hem:=λargs W=>zT x args W;have her:=λargs W=>uN x args W;have hlt':(k:Int)<(pn:Int):=oM;have HKL:=Hd hkL;have HX:=Hd hx;have HU:=Hd hu;have HKU:=Hd hku;have HXL:=Hd hxl;have HKB:=Hd hkb;have HBAD:=Hd (λh:uM L k=false=>(rG (N:=N) (by rw[V8.o];exact Gl hkL h)));have hxf:=hkb.at_.hfew;have aaV:(xn:Int)<=140737488355328:=oM;clear hkL hx hu hku hxl hkb hlt hk hxf;go_wp2_with fail;(with_reducible refine(rF HU.o HKU.o).mono ?_);rintro e w2 ⟨rfl,hb2⟩
    have hs2:=hb2.size;have HB2:=Hd (HB.o.trans (hb2.mono oM));have HU2:=Hd (HU.o.ext hb2);have q1:=after hb2;have hcell2:=(q1.1 b (o+k) hb).trans hcell;clear q1;by_cases g1:1<=xn;rotate_left
    .have HV:=Hd (HBAD.o (mZ HX.o (KP (by rw[HXL.o];exact g1))));have g1':(xn:Int)<1:=oM;go_wp2;go_ret;exact⟨by rw[HV.o];rfl,by have hb:=HB1.o;have hb2:=HB2.o;exact(by have hz:=hb;have hy:=hb2;exact bY)⟩
    by_cases g2:xn<=120;rotate_left
    .have HV:=Hd (HBAD.o (mZ HX.o (KQ (by rw[HXL.o];exact g2))));have g2':120<(xn:Int):=oM;have g1':¬(xn:Int)<1:=oM;go_wp2;go_ret;exact⟨by rw[HV.o];rfl,by have hb:=HB1.o;have hb2:=HB2.o;exact(by have hz:=hb;have hy:=hb2;exact bY)⟩
    have g1':decide ((xn:Int)<1)=false:=by simp;omega
    have g2':decide (120<(xn:Int))=false:=by simp;omega
    have HG1:=Hd g1;have HG2:=Hd g2;clear g1 g2;go_wp2_with fail;(with_reducible refine(KO HU2.o).mono ?_);rintro e w3 ⟨rfl,hb3⟩
    have hs3:=hb3.size;have HB3:=Hd (HB2.o.trans (hb3.mono oM));have HU3:=Hd (HU2.o.ext hb3);obtain⟨q,hq⟩:∃q,O1 x=q:=⟨_,rfl⟩;rw[hq];have HQ:=Hd hq;clear hq;cases q with
    |false=>
     have HV:=Hd (HBAD.o (mZ HX.o (O9 HQ.o)));go_wp2;go_ret;exact⟨by rw[HV.o];rfl,by have hb:=HB1.o;have hb2:=HB3.o;exact(by have hz:=hb;have hy:=hb2;exact bY)⟩
    |true=>
     have HPO:=Hd (TR (by rw[HXL.o];exact HG1.o) (by rw[HXL.o];exact HG2.o) HQ.o);obtain⟨r,hr⟩:∃r,BO x=r:=⟨_,rfl⟩;have hrc:=TS HQ.o;rw[hr]at hrc;obtain⟨aaW,aaX⟩:=hrc;have HR:=Hd hr;clear hr;obtain⟨s,hs⟩:∃s,gX L k=s:=⟨_,rfl⟩;rw[hs]at hr0 hr1⊢;have HS1:=Hd hs;have HSU:=Hd (show gX L (k+1)=s+r.c by rw[qp HX.o,HS1.o,HR.o]);clear hs;by_cases hk0:k=0
     .have HBH:=Hd (show iL L k=true by unfold iL;simp[hk0]);have g3:¬0<k:=oM;have g4:decide (0<(k:Int))=false:=by simp;omega
      clear hk0;go_wp2_with fail;have zk:=vK HU3.o;rw[HR.o]at zk;unfold uO at zk;have HRE:=Hd zk;clear zk;(with_reducible refine HRE.o.mono ?_);rintro e w5 ⟨rfl,hb5⟩
      have hs5:=hb5.size;have hfld:=λ(c n h l x y:Int) (W:World)=>nV c n h l x y W;have HB5:=Hd (HB3.o.trans (hb5.mono oM));by_cases g6:s+r.c<=1073741824
      .have Ez:=Hd (show iU L (k+1)=true by rw[nU,HST.o,Bool.true_and];exact zi HX.o HPO.o HBH.o (by rw[HSU.o];exact g6));have g5:¬1073741824<s+r.c:=oM;have g7:0<=s+r.c:=oM;have HG6:=Hd g6;have HG7:=Hd g7;go_wp2_with fail;go_roundw
       case rel=>exact⟨k+1,HKL.o,by go_num,by rw[HSU.o],by rw[HSU.o];exact HG7.o,by rw[HSU.o];exact HG6.o,Ez.o,HB5.o⟩
       case measure=>simp[intOf];omega
      .have HV:=Hd (HBAD.o (sW (by rw[HSU.o];exact g6)));have g5:1073741824<s+r.c:=oM;go_wp2;go_ret;exact⟨by rw[HV.o];rfl,by have hb:=HB1.o;have hb2:=HB5.o;exact(by have hz:=hb;have hy:=hb2;exact bY)⟩
     .obtain⟨j,hj⟩:∃j,k=j+1:=⟨k-1,oM⟩;obtain⟨y,hy⟩:∃y,L[j]? =some y:=⟨_,List.getElem?_eq_getElem (by have:=HKL.o;omega)⟩;obtain⟨b2,o2,u2',heq,_,_,hcy,huy⟩:=(HPS.o.ext HB3.o).hat j y hy;cases heq;obtain⟨ya,yn,yc,V9,Wh⟩:=jJ huy;obtain⟨xa',xn',xc',Wi,Wj⟩:=jJ HU3.o;have hcast:=HKU.o.symm.trans Wi;cases hcast;have hmy:=λW=>jD y u2' W;have hey:=λargs W=>lI y args W;have hkj:(k:Int)-1=(j:Int):=oM;have g3:0<k:=oM;have g4:decide (0<(k:Int))=true:=by simp;omega
      have g8:(j:Int)<(pn:Int):=oM;have HBX:=Hd Wj;have HBY:=Hd Wh;have HUY:=Hd huy;have HKY:=Hd V9;have HBA:=Hd (show iL L k=bH (qX y) (qX x) by
       have h1:=HX.o;rw[hj]at h1⊢;exact Gm hy h1)
      clear hy V9 Wi Wj Wh huy hj hk0;go_wp2_with fail;(with_reducible refine(rF HUY.o HKY.o).mono ?_);rintro e w4 ⟨rfl,hb4⟩
      have hs4:=hb4.size;have HB4:=Hd (HB3.o.trans (hb4.mono oM));have HU4:=Hd (HU3.o.ext hb4);have hcmp:=iY ya xa yn yc xn xc _ _ _ (HBY.o.ext hb4).at_ (HBX.o.ext hb4).at_;obtain⟨c,hc⟩:∃c,Lib.compareBytes (qX y) (qX x)=c:=⟨_,rfl⟩;rw[hc]at hcmp;have HCM:=Hd hcmp;have HC:=Hd hc;clear hcmp hc;go_wp2_with fail;(with_reducible refine HCM.o.mono ?_);rintro e w6 ⟨rfl,hb6⟩
      have hs6:=hb6.size;have HB6:=Hd (HB4.o.trans (hb6.mono oM));have HU6:=Hd (HU4.o.ext hb6);have hca:=(ji (qX y) (qX x)).1;rw[HC.o]at hca;by_cases hc0:0<=c
      .have HBH:=Hd (show iL L k=false by
        rw[HBA.o];cases hq:bH (qX y) (qX x)with
        |false=>rfl
        |true=>have:=hca.2 hq;omega)
       have HV:=Hd (HBAD.o (Dh HBH.o));clear hca;go_wp2;go_ret;exact⟨by rw[HV.o];rfl,by have hb:=HB1.o;have hb2:=HB6.o;exact(by have hz:=hb;have hy:=hb2;exact bY)⟩
      .have HBH:=Hd (show iL L k=true by rw[HBA.o];exact hca.1 oM);clear hca;go_wp2_with fail;have zk:=vK HU6.o;rw[HR.o]at zk;unfold uO at zk;have HRE:=Hd zk;clear zk;(with_reducible refine HRE.o.mono ?_);rintro e w5 ⟨rfl,hb5⟩
       have hs5:=hb5.size;have hfld:=λ(c n h l x y:Int) (W:World)=>nV c n h l x y W;have HB5:=Hd (HB6.o.trans (hb5.mono oM));by_cases g6:s+r.c<=1073741824
       .have Ez:=Hd (show iU L (k+1)=true by rw[nU,HST.o,Bool.true_and];exact zi HX.o HPO.o HBH.o (by rw[HSU.o];exact g6));have g5:¬1073741824<s+r.c:=oM;have g7:0<=s+r.c:=oM;have HG6:=Hd g6;have HG7:=Hd g7;go_wp2_with fail;go_roundw
        case rel=>exact⟨k+1,HKL.o,by go_num,by rw[HSU.o],by rw[HSU.o];exact HG7.o,by rw[HSU.o];exact HG6.o,Ez.o,HB5.o⟩
        case measure=>simp[intOf];omega
       .have HV:=Hd (HBAD.o (sW (by rw[HSU.o];exact g6)));have g5:1073741824<s+r.c:=oM;go_wp2;go_ret;exact⟨by rw[HV.o];rfl,by have hb:=HB1.o;have hb2:=HB5.o;exact(by have hz:=hb;have hy:=hb2;exact bY)⟩
   .have hv:qQ N=0:=Df (by
     have:=HPL.o;have e:k=L.length:=oM;rw[V8.o,<- e];exact HST.o)
    have HV:=Hd hv;have hlt':¬(k:Int)<(pn:Int):=oM;clear hv hk hlt;go_wp2;go_ret;exact⟨by rw[HV.o];rfl,by have hb:=HB1.o;have hb2:=HB.o;exact(by have hz:=hb;have hy:=hb2;exact bY)⟩
theorem zW(f:Bool)(ia ka:Option Addr)(il ic kl kc:Nat)(w:World)(hi:il<=140737488355328)(hk:kl<=140737488355328)(hs:(decide (il<=6)&&(decide (kl<=6)&&(if f then decide (kl=0)else decide (il=0))))=false):
  Calls Tryz.prog 151 #[.agg #[.bool f, .slice ia il ic, .slice ka kl kc]] w λe w'=>e= .returned (.int .i64 240)/\Below w.heap.size w w':=by
 have b1:(il:Int)<=140737488355328:=oM;have b2:(kl:Int)<=140737488355328:=oM;have HS:=Hd hs;clear hs hi hk;by_cases h1:il<=6
 .have i7:decide (6<(il:Int))=false:=by simp;omega
  by_cases h2:kl<=6
  .have k7:decide (6<(kl:Int))=false:=by simp;omega
   cases f with
   |true=>
    have h3:decide (0<kl)=true:=by
     have:=HS.o;rw[decide_eq_true h1,decide_eq_true h2,Bool.true_and,Bool.true_and,if_pos rfl,decide_eq_false_iff_not]at this;rw[decide_eq_true_eq];omega
    have h4:decide (0<(kl:Int))=true:=by rw[decide_eq_true_eq]at h3⊢;omega
    clear h1 h2;go_enter Tryz.func151,Tryz.ntmps151;go_wp2;go_ret;exact⟨rfl,bW⟩
   |false=>
    have h3:decide (0<il)=true:=by
     have:=HS.o;rw[decide_eq_true h1,decide_eq_true h2,Bool.true_and,Bool.true_and,if_neg Bool.false_ne_true,decide_eq_false_iff_not]at this;rw[decide_eq_true_eq];omega
    have h4:decide (0<(il:Int))=true:=by rw[decide_eq_true_eq]at h3⊢;omega
    clear h1 h2;go_enter Tryz.func151,Tryz.ntmps151;go_wp2;go_ret;exact⟨rfl,bW⟩
  .have k7:decide (6<(kl:Int))=true:=by simp;omega
   clear h1 h2;go_enter Tryz.func151,Tryz.ntmps151;go_wp2;go_ret;exact⟨rfl,bW⟩
 .have i7:decide (6<(il:Int))=true:=by simp;omega
  clear h1;go_enter Tryz.func151,Tryz.ntmps151;go_wp2;go_ret;exact⟨rfl,bW⟩
theorem qx(N:aT)(ia ka:Option Addr)(il ic kl kc:Nat)(S:Nat->Prop)(w:World)(hN:bM w S ia il ic ka kl kc N):
  Calls Tryz.prog 151 #[.agg #[.bool N.leaf, .slice ia il ic, .slice ka kl kc]] w λe w'=>e= .returned (.int .i64 (qQ N))/\Below w.heap.size w w':=by
 cases hs:xZ N with
 |true=>exact yT N ia ka il ic kl kc S w hN hs
 |false=>
  have hv:qQ N=240:=rG (by unfold ug;rw[hs];rfl);rw[hv];exact zW N.leaf ia ka il ic kl kc w hN.items.hfew hN.kids.hfew (by rw[<- hN.items.hlen,<- hN.kids.hlen];exact hs)
def MB(w:World)(F:aB)(fl:Nat)(cs:List Value)(ix n:Value)(wr:World):Prop:=
 ∃k m:Nat,k<=F.loose.length/\m=fl+sumTo F.loose k/\ix= .int .i64 k/\n= .int .i64 m/\((F.loose.take k).all λp=> !p.isEmpty)=true/\(0<k->fl+sumTo F.loose k<=524288)/\
  wr=w.alloc (.cells cs.toArray 32)
theorem nI(F:aB)(fa la:Option Addr)(fl fc ll lc:Nat)(w:World)(hF:lF w fa fl fc la ll lc F):
  Calls Tryz.prog 98 #[.agg #[.slice fa fl fc, .slice la ll lc, .int .i64 F.fuse, .int .i64 F.fault, .bool F.off]] w λe w'=>e= .returned (.int .i64 F.len)/\Below w.heap.size w w':=by
 have e1:=hF.loose.hlen;have e2:=hF.jH.hlen;have b1:=hF.loose.hfew;have b2:=hF.jH.hfew;have b3:(fl:Int)<=140737488355328:=oM;have HAT:=Hd hF;clear hF;have H1:=Hd e1;clear e1;have H2:=Hd e2;clear e2;go_enter Tryz.func98,Tryz.ntmps98;go_wp2_with fail;go_loopw [12,3] (λix n wr=>MB w F fl [.slice fa fl fc, .slice la ll lc, .int .i64 F.fuse, .int .i64 F.fault, .bool F.off] ix n wr) (λix _ _=>ll-(intOf ix).toNat)
 case atStart=>exact⟨0,fl,Nat.zero_le _,by rw[oU];rfl,rfl,rfl,by simp,λh=>oM,rfl⟩
 case round=>
  obtain⟨k,m,hk,hm,rfl,rfl,hfull,hle,rfl⟩:=hrel;have hmm:(m:Int)<=140737488355328:=by
   by_cases h0:0<k
   .have:=hle h0;omega
   .have:k=0:=oM;subst this;rw[oU]at hm;omega
  have hmono:=mX F.loose k;have HM:=Hd hm;have HFU:=Hd hfull;have HLE:=Hd hle;have HMO:=Hd hmono;have hk2:k<=ll:=by have:=H1.o;omega
  clear hm hfull hle hmono;by_cases hlt:k<F.loose.length
  .obtain⟨p,hp⟩:∃p,F.loose[k]? =some p:=⟨_,List.getElem?_eq_getElem hlt⟩;obtain⟨b,o,pa,pl,pc,rfl,hb,hc,hP⟩:=HAT.o.loose.hat k p hp;have hpl:=hP.hlen;have hpf:=hP.hfew;have hp2:(pl:Int)<=140737488355328:=oM;have HS:=Hd (sQ hp);have HT:=Hd (OH hp);have HP:=Hd hpl;have HPP:=Hd hp;have hkl:(k:Int)<(ll:Int):=by have:=H1.o;omega
   have HLT:=Hd hlt;clear hp hlt hP hpl hk;by_cases h0:pl=0
   .subst h0;have hval:F.len= -1:=by
     unfold aB.len aB.full;rw[if_neg];intro h;have:=List.all_eq_true.1 h.1 p (List.mem_of_getElem? HPP.o);have hnil:p=[]:=List.length_eq_zero_iff.1 HP.o;rw[hnil]at this;cases this
    have HV:=Hd hval;clear hval;go_wp2;go_ret;exact⟨iK HV.o.symm,bW⟩
   .have h0':((pl:Int)==0)=false:=by simp;omega
    by_cases h5:(m:Int)+pl<=524288
    .go_wp2;go_roundw
     case rel=>
      have:=HM.o;have:=HS.o;have:=HP.o;exact⟨k+1,m+pl,HLT.o,oM,by go_num,by go_num,by rw[HT.o,HFU.o];cases p with|nil=>simp at this;omega|cons=>rfl,λ_=>oM,rfl⟩
     case measure=>simp[intOf];omega
    .have h6:(524288:Int)<(m:Int)+pl:=oM;have hval:F.len= -1:=by
      unfold aB.len;rw[if_neg];intro h;have h1:=h.2;unfold aB.many at h1;have h2:=mX F.loose (k+1);have:=HM.o;have:=HS.o;have:=HP.o;have:=H2.o;omega
     have HV:=Hd hval;clear hval;go_wp2;go_ret;exact⟨iK HV.o.symm,bW⟩
  .have hkl:k=F.loose.length:=oM;have hk3:¬((k:Int)<(ll:Int)):=by have:=H1.o;omega
   have MC:F.many=m:=by
    have:=HM.o;have:=H2.o;unfold aB.many;rw[hkl,FH]at*;omega
   have hf:F.full=true:=by
    have h:=HFU.o;rw[hkl,List.take_length]at h;exact h
   have HMA:=Hd MC;clear MC;clear hkl hk hlt;by_cases h5:(m:Int)<=524288
   .have hval:F.len=(m:Int):=by
     unfold aB.len;rw[if_pos ⟨hf,by rw[HMA.o];omega⟩,HMA.o]
    have HV:=Hd hval;clear hval hf;go_wp2;go_ret;exact⟨iK HV.o.symm,bW⟩
   .have h6:(524288:Int)<(m:Int):=oM;have hval:F.len= -1:=by
     unfold aB.len;rw[if_neg (λh=>by have:=h.2;rw[HMA.o]at this;omega)]
    have HV:=Hd hval;clear hval hf;go_wp2;go_ret;exact⟨iK HV.o.symm,bW⟩
theorem kP(F:aB)(fa la:Option Addr)(fl fc ll lc:Nat)(w:World)(hF:lF w fa fl fc la ll lc F):
  Calls Tryz.prog 58 #[.agg #[.slice fa fl fc, .slice la ll lc, .int .i64 F.fuse, .int .i64 F.fault, .bool F.off]] w λe w'=>e= .returned (.int .i64 F.err)/\Below w.heap.size w w':=by
 have hF':=hF.ext ((Below.refl _ w).alloc (Nat.le_refl _) (.cells #[.slice fa fl fc, .slice la ll lc, .int .i64 F.fuse, .int .i64 F.fault, .bool F.off] 32));have HAT:=Hd hF';clear hF' hF;have hrl:=@aB.OI F;by_cases h1:F.fuse< -1
 .have hval:F.err=200:=by unfold aB.err;rw[if_neg];rw[hrl];omega
  have HV:=Hd hval;clear hval hrl;go_enter Tryz.func58,Tryz.ntmps58;go_wp2;go_ret;exact⟨iK HV.o.symm,bW⟩
 .by_cases h2:F.fault< -1
  .have hval:F.err=200:=by unfold aB.err;rw[if_neg];rw[hrl];omega
   have HV:=Hd hval;clear hval hrl;go_enter Tryz.func58,Tryz.ntmps58;go_wp2;go_ret;exact⟨iK HV.o.symm,bW⟩
  .by_cases h3:F.off=true/\F.fuse≠ -1
   .obtain⟨h3,h4⟩:=h3;have hval:F.err=200:=by unfold aB.err;rw[if_neg];rw[hrl];intro h;exact h4 (h.2.2.1 h3)
    have HV:=Hd hval;clear hval hrl;have h4':(F.fuse != -1)=true:=by simpa using h4
    rw[h3]at HAT⊢;go_enter Tryz.func58,Tryz.ntmps58;go_wp2;go_ret;exact⟨iK HV.o.symm,bW⟩
   .have hval:F.err=if F.len<0 then 200 else 0:=by
     unfold aB.err;by_cases h5:F.len<0
     .rw[if_pos h5,if_neg];rw[hrl];omega
     .rw[if_neg h5,if_pos];rw[hrl];refine⟨oM,oM,λh=>?_,oM⟩;apply Classical.byContradiction;intro h6;exact h3 ⟨h,h6⟩
    have HV:=Hd hval;clear hval hrl;cases hoff:F.off with
    |true=>
     have h4:F.fuse= -1:=by
      apply Classical.byContradiction;intro h6;exact h3 ⟨hoff,h6⟩
     have h4':(F.fuse != -1)=false:=by simp[h4]
     rw[hoff]at HAT;clear h4 h3;go_enter Tryz.func58,Tryz.ntmps58;go_wp2_with fail;have hL:=nI F fa la fl fc ll lc _ (by rw[<- hoff]at HAT;exact HAT.o);rw[hoff]at hL;refine hL.mono ?_;rintro e w1 ⟨rfl,hb1⟩;clear hL;by_cases h5:F.len<0
     .go_wp2;go_ret;exact⟨iK (HV.o.trans (if_pos oM)).symm,(by have hz:=hb1;exact bV)⟩
     .go_wp2;go_ret;exact⟨iK (HV.o.trans (if_neg oM)).symm,(by have hz:=hb1;exact bV)⟩
    |false=>
     rw[hoff]at HAT;clear h3;go_enter Tryz.func58,Tryz.ntmps58;go_wp2_with fail;have hL:=nI F fa la fl fc ll lc _ (by rw[<- hoff]at HAT;exact HAT.o);rw[hoff]at hL;refine hL.mono ?_;rintro e w1 ⟨rfl,hb1⟩;clear hL;by_cases h5:F.len<0
     .go_wp2;go_ret;exact⟨iK (HV.o.trans (if_pos oM)).symm,(by have hz:=hb1;exact bV)⟩
     .go_wp2;go_ret;exact⟨iK (HV.o.trans (if_neg oM)).symm,(by have hz:=hb1;exact bV)⟩
end Go.Proofs.YtenmnhnlcnmloaaGreat
