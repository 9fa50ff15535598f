/- Part of a proof of a law of the layer of trees. -/
import Derived.Test.YtenmnhnlcnmloaaGreatQa28
import Derived.Test.YtenmnhnlcnmloaaGreatQa31
import Derived.TacticsInMore
import Derived.RangeFuncBound
import Derived.RangeFuncCalls
import Derived.RangeFuncLeaves
import Derived.Shelf.Abstract
import Derived.WalkKit
import Derived.Test.YtenmnhnlcnmloaaGreatQa29
import Derived.Test.YtenmnhnlcnmloaaGreatQa01
set_option linter.unusedVariables false
set_option linter.unusedSimpArgs false
set_option maxHeartbeats 8000000
set_option maxRecDepth 8000
namespace Go.Dav
open Go Go.RowKit
abbrev GoT:Type:=List aP×Option (Option (List UInt8))
def Kq(a:GoT)(rest:Option (List UInt8)->GoT):GoT:=match a.2 with
 |none=>(a.1,none)
 |some z=>(a.1++(rest z).1,(rest z).2)
theorem LC{b:bD}{turned:Bool}{last:Option (List UInt8)}{l:List aP}{k:Nat}{x:aP}(h:l[k]? =some x):goI b turned last (l.drop k)=Kq (goI b turned last [x]) λz=>goI b turned z (l.drop (k+1)):=by
 rw[SE h,goI];unfold Kq;by_cases hb:Ar turned last x.key=true
 .rw[if_pos hb,if_pos hb];simp only[goI,List.append_nil]
 .rw[if_neg hb,if_neg hb]
theorem SY{step:Nat->Option (List UInt8)->GoT}{l:List Nat}{k i:Nat}{last:Option (List UInt8)}(h:l[k]? =some i):goK step (l.drop k) last=Kq (step i last) λz=>goK step (l.drop (k+1)) z:=by
 rw[SG h];rfl
section
variable(q ob t:Nat)(p:WkP)(B:bD)(F:aB)(turned:Bool)(J Jx:List iP->World->Prop)(pre:List iP)(W:World)(g:GoT)
def jX(rest:Option (List UInt8)->GoT)(wr:World):Prop:=∃(ys:List iP) (last2:Option (List UInt8)),ys.map (·.1)++(rest last2).1=g.1/\(rest last2).2=g.2/\J (pre++ys) wr/\KpQ ob (pQ q ob) W wr/\WkE wr q ob t p B F turned last2 0
end
section
variable{q ob t:Nat}{p:WkP}{B:bD}{F:aB}{turned:Bool}{J Jx:List iP->World->Prop}{pre:List iP}{W:World}{g:GoT}
theorem jX.start{last:Option (List UInt8)}{rest:Option (List UInt8)->GoT}{wr:World}(hg:rest last=g)(hJ:J pre wr)(hk:KpQ ob (pQ q ob) W wr)(hw:WkE wr q ob t p B F turned last 0):jX q ob t p B F turned J pre W g rest wr:=
 ⟨[],last,by rw[hg];rfl,by rw[hg],by rw[List.append_nil];exact hJ,hk,hw⟩
theorem jX.done{rest:Option (List UInt8)->GoT}{wr:World}(h:jX q ob t p B F turned J pre W g rest wr)(hr:∀z,rest z=([],some z)){e:Ending}(he:e= .returned (.bool true)):cu q ob t p B F turned J Jx pre W g e wr:=by
 obtain⟨ys,last2,h1,h2,h3,h4,h5⟩:=h;rw[hr]at h1 h2;refine⟨h4, .inl ⟨ys,by rw[<- h1,List.append_nil],h3,?_⟩⟩;rw[<- h2];exact⟨he,h5⟩
theorem cu.next{rest Ba:Option (List UInt8)->GoT}{ys:List iP}{last2:Option (List UInt8)}{wr w':World}{e:Ending}{g1:GoT}(h1:ys.map (·.1)++(rest last2).1=g.1)(h2:(rest last2).2=g.2)(h4:KpQ ob (pQ q ob) W wr)
  (hg:rest last2=Kq g1 Ba) (hd:cu q ob t p B F turned J Jx (pre++ys) wr g1 e w'):
  (e= .returned (.bool true)/\jX q ob t p B F turned J pre W g Ba w')\/(e= .returned (.bool false)/\cu q ob t p B F turned J Jx pre W g e w'):=by
 obtain⟨hk,hd⟩:=hd;rw[hg]at h1 h2;unfold Kq at h1 h2;rcases hd with⟨zs,e1,hJ,hm⟩|⟨rfl,zs,e1,hJ,l3,hw⟩
 .cases hz:g1.2 with
  |none=>
   rw[hz]at h1 h2 hm;dsimp only at h1 h2 hm;obtain⟨rfl,l3,hw⟩:=hm;refine .inr ⟨rfl,h4.t hk, .inl ⟨ys++zs,by rw[List.map_append,e1,h1],by rw[<- List.append_assoc];exact hJ,?_⟩⟩;rw[<- h2];exact⟨rfl,l3,hw⟩
  |some z=>
   rw[hz]at h1 h2 hm;dsimp only at h1 h2 hm;obtain⟨rfl,hw⟩:=hm;exact .inl ⟨rfl,ys++zs,z,by rw[List.map_append,e1,List.append_assoc,h1],h2,by rw[<- List.append_assoc];exact hJ,h4.t hk,hw⟩
 .refine .inr ⟨rfl,h4.t hk, .inr ⟨rfl,ys++zs,?_,by rw[<- List.append_assoc];exact hJ,l3,hw⟩⟩;rw[List.map_append,<- h1];obtain⟨r,hr⟩:=e1;cases hz:g1.2 with
  |none=>exact⟨r,by dsimp only;rw[List.append_assoc,hr]⟩
  |some z=>exact⟨r++(Ba z).1,by dsimp only;rw[List.append_assoc,<- List.append_assoc _ r,hr]⟩
theorem GoT.few{rest Ba:Option (List UInt8)->GoT}{ys:List iP}{last2:Option (List UInt8)}{g1:GoT}(h1:ys.map (·.1)++(rest last2).1=g.1)(hg:rest last2=Kq g1 Ba){n N:Nat}(hN:n+g.1.length<=N):n+ys.length+g1.1.length<=N:=by
 rw[hg]at h1;have:=congrArg List.length h1;rw[List.length_append,List.length_map]at this;unfold Kq at this;cases hz:g1.2<;>rw[hz]at this<;>simp at this<;>omega
end
theorem S9{x y:List UInt8}{C:Int}(hC:Lib.compareBytes x y=C): -1<=C/\C<=1/\decide (C<=0)= !(bH y x)/\decide (-C<=0)= !(bH x y):=by
 obtain⟨h1,h2,h3,h4⟩:=ji x y;rw[hC]at h1 h2 h3 h4;have h5:=Qk x y;rw[hC]at h5;refine⟨h3,h4,?_,?_⟩
 .rw[<- h5];by_cases h:0<C
  .rw[decide_eq_true h,decide_eq_false oM];rfl
  .rw[decide_eq_false h,decide_eq_true oM];rfl
 .cases hx:bH x y with
  |true=>have:=h1.2 hx;rw[decide_eq_false oM];rfl
  |false=>
   have:¬C<0:=λh=>by rw[h1.1 h]at hx;cases hx
   rw[decide_eq_true oM];rfl
def KpG(q ob:Nat)(W W':World):Prop:=ob<W.heap.size->KpQ ob (pQ q ob) W W'
theorem zu(q ob:Nat):Goes (KpG q ob):=⟨λ_ _ h ho=>KpQ.of_below ho h,λ_ _ _ h k ho=>(h ho).t (k (Nat.lt_of_lt_of_le ho (h ho).size))⟩
theorem WkE.ext{W W':World}{q ob t:Nat}{p:WkP}{B:bD}{F:aB}{turned:Bool}{last:Option (List UInt8)}{why:Int}(h:WkE W q ob t p B F turned last why)(hb:Below W.heap.size W W'):WkE W' q ob t p B F turned last why:=by
 obtain⟨hv,za,zl,zc,h⟩:=h;have k:KpQ ob (λ_=>False) W W':=hv.below hb;exact⟨hv.kpq k,za,zl,zc,(h.ext hb).mono λ_ hb=>hb.kpq k⟩
section
variable{q ob t:Nat}{p:WkP}{B:bD}{F:aB}{turned:Bool}{J Jx:List iP->World->Prop}{pre:List iP}{W:World}{g:GoT}
theorem jX.ext(hJq:∀s A B,J s A->aA (· =q) A B->J s B){rest:Option (List UInt8)->GoT}{wr w':World}(h:jX q ob t p B F turned J pre W g rest wr)(hb:Below wr.heap.size wr w'):jX q ob t p B F turned J pre W g rest w':=by
 obtain⟨ys,last2,h1,h2,h3,h4,h5⟩:=h;exact⟨ys,last2,h1,h2,hJq _ _ _ h3 (aA.of_below hb),h4.t (h5.1.below hb),h5.ext hb⟩
theorem cu.vd{e:Ending}{wr:World}(h:cu q ob t p B F turned J Jx pre W g e wr):Vd q ob wr:=by
 rcases h.2 with⟨ys,h1,h2,h3⟩|⟨_,_,_,_,l2,h3⟩
 .cases hz:g.2 with
  |none=>
   rw[hz]at h3;obtain⟨_,l2,h5⟩:=h3;exact h5.1
  |some z=>
   rw[hz]at h3;exact h3.2.1
 .exact h3.1
theorem cu.ext(hJq:∀s A B,J s A->aA (· =q) A B->J s B)(NM:∀s A B,Jx s A->aA (· =q) A B->Jx s B){e:Ending}{wr w':World}(h:cu q ob t p B F turned J Jx pre W g e wr)(hb:Below wr.heap.size wr w'):cu q ob t p B F turned J Jx pre W g e w':=by
 have hv:=h.vd;obtain⟨hk,h⟩:=h;refine⟨hk.t (hv.below hb),?_⟩;rcases h with⟨ys,h1,h2,h3⟩|⟨h0,ys,h1,h2,l2,h3⟩
 .refine .inl ⟨ys,h1,hJq _ _ _ h2 (aA.of_below hb),?_⟩;cases hz:g.2 with
  |none=>
   rw[hz]at h3;obtain⟨h4,l2,h5⟩:=h3;exact⟨h4,l2,h5.ext hb⟩
  |some z=>
   rw[hz]at h3;exact⟨h3.1,h3.2.ext hb⟩
 .exact .inr ⟨h0,ys,h1,NM _ _ _ h2 (aA.of_below hb),l2,h3.ext hb⟩
theorem cu.after{e:Ending}{A wr:World}(h:cu q ob t p B F turned J Jx pre A g e wr)(hk:KpQ ob (pQ q ob) W A):cu q ob t p B F turned J Jx pre W g e wr:=⟨hk.t h.1,h.2⟩
end
theorem Blk.gq{q ob:Nat}{W W':World}{b:Nat}{cs:List Value}{t:TypeId}(h:Blk W b cs t)(hs:Sf q ob W b)(k:KpQ ob (pQ q ob) W W'):Blk W' b cs t:=k.blk h hs.pq.1 hs.pq.2
def Qo(R1 R2:World->Prop)(v:Value)(W:World):Prop:=(v= .bool true/\R1 W)\/(v= .bool false/\R2 W)
end Go.Dav
namespace Go.Proofs.YtenmnhnlcnmloaaGreat
open Go.RowKit Go.Dav Go.Shelf
attribute [local go_sem] Gives ite_val ay Oper.semAt_some
theorem oC(args:Array Value)(W:World):(callFunc 64 args).run Tryz.prog W= .ok (Next.enter 64 args) W:=kR
set_option maxRecDepth 100000 in
theorem NP{p:WkP}{B:bD}{F:aB}{turned:Bool}{last:Option (List UInt8)}{za:Option Addr}{zl zc q ob N l:Nat}{J Jx:List iP->World->Prop}(x:aP)(xv:Value)(pre:List iP)(w:World)(hvd:Vd q ob w)(h:WkS w q 116 (Sf q ob w) p B F turned last 0 za zl zc)(hx:jh w (Sf q ob w) x xv)(hJq:∀s A B,J s A->aA (· =q) A B->J s B)(hJ:J pre w)
  (hY:∀m pre x W,J pre W->jh W (Sf q ob W) x.1 x.2->pre.length<N->YieldAt Fence.wide m Tryz.prog l (iP.encs x) W λe W'=>(e= .returned (.bool true)/\J (pre++[x]) W'/\KpQ ob (pO ob) W W')\/(e= .returned (.bool false)/\Jx (pre++[x]) W'/\KpQ ob (pO ob) W W'))
  (hN:pre.length+(goI B turned last [x]).1.length<=N):
  Calls Tryz.prog 94 #[.pointer (some ⟨q,0,none⟩),xv, .func (.yield l) #[] #[]] w (cu q ob 116 p B F turned J Jx pre w (goI B turned last [x])):=by
 obtain⟨ka,kl,kc,va,vl,vc,rfl,hk,hv,hi⟩:=hx;have b0:Below w.heap.size w (w.alloc (.cells #[.slice ka kl kc, .slice va vl vc, .bool x.int, .int .i64 x.n] 60)):=bW;obtain⟨C,hC⟩:∃C,Lib.compareBytes x.key (last.getD [])=C:=⟨_,rfl⟩;obtain⟨c1,c2,c3,c4⟩:=S9 hC;have HCM:=Hd (λW (hb:Below w.heap.size w W)=>by have q:=iY ka za kl kc zl zc x.key (last.getD []) W (hk.ext hb).at_ (h.key.ext hb).at_;rw[hC]at q;exact q);have HX:=Hd (show jh w (Sf q ob w) x (.agg #[.slice ka kl kc, .slice va vl vc, .bool x.int, .int .i64 x.n])from⟨ka,kl,kc,va,vl,vc,rfl,hk,hv,hi⟩);obtain⟨bh,hbh⟩:∃bh,Ar turned last x.key=bh:=⟨_,rfl⟩;have HG:=Hd (show goI B turned last [x]=if bh=true then((if B.holdsB x.key=true then [x]else [])++[],some (some x.key))else([],none) by rw[goI,hbh];rfl);obtain⟨g,hg⟩:∃g,goI B turned last [x]=g:=⟨_,rfl⟩;rw[hg]at HG hN⊢;have q0:=h.box.cells;have l0:=h.box.lt;have l01:q<w.heap.size+1:=oM;unfold wkC at q0;obtain⟨tl,htl⟩:∃b,last.isSome=b:=⟨_,rfl⟩;rw[htl]at q0;have HBH:=Hd (show bh=(!tl||(if turned=true then bH x.key (last.getD [])else bH (last.getD []) x.key)) by
  rw[<- hbh,<- htl];cases last<;>rfl)
 have HW:=Hd h;have HB0:=Hd b0;have HS:=Hd (Sf.ne:∀b,Sf q ob w b->b≠q);have HV:=Hd hvd;have HK:=Hd hk;have HJQ:=Hd hJq;have HJ:=Hd hJ;have HY:=Hd hY;have HN:=Hd hN;have HTL:=Hd htl;have HC3:=Hd c3;have HC4:=Hd c4;have HL0:=Hd l0;have HQ4:=Hd (Blk.new w [.slice ka kl kc, .slice va vl vc, .bool x.int, .int .i64 x.n] 60);obtain⟨xi,hxi⟩:∃b,x.int=b:=⟨_,rfl⟩;obtain⟨xn,hxn⟩:∃b,x.n=b:=⟨_,rfl⟩;rw[hxi,hxn]at HX HQ4 HB0;rw[hxi,hxn];clear h b0 hvd hk hv hi hJq hJ hY hN htl hbh hg hC c3 c4 hxi hxn;go_enter Tryz.func94,Tryz.ntmps94;go_wp2_with fail;refine' ah [.inl _, .inl _, .inl _, .inl _, .inl _, .inl _, .inl _] kR kR ?dN
 case dN=>
  refine wD ?_;refine wE ?_;iterate 3 refine wD ?_
  refine wE ?_;refine wG (λW hE hN=>by go_simp;refine⟨Below.refl _ _,?_⟩;refine(HCM.o W (HB0.o.trans (hE.mono HB0.o.size))).mono ?_;rintro e w' ⟨rfl,hb⟩;refine⟨?_,hb⟩;rfl) ?_;refine aj λW1 hE1 hG1=>?_;have jC:=hE1.cF;have kK:=hE1.fF;have B1:=Hd (HB0.o.trans (hE1.mono HB0.o.size));have HQ1:=Hd (HQ4.o.ext hE1);have HW1:=Hd (HW.o.ext B1.o);have hs1:=B1.o.size;clear hE1 hG1 jC kK q0 l0 l01 HCM HQ4;have q1:=HW1.o.box.cells;have l1:=HW1.o.box.lt;have m1:=HW1.o.box.marks;unfold wkC at q1;rw[HTL.o]at q1;have r1:=HQ1.o.cells;have s1:=HQ1.o.lt;have ng:IntKind.i64.wrap (-C)= -C:=IntWalk.i64_in _ oM;cases tl with
  |false=>
   obtain rfl:bh=true:=by rw[HBH.o];rfl
   cases turned with
   |false=>
    go_upto_region 7 with fail;have ho:=((aA.refl (· =q) W1).set q 9 (.slice ka kl kc) rfl).set q 10 (.bool true) rfl;have hbx:=((HW1.o.box.set 9 (.slice ka kl kc)).set 10 (.bool true));obtain⟨W2,hW2⟩:∃W2,(W1.setCell ⟨q,9,none⟩ (.slice ka kl kc)).setCell ⟨q,10,none⟩ (.bool true)=W2:=⟨_,rfl⟩;rw[hW2]at ho hbx⊢;have hw2:WkS W2 q 116 (Sf q ob w) p B F false (some x.key) 0 ka kl kc:=⟨hbx,(HK.o.ext B1.o).gG ho HS.o,HW1.o.from_.gG ho HS.o,HW1.o.to_.gG ho HS.o,HW1.o.file.same ho.size λb hb hl=>ho.block b hl (HS.o b hb)⟩;have hall:=(aA.of_below (p:=(· =q)) B1.o).comp ho (λb hb=> .inl hb);have HJ2:=Hd (HJQ.o _ _ _ HJ.o hall);have HX2:=Hd (HX.o.only hall HS.o);have hq2:=HQ1.o.aQ ho (show ¬w.heap.size=q by have:=HL0.o;omega);have HH:=Hd (pU B p.ba p.ta ka p.bl p.bc p.tl p.tc kl kc x.key W2 hw2.from_.at_ hw2.to_.at_ hw2.key.at_);have wV:=Hd hall;have HW2:=Hd hw2;have HQ2:=Hd hq2;have q2:=hw2.box.cells;have l2:=hw2.box.lt;unfold wkC at q2;have r2:=hq2.cells;have s2:=hq2.lt;have hen:=oC;clear ho hbx hW2 hw2 hall hq2 q1 l1 m1 r1 s1;go_upto_region 8 with fail;refine(wpIn_wide (n:=4)).1 ?_;gi_wp2_with fail;refine⟨trivial,(callsIn_wide.2 HH.o).mono ?_⟩;rintro e w3 ⟨rfl,hb3⟩;have HW3:=Hd (HW2.o.ext hb3);have HJ3:=Hd (HJQ.o _ _ _ HJ2.o (aA.of_below hb3));have HX3:=Hd (HX2.o.ext hb3);have hq3:=HQ2.o.ext hb3;have r3:=hq3.cells;have s3:=hq3.lt;have qK:=Hd (wV.o.ext hb3);have HQ3:=Hd hq3;clear q2 l2 r2 s2 hb3 hq3 HW2 HJ2 HX2 HQ2 wV HH hen;cases hh:B.holdsB x.key with
    |false=>
     have HG2:=Hd (show g=([],some (some x.key)) by rw[HG.o];simp[hh]);clear hh;gi_wp2;refine⟨λf h=>(by cases h),?_⟩;gi_wp2;go_wp2;go_ret;rw[HG2.o];have k:=HV.o.only qK.o;exact⟨k, .inl ⟨[],rfl,by rw[List.append_nil];exact HJ3.o,rfl,HV.o.kpq k,_,_,_,HW3.o.mono λ_ hb=>hb.kpq k⟩⟩
    |true=>
     have HG2:=Hd (show g=([x],some (some x.key)) by rw[HG.o];simp[hh]);clear hh;obtain⟨fn,tmps,assign,body,hy,hR⟩:=HY.o 3 pre (x, .agg #[.slice ka kl kc, .slice va vl vc, .bool xi, .int .i64 xn]) w3 HJ3.o (HX3.o.mono λ_ hb=>hb.kpq (HV.o.only qK.o)) (by have h:=HN.o;rw[HG2.o]at h;simp at h;omega);dsimp only[iP.encs]at hy;have HR:=Hd hR;clear hR;gi_wp2_with fail;refine HR.o.mono ?_;rintro e w4 (⟨rfl,hj4,hk4⟩|⟨rfl,hj4,hk4⟩)
     .have HJ4:=Hd hj4;have HK4:=Hd hk4;clear hj4 hk4 hy r3 s3;gi_wp2;go_wp2;go_ret;rw[HG2.o];have k:=HV.o.only qK.o;exact⟨k.t (HK4.o.weak λ_ e=> .inl e), .inl ⟨[(x, .agg #[.slice ka kl kc, .slice va vl vc, .bool xi, .int .i64 xn])],rfl,HJ4.o,rfl,(HV.o.kpq k).kpq HK4.o,_,_,_,(HW3.o.mono λ_ hb=>hb.kpq k).round (HV.o.kpq k) HK4.o⟩⟩
     .have HJ4:=Hd hj4;have HK4:=Hd hk4;clear hj4 hk4 hy r3 s3;gi_wp2;go_wp2;go_ret;rw[HG2.o];have k:=HV.o.only qK.o;exact⟨k.t (HK4.o.weak λ_ e=> .inl e), .inr ⟨rfl,[(x, .agg #[.slice ka kl kc, .slice va vl vc, .bool xi, .int .i64 xn])],List.prefix_refl _,HJ4.o,_,(HV.o.kpq k).kpq HK4.o,_,_,_,(HW3.o.mono λ_ hb=>hb.kpq k).round (HV.o.kpq k) HK4.o⟩⟩
   |true=>
    go_upto_region 7 with fail;have ho:=((aA.refl (· =q) W1).set q 9 (.slice ka kl kc) rfl).set q 10 (.bool true) rfl;have hbx:=((HW1.o.box.set 9 (.slice ka kl kc)).set 10 (.bool true));obtain⟨W2,hW2⟩:∃W2,(W1.setCell ⟨q,9,none⟩ (.slice ka kl kc)).setCell ⟨q,10,none⟩ (.bool true)=W2:=⟨_,rfl⟩;rw[hW2]at ho hbx⊢;have hw2:WkS W2 q 116 (Sf q ob w) p B F true (some x.key) 0 ka kl kc:=⟨hbx,(HK.o.ext B1.o).gG ho HS.o,HW1.o.from_.gG ho HS.o,HW1.o.to_.gG ho HS.o,HW1.o.file.same ho.size λb hb hl=>ho.block b hl (HS.o b hb)⟩;have hall:=(aA.of_below (p:=(· =q)) B1.o).comp ho (λb hb=> .inl hb);have HJ2:=Hd (HJQ.o _ _ _ HJ.o hall);have HX2:=Hd (HX.o.only hall HS.o);have hq2:=HQ1.o.aQ ho (show ¬w.heap.size=q by have:=HL0.o;omega);have HH:=Hd (pU B p.ba p.ta ka p.bl p.bc p.tl p.tc kl kc x.key W2 hw2.from_.at_ hw2.to_.at_ hw2.key.at_);have wV:=Hd hall;have HW2:=Hd hw2;have HQ2:=Hd hq2;have q2:=hw2.box.cells;have l2:=hw2.box.lt;unfold wkC at q2;have r2:=hq2.cells;have s2:=hq2.lt;have hen:=oC;clear ho hbx hW2 hw2 hall hq2 q1 l1 m1 r1 s1;go_upto_region 8 with fail;refine(wpIn_wide (n:=4)).1 ?_;gi_wp2_with fail;refine⟨trivial,(callsIn_wide.2 HH.o).mono ?_⟩;rintro e w3 ⟨rfl,hb3⟩;have HW3:=Hd (HW2.o.ext hb3);have HJ3:=Hd (HJQ.o _ _ _ HJ2.o (aA.of_below hb3));have HX3:=Hd (HX2.o.ext hb3);have hq3:=HQ2.o.ext hb3;have r3:=hq3.cells;have s3:=hq3.lt;have qK:=Hd (wV.o.ext hb3);have HQ3:=Hd hq3;clear q2 l2 r2 s2 hb3 hq3 HW2 HJ2 HX2 HQ2 wV HH hen;cases hh:B.holdsB x.key with
    |false=>
     have HG2:=Hd (show g=([],some (some x.key)) by rw[HG.o];simp[hh]);clear hh;gi_wp2;refine⟨λf h=>(by cases h),?_⟩;gi_wp2;go_wp2;go_ret;rw[HG2.o];have k:=HV.o.only qK.o;exact⟨k, .inl ⟨[],rfl,by rw[List.append_nil];exact HJ3.o,rfl,HV.o.kpq k,_,_,_,HW3.o.mono λ_ hb=>hb.kpq k⟩⟩
    |true=>
     have HG2:=Hd (show g=([x],some (some x.key)) by rw[HG.o];simp[hh]);clear hh;obtain⟨fn,tmps,assign,body,hy,hR⟩:=HY.o 3 pre (x, .agg #[.slice ka kl kc, .slice va vl vc, .bool xi, .int .i64 xn]) w3 HJ3.o (HX3.o.mono λ_ hb=>hb.kpq (HV.o.only qK.o)) (by have h:=HN.o;rw[HG2.o]at h;simp at h;omega);dsimp only[iP.encs]at hy;have HR:=Hd hR;clear hR;gi_wp2_with fail;refine HR.o.mono ?_;rintro e w4 (⟨rfl,hj4,hk4⟩|⟨rfl,hj4,hk4⟩)
     .have HJ4:=Hd hj4;have HK4:=Hd hk4;clear hj4 hk4 hy r3 s3;gi_wp2;go_wp2;go_ret;rw[HG2.o];have k:=HV.o.only qK.o;exact⟨k.t (HK4.o.weak λ_ e=> .inl e), .inl ⟨[(x, .agg #[.slice ka kl kc, .slice va vl vc, .bool xi, .int .i64 xn])],rfl,HJ4.o,rfl,(HV.o.kpq k).kpq HK4.o,_,_,_,(HW3.o.mono λ_ hb=>hb.kpq k).round (HV.o.kpq k) HK4.o⟩⟩
     .have HJ4:=Hd hj4;have HK4:=Hd hk4;clear hj4 hk4 hy r3 s3;gi_wp2;go_wp2;go_ret;rw[HG2.o];have k:=HV.o.only qK.o;exact⟨k.t (HK4.o.weak λ_ e=> .inl e), .inr ⟨rfl,[(x, .agg #[.slice ka kl kc, .slice va vl vc, .bool xi, .int .i64 xn])],List.prefix_refl _,HJ4.o,_,(HV.o.kpq k).kpq HK4.o,_,_,_,(HW3.o.mono λ_ hb=>hb.kpq k).round (HV.o.kpq k) HK4.o⟩⟩
  |true=>
   cases turned with
   |false=>
    have hd:decide (C<=0)= !bh:=by rw[HC3.o,HBH.o];rfl
    cases bh with
    |true=>
     have h1:¬C<=0:=of_decide_eq_false hd;clear hd;go_upto_region 7 with fail;have ho:=((aA.refl (· =q) W1).set q 9 (.slice ka kl kc) rfl).set q 10 (.bool true) rfl;have hbx:=((HW1.o.box.set 9 (.slice ka kl kc)).set 10 (.bool true));obtain⟨W2,hW2⟩:∃W2,(W1.setCell ⟨q,9,none⟩ (.slice ka kl kc)).setCell ⟨q,10,none⟩ (.bool true)=W2:=⟨_,rfl⟩;rw[hW2]at ho hbx⊢;have hw2:WkS W2 q 116 (Sf q ob w) p B F false (some x.key) 0 ka kl kc:=⟨hbx,(HK.o.ext B1.o).gG ho HS.o,HW1.o.from_.gG ho HS.o,HW1.o.to_.gG ho HS.o,HW1.o.file.same ho.size λb hb hl=>ho.block b hl (HS.o b hb)⟩;have hall:=(aA.of_below (p:=(· =q)) B1.o).comp ho (λb hb=> .inl hb);have HJ2:=Hd (HJQ.o _ _ _ HJ.o hall);have HX2:=Hd (HX.o.only hall HS.o);have hq2:=HQ1.o.aQ ho (show ¬w.heap.size=q by have:=HL0.o;omega);have HH:=Hd (pU B p.ba p.ta ka p.bl p.bc p.tl p.tc kl kc x.key W2 hw2.from_.at_ hw2.to_.at_ hw2.key.at_);have wV:=Hd hall;have HW2:=Hd hw2;have HQ2:=Hd hq2;have q2:=hw2.box.cells;have l2:=hw2.box.lt;unfold wkC at q2;have r2:=hq2.cells;have s2:=hq2.lt;have hen:=oC;clear ho hbx hW2 hw2 hall hq2 q1 l1 m1 r1 s1;go_upto_region 8 with fail;refine(wpIn_wide (n:=4)).1 ?_;gi_wp2_with fail;refine⟨trivial,(callsIn_wide.2 HH.o).mono ?_⟩;rintro e w3 ⟨rfl,hb3⟩;have HW3:=Hd (HW2.o.ext hb3);have HJ3:=Hd (HJQ.o _ _ _ HJ2.o (aA.of_below hb3));have HX3:=Hd (HX2.o.ext hb3);have hq3:=HQ2.o.ext hb3;have r3:=hq3.cells;have s3:=hq3.lt;have qK:=Hd (wV.o.ext hb3);have HQ3:=Hd hq3;clear q2 l2 r2 s2 hb3 hq3 HW2 HJ2 HX2 HQ2 wV HH hen;cases hh:B.holdsB x.key with
     |false=>
      have HG2:=Hd (show g=([],some (some x.key)) by rw[HG.o];simp[hh]);clear hh;gi_wp2;refine⟨λf h=>(by cases h),?_⟩;gi_wp2;go_wp2;go_ret;rw[HG2.o];have k:=HV.o.only qK.o;exact⟨k, .inl ⟨[],rfl,by rw[List.append_nil];exact HJ3.o,rfl,HV.o.kpq k,_,_,_,HW3.o.mono λ_ hb=>hb.kpq k⟩⟩
     |true=>
      have HG2:=Hd (show g=([x],some (some x.key)) by rw[HG.o];simp[hh]);clear hh;obtain⟨fn,tmps,assign,body,hy,hR⟩:=HY.o 3 pre (x, .agg #[.slice ka kl kc, .slice va vl vc, .bool xi, .int .i64 xn]) w3 HJ3.o (HX3.o.mono λ_ hb=>hb.kpq (HV.o.only qK.o)) (by have h:=HN.o;rw[HG2.o]at h;simp at h;omega);dsimp only[iP.encs]at hy;have HR:=Hd hR;clear hR;gi_wp2_with fail;refine HR.o.mono ?_;rintro e w4 (⟨rfl,hj4,hk4⟩|⟨rfl,hj4,hk4⟩)
      .have HJ4:=Hd hj4;have HK4:=Hd hk4;clear hj4 hk4 hy r3 s3;gi_wp2;go_wp2;go_ret;rw[HG2.o];have k:=HV.o.only qK.o;exact⟨k.t (HK4.o.weak λ_ e=> .inl e), .inl ⟨[(x, .agg #[.slice ka kl kc, .slice va vl vc, .bool xi, .int .i64 xn])],rfl,HJ4.o,rfl,(HV.o.kpq k).kpq HK4.o,_,_,_,(HW3.o.mono λ_ hb=>hb.kpq k).round (HV.o.kpq k) HK4.o⟩⟩
      .have HJ4:=Hd hj4;have HK4:=Hd hk4;clear hj4 hk4 hy r3 s3;gi_wp2;go_wp2;go_ret;rw[HG2.o];have k:=HV.o.only qK.o;exact⟨k.t (HK4.o.weak λ_ e=> .inl e), .inr ⟨rfl,[(x, .agg #[.slice ka kl kc, .slice va vl vc, .bool xi, .int .i64 xn])],List.prefix_refl _,HJ4.o,_,(HV.o.kpq k).kpq HK4.o,_,_,_,(HW3.o.mono λ_ hb=>hb.kpq k).round (HV.o.kpq k) HK4.o⟩⟩
    |false=>
     have h1:C<=0:=of_decide_eq_true hd;clear hd;have HG2:=Hd (show g=([],none)from HG.o);go_wp2_with fail;refine(dh W1 HW1.o HS.o).mono ?_;rintro e w2 ⟨rfl,hw2,ho2⟩;have HW2:=Hd hw2;have HO2:=Hd ho2;clear hw2 ho2 q1 l1 m1 r1 s1;go_wp2;go_ret;have hall:=(aA.of_below (p:=(· =q)) B1.o).comp HO2.o (λb hb=> .inl hb);rw[HG2.o];have k:=HV.o.only hall;exact⟨k, .inl ⟨[],rfl,by rw[List.append_nil];exact HJQ.o _ _ _ HJ.o hall,rfl,_,HV.o.kpq k,_,_,_,HW2.o.mono λ_ hb=>hb.kpq k⟩⟩
   |true=>
    have hd:decide (-C<=0)= !bh:=by rw[HC4.o,HBH.o];rfl
    cases bh with
    |true=>
     have h1:¬ -C<=0:=of_decide_eq_false hd;clear hd;go_upto_region 7 with fail;have ho:=((aA.refl (· =q) W1).set q 9 (.slice ka kl kc) rfl).set q 10 (.bool true) rfl;have hbx:=((HW1.o.box.set 9 (.slice ka kl kc)).set 10 (.bool true));obtain⟨W2,hW2⟩:∃W2,(W1.setCell ⟨q,9,none⟩ (.slice ka kl kc)).setCell ⟨q,10,none⟩ (.bool true)=W2:=⟨_,rfl⟩;rw[hW2]at ho hbx⊢;have hw2:WkS W2 q 116 (Sf q ob w) p B F true (some x.key) 0 ka kl kc:=⟨hbx,(HK.o.ext B1.o).gG ho HS.o,HW1.o.from_.gG ho HS.o,HW1.o.to_.gG ho HS.o,HW1.o.file.same ho.size λb hb hl=>ho.block b hl (HS.o b hb)⟩;have hall:=(aA.of_below (p:=(· =q)) B1.o).comp ho (λb hb=> .inl hb);have HJ2:=Hd (HJQ.o _ _ _ HJ.o hall);have HX2:=Hd (HX.o.only hall HS.o);have hq2:=HQ1.o.aQ ho (show ¬w.heap.size=q by have:=HL0.o;omega);have HH:=Hd (pU B p.ba p.ta ka p.bl p.bc p.tl p.tc kl kc x.key W2 hw2.from_.at_ hw2.to_.at_ hw2.key.at_);have wV:=Hd hall;have HW2:=Hd hw2;have HQ2:=Hd hq2;have q2:=hw2.box.cells;have l2:=hw2.box.lt;unfold wkC at q2;have r2:=hq2.cells;have s2:=hq2.lt;have hen:=oC;clear ho hbx hW2 hw2 hall hq2 q1 l1 m1 r1 s1;go_upto_region 8 with fail;refine(wpIn_wide (n:=4)).1 ?_;gi_wp2_with fail;refine⟨trivial,(callsIn_wide.2 HH.o).mono ?_⟩;rintro e w3 ⟨rfl,hb3⟩;have HW3:=Hd (HW2.o.ext hb3);have HJ3:=Hd (HJQ.o _ _ _ HJ2.o (aA.of_below hb3));have HX3:=Hd (HX2.o.ext hb3);have hq3:=HQ2.o.ext hb3;have r3:=hq3.cells;have s3:=hq3.lt;have qK:=Hd (wV.o.ext hb3);have HQ3:=Hd hq3;clear q2 l2 r2 s2 hb3 hq3 HW2 HJ2 HX2 HQ2 wV HH hen;cases hh:B.holdsB x.key with
     |false=>
      have HG2:=Hd (show g=([],some (some x.key)) by rw[HG.o];simp[hh]);clear hh;gi_wp2;refine⟨λf h=>(by cases h),?_⟩;gi_wp2;go_wp2;go_ret;rw[HG2.o];have k:=HV.o.only qK.o;exact⟨k, .inl ⟨[],rfl,by rw[List.append_nil];exact HJ3.o,rfl,HV.o.kpq k,_,_,_,HW3.o.mono λ_ hb=>hb.kpq k⟩⟩
     |true=>
      have HG2:=Hd (show g=([x],some (some x.key)) by rw[HG.o];simp[hh]);clear hh;obtain⟨fn,tmps,assign,body,hy,hR⟩:=HY.o 3 pre (x, .agg #[.slice ka kl kc, .slice va vl vc, .bool xi, .int .i64 xn]) w3 HJ3.o (HX3.o.mono λ_ hb=>hb.kpq (HV.o.only qK.o)) (by have h:=HN.o;rw[HG2.o]at h;simp at h;omega);dsimp only[iP.encs]at hy;have HR:=Hd hR;clear hR;gi_wp2_with fail;refine HR.o.mono ?_;rintro e w4 (⟨rfl,hj4,hk4⟩|⟨rfl,hj4,hk4⟩)
      .have HJ4:=Hd hj4;have HK4:=Hd hk4;clear hj4 hk4 hy r3 s3;gi_wp2;go_wp2;go_ret;rw[HG2.o];have k:=HV.o.only qK.o;exact⟨k.t (HK4.o.weak λ_ e=> .inl e), .inl ⟨[(x, .agg #[.slice ka kl kc, .slice va vl vc, .bool xi, .int .i64 xn])],rfl,HJ4.o,rfl,(HV.o.kpq k).kpq HK4.o,_,_,_,(HW3.o.mono λ_ hb=>hb.kpq k).round (HV.o.kpq k) HK4.o⟩⟩
      .have HJ4:=Hd hj4;have HK4:=Hd hk4;clear hj4 hk4 hy r3 s3;gi_wp2;go_wp2;go_ret;rw[HG2.o];have k:=HV.o.only qK.o;exact⟨k.t (HK4.o.weak λ_ e=> .inl e), .inr ⟨rfl,[(x, .agg #[.slice ka kl kc, .slice va vl vc, .bool xi, .int .i64 xn])],List.prefix_refl _,HJ4.o,_,(HV.o.kpq k).kpq HK4.o,_,_,_,(HW3.o.mono λ_ hb=>hb.kpq k).round (HV.o.kpq k) HK4.o⟩⟩
    |false=>
     have h1: -C<=0:=of_decide_eq_true hd;clear hd;have HG2:=Hd (show g=([],none)from HG.o);go_wp2_with fail;refine(dh W1 HW1.o HS.o).mono ?_;rintro e w2 ⟨rfl,hw2,ho2⟩;have HW2:=Hd hw2;have HO2:=Hd ho2;clear hw2 ho2 q1 l1 m1 r1 s1;go_wp2;go_ret;have hall:=(aA.of_below (p:=(· =q)) B1.o).comp HO2.o (λb hb=> .inl hb);rw[HG2.o];have k:=HV.o.only hall;exact⟨k, .inl ⟨[],rfl,by rw[List.append_nil];exact HJQ.o _ _ _ HJ.o hall,rfl,_,HV.o.kpq k,_,_,_,HW2.o.mono λ_ hb=>hb.kpq k⟩⟩
end Go.Proofs.YtenmnhnlcnmloaaGreat
namespace Go.Proofs.YtenmnhnlcnmloaaGreat
open Go.RowKit Go.Dav Go.Shelf
attribute [local go_sem] Gives dG ite_val ay Oper.semAt_some
structure iF(W:World)(q ob wb yb ib l:Nat):Prop where
 w:Blk W wb [.pointer (some ⟨q,0,none⟩)] 113
 y:Blk W yb [.func (.yield l) #[] #[]] 156
 i:Blk W ib [.func (.func 93) #[] #[.pointer (some ⟨wb,0,none⟩), .pointer (some ⟨yb,0,none⟩), .pointer (some ⟨ib,0,none⟩)]] 174
 sw:Sf q ob W wb
 sy:Sf q ob W yb
 si:Sf q ob W ib
theorem iF.go{W W':World}{q ob wb yb ib l:Nat}(h:iF W q ob wb yb ib l)(k:KpQ ob (pQ q ob) W W'):iF W' q ob wb yb ib l:=⟨h.w.gq h.sw k,h.y.gq h.sy k,h.i.gq h.si k,h.sw.kpq k,h.sy.kpq k,h.si.kpq k⟩
theorem rZ(args:Array Value)(W:World):(callFunc 93 args).run Tryz.prog W= .ok (Next.enter 93 args) W:=kR
set_option maxRecDepth 100000 in
theorem NQ{p:WkP}{B:bD}{F:aB}{turned:Bool}{q ob wb yb ib l NN:Nat}{J Jx:List iP->World->Prop}
  (hJq:∀s A B,J s A->aA (· =q) A B->J s B) (NM:∀s A B,Jx s A->aA (· =q) A B->Jx s B)
  (hY:∀m pre x W,J pre W->jh W (Sf q ob W) x.1 x.2->pre.length<NN->YieldAt Fence.wide m Tryz.prog l (iP.encs x) W λe W'=>(e= .returned (.bool true)/\J (pre++[x]) W'/\KpQ ob (pO ob) W W')\/(e= .returned (.bool false)/\Jx (pre++[x]) W'/\KpQ ob (pO ob) W W'))
  (N:aT) (a:Int) (ia ka:Option Addr) (il ic kl kc:Nat) (last:Option (List UInt8)) (pre:List iP) (W:World) (hf:Cm 0 N) (hNS:bM W (Sf q ob W) ia il ic ka kl kc N) (hw:WkE W q ob 116 p B F turned last 0) (henv:iF W q ob wb yb ib l) (hJ:J pre W) (hN:pre.length+(goN F.all B turned 0 N a last).1.length<=NN):
  Calls Tryz.prog 93 #[vO N.leaf ia il ic ka kl kc, .int .i64 a, .int .i64 0, .pointer (some ⟨wb,0,none⟩), .pointer (some ⟨yb,0,none⟩), .pointer (some ⟨ib,0,none⟩)] W (cu q ob 116 p B F turned J Jx pre W (goN F.all B turned 0 N a last)):=by
 obtain⟨hk0,hall,hl1,hl6⟩:=DI hf;have e1:=hNS.items.hlen;have e2:=hNS.kids.hlen;obtain rfl:kl=0:=by rw[<- e2,hk0];rfl
 have hcap:=hNS.items.hcap;rw[Ll]at hN⊢;obtain⟨ord,hord⟩:∃o,oq turned N.items=o:=⟨_,rfl⟩;obtain⟨g,hg⟩:∃g,goI B turned last (oq turned N.items)=g:=⟨_,rfl⟩;have Qp:ord.length=il:=by rw[<- hord,mW,e1]
 have hget:∀k,k<il->ord[k]? =N.items[if turned=true then il-1-k else k]?:=λk hk=>by rw[<- hord,DV turned _ k oM,e1]
 rw[hg]at hN⊢;rw[hord]at hg;obtain⟨lf,hlf⟩:∃b,N.leaf=b:=⟨_,rfl⟩;rw[hlf];obtain⟨W1,hW1⟩:∃W1,W.alloc (.cells #[.bool lf, .slice ia il ic, .slice ka 0 kc] 67)=W1:=⟨_,rfl⟩;have b1:Below W.heap.size W W1:=by rw[<- hW1];exact bW
 have hnb:Blk W1 W.heap.size [.bool lf, .slice ia il ic, .slice ka 0 kc] 67:=by rw[<- hW1];exact Blk.new _ _ _
 have k1:KpQ ob (pQ q ob) W W1:=hw.1.below b1;have hnn:Sf q ob W1 W.heap.size:=Sf.new hw.1 b1 (Nat.le_refl _) hnb.lt;have YO:=Hd (show iF W1 q ob wb yb ib l from henv.go k1);have HST:=Hd (show jX q ob 116 p B F turned J pre W1 g (λz=>goI B turned z (ord.drop 0)) W1 from jX.start (by rw[List.drop_zero];exact hg) (hJq _ _ _ hJ (aA.of_below b1)) (KpQ.refl _ (k1.lt hw.1.ho)) (hw.ext b1));have HNS:=Hd (hNS.go k1);have HK1:=Hd k1;have HNB:=Hd hnb;have HB1:=Hd b1;have HNN:=Hd hnn;have HJQ:=Hd hJq;have VI:=Hd NM;have HY:=Hd hY;have HNL:=Hd hN;have HOL:=Hd Qp;have YP:=Hd hget;have HIL:=Hd e1;have c1:=hnb.cells;have d1:=hnb.lt;have il6:(il:Int)<=6:=oM;have wm:IntKind.i64.wrap ((il:Int)+0)=(il:Int):=by rw[IntWalk.i64_in _ oM];omega
 clear k1 hJq NM hY hf hNS hw henv hJ hN hget Qp hord hg hall hk0 hnn hnb b1 hlf e2;unfold vO;go_enter Tryz.func93,Tryz.ntmps93;go_wp2_with fail;go_step3;go_wp2_with fail;go_step3;go_wp2_with fail;clear c1 d1 hW1;go_loopw [22] (λix wr=>∃k:Nat,k<=il/\ix= .int .i64 (k:Int)/\jX q ob 116 p B F turned J pre W1 g (λz=>goI B turned z (ord.drop k)) wr) (λix _=>il-(intOf ix).toNat)
 case atStart=>exact⟨0,Nat.zero_le _,rfl,HST.o⟩
 case round=>
  obtain⟨k,hk,rfl,hst⟩:=hrel;by_cases hlt:k<il
  .obtain⟨ys,last2,h1,h2,h3,h4,hvd,za,zl,zc,h5⟩:=hst;obtain⟨j,hj⟩:∃j,(if turned=true then il-1-k else k)=j:=⟨_,rfl⟩;have hjl:j<il:=by rw[<- hj];split<;>omega
   obtain⟨x,hx⟩:∃x,N.items[j]? =some x:=⟨_,List.getElem?_eq_getElem (by have:=HIL.o;omega)⟩;have ho:ord[k]? =some x:=by rw[YP.o k hlt,hj,hx]
   obtain⟨b,o,xa,xl,xc,va,vl,vc,rfl,hb,hs,i0,i1,i2,i3,hk1,hv1,hi6⟩:=(HNS.o.go h4).items.hat j x hx;have hat:jh wr (Sf q ob wr) x (.agg #[.slice xa xl xc, .slice va vl vc, .bool x.int, .int .i64 x.n]):=⟨xa,xl,xc,va,vl,vc,rfl,hk1,hv1,hi6⟩;obtain⟨RR,hRR⟩:∃RR,RR=Qo (jX q ob 116 p B F turned J pre W1 g (λz=>goI B turned z (ord.drop (k+1)))) (cu q ob 116 p B F turned J Jx pre W1 g (.returned (.bool false))):=⟨_,rfl⟩;have VJ:=Hd (show ∀v W W',RR v W->Below W.heap.size W W'->RR v W' from λv W W' h hb=>by
    rw[hRR]at h⊢;exact h.imp (λ⟨h1,h2⟩=>⟨h1,h2.ext HJQ.o hb⟩) (λ⟨h1,h2⟩=>⟨h1,h2.ext HJQ.o VI.o hb⟩))
   have HT:=Hd (show ∀W,Below wr.heap.size wr W->Calls Tryz.prog 94 #[.pointer (some ⟨q,0,none⟩), .agg #[.slice xa xl xc, .slice va vl vc, .bool x.int, .int .i64 x.n], .func (.yield l) #[] #[]] W λe W'=>∃v,e= .returned v/\KpG q ob W W'/\RR v W' from λW hb=>by
    have kb:KpQ ob (pQ q ob) wr W:=hvd.below hb;refine(NP x _ (pre++ys) W (hvd.kpq kb) ((h5.ext hb).mono λ_ hb=>hb.kpq kb) (hat.go kb) HJQ.o (HJQ.o _ _ _ h3 (aA.of_below hb)) HY.o (by have:=GoT.few (rest:=λz=>goI B turned z (ord.drop k)) h1 (LC ho) HNL.o;rw[List.length_append];exact this)).mono λe W' hd=>?_;rw[hRR];rcases cu.next (rest:=λz=>goI B turned z (ord.drop k)) h1 h2 (h4.t kb) (LC ho) hd with⟨rfl,h⟩|⟨rfl,h⟩
    .exact⟨_,rfl,λ_=>hd.1, .inl ⟨rfl,h⟩⟩
    .exact⟨_,rfl,λ_=>hd.1, .inr ⟨rfl,h⟩⟩)
   have HRR:=Hd hRR;have gZ:=Hd (YO.o.go h4);have Kr:=Hd (HNB.o.gq HNN.o h4);have NR:=Hd (HNN.o.kpq h4);have HOB:=Hd hvd.ho;have HC0:=Hd i0;have HC1:=Hd i1;have HC2:=Hd i2;have HC3:=Hd i3;have HSb:=Hd hs;have HLT:=Hd hlt;have q0:=h5.box.cells;have l0:=h5.box.lt;unfold wkC at q0;have w1:=gZ.o.w.cells;have w2:=gZ.o.w.lt;have g1:(k:Int)<(il:Int):=oM;have gj:(j:Int)<(il:Int):=oM;have gj0:¬(j:Int)<0:=oM;obtain⟨xi,hxi⟩:∃z,x.int=z:=⟨_,rfl⟩;obtain⟨xn,hxn⟩:∃z,x.n=z:=⟨_,rfl⟩;rw[hxi]at HC2 HT;rw[hxn]at HC3 HT;clear h1 h2 h3 h4 h5 hx ho hvd hat hb hs i0 i1 i2 i3 hk1 hv1 hi6 hlt hk hxi hxn hRR;cases turned with
   |false=>
    obtain rfl:k=j:=by rw[if_neg Bool.false_ne_true]at hj;exact hj
    go_upto_region 8 with fail;clear q0 l0 w1 w2;refine' aN (KpG q ob) (zu _ _) 7 [.inl _, .inl _, .inl _, .inl _, .inl _, .inl _, .inl _, .inr (RR)] kR kR ?dN
    case dN=>
     refine kG (λW hE hN=>by have kk:=hE HOB.o;have q1:=(gZ.o.w.gq gZ.o.sw kk).cells;have q2:=(gZ.o.y.gq gZ.o.sy kk).cells;have q3:=(Kr.o.gq NR.o kk).cells;have c0:=kk.cell HC0.o HSb.o.pq.1 HSb.o.pq.2;have c1:=kk.cell HC1.o HSb.o.pq.1 HSb.o.pq.2;have c2:=kk.cell HC2.o HSb.o.pq.1 HSb.o.pq.2;have c3:=kk.cell HC3.o HSb.o.pq.1 HSb.o.pq.2;clear kk;exact gF) ?_;refine kD ?_;refine kG (λW hE hN=>by have kk:=hE HOB.o;have q1:=(gZ.o.w.gq gZ.o.sw kk).cells;have q2:=(gZ.o.y.gq gZ.o.sy kk).cells;have q3:=(Kr.o.gq NR.o kk).cells;have c0:=kk.cell HC0.o HSb.o.pq.1 HSb.o.pq.2;have c1:=kk.cell HC1.o HSb.o.pq.1 HSb.o.pq.2;have c2:=kk.cell HC2.o HSb.o.pq.1 HSb.o.pq.2;have c3:=kk.cell HC3.o HSb.o.pq.1 HSb.o.pq.2;clear kk;exact gF) ?_;iterate 2 refine kD ?_
     refine kG (λW hE hN=>by have kk:=hE HOB.o;have q1:=(gZ.o.w.gq gZ.o.sw kk).cells;have q2:=(gZ.o.y.gq gZ.o.sy kk).cells;have q3:=(Kr.o.gq NR.o kk).cells;have c0:=kk.cell HC0.o HSb.o.pq.1 HSb.o.pq.2;have c1:=kk.cell HC1.o HSb.o.pq.1 HSb.o.pq.2;have c2:=kk.cell HC2.o HSb.o.pq.1 HSb.o.pq.2;have c3:=kk.cell HC3.o HSb.o.pq.1 HSb.o.pq.2;clear kk;exact gF) ?_;refine kG (λW hE hN=>by have kk:=hE HOB.o;have q1:=(gZ.o.w.gq gZ.o.sw kk).cells;have q2:=(gZ.o.y.gq gZ.o.sy kk).cells;have q3:=(Kr.o.gq NR.o kk).cells;have c0:=kk.cell HC0.o HSb.o.pq.1 HSb.o.pq.2;have c1:=kk.cell HC1.o HSb.o.pq.1 HSb.o.pq.2;have c2:=kk.cell HC2.o HSb.o.pq.1 HSb.o.pq.2;have c3:=kk.cell HC3.o HSb.o.pq.1 HSb.o.pq.2;clear kk;exact gF) ?_;refine aH dC rfl (VJ.o) (by rfl) (λW hE hN=>?_) (λu7=>?_)
     .go_simp;refine⟨Below.refl _ _,?_⟩;exact HT.o W hE
     simp only[Act.put,pB,pC,pD];refine aU λW3 hE3 hG3=>?_;have hu7:=(show RR u7 W3/\True from hG3).1;rw[HRR.o]at hu7;rcases hu7 with⟨rfl,hd⟩|⟨rfl,hd⟩
     .have HD:=Hd hd;clear hd hG3 hE3;go_wp2_with fail;go_roundw
      case rel=>exact⟨k+1,HLT.o,by go_num,HD.o⟩
      case measure=>have:=HLT.o;simp[intOf];omega
     .have HD:=Hd hd;clear hd hG3 hE3;go_wp2;go_ret;exact HD.o.after HK1.o
   |true=>
    have wj:(il:Int)-1-(k:Int)=(j:Int):=by
     rw[if_pos rfl]at hj;omega
    have wk:IntKind.i64.wrap ((il:Int)-1-(k:Int))=(j:Int):=by rw[wj];exact IntWalk.i64_in _ oM
    go_upto_region 8 with fail;clear q0 l0 w1 w2;refine' aN (KpG q ob) (zu _ _) 7 [.inl _, .inl _, .inl _, .inl _, .inl _, .inl _, .inl _, .inr (RR)] kR kR ?fZ
    case fZ=>
     refine kG (λW hE hN=>by have kk:=hE HOB.o;have q1:=(gZ.o.w.gq gZ.o.sw kk).cells;have q2:=(gZ.o.y.gq gZ.o.sy kk).cells;have q3:=(Kr.o.gq NR.o kk).cells;have c0:=kk.cell HC0.o HSb.o.pq.1 HSb.o.pq.2;have c1:=kk.cell HC1.o HSb.o.pq.1 HSb.o.pq.2;have c2:=kk.cell HC2.o HSb.o.pq.1 HSb.o.pq.2;have c3:=kk.cell HC3.o HSb.o.pq.1 HSb.o.pq.2;clear kk;exact gF) ?_;refine kD ?_;refine kG (λW hE hN=>by have kk:=hE HOB.o;have q1:=(gZ.o.w.gq gZ.o.sw kk).cells;have q2:=(gZ.o.y.gq gZ.o.sy kk).cells;have q3:=(Kr.o.gq NR.o kk).cells;have c0:=kk.cell HC0.o HSb.o.pq.1 HSb.o.pq.2;have c1:=kk.cell HC1.o HSb.o.pq.1 HSb.o.pq.2;have c2:=kk.cell HC2.o HSb.o.pq.1 HSb.o.pq.2;have c3:=kk.cell HC3.o HSb.o.pq.1 HSb.o.pq.2;clear kk;exact gF) ?_;iterate 2 refine kD ?_
     refine kG (λW hE hN=>by have kk:=hE HOB.o;have q1:=(gZ.o.w.gq gZ.o.sw kk).cells;have q2:=(gZ.o.y.gq gZ.o.sy kk).cells;have q3:=(Kr.o.gq NR.o kk).cells;have c0:=kk.cell HC0.o HSb.o.pq.1 HSb.o.pq.2;have c1:=kk.cell HC1.o HSb.o.pq.1 HSb.o.pq.2;have c2:=kk.cell HC2.o HSb.o.pq.1 HSb.o.pq.2;have c3:=kk.cell HC3.o HSb.o.pq.1 HSb.o.pq.2;clear kk;exact gF) ?_;refine kG (λW hE hN=>by have kk:=hE HOB.o;have q1:=(gZ.o.w.gq gZ.o.sw kk).cells;have q2:=(gZ.o.y.gq gZ.o.sy kk).cells;have q3:=(Kr.o.gq NR.o kk).cells;have c0:=kk.cell HC0.o HSb.o.pq.1 HSb.o.pq.2;have c1:=kk.cell HC1.o HSb.o.pq.1 HSb.o.pq.2;have c2:=kk.cell HC2.o HSb.o.pq.1 HSb.o.pq.2;have c3:=kk.cell HC3.o HSb.o.pq.1 HSb.o.pq.2;clear kk;exact gF) ?_;refine aH dC rfl (VJ.o) (by rfl) (λW hE hN=>?_) (λu7=>?_)
     .go_simp;refine⟨Below.refl _ _,?_⟩;exact HT.o W hE
     simp only[Act.put,pB,pC,pD];refine aU λW3 hE3 hG3=>?_;have hu7:=(show RR u7 W3/\True from hG3).1;rw[HRR.o]at hu7;rcases hu7 with⟨rfl,hd⟩|⟨rfl,hd⟩
     .have HD:=Hd hd;clear hd hG3 hE3;go_wp2_with fail;go_roundw
      case rel=>exact⟨k+1,HLT.o,by go_num,HD.o⟩
      case measure=>have:=HLT.o;simp[intOf];omega
     .have HD:=Hd hd;clear hd hG3 hE3;go_wp2;go_ret;exact HD.o.after HK1.o
  .obtain rfl:k=il:=oM;have g1:¬(k:Int)<(k:Int):=oM;have HD:=Hd (λ(Jx:List iP->World->Prop) (e:Ending) he=>jX.done (Jx:=Jx) (e:=e) hst (λz=>U0 (by rw[HOL.o];exact Nat.le_refl _)) he);clear hst hlt hk;go_wp2;go_ret;exact(HD.o _ _ rfl).after HK1.o
end Go.Proofs.YtenmnhnlcnmloaaGreat
