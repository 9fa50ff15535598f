/- Part of a proof of a law of the layer of trees. -/
import Derived.Test.YtenmnhnlcnmloaaGreatQa28
import Derived.Test.YtenmnhnlcnmloaaGreatQa31
import Derived.RegionTactic
import Derived.BigRegion
import Derived.Deep.DeepCutAuto
import Derived.Test.YtenmnhnlcnmloaaGreatQa01
set_option linter.unusedVariables false
set_option linter.unusedSimpArgs false
set_option maxHeartbeats 8000000
set_option maxRecDepth 8000
namespace Go.Dav
open Go Go.RowKit
def NJ(w:World)(S:Nat->Prop)(r:aB×dS)(e:Ending)(w':World):Prop:=
 ∃fa fl fc la ll lc ka kl kc,e= .returned (.tuple #[.agg #[.slice fa fl fc, .slice la ll lc, .int .i64 r.1.fuse, .int .i64 r.1.fault, .bool r.1.off], .agg (Oo r.2 ka kl kc).toArray])/\fB w' (Or S w) fa fl fc la ll lc r.1/\au w' (Or S w) ka kl kc r.2.key/\Below w.heap.size w w'
theorem NK{N:aT}(h:yX N):(aJ N).length<=2402:=by
 cases hl:N.leaf with
 |true=>
  obtain⟨h1,_,h2,h3⟩:=h.1 hl;have e:aJ N=tY N.items.length N.items N.items.length:=by
   unfold aJ partsOf tY;rw[hl,if_pos rfl,if_pos rfl,List.length_map,List.take_of_length_le (Nat.le_refl _),List.flatMap_map];rfl
  rw[e];exact AB h1 h2 _
 |false=>
  obtain⟨h1,_,h2,h3⟩:=h.2 hl;have e:aJ N=tZ N.kids.length N.kids N.kids.length:=by
   unfold aJ partsOf tZ;rw[hl,if_neg Bool.false_ne_true,if_neg Bool.false_ne_true,List.length_map,List.take_of_length_le (Nat.le_refl _),List.flatMap_map];rfl
  rw[e];exact xK (λx hx=>(h3 x hx).1) h2 _
theorem Lu(l cs:List UInt8):placeOf l cs<=l.length+66:=by
 unfold placeOf;split
 .omega
 .rename_i c r;have h1:=rQ l.length (eH l) [c];have h2:=pF l;simp only[List.length_singleton]at h1;omega
theorem U7{N:aT}(h:yX N):(bK N).length<=121:=by
 unfold bK partsOf;cases hl:N.leaf with
 |true=>
  obtain⟨h1,h0,h2,h3⟩:=h.1 hl;rw[if_pos rfl,List.getElem?_map];cases hx:N.items[0]? with
  |none=>simp
  |some x=>
   have:=List.all_eq_true.1 h1 x (List.mem_of_getElem? hx);unfold fD at this;simp only[Bool.and_eq_true,decide_eq_true_eq]at this;show x.key.length<=121;omega
 |false=>
  obtain⟨h1,h0,h2,h3⟩:=h.2 hl;rw[if_neg Bool.false_ne_true,List.getElem?_map];cases hx:N.kids[0]? with
  |none=>simp
  |some x=>exact(h3 x (List.mem_of_getElem? hx)).1
theorem aY.SV{W:World}{S:Nat->Prop}{a:Option Addr}{n c k:Nat}{l:List aP}(h:aY W S a n c l)(hk:k<=n):aY W S a k c (l.take k):=by
 have h1:=h.hcap;refine⟨by rw[List.length_take,h.hlen];omega,oM,h.hmax,by have:=h.hfew;omega,λj x hx=>?_,h.hnil⟩;rw[List.getElem?_take]at hx;split at hx
 .exact h.hat j x hx
 .cases hx
theorem dZ.SV{W:World}{S:Nat->Prop}{a:Option Addr}{n c k:Nat}{l:List dS}(h:dZ W S a n c l)(hk:k<=n):dZ W S a k c (l.take k):=by
 have h1:=h.hcap;refine⟨by rw[List.length_take,h.hlen];omega,oM,h.hmax,by have:=h.hfew;omega,λj x hx=>?_,h.hnil⟩;rw[List.getElem?_take]at hx;split at hx
 .exact h.hat j x hx
 .cases hx
theorem Ui:∀(l:List aP),(xX (AL l)).c=l.length:=by
 intro l;have key:∀(l:List aP) (R:Red),((AL l).foldl Red.both R).c=R.c+l.length:=by
  intro l;induction l with
  |nil=>intro R;simp[AL]
  |cons x l ih=>
   intro R;have:=ih (R.both (ig x.int x.n));simp only[AL,List.map_cons,List.foldl_cons]at this⊢;rw[this];show R.c+(ig x.int x.n).c+_=_;rw[AO];simp;omega
 have:=key l Red.zero;unfold xX;rw[this];simp[Red.zero]
theorem Xe{N:aT}(h:yX N):0<=(lD N).c/\(lD N).c<=7516192768:=by
 unfold lD;cases hl:N.leaf with
 |true=>
  obtain⟨h1,_,h2,h3⟩:=h.1 hl;rw[h3];have:=Ui (N.items.take N.items.length);rw[List.take_length]at this;show 0<=(dO N.items N.items.length).c/\(dO N.items N.items.length).c<=_;unfold dO;rw[List.take_length,this];omega
 |false=>
  obtain⟨h1,_,h2,h3⟩:=h.2 hl;have e:fP (dO N.items N.items.length) N.kids N.kids.length=iM N.kids N.kids.length:=by rw[h1];rfl
  rw[e];obtain⟨g1,g2,g3,_⟩:=qI h3 N.kids.length (Nat.le_refl _);omega
def Uj(T:Nat->Prop)(G:aB)(v:Value)(W:World):Prop:=∃fa fl fc la ll lc,v= .agg #[.slice fa fl fc, .slice la ll lc, .int .i64 G.fuse, .int .i64 G.fault, .bool G.off]/\fB W T fa fl fc la ll lc G
def Q7(T:Nat->Prop)(r:aB×Int)(v:Value)(W:World):Prop:=∃f,v= .tuple #[f, .int .i64 r.2]/\Uj T r.1 f W
theorem Uj.later{T:Nat->Prop}{G:aB}:∀v W W',Uj T G v W->Below W.heap.size W W'->Uj T G v W':=λ_ _ _ ⟨fa,fl,fc,la,ll,lc,h1,h2⟩ hb=>⟨fa,fl,fc,la,ll,lc,h1,h2.ext hb⟩
theorem Q7.later{T:Nat->Prop}{r:aB×Int}:∀v W W',Q7 T r v W->Below W.heap.size W W'->Q7 T r v W':=λ_ _ _ ⟨f,h1,h2⟩ hb=>⟨f,h1,Uj.later _ _ _ h2 hb⟩
def VH(S:Nat->Prop)(x:List UInt8)(v:Value)(W:World):Prop:=∃a n c,v= .slice a n c/\au W S a n c x
theorem VH.later{S:Nat->Prop}{x:List UInt8}:∀v W W',VH S x v W->Below W.heap.size W W'->VH S x v W':=λ_ _ _ ⟨a,n,c,h1,h2⟩ hb=>⟨a,n,c,h1,h2.ext hb⟩
def DY(S:Nat->Prop)(k:dS)(v:Value)(W:World):Prop:=∃a n c,v= .agg #[.slice a n c, .int .i64 k.at_, .int .i64 k.red.c, .int .i64 k.red.n, .int .i64 (hi k.red.s), .int .u64 (lo k.red.s), .int .i64 k.red.l, .int .i64 k.red.m]/\au W S a n c k.key
theorem DY.later{S:Nat->Prop}{k:dS}:∀v W W',DY S k v W->Below W.heap.size W W'->DY S k v W':=λ_ _ _ ⟨a,n,c,h1,h2⟩ hb=>⟨a,n,c,h1,h2.ext hb⟩
def IJ(kb n2:Nat)(t:TypeId)(S:Nat->Prop)(W4:World)(K:dS)(wc:World):Prop:=∃xa xl xc,Blk wc kb [.slice xa xl xc, .int .i64 K.at_, .int .i64 K.red.c, .int .i64 K.red.n, .int .i64 (hi K.red.s), .int .u64 (lo K.red.s), .int .i64 K.red.l, .int .i64 K.red.m] t/\au wc (λb=>S b\/W4.heap.size<=b) xa xl xc K.key/\(∀b,b<n2->wc.heap[b]? =W4.heap[b]?)/\W4.heap.size<=wc.heap.size/\Below n2 W4 wc
theorem IJ.num{kb n2 i:Nat}{t:TypeId}{S:Nat->Prop}{W4 wc:World}{K K':dS}{v:Value}(h:IJ kb n2 t S W4 K wc)(hk:K'.key=K.key)
  (hc:∀x,([x, .int .i64 K.at_, .int .i64 K.red.c, .int .i64 K.red.n, .int .i64 (hi K.red.s), .int .u64 (lo K.red.s), .int .i64 K.red.l, .int .i64 K.red.m]:List Value).set i v=[x, .int .i64 K'.at_, .int .i64 K'.red.c, .int .i64 K'.red.n, .int .i64 (hi K'.red.s), .int .u64 (lo K'.red.s), .int .i64 K'.red.l, .int .i64 K'.red.m])
  (h1:n2<=kb) (h2:kb<W4.heap.size) (hS:∀b,S b->b<n2):IJ kb n2 t S W4 K' (wc.setCell ⟨kb,i,none⟩ v):=by
 obtain⟨xa,xl,xc,g1,g2,g3,g4,g5⟩:=h;have ho:=(aA.refl (· =kb) wc).set kb i v rfl;have g6:=g1.set i v;rw[hc]at g6;exact⟨xa,xl,xc,g6,by rw[hk];exact g2.gG ho (λb hb=>by rcases hb with hb|hb;(have:=hS b hb;omega);omega),λb hb=>(ho.block b oM oM).trans (g3 b hb),Nat.le_trans g4 ho.size,g5.trans (ho.below oM (λc e=>oM))⟩
def SX:List Value:=[.slice none 0 0, .int .i64 0, .int .i64 0, .int .i64 0, .int .i64 0, .int .u64 0, .int .i64 0, .int .i64 0]
end Go.Dav
namespace Go.Proofs.YtenmnhnlcnmloaaGreat
open Go.RowKit Go.Dav
attribute [local go_sem] Gives dG ite_val ay
theorem DZ(F:aB)(N:aT)(number:Nat)(hu:iE)(fa la ia ka:Option Addr)(fl fc ll lc il ic kl kc:Nat)(w:World)(S:Nat->Prop)(hF:fB w S fa fl fc la ll lc F)(hN:bM w S ia il ic ka kl kc N)(hS:∀b,S b->b<w.heap.size)(hr:F.right=true)(hw:yX (Ud (mJ hu number 4) N)):
  Calls Tryz.prog 80 #[.agg #[.slice fa fl fc, .slice la ll lc, .int .i64 F.fuse, .int .i64 F.fault, .bool F.off], .agg #[.bool N.leaf, .slice ia il ic, .slice ka kl kc], .int .i64 (number:Int), .agg #[.int .i64 hu.kind, .int .i64 hu.node]] w (NJ w S (rX F N number hu)):=by
 obtain⟨lf,hlf⟩:∃z,N.leaf=z:=⟨_,rfl⟩;have b0:Below w.heap.size w (((((w.alloc (.cells [.slice fa fl fc, .slice la ll lc, .int .i64 F.fuse, .int .i64 F.fault, .bool F.off].toArray 32)).alloc (.cells #[.bool lf, .slice ia il ic, .slice ka kl kc] 67)).alloc (.cells #[.int .i64 hu.kind, .int .i64 hu.node] 53)).alloc (.cells #[.slice none 0 0, .slice none 0 0, .int .i64 0, .int .i64 0, .bool false] 32)).alloc (.cells #[.slice none 0 0, .int .i64 0, .int .i64 0, .int .i64 0, .int .i64 0, .int .u64 0, .int .i64 0, .int .i64 0] 128)):=bW;obtain⟨W0,hW0⟩:∃W0,((((w.alloc (.cells [.slice fa fl fc, .slice la ll lc, .int .i64 F.fuse, .int .i64 F.fault, .bool F.off].toArray 32)).alloc (.cells #[.bool lf, .slice ia il ic, .slice ka kl kc] 67)).alloc (.cells #[.int .i64 hu.kind, .int .i64 hu.node] 53)).alloc (.cells #[.slice none 0 0, .slice none 0 0, .int .i64 0, .int .i64 0, .bool false] 32)).alloc (.cells #[.slice none 0 0, .int .i64 0, .int .i64 0, .int .i64 0, .int .i64 0, .int .u64 0, .int .i64 0, .int .i64 0] 128)=W0:=⟨_,rfl⟩;have q0:Blk W0 w.heap.size [.slice fa fl fc, .slice la ll lc, .int .i64 F.fuse, .int .i64 F.fault, .bool F.off] 32:=by rw[<- hW0];exact((((Blk.new _ _ _).alloc _).alloc _).alloc _).alloc _
 have q1:Blk W0 (w.heap.size+1) [.bool lf, .slice ia il ic, .slice ka kl kc] 67:=by rw[<- hW0];exact(((Blk.new' _ _ _ (by simp)).alloc _).alloc _).alloc _
 have q2:Blk W0 (w.heap.size+1+1) [.int .i64 hu.kind, .int .i64 hu.node] 53:=by rw[<- hW0];exact((Blk.new' _ _ _ (by simp)).alloc _).alloc _
 have q3:Blk W0 (w.heap.size+1+1+1) [.slice none 0 0, .slice none 0 0, .int .i64 0, .int .i64 0, .bool false] 32:=by rw[<- hW0];exact(Blk.new' _ _ _ (by simp)).alloc _
 have q4:Blk W0 (w.heap.size+1+1+1+1) [.slice none 0 0, .int .i64 0, .int .i64 0, .int .i64 0, .int .i64 0, .int .u64 0, .int .i64 0, .int .i64 0] 128:=by rw[<- hW0];exact Blk.new' _ _ _ (by simp)
 rw[hW0]at b0;have HB0:=Hd b0;have HQ0:=Hd q0;have HQ1:=Hd q1;have HQ2:=Hd q2;have HQ3:=Hd q3;have HQ4:=Hd q4;have HF:=Hd hF;have HN:=Hd hN;have HS:=Hd hS;have HR:=Hd hr;have HW:=Hd hw;have HLF:=Hd hlf;have c1:=q1.cells;have l1:=q1.lt;have m1:=q1.marks;have c2:=q2.cells;have l2:=q2.lt;have HW0:=Hd hW0;have hsz:w.heap.size+1+1+1+1+1=W0.heap.size:=by rw[<- hW0];simp
 have HSZ:=Hd hsz;have icap:=hN.items.hcap;have acS:=hN.kids.hcap;clear b0 q0 q1 q2 q3 q4 hF hN hS hr hw;rw[hlf];clear hlf;obtain⟨M,hM⟩:∃M,Ud (mJ hu number 4) N=M:=⟨_,rfl⟩;obtain⟨bk1,hB1⟩:∃b,mJ hu number 1=b:=⟨_,rfl⟩;obtain⟨bk2,hB2⟩:∃b,mJ hu number 2=b:=⟨_,rfl⟩;obtain⟨bk3,hB3⟩:∃b,mJ hu number 3=b:=⟨_,rfl⟩;obtain⟨bk4,hB4⟩:∃b,mJ hu number 4=b:=⟨_,rfl⟩;obtain⟨bh,hbh⟩:∃b,(hu.node==(number:Int))=b:=⟨_,rfl⟩;have hkey:∀j,mJ hu number j=(bh&&decide (hu.kind=j)):=λj=>by unfold mJ;rw[<- hbh];rfl
 have HB1:=Hd (hB1.symm.trans (hkey 1));have HB2:=Hd (hB2.symm.trans (hkey 2));have HB3:=Hd (hB3.symm.trans (hkey 3));have HB4:=Hd (hB4.symm.trans (hkey 4));have HMD:=Hd (show M=if bk4=true then⟨N.leaf,N.items.take 2,N.kids.take 2⟩else N by rw[<- hM,hB4];rfl);have HM:=Hd (show yX M by rw[<- hM];exact HW.o);have HWP:=Hd (show rX F N number hu=((Le F (aJ M)).1,⟨if bk1=true then bK M++[0]else bK M,if bk3=true then(Le F (aJ M)).2+1 else(Le F (aJ M)).2,if bk2=true then { lD M with c:=(lD M).c+1}else lD M⟩) by unfold rX SC;rw[hM,hB1,hB2,hB3]);have HLM:=Hd (show M.leaf=lf by rw[<- hM,<- HLF.o];unfold Ud;split<;>rfl);clear hM hB1 hB2 hB3 hB4 hkey;go_enter Tryz.func80,Tryz.ntmps80;go_upto_region 2 with fail;clear hW0 HW0;have HBH:=Hd hbh;clear hbh;have c2:=HQ2.o.cells;have l2:=HQ2.o.lt;go_cut [22]from 17 to 22 (λs wc=>s= .bool bk4/\W0=wc)
 case first=>
  cases bh with
  |false=>
   have HBB:=Hd (show false=bk4 by rw[HB4.o];rfl);go_wp2_with fail;go_meet
   case rel=>first|exact⟨by rw[<- HBB.o],rfl⟩|exact⟨⟨by rw[<- HBB.o],rfl⟩,rfl⟩|((repeat apply Exists.intro);exact⟨⟨by rw[<- HBB.o],rfl⟩,rfl⟩)
  |true=>
   by_cases p2:hu.kind=4
   .have e2:(hu.kind==4)=true:=beq_iff_eq.2 p2;have HBB:=Hd (show true=bk4 by rw[HB4.o,decide_eq_true p2];rfl);clear p2;go_wp2_with fail;go_meet
    case rel=>first|exact⟨by rw[<- HBB.o],rfl⟩|exact⟨⟨by rw[<- HBB.o],rfl⟩,rfl⟩|((repeat apply Exists.intro);exact⟨⟨by rw[<- HBB.o],rfl⟩,rfl⟩)
   .have e2:(hu.kind==4)=false:=beq_eq_false_iff_ne.2 p2;have HBB:=Hd (show false=bk4 by rw[HB4.o,decide_eq_false p2];rfl);clear p2;go_wp2_with fail;go_meet
    case rel=>first|exact⟨by rw[<- HBB.o],rfl⟩|exact⟨⟨by rw[<- HBB.o],rfl⟩,rfl⟩|((repeat apply Exists.intro);exact⟨⟨by rw[<- HBB.o],rfl⟩,rfl⟩)
 case rest=>
  obtain⟨rfl,rfl⟩:=hcut;go_upto_if 22 with fail
  go_cut []from 23 to 39 (λwc=>∃mi mk:Nat,bM w S ia mi ic ka mk kc M/\Blk wc (w.heap.size+1) [.bool lf, .slice ia mi ic, .slice ka mk kc] 67/\aA (· =w.heap.size+1) W0 wc/\wc.heap.size=W0.heap.size)
  case first=>
   cases bk4 with
   |true=>
    obtain⟨mi,hmi⟩:∃m,min il 2=m:=⟨_,rfl⟩;obtain⟨mk,hmk⟩:∃m,min kl 2=m:=⟨_,rfl⟩;have vmi:(if (2:Int)<(il:Int)then(2:Int)else(il:Int))=(mi:Int):=by split<;>omega
    have vmk:(if (2:Int)<(kl:Int)then(2:Int)else(kl:Int))=(mk:Int):=by split<;>omega
    have ami:mi<=ic:=oM;have amk:mk<=kc:=oM;have acT:(mi:Int)<=(ic:Int):=oM;have acU:(mk:Int)<=(kc:Int):=oM;have HNC:=Hd (show bM w S ia mi ic ka mk kc M by
     rw[show M=⟨N.leaf,N.items.take 2,N.kids.take 2⟩from HMD.o];have e1:=HN.o.items.hlen;have e2:=HN.o.kids.hlen;rw[<- hmi,<- hmk];refine⟨?_,?_⟩
     .have h:=HN.o.items.SV (k:=min il 2) (Nat.min_le_left _ _);rwa [show N.items.take (min il 2)=N.items.take 2 by rw[<- e1,List.take_eq_take_iff];omega]at h
     .have h:=HN.o.kids.SV (k:=min kl 2) (Nat.min_le_left _ _);rwa [show N.kids.take (min kl 2)=N.kids.take 2 by rw[<- e2,List.take_eq_take_iff];omega]at h)
    clear hmi hmk;have ho:=((aA.refl (· =w.heap.size+1) W0).set (w.heap.size+1) 1 (.slice ia mi ic) rfl).set (w.heap.size+1) 2 (.slice ka mk kc) rfl;have hq1:=(HQ1.o.set 1 (.slice ia mi ic)).set 2 (.slice ka mk kc);have HX:=Hd (And.intro HNC.o (And.intro hq1 (And.intro ho (show((W0.setCell ⟨w.heap.size+1,1,none⟩ (.slice ia mi ic)).setCell ⟨w.heap.size+1,2,none⟩ (.slice ka mk kc)).heap.size=W0.heap.size by simp))));clear ho hq1;go_wp2_with fail;go_meet
    case rel=>first|exact⟨mi,mk,HX.o⟩|exact⟨⟨mi,mk,HX.o⟩,rfl⟩|(repeat' (first|exact⟨⟨mi,mk,HX.o⟩,rfl⟩|apply Exists.intro))
   |false=>
    have HX:=Hd (show bM w S ia il ic ka kl kc M/\Blk W0 (w.heap.size+1) [.bool lf, .slice ia il ic, .slice ka kl kc] 67/\aA (· =w.heap.size+1) W0 W0/\W0.heap.size=W0.heap.size from⟨by rw[show M=N from HMD.o];exact HN.o,HQ1.o,aA.refl _ _,rfl⟩);go_wp2_with fail;go_meet
    case rel=>exact⟨il,kl,HX.o.1,HX.o.2.1,HX.o.2.2.1,rfl⟩
  case rest=>
   obtain⟨mi,mk,hn2,hq1,ho,hs9⟩:=hcut;rename World=>W9
   have YL:=HB0.o;have hsz0:=HSZ.o;have hq0:=HQ0.o;have hq2:=HQ2.o;have hq3:=HQ3.o;have hq4:=HQ4.o;clear HB0 HQ0 HQ1 HQ2 HQ3 HQ4 HSZ HN HLF;have HB0:=Hd (YL.trans (ho.below YL.size (λc e=>oM)));have HQ0:=Hd (hq0.aQ ho oM);have HQ1:=Hd hq1;have HQ2:=Hd (hq2.aQ ho oM);have HQ3:=Hd (hq3.aQ ho oM);have HQ4:=Hd (hq4.aQ ho oM);have HSZ:=Hd (show w.heap.size+1+1+1+1+1=W9.heap.size from hsz0.trans hs9.symm);clear hs9;have HN:=Hd hn2;have HLF:=HLM;clear ho hq1 YL hsz0 hq0 hq2 hq3 hq4 hn2 HLM HMD HB4;go_upto_region 5 with fail;have HNM:=Hd (HN.o.ext HB0.o);clear c1 l1 m1 c2 l2;have p0:=HQ0.o.cells;have p0l:=HQ0.o.lt;have p1:=HQ1.o.cells;have p1l:=HQ1.o.lt;obtain⟨r,hr⟩:∃r,Le F (aJ M)=r:=⟨_,rfl⟩;have HPR:=Hd hr;clear hr;refine' dX [6] [.inl _, .inl _, .inr (ou W9.heap.size (aJ M)), .inr (Q7 (Or S W9) r), .inr (Q7 (Or S W9) r), .inr (Uj (Or S W9) r.1), .inl _] kR kR ?dN
   case dN=>
    iterate 2 refine wE ?_
    refine aG rfl (ou.later) (by rfl) (λW hE hN=>?_) (λu2=>?_)
    .go_simp;refine⟨Below.refl _ _,?_⟩;have hq:=Iq M ia ka mi ic mk kc S W (HNM.o.ext hE) (λb h=>by have h1:=HS.o b h;have h2:=(HB0.o.trans (hE.mono HB0.o.size)).size;omega) HM.o;rw[HLF.o]at hq;refine hq.mono ?_;rintro e w' ⟨a,n,c,rfl,hB,hb⟩;exact⟨_,rfl,hb,a,n,c,rfl,hB.mono (λb h=>Nat.le_trans hE.size h)⟩
    simp only[Act.put,pB,pC,pD];refine aG rfl (Q7.later) (by rfl) (λW hE hN=>?_) (λu3=>?_)
    .obtain⟨a1,n1,c1,rfl,hB⟩:=(show ou W9.heap.size (aJ M) u2 W/\True from hN).1;go_simp;refine⟨Below.refl _ _,?_⟩;have hbw:=HB0.o.trans (hE.mono HB0.o.size);have hq:=SK F fa la a1 fl fc ll lc n1 c1 (aJ M) W S _ (HF.o.ext hbw) (λb h=>by have h1:=HS.o b h;have h2:=hbw.size;omega) HR.o hB (by have h1:=hB.at_.hlen;have h2:=NK HM.o;omega);rw[HPR.o]at hq;refine hq.mono ?_;rintro e w' ⟨ga,gl,gc,xa,xl,xc,rfl,hG,hb⟩;exact⟨_,rfl,hb,_,rfl,ga,gl,gc,xa,xl,xc,rfl,hG.mono (λb h=>h.imp id (λh=>Nat.le_trans hE.size h))⟩
    simp only[Act.put,pB,pC,pD];refine aG rfl (Q7.later) (by rfl) (λW hE hN=>?_) (λu4=>?_)
    .have h:=(show Q7 (Or S W9) r u3 W/\True from hN).1;go_simp;first|exact⟨Below.refl _ _,h⟩|exact Below.refl _ _
    simp only[Act.put,pB,pC,pD];refine aG rfl (Uj.later) (by rfl) (λW hE hN=>?_) (λu5=>?_)
    .obtain⟨f,rfl,hf⟩:=(show Q7 (Or S W9) r u4 W/\True from hN).1;go_simp;first|exact⟨Below.refl _ _,hf⟩|exact Below.refl _ _
    simp only[Act.put,pB,pC,pD];refine wG (λW hE hN=>by obtain⟨f,rfl,hf⟩:=(show Q7 (Or S W9) r u4 W/\True from hN).1;exact gF) ?_;refine aj λW1 hE1 hG1=>?_;have jC:=hE1.cF;have kK:=hE1.fF;obtain⟨⟨ga,gl,gc,xa,xl,xc,rfl,hG⟩,_⟩:=(show Uj (Or S W9) r.1 u5 W1/\_ from hG1);obtain⟨G,at_⟩:=r;dsimp only at hG HPR⊢;have B1:=Hd (HB0.o.trans (hE1.mono HB0.o.size));have h0:=HQ0.o.ext hE1;have XT:=Hd h0;have Q8:=Hd (HQ1.o.ext hE1);have U2:=Hd (HQ2.o.ext hE1);have abp:=Hd (HQ3.o.ext hE1);have XL:=Hd (HQ4.o.ext hE1);have HN1:=Hd (HNM.o.ext hE1);have HG1:=Hd hG;have XU:=Hd hE1.size;clear hE1 hG1 jC kK hG p0 p0l p1 p1l;have p0:=h0.cells;have p0m:=h0.marks;have p0l:=h0.lt;clear h0;go_wp2_with fail;refine cO ?_;go_upto_region 6 with fail;have ho:=(((((aA.refl (· =w.heap.size) W1).set (w.heap.size) 0 (.slice ga gl gc) rfl).set (w.heap.size) 1 (.slice xa xl xc) rfl).set (w.heap.size) 2 (.int .i64 G.fuse) rfl).set (w.heap.size) 3 (.int .i64 G.fault) rfl).set (w.heap.size) 4 (.bool G.off) rfl;obtain⟨W2,hW2⟩:∃W2,(((((W1.setCell ⟨w.heap.size,0,none⟩ (.slice ga gl gc)).setCell ⟨w.heap.size,1,none⟩ (.slice xa xl xc)).setCell ⟨w.heap.size,2,none⟩ (.int .i64 G.fuse)).setCell ⟨w.heap.size,3,none⟩ (.int .i64 G.fault)).setCell ⟨w.heap.size,4,none⟩ (.bool G.off))=W2:=⟨_,rfl⟩;have hf2:=(((((XT.o).set 0 (.slice ga gl gc)).set 1 (.slice xa xl xc)).set 2 (.int .i64 G.fuse)).set 3 (.int .i64 G.fault)).set 4 (.bool G.off);rw[hW2]at ho hf2⊢;have HF2:=Hd hf2;have Z8:¬w.heap.size+1=w.heap.size:=oM;have Xf:=Hd (Q8.o.aQ ho Z8);have U3:=Hd (U2.o.aQ ho oM);have abq:=Hd (abp.o.aQ ho oM);have XM:=Hd (XL.o.aQ ho oM);have HN2:=Hd (HN1.o.same ho.size λb h hl=>ho.block b hl (by have:=HS.o b h;omega));have HG2:=Hd (HG1.o.same ho.size λb h hl=>ho.block b hl (by rcases h with h|h;(have:=HS.o b h;omega);(have:=HSZ.o;omega)))
    have B2:=Hd (B1.o.trans (ho.below B1.o.size (λc e=>oM)));have Xg:=Hd (Nat.le_trans XU.o ho.size);have p1:=Xf.o.cells;have p1l:=Xf.o.lt;clear hW2 hf2 ho p0 p0m p0l Z8;refine' ah [.inl _, .inr (VH S (bK M)), .inl _, .inl _, .inl _, .inr (DY S ⟨bK M,at_,lD M⟩), .inr (dA W2.heap.size SX 128)] kR kR ?fZ
    case fZ=>
     refine wE ?_;refine aG rfl (VH.later) (by rfl) (λW hE hN=>?_) (λu1=>?_)
     .go_simp;refine⟨Below.refl _ _,?_⟩;have hq:=Ir M ia ka mi ic mk kc S W (HN2.o.ext hE) HM.o;rw[HLF.o]at hq;refine hq.mono ?_;rintro e w' ⟨a,n,c,rfl,hB,hb⟩;exact⟨_,rfl,hb,a,n,c,rfl,hB⟩
     simp only[Act.put,pB,pC,pD];refine wD ?_;refine wE ?_;refine wG (λW hE hN=>by go_simp;refine⟨Below.refl _ _,?_⟩;have hq:=Nz M ia ka mi ic mk kc S W (HN2.o.ext hE) HM.o;rw[HLF.o]at hq;refine hq.mono ?_;rintro e w' ⟨rfl,hb⟩;refine⟨?_,hb⟩;unfold uO;rfl) ?_;refine aG rfl (DY.later) (by rfl) (λW hE hN=>?_) (λu5=>?_)
     .obtain⟨a,n,c,rfl,hB⟩:=(show VH S (bK M) u1 W/\True from hN).1;go_simp;first|exact⟨Below.refl _ _,a,n,c,rfl,hB⟩|exact⟨a,n,c,rfl,hB⟩
     simp only[Act.put,pB,pC,pD];refine aG rfl (dA.later) (by rfl) (λW hE hN=>?_) (λu6=>?_)
     .go_simp;exact dB (cs:=SX) hE.size
     simp only[Act.put,pB,pC,pD];refine aj λW3 hE3 hG3=>?_;have L6:=hE3.cF;have L8:=hE3.fF;obtain⟨⟨kb,rfl,hkb,hbk⟩,⟨ya,yl,yc,rfl,hky⟩,_⟩:=(show dA W2.heap.size SX 128 u6 W3/\DY S ⟨bK M,at_,lD M⟩ u5 W3/\_ from hG3);dsimp only at hky⊢;have B3:=Hd (B2.o.trans (hE3.mono B2.o.size));have HF3:=Hd (HF2.o.ext hE3);have SL:=Hd (U3.o.ext hE3);have abr:=Hd (abq.o.ext hE3);have XO:=Hd (XM.o.ext hE3);have HE3:=Hd hE3;have abt:=Hd hky;have abu:=Hd hbk;have HKB3:=Hd hkb;have bc:=hbk.cells;unfold SX at bc;have bm:=hbk.marks;have bl:=hbk.lt;clear hE3 hG3 L6 L8 hkb hbk hky p1 p1l;go_upto_region 7 with fail;have ho:=((((((((aA.refl (· =kb) W3).set (kb) 0 (.slice ya yl yc) rfl).set (kb) 1 (.int .i64 at_) rfl).set (kb) 2 (.int .i64 (lD M).c) rfl).set (kb) 3 (.int .i64 (lD M).n) rfl).set (kb) 4 (.int .i64 (hi (lD M).s)) rfl).set (kb) 5 (.int .u64 (lo (lD M).s)) rfl).set (kb) 6 (.int .i64 (lD M).l) rfl).set (kb) 7 (.int .i64 (lD M).m) rfl;obtain⟨W4,hW4⟩:∃W4,((((((((W3.setCell ⟨kb,0,none⟩ (.slice ya yl yc)).setCell ⟨kb,1,none⟩ (.int .i64 at_)).setCell ⟨kb,2,none⟩ (.int .i64 (lD M).c)).setCell ⟨kb,3,none⟩ (.int .i64 (lD M).n)).setCell ⟨kb,4,none⟩ (.int .i64 (hi (lD M).s))).setCell ⟨kb,5,none⟩ (.int .u64 (lo (lD M).s))).setCell ⟨kb,6,none⟩ (.int .i64 (lD M).l)).setCell ⟨kb,7,none⟩ (.int .i64 (lD M).m))=W4:=⟨_,rfl⟩;have hk4:=((((((((abu.o).set 0 (.slice ya yl yc)).set 1 (.int .i64 at_)).set 2 (.int .i64 (lD M).c)).set 3 (.int .i64 (lD M).n)).set 4 (.int .i64 (hi (lD M).s))).set 5 (.int .u64 (lo (lD M).s))).set 6 (.int .i64 (lD M).l)).set 7 (.int .i64 (lD M).m);rw[hW4]at ho hk4⊢;have HKB:=Hd (show Blk W4 kb [(.slice ya yl yc),(.int .i64 at_),(.int .i64 (lD M).c),(.int .i64 (lD M).n),(.int .i64 (hi (lD M).s)),(.int .u64 (lo (lD M).s)),(.int .i64 (lD M).l),(.int .i64 (lD M).m)] 128 from hk4);have hlt4:∀b,b<W2.heap.size->¬b=kb:=λb h=>by have:=HKB3.o;omega
     have hs2:=Xg.o;have hsz:=HSZ.o;have HF4:=Hd (HF3.o.aQ ho (hlt4 _ oM));have Ug:=Hd (SL.o.aQ ho (hlt4 _ oM));have abv:=Hd (abr.o.aQ ho (hlt4 _ oM));have YG:=Hd (XO.o.aQ ho (hlt4 _ oM));have HKEY:=Hd (abt.o.gG ho (λb h=>hlt4 b (by have:=HS.o b h;omega)));have HGF:=Hd (λW' (h:∀b,b<W2.heap.size->W'.heap[b]? =W4.heap[b]?) (hs:W4.heap.size<=W'.heap.size)=>HG2.o.same (W':=W') (Nat.le_trans (Nat.le_trans HE3.o.size ho.size) hs) λb _ hl=>(h b hl).trans ((ho.block b (Nat.lt_of_lt_of_le hl HE3.o.size) (hlt4 b hl)).trans (HE3.o.block b hl)));have HG4:=Hd (HG2.o.same (Nat.le_trans HE3.o.size ho.size) λb h hl=>(ho.block b (Nat.lt_of_lt_of_le hl HE3.o.size) (hlt4 b hl)).trans (HE3.o.block b hl));have B4:=Hd (B3.o.trans (ho.below B3.o.size (λc e=>by have:=HKB3.o;omega)));have abw:=Hd (show W9.heap.size<=kb from Nat.le_trans hs2 HKB3.o);clear hW4 ho hk4 hlt4 hs2 hsz bc bm bl;have HK0:=Hd (show IJ kb W2.heap.size 128 S W4 ⟨bK M,at_,lD M⟩ W4 from⟨ya,yl,yc,HKB.o,HKEY.o.mono (λb h=> .inl h),λb _=>rfl,Nat.le_refl _,Below.refl _ _⟩);have HKW:=Hd (And.intro HKB3.o HKB.o.lt);have HSB:=Hd (show ∀b,S b->b<W2.heap.size from λb h=>by have:=HS.o b h;have:=HSZ.o;have:=Xg.o;omega);have c2:=Ug.o.cells;have l2:=Ug.o.lt;go_cut [57]from 52 to 57 (λs wc=>s= .bool bk1/\W4=wc)
     case first=>
      cases bh with
      |false=>
       have HBB:=Hd (show false=bk1 by rw[HB1.o];rfl);go_wp2_with fail;go_meet
       case rel=>first|exact⟨by rw[<- HBB.o],rfl⟩|exact⟨⟨by rw[<- HBB.o],rfl⟩,rfl⟩|((repeat apply Exists.intro);exact⟨⟨by rw[<- HBB.o],rfl⟩,rfl⟩)
      |true=>
       by_cases p2:hu.kind=1
       .have e2:(hu.kind==1)=true:=beq_iff_eq.2 p2;have HBB:=Hd (show true=bk1 by rw[HB1.o,decide_eq_true p2];rfl);clear p2;go_wp2_with fail;go_meet
        case rel=>first|exact⟨by rw[<- HBB.o],rfl⟩|exact⟨⟨by rw[<- HBB.o],rfl⟩,rfl⟩|((repeat apply Exists.intro);exact⟨⟨by rw[<- HBB.o],rfl⟩,rfl⟩)
       .have e2:(hu.kind==1)=false:=beq_eq_false_iff_ne.2 p2;have HBB:=Hd (show false=bk1 by rw[HB1.o,decide_eq_false p2];rfl);clear p2;go_wp2_with fail;go_meet
        case rel=>first|exact⟨by rw[<- HBB.o],rfl⟩|exact⟨⟨by rw[<- HBB.o],rfl⟩,rfl⟩|((repeat apply Exists.intro);exact⟨⟨by rw[<- HBB.o],rfl⟩,rfl⟩)
     case rest=>
      obtain⟨rfl,rfl⟩:=hcut;clear c2 l2;go_upto_if 57 with fail
      go_cut []from 58 to 65 (λwc=>IJ kb W2.heap.size 128 S W4 ⟨if bk1=true then bK M++[0]else bK M,at_,lD M⟩ wc)
      case first=>
       cases bk1 with
       |true=>
        have b4:=HKB.o.cells;have hs4:=HKW.o.2;have ba:Below W4.heap.size W4 (W4.alloc (.cells #[] 5)):=(Below.refl _ _).alloc (Nat.le_refl _) _;have HBA:=Hd ba;have HRR:=Hd (λ(w1:World)=>jf (l:=[0]) (n:=1) (show Blk (w1.alloc (.cells #[.int .u8 0] 5)) w1.heap.size (u8s [0]) 5 by rw[show u8s [0]=[.int .u8 0] by simp[u8s]];exact Blk.new w1 _ _) rfl oM);have HOW:=Hd (show dW W4.heap.size 5 [] (.slice (some ⟨W4.heap.size,0,none⟩) 0 0) (W4.alloc (.cells #[] 5))from World.ownsRow_made (e:=5) (size:=1) W4 #[] 0 (Nat.le_refl _) (by unfold maxLen;omega) rfl);have HKA:=Hd (HKEY.o.ext ba);have HYL:=Hd (show yl<=1000000 by
         have h1:=HKEY.o.at_.hlen;have h2:=U7 HM.o;omega)
        clear ba;go_wp2_with (first|(at_builtin;refine aX rfl rfl aF rfl rfl HOW.o HKA.o (by have:=HYL.o;simp;omega) (by simp) ?_;intro v1 w1 ho1 hg1;have HO1:=Hd (dW.later' _ _ _ ho1 (show Below w1.heap.size w1 (w1.alloc (.cells #[.int .u8 0] 5))from(Below.refl _ _).alloc (Nat.le_refl _) _));have Z9:=Hd hg1;have HR1:=Hd (HRR.o w1);have acV:W4.heap.size<=w1.heap.size:=(by have:=hg1.size;simp at this;omega);clear ho1 hg1 HOW)|(at_builtin;refine aX rfl rfl aF rfl rfl HO1.o HR1.o (by have:=HKA.o.at_.hlen;have:=HYL.o;simp;omega) (by simp;omega) ?_;intro v2 w2 ho2 hg2;have hch:∀b,b<W4.heap.size->w2.heap[b]? =W4.heap[b]?:=(λb hb=>(hg2.block b (by simp;omega) (.inl hb)).trans ((((Below.refl w1.heap.size w1).alloc (Nat.le_refl _) (.cells #[.int .u8 0] 5)).block b oM).trans ((Z9.o.block b (by simp;omega) (.inl hb)).trans (HBA.o.block b hb))));obtain⟨a2,k2',rfl,hB2⟩:=fM ho2 (by have:=HKA.o.at_.hlen;have:=HYL.o;simp;omega);have abx:W4.heap.size<=w2.heap.size:=(by have:=hg2.size;simp at this;omega);have aby:=Hd hB2;have abz:=Hd hg2;have HCH:=Hd hch;have hkk:=(hch kb hs4).trans HKB.o;have HKK:=Hd (show Blk w2 kb _ 128 from hkk);have d4:=HKK.o.cells;have d4m:=HKK.o.marks;have d4l:=HKK.o.lt;clear ho2 hg2 hB2 hch hkk HO1 HR1))
        have hB2:au w2 (λb=>W4.heap.size<=b) a2 ((bK M).length+1) k2' (bK M++[0]):=by
         have h:=aby.o;rw[List.nil_append,List.length_append,List.length_singleton]at h;exact h
        have ho9:=(aA.refl (· =kb) w2).set kb 0 (.slice a2 ((bK M).length+1) k2') rfl;have abA:Below W2.heap.size W4 w2:=by
         have g1:=Z9.o.below (by simp);have abB:Below w1.heap.size w1 (w1.alloc (.cells #[.int .u8 0] 5)):=(Below.refl _ _).alloc (Nat.le_refl _) _;have g2:=abz.o.below (by simp;omega);have hle:W2.heap.size<=W4.heap.size:=by have:=HKW.o.1;omega
         exact(HBA.o.mono hle).trans ((g1.mono hle).trans ((abB.mono oM).trans (g2.mono hle)))
        have HX:=Hd (show IJ kb W2.heap.size 128 S W4 ⟨bK M++[0],at_,lD M⟩ (w2.setCell ⟨kb,0,none⟩ (.slice a2 ((bK M).length+1) k2'))from⟨a2,_,k2',HKK.o.set 0 _,(hB2.gG ho9 (λb h=>oM)).mono (λb h=> .inr h),λb h=>(ho9.block b (by have:=HKW.o.1;omega) (by have:=HKW.o.1;omega)).trans (HCH.o b (by have:=HKW.o.1;omega)),Nat.le_trans abx ho9.size,abA.trans (ho9.below (by have:=HKW.o.1;omega) (λc e=>by have:=HKW.o.1;omega))⟩);go_meet
        case rel=>first|exact HX.o|exact⟨HX.o,rfl⟩|(repeat' (first|exact⟨HX.o,rfl⟩|apply Exists.intro))
       |false=>
        go_wp2_with fail;go_meet
        case rel=>first|exact HK0.o|exact⟨HK0.o,rfl⟩|((repeat apply Exists.intro);exact⟨HK0.o,rfl⟩)
      case rest=>
       rename World=>W5
       have HK1:=Hd hcut;obtain⟨k1,hk1⟩:∃k,(if bk1=true then bK M++[0]else bK M)=k:=⟨_,rfl⟩;rw[hk1]at HK1;have HKE:=Hd hk1;clear hcut hk1 HK0;obtain⟨_,_,_,g1,_,g3,_,_⟩:=HK1.o;have YM:=Hd (show Blk W5 _ _ _ from(g3 _ (by have:=HSZ.o;have:=Xg.o;omega)).trans Ug.o);have XV:=Hd g1;clear g1 g3;go_upto_region 9 with fail;have c2:=YM.o.cells;have l2:=YM.o.lt;go_cut [70]from 65 to 70 (λs wc=>s= .bool bk2/\W5=wc)
       case first=>
        cases bh with
        |false=>
         have HBB:=Hd (show false=bk2 by rw[HB2.o];rfl);go_wp2_with fail;go_meet
         case rel=>first|exact⟨by rw[<- HBB.o],rfl⟩|exact⟨⟨by rw[<- HBB.o],rfl⟩,rfl⟩|((repeat apply Exists.intro);exact⟨⟨by rw[<- HBB.o],rfl⟩,rfl⟩)
        |true=>
         by_cases p2:hu.kind=2
         .have e2:(hu.kind==2)=true:=beq_iff_eq.2 p2;have HBB:=Hd (show true=bk2 by rw[HB2.o,decide_eq_true p2];rfl);clear p2;go_wp2_with fail;go_meet
          case rel=>first|exact⟨by rw[<- HBB.o],rfl⟩|exact⟨⟨by rw[<- HBB.o],rfl⟩,rfl⟩|((repeat apply Exists.intro);exact⟨⟨by rw[<- HBB.o],rfl⟩,rfl⟩)
         .have e2:(hu.kind==2)=false:=beq_eq_false_iff_ne.2 p2;have HBB:=Hd (show false=bk2 by rw[HB2.o,decide_eq_false p2];rfl);clear p2;go_wp2_with fail;go_meet
          case rel=>first|exact⟨by rw[<- HBB.o],rfl⟩|exact⟨⟨by rw[<- HBB.o],rfl⟩,rfl⟩|((repeat apply Exists.intro);exact⟨⟨by rw[<- HBB.o],rfl⟩,rfl⟩)
       case rest=>
        obtain⟨rfl,rfl⟩:=hcut;clear c2 l2;go_upto_if 70 with fail
        go_cut []from 71 to 77 (λwc=>IJ kb W2.heap.size 128 S W4 ⟨k1,at_,if bk2=true then { lD M with c:=(lD M).c+1}else lD M⟩ wc)
        case first=>
         cases bk2 with
         |true=>
          have hc:=Xe HM.o;have hwc:IntKind.i64.wrap ((lD M).c+1)=(lD M).c+1:=IntWalk.i64_in _ oM;have HX:=Hd (HK1.o.num (i:=2) (v:= .int .i64 ((lD M).c+1)) (K':=⟨k1,at_,{ lD M with c:=(lD M).c+1}⟩) rfl (λx=>rfl) HKW.o.1 HKW.o.2 HSB.o);have b4:=XV.o.cells;have b4m:=XV.o.marks;have b4l:=XV.o.lt;clear hc;go_wp2_with fail;go_meet
          case rel=>first|exact HX.o|exact⟨HX.o,rfl⟩|(repeat' (first|exact⟨HX.o,rfl⟩|apply Exists.intro))
         |false=>
          go_wp2_with fail;go_meet
          case rel=>first|exact HK1.o|exact⟨HK1.o,rfl⟩|(repeat' (first|exact⟨HK1.o,rfl⟩|apply Exists.intro))
        case rest=>
         rename World=>W6
         have HK2:=Hd hcut;obtain⟨r2,hr2⟩:∃r,(if bk2=true then { lD M with c:=(lD M).c+1}else lD M)=r:=⟨_,rfl⟩;rw[hr2]at HK2;have HRE:=Hd hr2;clear hcut hr2 HK1 XV YM;obtain⟨_,_,_,g1,_,g3,_,_⟩:=HK2.o;have YN:=Hd (show Blk W6 _ _ _ from(g3 _ (by have:=HSZ.o;have:=Xg.o;omega)).trans Ug.o);have XW:=Hd g1;clear g1 g3;go_upto_region 11 with fail;have c2:=YN.o.cells;have l2:=YN.o.lt;go_cut [82]from 77 to 82 (λs wc=>s= .bool bk3/\W6=wc)
         case first=>
          cases bh with
          |false=>
           have HBB:=Hd (show false=bk3 by rw[HB3.o];rfl);go_wp2_with fail;go_meet
           case rel=>first|exact⟨by rw[<- HBB.o],rfl⟩|exact⟨⟨by rw[<- HBB.o],rfl⟩,rfl⟩|((repeat apply Exists.intro);exact⟨⟨by rw[<- HBB.o],rfl⟩,rfl⟩)
          |true=>
           by_cases p2:hu.kind=3
           .have e2:(hu.kind==3)=true:=beq_iff_eq.2 p2;have HBB:=Hd (show true=bk3 by rw[HB3.o,decide_eq_true p2];rfl);clear p2;go_wp2_with fail;go_meet
            case rel=>first|exact⟨by rw[<- HBB.o],rfl⟩|exact⟨⟨by rw[<- HBB.o],rfl⟩,rfl⟩|((repeat apply Exists.intro);exact⟨⟨by rw[<- HBB.o],rfl⟩,rfl⟩)
           .have e2:(hu.kind==3)=false:=beq_eq_false_iff_ne.2 p2;have HBB:=Hd (show false=bk3 by rw[HB3.o,decide_eq_false p2];rfl);clear p2;go_wp2_with fail;go_meet
            case rel=>first|exact⟨by rw[<- HBB.o],rfl⟩|exact⟨⟨by rw[<- HBB.o],rfl⟩,rfl⟩|((repeat apply Exists.intro);exact⟨⟨by rw[<- HBB.o],rfl⟩,rfl⟩)
         case rest=>
          obtain⟨rfl,rfl⟩:=hcut;clear c2 l2;go_upto_if 82 with fail
          go_cut []from 83 to 87 (λwc=>IJ kb W2.heap.size 128 S W4 ⟨k1,if bk3=true then at_+1 else at_,r2⟩ wc)
          case first=>
           cases bk3 with
           |true=>
            have hpl:=Lu F.all (outOf (aJ M));have hmr:=(aB.cZ.1 HR.o).2.2.2.2;have hal:=aB.gu F;have hat:at_=((placeOf F.all (outOf (aJ M)):Nat):Int):=(congrArg Prod.snd HPR.o).symm;have hwc:IntKind.i64.wrap (at_+1)=at_+1:=IntWalk.i64_in _ oM;have HX:=Hd (HK2.o.num (i:=1) (v:= .int .i64 (at_+1)) (K':=⟨k1,at_+1,r2⟩) rfl (λx=>rfl) HKW.o.1 HKW.o.2 HSB.o);have b4:=XW.o.cells;have b4m:=XW.o.marks;have b4l:=XW.o.lt;clear hpl hmr hal hat;go_wp2_with fail;go_meet
            case rel=>first|exact HX.o|exact⟨HX.o,rfl⟩|(repeat' (first|exact⟨HX.o,rfl⟩|apply Exists.intro))
           |false=>
            go_wp2_with fail;go_meet
            case rel=>first|exact HK2.o|exact⟨HK2.o,rfl⟩|(repeat' (first|exact⟨HK2.o,rfl⟩|apply Exists.intro))
          case rest=>
           rename World=>W7
           obtain⟨z3,hz3⟩:∃z,(if bk3=true then at_+1 else at_)=z:=⟨_,rfl⟩;rw[hz3]at hcut;obtain⟨xka,xkl,xkc,g1,g2,g3,g4,g5⟩:=hcut;have hs4:=HSZ.o;have hs5:=Xg.o;have aac:=Hd (show rX F N number hu=((Le F (aJ M)).1,⟨k1,z3,r2⟩) by rw[HWP.o,HKE.o,HRE.o,HPR.o];dsimp only;rw[hz3]);clear HWP;have HWP:=aac;have abC:=Hd g1;have abD:=Hd g2;have abE:=Hd (HGF.o W7 g3 g4);have HF7:=Hd (show Blk W7 _ _ _ from(g3 _ oM).trans HF4.o);have XY:=Hd (show Blk W7 _ _ _ from(g3 _ oM).trans abv.o);have XZ:=Hd (show Blk W7 _ _ _ from(g3 _ oM).trans YG.o);have BB7:=Hd (B4.o.trans (g5.mono oM));have abG:=Hd (show W9.heap.size<=W4.heap.size by have:=HKW.o;omega);clear g1 g2 g3 g4 g5 hs4 hs5 hz3 HK2 XW YN aac;go_upto_region 13 with fail;obtain⟨K,hK⟩:∃K,(⟨k1,z3,r2⟩:dS)=K:=⟨_,rfl⟩;have aad:=Hd (show Blk W7 kb [(.slice xka xkl xkc),(.int .i64 K.at_),(.int .i64 K.red.c),(.int .i64 K.red.n),(.int .i64 (hi K.red.s)),(.int .u64 (lo K.red.s)),(.int .i64 K.red.l),(.int .i64 K.red.m)] 128 by rw[<- hK];exact abC.o);have abH:=Hd (show au W7 (Or S W9) xka xkl xkc K.key by rw[<- hK];exact(abD.o.mono (λb h=>(λh=>h.imp id (λh=>Nat.le_trans abG.o h)) h)));have HWK:=Hd (show rX F N number hu=(G,K) by rw[<- hK];rw[HWP.o,HPR.o]);clear hK;have f5:=HF7.o.cells;have f5l:=HF7.o.lt;have k5:=aad.o.cells;have k5l:=aad.o.lt;have z3:=XY.o.cells;have z3m:=XY.o.marks;have z3l:=XY.o.lt;have z4:=XZ.o.cells;have z4m:=XZ.o.marks;have z4l:=XZ.o.lt;have acW:=abw.o;have hsz0:=HSZ.o;have nk3:¬kb=w.heap.size+1+1+1:=oM;have nk4:¬kb=w.heap.size+1+1+1+1:=oM;have U8:¬w.heap.size+1+1+1=w.heap.size+1+1+1+1:=oM;have U9:¬w.heap.size+1+1+1+1=w.heap.size+1+1+1:=oM;go_region
           go_wp2;have ho3:=(((((aA.refl (· =w.heap.size+1+1+1) W7).set (w.heap.size+1+1+1) 0 (.slice ga gl gc) rfl).set (w.heap.size+1+1+1) 1 (.slice xa xl xc) rfl).set (w.heap.size+1+1+1) 2 (.int .i64 G.fuse) rfl).set (w.heap.size+1+1+1) 3 (.int .i64 G.fault) rfl).set (w.heap.size+1+1+1) 4 (.bool G.off) rfl;obtain⟨W6,hW6⟩:∃W6,(((((W7.setCell ⟨w.heap.size+1+1+1,0,none⟩ (.slice ga gl gc)).setCell ⟨w.heap.size+1+1+1,1,none⟩ (.slice xa xl xc)).setCell ⟨w.heap.size+1+1+1,2,none⟩ (.int .i64 G.fuse)).setCell ⟨w.heap.size+1+1+1,3,none⟩ (.int .i64 G.fault)).setCell ⟨w.heap.size+1+1+1,4,none⟩ (.bool G.off))=W6:=⟨_,rfl⟩;have e3:=(((((XY.o).set 0 (.slice ga gl gc)).set 1 (.slice xa xl xc)).set 2 (.int .i64 G.fuse)).set 3 (.int .i64 G.fault)).set 4 (.bool G.off);rw[hW6]at ho3 e3⊢;have ho4:=((((((((aA.refl (· =w.heap.size+1+1+1+1) W6).set (w.heap.size+1+1+1+1) 0 (.slice xka xkl xkc) rfl).set (w.heap.size+1+1+1+1) 1 (.int .i64 K.at_) rfl).set (w.heap.size+1+1+1+1) 2 (.int .i64 K.red.c) rfl).set (w.heap.size+1+1+1+1) 3 (.int .i64 K.red.n) rfl).set (w.heap.size+1+1+1+1) 4 (.int .i64 (hi K.red.s)) rfl).set (w.heap.size+1+1+1+1) 5 (.int .u64 (lo K.red.s)) rfl).set (w.heap.size+1+1+1+1) 6 (.int .i64 K.red.l) rfl).set (w.heap.size+1+1+1+1) 7 (.int .i64 K.red.m) rfl;have e4:=XZ.o.aQ ho3 U9;have e4':=((((((((e4).set 0 (.slice xka xkl xkc)).set 1 (.int .i64 K.at_)).set 2 (.int .i64 K.red.c)).set 3 (.int .i64 K.red.n)).set 4 (.int .i64 (hi K.red.s))).set 5 (.int .u64 (lo K.red.s))).set 6 (.int .i64 K.red.l)).set 7 (.int .i64 K.red.m);obtain⟨W7,hW7⟩:∃W7,((((((((W6.setCell ⟨w.heap.size+1+1+1+1,0,none⟩ (.slice xka xkl xkc)).setCell ⟨w.heap.size+1+1+1+1,1,none⟩ (.int .i64 K.at_)).setCell ⟨w.heap.size+1+1+1+1,2,none⟩ (.int .i64 K.red.c)).setCell ⟨w.heap.size+1+1+1+1,3,none⟩ (.int .i64 K.red.n)).setCell ⟨w.heap.size+1+1+1+1,4,none⟩ (.int .i64 (hi K.red.s))).setCell ⟨w.heap.size+1+1+1+1,5,none⟩ (.int .u64 (lo K.red.s))).setCell ⟨w.heap.size+1+1+1+1,6,none⟩ (.int .i64 K.red.l)).setCell ⟨w.heap.size+1+1+1+1,7,none⟩ (.int .i64 K.red.m))=W7:=⟨_,rfl⟩;rw[hW7]at ho4 e4'⊢;have hdr:Below W7.heap.size W7 W7.drew:=(Below.refl _ _).drew;have d3:=((e3.aQ ho4 U8).ext hdr).cells;have d4:=(e4'.ext hdr).cells;refine bodyPost_ret (v:= .tuple #[.agg #[.slice ga gl gc, .slice xa xl xc, .int .i64 G.fuse, .int .i64 G.fault, .bool G.off], .agg #[.slice xka xkl xkc, .int .i64 K.at_, .int .i64 K.red.c, .int .i64 K.red.n, .int .i64 (hi K.red.s), .int .u64 (lo K.red.s), .int .i64 K.red.l, .int .i64 K.red.m]]) (by simp[results,Tryz.results80,go_sem,d3,d4]) rfl ?_;rw[HWK.o];have hst:∀b,Or S W9 b->b≠w.heap.size+1+1+1/\b≠w.heap.size+1+1+1+1:=λb h=>by
            have h2:=HSZ.o;rcases h with h|h
            .have:=HS.o b h;omega
            .omega
           refine⟨ga,gl,gc,xa,xl,xc,xka,xkl,xkc,rfl,(((abE.o.same ho3.size λb h hl=>ho3.block b hl (hst b h).1).same ho4.size λb h hl=>ho4.block b hl (hst b h).2).ext hdr).mono λb h=>?_,(((abH.o.gG ho3 λb h=>(hst b h).1).gG ho4 λb h=>(hst b h).2).ext hdr).mono λb h=>?_,((BB7.o.trans (ho3.below BB7.o.size (λc e=>oM))).trans (ho4.below (Nat.le_trans BB7.o.size ho3.size) (λc e=>oM))).trans (hdr.mono (Nat.le_trans (Nat.le_trans BB7.o.size ho3.size) ho4.size))⟩
           .exact h.imp id λh=>Nat.le_trans HB0.o.size h
           .exact h.imp id λh=>Nat.le_trans HB0.o.size h
end Go.Proofs.YtenmnhnlcnmloaaGreat
