/- Part of a proof of a law of the layer of trees. -/
import Derived.Test.YtenmnhnlcnmloaaGreatQa28
import Derived.Test.YtenmnhnlcnmloaaGreatQa30
import Derived.Test.YtenmnhnlcnmloaaGreatQa32
import Derived.Test.YtenmnhnlcnmloaaGreatQa37
import Derived.Test.YtenmnhnlcnmloaaGreatQa07
import Derived.Test.YtenmnhnlcnmloaaGreatQa01
set_option linter.unusedVariables false
set_option linter.unusedSimpArgs false
set_option maxHeartbeats 8000000
set_option maxRecDepth 8000
namespace Go.Dav
open Go Go.RowKit
def Ot(l:List Int):List Value:=l.map λx=> .int .i64 x
def LJ(l:List Nat):List Value:=l.map λ(x:Nat)=>Value.int .i64 (x:Int)
theorem sD(l:List Nat)(x:Nat):LJ l++[.int .i64 (x:Int)]=LJ (l++[x]):=by simp[LJ]
theorem Y0(f:Int):∃z q:Int,f.tmod 4=z/\ -3<=z/\z<=3/\(z+4).tmod 4=q/\q=f%4/\0<=q/\q<=3:=by
 refine⟨f.tmod 4,(f.tmod 4+4).tmod 4,rfl,?_,?_,rfl,?_,?_,?_⟩;all_goals
  have h1:=Int.tmod_add_mul_tdiv f 4;have h2:=Int.tmod_lt_of_pos f (show(0:Int)<4 by omega);have h3:=Int.lt_tmod_of_pos f (show(0:Int)<4 by omega);try rw[Int.tmod_eq_emod_of_nonneg (show 0<=f.tmod 4+4 by omega)]
  try omega
theorem QD(dK:List Int)(i:Nat):3<=Fb dK i/\Fb dK i<=6:=by
 unfold Fb;split
 .omega
 .omega
theorem Bg{dK:List Int}{i n:Nat}(h:6<n):3<=cutAt dK i n/\cutAt dK i n<=6/\3<=n-cutAt dK i n/\cutAt dK i n<=n:=by
 have:=QD dK i;unfold cutAt;split<;>omega
theorem sF(dK:List Int):∀(fuel i n:Nat),n<=fuel->∀m∈fJ dK fuel i n,1<=m/\m<=6
 |0,i,n,h,m,hm=>by rw[fJ]at hm;cases hm
 |fuel+1,i,n,h,m,hm=>by
  rw[fJ]at hm;split at hm
  .rename_i h6;have hc:=Bg (dK:=dK) (i:=i) h6;rcases List.mem_cons.1 hm with rfl|hm
   .omega
   .exact sF dK fuel (i+1) _ oM m hm
  .split at hm
   .cases hm
   .rw[List.mem_singleton.1 hm];omega
theorem pW(dK:List Int):∀(fuel i n:Nat),n<=fuel->(fJ dK fuel i n).sum=n
 |0,i,n,h=>by rw[fJ];simp;omega
 |fuel+1,i,n,h=>by
  rw[fJ];split
  .rename_i h6;have hc:=Bg (dK:=dK) (i:=i) h6;rw[List.sum_cons,pW dK fuel (i+1) _ oM];omega
  .split
   .simp;omega
   .simp
theorem IV(dK:List Int):∀(fuel i n:Nat),n<=fuel->3<=n->3*(fJ dK fuel i n).length<=n
 |0,i,n,h,h3=>by omega
 |fuel+1,i,n,h,h3=>by
  rw[fJ];split
  .rename_i h6;have hc:=Bg (dK:=dK) (i:=i) h6;have:=IV dK fuel (i+1) (n-cutAt dK i n) oM oM;rw[List.length_cons];omega
  .split
   .simp
   .simp;omega
theorem xP(dK:List Int){n:Nat}(i:Nat)(h:2<=n):2*(fJ dK n i n).length<=n:=by
 by_cases h3:3<=n
 .have:=IV dK n i n (Nat.le_refl _) h3;omega
 .obtain rfl:n=2:=oM;rw[fJ];simp
theorem wK(dK:List Int){n:Nat}(i:Nat)(h:1<=n):1<=(fJ dK n i n).length:=by
 cases hp:fJ dK n i n with
 |nil=>have:=pW dK n i n (Nat.le_refl _);rw[hp]at this;simp at this;omega
 |cons a l=>simp
theorem IW(dK:List Int)(n i:Nat):(fJ dK n i n).length<=n:=by
 by_cases h:2<=n
 .have:=xP dK i h;omega
 .by_cases h0:n=0
  .subst h0;rw[fJ];simp
  .obtain rfl:n=1:=oM;rw[fJ];simp
structure uq(hu:iE)(num:Nat)(B:Int)(k:dS):Prop where
 key:k.key.length<=121
 less:(num:Int)<=hu.node->k.key.length<=120
 red:k.red.good
 few:k.red.c<=B
 at0:0<=k.at_
 at1:k.at_<=1000000
theorem uq.well{hu:iE}{num:Nat}{B:Int}{k:dS}(h:uq hu num B k)(hB:B<=1073741824):J4 k:=by
 have:=h.few;exact⟨h.key,h.red.n0,h.red.nc,oM,λe=>(h.red.none e).1⟩
theorem uq.fits{hu:iE}{num:Nat}{B:Int}{k:dS}(h:uq hu num B k)(hB:B<=1073741824):eY k.at_/\k.red.fits:=by
 have h0:=h.at0;have h1:=h.at1;have h2:=h.few;obtain⟨a1,a2,a3,a4,a5,a6,a7,a8⟩:=h.red;refine⟨by unfold eY;omega,?_⟩;unfold Red.fits I64;omega
theorem uq.next{hu:iE}{num:Nat}{B:Int}{k:dS}(h:uq hu num B k):uq hu (num+1) B k:=⟨h.key,λe=>h.less oM,h.red,h.few,h.at0,h.at1⟩
theorem uq.wide{hu:iE}{num:Nat}{B C:Int}{k:dS}(h:uq hu num B k)(hB:B<=C):uq hu num C k:=⟨h.key,h.less,h.red,by have:=h.few;omega,h.at0,h.at1⟩
theorem Kw{l:List aP}(h:∀x∈l,eY x.n)(k:Nat):(dO l k).good:=zD (DT λx hx=>h x (List.mem_of_mem_take hx))
theorem yL{hu:iE}{num:Nat}{B:Int}{l:List dS}(h:∀x∈l,uq hu num B x):∀k,k<=l.length->(iM l k).good/\(iM l k).c<=B*k
 |0,_=>by unfold iM;simp[Red.zero];exact Red.zC
 |k+1,hk=>by
  obtain⟨x,hx⟩:∃x,l[k]? =some x:=⟨_,List.getElem?_eq_getElem oM⟩;obtain⟨h2,h3⟩:=yL h k oM;have g:=h x (List.mem_of_getElem? hx);rw[yF hx];refine⟨Red.FN h2 g.red,?_⟩;show(iM l k).c+x.red.c<=_;have:=g.few;push_cast
  rw[Int.mul_add];omega
structure pX(hu:iE)(num:Nat)(B:Int)(N:aT):Prop where
 leaf:N.leaf=true->N.kids=[]/\N.items.all fD=true/\(∀x∈N.items,eY x.n)/\1<=N.items.length/\N.items.length<=6
 inner:N.leaf=false->N.items=[]/\(∀x∈N.kids,uq hu num B x)/\1<=N.kids.length/\N.kids.length<=6
theorem pX.cut{hu:iE}{num:Nat}{B:Int}{N:aT}(h:pX hu num B N)(c:Bool):pX hu num B (Ud c N):=by
 unfold Ud;split
 .refine⟨λhl=>?_,λhl=>?_⟩
  .obtain⟨h1,h2,h3,h4,h5⟩:=h.leaf hl;refine⟨by show N.kids.take 2=[];rw[h1];rfl,?_,λx hx=>h3 x (List.mem_of_mem_take hx),?_,?_⟩
   .exact List.all_eq_true.2 λx hx=>List.all_eq_true.1 h2 x (List.mem_of_mem_take hx)
   .show 1<=(N.items.take 2).length;rw[List.length_take];omega
   .show(N.items.take 2).length<=6;rw[List.length_take];omega
  .obtain⟨h1,h2,h3,h4⟩:=h.inner hl;refine⟨by show N.items.take 2=[];rw[h1];rfl,λx hx=>h2 x (List.mem_of_mem_take hx),?_,?_⟩
   .show 1<=(N.kids.take 2).length;rw[List.length_take];omega
   .show(N.kids.take 2).length<=6;rw[List.length_take];omega
 .exact h
theorem pX.well{hu:iE}{num:Nat}{B:Int}{N:aT}(h:pX hu num B N)(hB:B<=1073741824):yX N:=by
 refine⟨λhl=>?_,λhl=>?_⟩
 .obtain⟨h1,h2,h3,h4,h5⟩:=h.leaf hl;exact⟨h2,h4,h5,h1⟩
 .obtain⟨h1,h2,h3,h4⟩:=h.inner hl;exact⟨h1,h3,h4,λx hx=>(h2 x hx).well hB⟩
theorem pX.red{hu:iE}{num:Nat}{B:Int}{N:aT}(h:pX hu num B N)(hB:1<=B):(lD N).good/\(lD N).c<=6*B:=by
 unfold lD;cases hl:N.leaf with
 |true=>
  obtain⟨h1,h2,h3,h4,h5⟩:=h.leaf hl;rw[h1];refine⟨Kw h3 _,?_⟩;show(dO N.items N.items.length).c<=_;unfold dO;rw[List.take_length,Ui];omega
 |false=>
  obtain⟨h1,h2,h3,h4⟩:=h.inner hl;have e:fP (dO N.items N.items.length) N.kids N.kids.length=iM N.kids N.kids.length:=by rw[h1];rfl
  rw[e];obtain⟨g1,g2⟩:=yL h2 N.kids.length (Nat.le_refl _);refine⟨g1,Int.le_trans g2 ?_⟩;rw[Int.mul_comm];exact Int.mul_le_mul_of_nonneg_right oM oM
theorem pX.key{hu:iE}{num:Nat}{B:Int}{N:aT}(h:pX hu num B N):(bK N).length<=121/\((num:Int)<=hu.node->(bK N).length<=120):=by
 unfold bK partsOf;cases hl:N.leaf with
 |true=>
  obtain⟨h1,h2,h3,h4,h5⟩:=h.leaf hl;rw[if_pos rfl,List.getElem?_map];cases hx:N.items[0]? with
  |none=>simp
  |some x=>
   have:=List.all_eq_true.1 h2 x (List.mem_of_getElem? hx);unfold fD at this;simp only[Bool.and_eq_true,decide_eq_true_eq]at this;show x.key.length<=121/\(_->x.key.length<=120);omega
 |false=>
  obtain⟨h1,h2,h3,h4⟩:=h.inner hl;rw[if_neg Bool.false_ne_true,List.getElem?_map];cases hx:N.kids[0]? with
  |none=>simp
  |some x=>have g:=h2 x (List.mem_of_getElem? hx);exact⟨g.key,g.less⟩
theorem IX{hu:iE}{num:Nat}{k:Int}(h:mJ hu num k=true):hu.node=(num:Int):=by
 unfold mJ at h;simp only[Bool.and_eq_true,decide_eq_true_eq]at h;exact h.1
theorem pX.said{hu:iE}{num:Nat}{B:Int}{N:aT}(h:pX hu num B N)(hB:1<=B){a:Int}(h0:0<=a)(h1:a<=999999):uq hu (num+1) (7*B) (SC hu num N a):=by
 obtain⟨r1,r2⟩:=h.red hB;obtain⟨k1,k2⟩:=h.key;unfold SC;refine⟨?_,λe=>?_,?_,?_,?_,?_⟩
 .dsimp only;split
  .rename_i hh;have:=k2 (by rw[IX hh];omega);simp;omega
  .exact k1
 .dsimp only;split
  .rename_i hh;have:=IX hh;omega
  .exact k2 oM
 .dsimp only;split
  .obtain⟨a1,a2,a3,a4,a5,a6,a7,a8⟩:=r1;exact⟨a1,by dsimp only;omega,a3,a4,a5,a6,a7,a8⟩
  .exact r1
 .dsimp only;split
  .dsimp only;omega
  .omega
 .dsimp only;split<;>omega
 .dsimp only;split<;>omega
theorem Tv(n:Nat):∀(cs b0:List UInt8),cs≠[]->oN n b0 cs≠[]:=by
 intro cs;induction cs with
 |nil=>intro b0 h;exact absurd rfl h
 |cons c cs ih=>
  intro b0 _;show oN n (fA n b0 c) cs≠[];cases cs with
  |nil=>show fA n b0 c≠[];unfold fA;simp
  |cons d ds=>exact ih _ (by simp)
theorem piece_ne(l b:List UInt8):jU l (outOf b)≠[]:=Tv _ _ _ λe=>by have:=wC b;rw[e,List.length_nil]at this;omega
theorem QE{F:aB}(h:F.right=true)(b:List UInt8):(Le F b).1.right=true:=by
 obtain⟨h1,h2,h3,h4,h5⟩:=aB.cZ.1 h;have hne:=piece_ne F.all b;show(F.op _ _).1.right=true;obtain⟨p,hp⟩:∃p,jU F.all (outOf b)=p:=⟨_,rfl⟩;rw[hp]at hne⊢;unfold aB.op;rw[if_pos h];by_cases ho:F.off=true
 .have e:F.asked p.length=(F,10):=by unfold aB.asked;rw[if_pos ho]
  rw[e,if_neg (show ¬(10:Int)=0 by decide)];exact h
 .by_cases hm:524288-(F.many:Int)<(p.length:Int)
  .have e:F.asked p.length=(F,8):=by unfold aB.asked;rw[if_neg ho,if_pos hm]
   rw[e,if_neg (show ¬(8:Int)=0 by decide)];exact h
  .by_cases hf:F.fault=0
   .have e:F.asked p.length=({ F with fault:= -1},9):=by unfold aB.asked;rw[if_neg ho,if_neg hm,if_pos hf]
    rw[e,if_neg (show ¬(9:Int)=0 by decide)];exact aB.cZ.2 ⟨h1,h2,by dsimp only;omega,h4,h5⟩
   .by_cases hu:F.fuse=0
    .have e:F.asked p.length=({ F with fault:=if 0<F.fault then F.fault-1 else F.fault,fuse:= -1,off:=true},10):=by unfold aB.asked;rw[if_neg ho,if_neg hm,if_neg hf,if_pos hu]
     rw[e,if_neg (show ¬(10:Int)=0 by decide)];exact aB.cZ.2 ⟨h1,by dsimp only;omega,by dsimp only;split<;>omega,λ_=>rfl,h5⟩
    .have e:F.asked p.length=({ F with fault:=if 0<F.fault then F.fault-1 else F.fault,fuse:=if 0<F.fuse then F.fuse-1 else F.fuse},0):=by unfold aB.asked;rw[if_neg ho,if_neg hm,if_neg hf,if_neg hu]
     rw[e,if_pos rfl];refine aB.cZ.2 ⟨?_,by dsimp only;split<;>omega,by dsimp only;split<;>omega,λk=>absurd k ho,?_⟩
     .unfold aB.full at h1⊢;simp only[List.all_append,h1,Bool.true_and,List.all_cons,List.all_nil,Bool.and_true];cases p with
      |nil=>exact absurd rfl hne
      |cons a l=>rfl
     .unfold aB.many at hm⊢;simp only[List.map_append,List.sum_append,List.map_cons,List.map_nil,List.sum_cons,List.sum_nil];omega
theorem Um{F:aB}(h:F.right=true)(b:List UInt8):0<=(Le F b).2/\(Le F b).2<=999999:=by
 obtain⟨h1,h2,h3,h4,h5⟩:=aB.cZ.1 h;have:=Lu F.all (outOf b);rw[aB.gu]at this;show 0<=((placeOf F.all (outOf b):Nat):Int)/\((placeOf F.all (outOf b):Nat):Int)<=999999;omega
theorem Fj{F:aB}{N:aT}{num:Nat}{hu:iE}{B:Int}(h:F.right=true)(hN:pX hu num B N)(hB:1<=B):(rX F N num hu).1.right=true/\uq hu (num+1) (7*B) (rX F N num hu).2:=
 ⟨QE h _,(hN.cut _).said hB (Um h _).1 (Um h _).2⟩
theorem aA.Tz{p q:Nat->Prop}{w w':World}(h:aA p w w')(hpq:∀b,p b->q b):aA q w w':=⟨h.os,h.tape,h.output,h.size,λk hk hn=>h.block k hk λhp=>hn (hpq k hp)⟩
theorem gK.wL{W:World}{S:Nat->Prop}{a:Option Addr}{n c:Nat}{L:List (List UInt8)}(h:gK W S a n c L):gK W (λb=>S b/\b<W.heap.size) a n c L:=
 ⟨h.hlen,h.hcap,h.hmax,h.hfew,λk x hk=>by
  obtain⟨b,o,pa,pl,pc,h1,h2,h3,h4,h5⟩:=h.hat k x hk;exact⟨b,o,pa,pl,pc,h1,h2,⟨h3,h2⟩,h4,h5.bound⟩,h.hnil⟩
theorem fB.wL{W:World}{S:Nat->Prop}{fa la:Option Addr}{fl fc ll lc:Nat}{F:aB}(h:fB W S fa fl fc la ll lc F):fB W (λb=>S b/\b<W.heap.size) fa fl fc la ll lc F:=⟨h.jH.bound,h.loose.wL,h.fuse,h.fault⟩
def KT(S:Nat->Prop)(n0:Nat)(v:Value)(W:World)(b:Nat):Prop:=b<W.heap.size/\((S b/\b<n0)\/(n0+5<=b/\¬OwnB v b))
structure Mv(S:Nat->Prop)(n0:Nat)(v:Value)(W:World)(v':Value)(W':World):Prop where
 size:W.heap.size<=W'.heap.size
 keep:∀b,KT S n0 v W b->W'.heap[b]? =W.heap[b]?/\KT S n0 v' W' b
section
variable{S:Nat->Prop}{n0:Nat}{v v' v'':Value}{W W' W'':World}
theorem Mv.refl(S:Nat->Prop)(n0:Nat)(v:Value)(W:World):Mv S n0 v W v W:=⟨Nat.le_refl _,λ_ h=>⟨rfl,h⟩⟩
theorem Mv.trans(h:Mv S n0 v W v' W')(k:Mv S n0 v' W' v'' W''):Mv S n0 v W v'' W'':=
 ⟨Nat.le_trans h.size k.size,λb hb=>⟨((k.keep b (h.keep b hb).2).1).trans (h.keep b hb).1,(k.keep b (h.keep b hb).2).2⟩⟩
theorem Mv.below(hb:Below W.heap.size W W'):Mv S n0 v W v W':=⟨hb.size,λb h=>⟨hb.block b h.1,Nat.lt_of_lt_of_le h.1 hb.size,h.2⟩⟩
theorem KT.off{b:Nat}(h:KT S n0 v W b):¬(n0<=b/\b<n0+5):=by rcases h.2 with h|h<;>omega
theorem Mv.boxes(ho:aA (λb=>n0<=b/\b<n0+5) W W'):Mv S n0 v W v W':=⟨ho.size,λb h=>⟨ho.block b h.1 h.off,Nat.lt_of_lt_of_le h.1 ho.size,h.2⟩⟩
theorem Mv.row{g:Nat}(hv:∀b,OwnB v b->n0+5<=b)(hg:W.grownBy W' v.ownBlock)(h1:v'.ownBlock=some g)(h2:v.ownBlock=some g\/g=W.heap.size):Mv S n0 v W v' W':=by
 refine⟨hg.size,λb h=>?_⟩;have hnb:¬OwnB v b:=by
  rcases h.2 with h|h
  .intro e;have:=hv b e;omega
  .exact h.2
 refine⟨hg.block b h.1 λe=>hnb e.symm,Nat.lt_of_lt_of_le h.1 hg.size,h.2.imp id λk=>⟨k.1,λe=>?_⟩⟩;have e2:g=b:=by have e':v'.ownBlock=some b:=e;rw[h1]at e';exact Option.some.inj e'
 subst e2;rcases h2 with h2|h2
 .exact hnb h2
 .have:=h.1;omega
theorem Mv.fresh:Mv S n0 v W (.slice none 0 0) W:=⟨Nat.le_refl _,λb h=>⟨rfl,h.1,h.2.imp id λk=>⟨k.1,λe=>by cases e⟩⟩⟩
theorem KT.grow{b:Nat}(hb:Below W.heap.size W W')(hn:n0+5<=W.heap.size)(hv:∀b,OwnB v b->b<W.heap.size)(h:Or (KT S n0 v W) W b/\b<W'.heap.size):KT S n0 v W' b:=by
 rcases h.1 with k|k
 .exact⟨h.2,k.2⟩
 .exact⟨h.2, .inr ⟨Nat.le_trans hn k,λe=>by have:=hv b e;omega⟩⟩
theorem fB.mv{fa la:Option Addr}{fl fc ll lc:Nat}{F:aB}(h:fB W (KT S n0 v W) fa fl fc la ll lc F)(m:Mv S n0 v W v' W'):fB W' (KT S n0 v' W') fa fl fc la ll lc F:=(h.same m.size λb hb _=>(m.keep b hb).1).mono λb hb=>(m.keep b hb).2
theorem au.mv{a:Option Addr}{n c:Nat}{l:List UInt8}(h:au W (KT S n0 v W) a n c l)(m:Mv S n0 v W v' W'):au W' (KT S n0 v' W') a n c l:=(h.same m.size λb hb _=>(m.keep b hb).1).mono λb hb=>(m.keep b hb).2
theorem bP.mv{a:Option Addr}{n:Nat}{l:List Value}(h:bP W (KT S n0 v W) a n l)(m:Mv S n0 v W v' W'):bP W' (KT S n0 v' W') a n l:=(h.same m.size λb hb _=>(m.keep b hb).1).mono λb hb=>(m.keep b hb).2
theorem aY.mv{a:Option Addr}{n c:Nat}{l:List aP}(h:aY W (KT S n0 v W) a n c l)(m:Mv S n0 v W v' W'):aY W' (KT S n0 v' W') a n c l:=(h.same m.size λb hb _=>(m.keep b hb).1).mono λb hb=>(m.keep b hb).2
theorem dZ.mv{a:Option Addr}{n c:Nat}{l:List dS}(h:dZ W (KT S n0 v W) a n c l)(m:Mv S n0 v W v' W'):dZ W' (KT S n0 v' W') a n c l:=(h.same m.size λb hb _=>(m.keep b hb).1).mono λb hb=>(m.keep b hb).2
theorem bF.mono{T:Nat->Prop}{cs:List Value}{L:List dS}(h:bF W S cs L)(hs:∀b,S b->T b):bF W T cs L:=⟨h.1,λk x hx=>by obtain⟨ka,kl,kc,c0,h1,h2,h3⟩:=h.2 k x hx;exact⟨ka,kl,kc,c0,h1.mono hs,h2,h3⟩⟩
theorem bF.mv{cs:List Value}{L:List dS}(h:bF W (KT S n0 v W) cs L)(m:Mv S n0 v W v' W'):bF W' (KT S n0 v' W') cs L:=(h.same m.size λb hb _=>(m.keep b hb).1).mono λb hb=>(m.keep b hb).2
end
theorem bF.take{W:World}{S:Nat->Prop}{cs:List Value}{L:List dS}(h:bF W S cs L)(n:Nat):bF W S (cs.take (n*8)) (L.take n):=by
 have hl:=h.1;refine⟨by rw[List.length_take,List.length_take];omega,λk x hx=>?_⟩;rw[List.getElem?_take]at hx;split at hx
 .rename_i hk;obtain⟨ka,kl,kc,c0,g1,g2,g3⟩:=h.2 k x hx;refine⟨ka,kl,kc,λj v hv=>?_,g1,g2,g3⟩;have hj:=(List.getElem?_eq_some_iff.1 hv).1;simp[fO]at hj;rw[List.getElem?_take,if_pos oM];exact c0 j v hv
 .cases hx
theorem bF.drop{W:World}{S:Nat->Prop}{cs:List Value}{L:List dS}(h:bF W S cs L)(n:Nat):bF W S (cs.drop (n*8)) (L.drop n):=by
 have hl:=h.1;refine⟨by rw[List.length_drop,List.length_drop];omega,λk x hx=>?_⟩;rw[List.getElem?_drop]at hx;obtain⟨ka,kl,kc,c0,g1,g2,g3⟩:=h.2 (n+k) x hx;refine⟨ka,kl,kc,λj v hv=>?_,g1,g2,g3⟩;have:=c0 j v hv;rw[Nat.add_mul,Nat.add_assoc]at this;rw[List.getElem?_drop];exact this
theorem aY.abS{W:World}{S:Nat->Prop}{b o n c i m:Nat}{l:List aP}(h:aY W S (some ⟨b,o,none⟩) n c l)(hi:i+m<=n):aY W S (some ⟨b,o+i*4,none⟩) m (c-i) ((l.drop i).take m):=by
 have h1:=h.hcap;have h2:=h.hlen;have h3:=h.hmax;have h4:=h.hfew;refine⟨by rw[List.length_take,List.length_drop];omega,oM,oM,oM,λk x hx=>?_,λe=>by cases e⟩;rw[List.getElem?_take]at hx;split at hx
 .rw[List.getElem?_drop]at hx;obtain⟨b',o',ka,kl,kc,va,vl,vc,e,hb,hs,c0,c1,c2,c3,g1,g2,g3⟩:=h.hat (i+k) x hx;cases e;rw[Nat.add_mul,<- Nat.add_assoc]at c0 c1 c2 c3;exact⟨b,o+i*4,ka,kl,kc,va,vl,vc,rfl,hb,hs,c0,c1,c2,c3,g1,g2,g3⟩
 .cases hx
theorem Ky{x:Int}{n:Nat}(h:eY x)(hn:n<=1000000):decide (IntKind.i64.wrap (x+1)=(n:Int))=decide (x+1=(n:Int)):=by
 unfold eY at h;by_cases hx:x=9223372036854775807
 .subst hx;rw[show IntKind.i64.wrap (9223372036854775807+1)= -9223372036854775808 by decide,decide_eq_false oM,decide_eq_false oM]
 .rw[IntWalk.i64_in _ oM]
theorem QF{W:World}{S:Nat->Prop}{cs:List Value}{k:dS}{r:List dS}(h:bF W S cs (k::r)){z:Int}(hz:eY z):bF W S (cs.set 1 (.int .i64 z)) (Lh k z::r):=by
 have hl:=h.1;refine⟨by rw[List.length_set,hl];rfl,λi x hx=>?_⟩;cases i with
 |zero=>
  obtain rfl:Lh k z=x:=by simpa using hx
  obtain⟨ka,kl,kc,c0,g1,g2,g3⟩:=h.2 0 k rfl;refine⟨ka,kl,kc,λj v hv=>?_,g1,hz,g3⟩;rw[Nat.zero_mul,Nat.zero_add];have hlen:1<cs.length:=by rw[hl,List.length_cons];omega
  match j,hv with
  |0,hv=>have:=c0 0 v hv;rw[List.getElem?_set_ne oM];simpa using this
  |1,hv=>rw[List.getElem?_set_self hlen];exact hv
  |j+2,hv=>have:=c0 (j+2) v hv;rw[List.getElem?_set_ne oM];simpa using this
 |succ i=>
  obtain⟨ka,kl,kc,c0,g1,g2,g3⟩:=h.2 (i+1) x hx;exact⟨ka,kl,kc,λj v hv=>by rw[List.getElem?_set_ne oM];exact c0 j v hv,g1,g2,g3⟩
def Ea:List Value:=[.slice none 0 0, .slice none 0 0, .int .i64 0, .int .i64 0, .bool false]
def Eb:List Value:=[.int .i64 0, .int .i64 0, .int .i64 0, .int .i64 0, .int .i64 0, .int .u64 0, .int .i64 0, .int .i64 0]
structure MkS(S:Nat->Prop)(w0:World)(hu:iE)(tf th tt tk:TypeId)(v:Value)(cs:List Value)(fa:Option Addr)(fl fc:Nat)(la:Option Addr)(ll lc:Nat)(s:nR)(W:World):Prop where
 bel:Below w0.heap.size w0 W
 size:w0.heap.size+5<=W.heap.size
 b0:Blk W w0.heap.size [.slice fa fl fc, .slice la ll lc, .int .i64 s.file.fuse, .int .i64 s.file.fault, .bool s.file.off] tf
 b1:Blk W (w0.heap.size+1) [.int .i64 hu.kind, .int .i64 hu.node] th
 b2:Blk W (w0.heap.size+1+1) Ea tf
 b3:Blk W (w0.heap.size+1+1+1) Eb tt
 b4:∃c0 c1 c2 c3 c4 c5 c6 c7,Blk W (w0.heap.size+1+1+1+1) [c0,c1,c2,c3,c4,c5,c6,c7] tk
 file:fB W (KT S w0.heap.size v W) fa fl fc la ll lc s.file
 right:s.file.right=true
 row:W.ownsRow (w0.heap.size+5) tk 8 v s.kids.length cs
 cells:bF W (KT S w0.heap.size v W) cs s.kids
section
variable{S:Nat->Prop}{w0:World}{hu:iE}{tf th tt tk:TypeId}{v v':Value}{cs:List Value}{fa ga la xa ka:Option Addr}{fl fc ll lc gl gc xl xc kl kc:Nat}{s:nR}{W1 W2 W3 W5:World}
theorem MkS.own(h:MkS S w0 hu tf th tt tk v cs fa fl fc la ll lc s W1):∀b,OwnB v b->w0.heap.size+5<=b/\b<W1.heap.size:=λb hb=>World.ownsRow.lt h.row b hb
theorem MkS.ext(h:MkS S w0 hu tf th tt tk v cs fa fl fc la ll lc s W1)(hb:Below W1.heap.size W1 W2):MkS S w0 hu tf th tt tk v cs fa fl fc la ll lc s W2:=
 ⟨h.bel.trans (hb.mono h.bel.size),Nat.le_trans h.size hb.size,h.b0.ext hb,h.b1.ext hb,h.b2.ext hb,h.b3.ext hb,(by obtain⟨c0,c1,c2,c3,c4,c5,c6,c7,h4⟩:=h.b4;exact⟨c0,c1,c2,c3,c4,c5,c6,c7,h4.ext hb⟩),h.file.mv (.below hb),h.right,aK h.row hb,h.cells.mv (.below hb)⟩
def Y8(n0 b:Nat):Prop:=b=n0\/b=n0+1+1+1+1
theorem MkS.rowAt(h:MkS S w0 hu tf th tt tk v cs fa fl fc la ll lc s W1)(hb:Below W1.heap.size W1 W2)(ho:aA (Y8 w0.heap.size) W2 W3)(o:Obj):(W3.alloc o).ownsRow (w0.heap.size+5) tk 8 v s.kids.length cs:=
 (vY (aK h.row hb) ho λb hp=>by rcases hp with e|e<;>omega).alloc o
theorem MkS.step{G G2:aB}{ks:List dS}{K:dS}{num fm:Nat}{N:aT}(h:MkS S w0 hu tf th tt tk v cs fa fl fc la ll lc ⟨G,ks,num,fm⟩ W1)(many:Nat)(hw:rX G N num hu=(G2,K))(hb:Below W1.heap.size W1 W2)
  (hf:fB W2 (Or (KT S w0.heap.size v W1) W1) ga gl gc xa xl xc G2) (hk:au W2 (Or (KT S w0.heap.size v W1) W1) ka kl kc K.key)
  (hr:G2.right=true) (hfit:eY K.at_/\K.red.fits) (ho:aA (Y8 w0.heap.size) W2 W3)
  (q0:Blk W3 w0.heap.size [.slice ga gl gc, .slice xa xl xc, .int .i64 G2.fuse, .int .i64 G2.fault, .bool G2.off] tf)
  (q4:Blk W3 (w0.heap.size+1+1+1+1) (.slice ka kl kc::fO K) tk) {o:Obj} {g:Nat}
  (hown:W5.ownsRow (w0.heap.size+5) tk 8 v' (ks.length+1) (cs++(.slice ka kl kc::fO K))) (hgrow:(W3.alloc o).grownBy W5 v.ownBlock) (hg:v'.ownBlock=some g) (hg2:v.ownBlock=some g\/g=(W3.alloc o).heap.size):
  Mv S w0.heap.size v W1 v' W5/\jW N hu ⟨G,ks,num,fm⟩ many=⟨G2,ks++[K],num+1,fm+many⟩/\MkS S w0 hu tf th tt tk v' (cs++(.slice ka kl kc::fO K)) ga gl gc xa xl xc ⟨G2,ks++[K],num+1,fm+many⟩ W5:=by
 have hov:=h.own;have h23:aA (λb=>w0.heap.size<=b/\b<w0.heap.size+5) W2 W3:=ho.Tz λb hp=>by rcases hp with e|e<;>omega
 have hal:Below W3.heap.size W3 (W3.alloc o):=(Below.refl _ _).alloc (Nat.le_refl _) _;have m3:Mv S w0.heap.size v W2 v (W3.alloc o):=(Mv.boxes h23).trans (.below hal);have m5:Mv S w0.heap.size v (W3.alloc o) v' W5:= .row (λb hb=>(hov b hb).1) hgrow hg hg2;have m25:=m3.trans m5;have hKT:∀b,Or (KT S w0.heap.size v W1) W1 b/\b<W2.heap.size->KT S w0.heap.size v W2 b:=λb hp=>KT.grow hb h.size (λb hb=>(hov b hb).2) hp;have hf2:fB W2 (KT S w0.heap.size v W2) ga gl gc xa xl xc G2:=hf.wL.mono hKT;have hk2:au W2 (KT S w0.heap.size v W2) ka kl kc K.key:=hk.bound.mono hKT;have hc2:bF W2 (KT S w0.heap.size v W2) cs ks:=h.cells.mv (.below hb);have hbox:∀b,b<w0.heap.size+5->some b≠v.ownBlock:=λb hlt e=>by have:=(hov b e.symm).1;omega
 have hsz2:=hb.size;have hsz3:=ho.size;have hsz:=h.size;have hkeep:∀ {p:Nat} {xs:List Value} {t:TypeId},Blk W3 p xs t->p<w0.heap.size+5->Blk W5 p xs t:=λ{p xs t} q hp=>(hgrow.block p (by simp;omega) (hbox p hp)).trans (q.alloc o);have hst:∀ {p:Nat} {xs:List Value} {t:TypeId},Blk W1 p xs t->p<w0.heap.size+5->¬Y8 w0.heap.size p->Blk W5 p xs t:=λ{p xs t} q hp hn=>hkeep ((q.ext hb).aQ ho hn) hp;refine⟨(Mv.below hb).trans m25,by unfold jW;rw[hw],?_,?_,hkeep q0 oM,hst h.b1 oM (by unfold Y8;omega),hst h.b2 oM (by unfold Y8;omega),hst h.b3 oM (by unfold Y8;omega),⟨_,_,_,_,_,_,_,_,hkeep q4 oM⟩,hf2.mv m25,hr,?_,?_⟩
 .have b2:=h.bel.trans (hb.mono h.bel.size);have b3:=b2.trans (ho.below b2.size λk hp=>by rcases hp with e|e<;>omega);have b4:=b3.trans (hal.mono b3.size);exact b4.grown hgrow b4.size λk hk=>by have:=(hov k hk).1;omega
 .have:=hgrow.size;simp at this;omega
 .show W5.ownsRow _ _ _ _ (ks++[K]).length _;rw[List.length_append];exact hown
 .exact(hc2.mv m25).snoc (hk2.mv m25) hfit.1 hfit.2
theorem bP.bound{W:World}{S:Nat->Prop}{a:Option Addr}{n:Nat}{xs:List Value}(h:bP W S a n xs):bP W (λb=>S b/\b<W.heap.size) a n xs:=⟨h.len,λk v hk=>by obtain⟨b,o,e,h1,h2,h3⟩:=h.at_ k v hk;exact⟨b,o,e,h1,⟨h2,h1⟩,h3⟩⟩
theorem dZ.wL{W:World}{S:Nat->Prop}{a:Option Addr}{n c:Nat}{l:List dS}(h:dZ W S a n c l):dZ W (λb=>S b/\b<W.heap.size) a n c l:=
 ⟨h.hlen,h.hcap,h.hmax,h.hfew,λk x hx=>by
  obtain⟨b,o,ka,kl,kc,h1,h2,h3,c0,c1,c2,c3,c4,c5,c6,c7,h4,h5,h6⟩:=h.hat k x hx;exact⟨b,o,ka,kl,kc,h1,h2,⟨h3,h2⟩,c0,c1,c2,c3,c4,c5,c6,c7,h4.bound,h5,h6⟩,h.hnil⟩
theorem MkS.fresh(h:MkS S w0 hu tf th tt tk v cs fa fl fc la ll lc s W1)(hn:s.kids.length<=1000000):∃a c,v= .slice a s.kids.length c/\dZ W1 (KT S w0.heap.size (.slice none 0 0) W1) a s.kids.length c s.kids/\MkS S w0 hu tf th tt tk (.slice none 0 0) [] fa fl fc la ll lc ⟨s.file,[],s.number,0⟩ W1:=by
 obtain⟨a,c,hv,hk⟩:=h.cells.shut h.row hn;refine⟨a,c,hv,hk.wL.mono λb hb=>?_,⟨h.bel,h.size,h.b0,h.b1,h.b2,h.b3,h.b4,h.file.mv .fresh,h.right,World.ownsRow_nil _ _ _ _,bF.nil⟩⟩;rcases hb.1 with k|k
 .exact(Mv.fresh.keep b k).2
 .exact⟨hb.2, .inr ⟨k,λe=>by cases e⟩⟩
end
end Go.Dav
namespace Go.Proofs.YtenmnhnlcnmloaaGreat
open Go.RowKit Go.Dav
attribute [local go_sem] Gives ite_val ay
theorem yM(dK:List Int)(n:Nat)(fa:Option Addr)(fn fc:Nat)(w:World)(T:Nat->Prop)(hf:bP w T fa fn (Ot dK))(hT:∀b,T b->b<w.heap.size)(hcap:fn<=fc)(hn:n<=1000000)(hfn:fn<=140737488355328):
  Calls Tryz.prog 79 #[.int .i64 (n:Int), .slice fa fn fc] w λe w'=>∃v,e= .returned v/\w'.ownsRow w.heap.size 3 1 v (fJ dK n 0 n).length (LJ (fJ dK n 0 n))/\Below w.heap.size w w':=by
 obtain⟨R,hR⟩:∃R,fJ dK n 0 n=R:=⟨_,rfl⟩;rw[hR];have HR:=Hd hR;have HF:=Hd hf;have HT:=Hd hT;have HFL:=Hd (show dK.length=fn by have:=hf.len;unfold Ot at this;rwa [List.length_map]at this);have HNN:=Hd hn;clear hR hf hT;go_enter Tryz.func79,Tryz.ntmps79;go_wp2_with fail;go_loopw [0,5,6] (λnv ov iv wr=>∃(m i f:Nat) (acc:List Nat),nv= .int .i64 (m:Int)/\iv= .int .i64 (i:Int)/\m<=f/\i+m<=n/\acc.length<=i/\acc++fJ dK f i m=R/\wr.ownsRow w.heap.size 3 1 ov acc.length (LJ acc)/\Below w.heap.size w wr) (λnv _ _ _=>(intOf nv).toNat)
 case atStart=>exact⟨n,0,n,[],rfl,rfl,Nat.le_refl _,oM,Nat.le_refl _,HR.o,World.ownsRow_nil _ _ _ _,Below.refl _ _⟩
 case round=>
  obtain⟨m,i,f,acc,rfl,rfl,hmf,him,hai,hR,hown,hbel⟩:=hrel;have hn6:=HNN.o;have HO:=Hd hown;have HB:=Hd hbel;have HAI:=Hd hai;clear hown hbel;by_cases hm:6<m
  .have hm':(6:Int)<(m:Int):=oM;obtain⟨f,rfl⟩:∃g,f=g+1:=⟨f-1,oM⟩;rw[fJ,if_pos hm]at hR;cases hx:dK[i]? with
   |none=>
    have hfi:¬(i:Int)<(fn:Int):=by have:=List.getElem?_eq_none_iff.1 hx;have:=HFL.o;omega
    have Y9:Fb dK i=6:=by unfold Fb;rw[hx]
    have hcut:=show cutAt dK i m=if m-3<6 then m-3 else 6 by unfold cutAt;rw[Y9]
    rw[hcut]at hR;by_cases hc3:m-3<6
    .have Za:(m:Int)-6<3:=oM;obtain⟨k,hk⟩:∃k,m-3=k:=⟨_,rfl⟩;rw[if_pos hc3,hk]at hR;have hkI:(m:Int)-3=(k:Int):=oM;have HRR:=Hd hR;obtain⟨m2,hm2⟩:∃x,m-k=x:=⟨_,rfl⟩;have Zb:(m:Int)-(k:Int)=(m2:Int):=oM;have HM2:=Hd (show m2<=f/\i+1+m2<=n/\m2<m by omega);have NW:=Hd (show acc++(k::fJ dK f (i+1) m2)=R by rw[<- hm2];exact HRR.o);have HCX:=Hd (cells_one (S:=λb=>b=wr.heap.size) (g:=wr.heap.size) (v:= .int .i64 (k:Int)) (W:=wr.alloc (.cells #[.int .i64 (k:Int)] 3)) rfl (by simp) (Blk.new wr [.int .i64 (k:Int)] 3|>.cell 0 rfl))
     clear hR hcut hc3 hm hmf hai hm2 HRR;go_wp2_with (at_builtin;refine ak rfl (.tmp 30) (.tmp 32) 24 rfl jO w.heap.size _ acc.length (LJ acc) rfl (HO.o.alloc _) (λb=>b=wr.heap.size) (some ⟨wr.heap.size,0,none⟩) 1 1 [.int .i64 (k:Int)] rfl HCX.o (λu hu=>by simp at hu;subst hu;rfl) (λh=>by cases h) (by have:=HAI.o;have:=HNN.o;unfold maxLen;omega) (by have:=HAI.o;have:=HNN.o;omega) (by have:=HB.o.size;simp;omega) ?_;intro v2 w2 hown2 hgrow2;have HB2:=Hd (aV (HB.o.alloc HB.o.size _) (by have:=HB.o.size;simp;omega) (HO.o.alloc _) (Nat.le_refl _) hgrow2);have HO2:=Hd hown2;clear HCX hown2 hgrow2)
     go_roundw
     case rel=>
      refine⟨m2,i+1,f,acc++[k],rfl,by go_num,HM2.o.1,HM2.o.2.1,by rw[List.length_append,List.length_singleton];have:=HAI.o;omega,by rw[List.append_assoc];exact NW.o,?_,HB2.o⟩;rw[List.length_append,<- sD];exact HO2.o
     case measure=>have:=HM2.o;simp[intOf];omega
    .have Za:¬(m:Int)-6<3:=oM;rw[if_neg hc3]at hR;have HRR:=Hd hR;obtain⟨m2,hm2⟩:∃x,m-6=x:=⟨_,rfl⟩;have Zb:(m:Int)-(6:Int)=(m2:Int):=oM;have HM2:=Hd (show m2<=f/\i+1+m2<=n/\m2<m by omega);have NW:=Hd (show acc++(6::fJ dK f (i+1) m2)=R by rw[<- hm2];exact HRR.o);have HCX:=Hd (cells_one (S:=λb=>b=wr.heap.size) (g:=wr.heap.size) (v:= .int .i64 (6:Int)) (W:=wr.alloc (.cells #[.int .i64 (6:Int)] 3)) rfl (by simp) (Blk.new wr [.int .i64 (6:Int)] 3|>.cell 0 rfl))
     clear hR hcut hc3 hm hmf hai hm2 HRR;go_wp2_with (at_builtin;refine ak rfl (.tmp 30) (.tmp 32) 24 rfl jO w.heap.size _ acc.length (LJ acc) rfl (HO.o.alloc _) (λb=>b=wr.heap.size) (some ⟨wr.heap.size,0,none⟩) 1 1 [.int .i64 (6:Int)] rfl HCX.o (λu hu=>by simp at hu;subst hu;rfl) (λh=>by cases h) (by have:=HAI.o;have:=HNN.o;unfold maxLen;omega) (by have:=HAI.o;have:=HNN.o;omega) (by have:=HB.o.size;simp;omega) ?_;intro v2 w2 hown2 hgrow2;have HB2:=Hd (aV (HB.o.alloc HB.o.size _) (by have:=HB.o.size;simp;omega) (HO.o.alloc _) (Nat.le_refl _) hgrow2);have HO2:=Hd hown2;clear HCX hown2 hgrow2)
     go_roundw
     case rel=>
      refine⟨m2,i+1,f,acc++[6],rfl,by go_num,HM2.o.1,HM2.o.2.1,by rw[List.length_append,List.length_singleton];have:=HAI.o;omega,by rw[List.append_assoc];exact NW.o,?_,HB2.o⟩;rw[List.length_append,<- sD];exact HO2.o
     case measure=>have:=HM2.o;simp[intOf];omega
   |some x=>
    have hlt:=(List.getElem?_eq_some_iff.1 hx).1;have hfi:(i:Int)<(fn:Int):=by have:=HFL.o;omega
    have hi0:¬(i:Int)<0:=oM;obtain⟨z,q,hz,z1,z2,hq,hq2,q1,q2⟩:=Y0 x;obtain⟨qn,rfl⟩:=Int.eq_ofNat_of_zero_le q1;obtain⟨φ,hφ⟩:∃p,3+qn=p:=⟨_,rfl⟩;have Y9:Fb dK i=φ:=by unfold Fb;rw[hx];dsimp only;rw[<- hq2];omega
    obtain⟨b,o,rfl,hb,hbT,hc⟩:=HF.o.at_ i (.int .i64 x) (by unfold Ot;rw[List.getElem?_map,hx];rfl);have hb2:=HB.o.cell (p:=⟨b,o+i,none⟩) (HT.o b hbT);have hc2:=hb2.trans hc;have hbl:=Nat.lt_of_lt_of_le hb HB.o.size;have hz4:IntKind.i64.wrap (z+4)=z+4:=IntWalk.i64_in _ oM;have hz5:(3:Int)+(qn:Int)=(φ:Int):=oM;have hz6:IntKind.i64.wrap ((3:Int)+(qn:Int))=(φ:Int):=by rw[hz5];exact IntWalk.i64_in _ oM
    have φ6:φ<=6:=oM;have φ3:3<=φ:=oM;clear hφ hq2 hx hlt hc hb2;have hcut:=show cutAt dK i m=if m-3<φ then m-3 else φ by unfold cutAt;rw[Y9]
    rw[hcut]at hR;by_cases hc3:m-3<φ
    .have Za:(m:Int)-(φ:Int)<3:=oM;obtain⟨k,hk⟩:∃k,m-3=k:=⟨_,rfl⟩;rw[if_pos hc3,hk]at hR;have hkI:(m:Int)-3=(k:Int):=oM;have HRR:=Hd hR;obtain⟨m2,hm2⟩:∃x,m-k=x:=⟨_,rfl⟩;have Zb:(m:Int)-(k:Int)=(m2:Int):=oM;have HM2:=Hd (show m2<=f/\i+1+m2<=n/\m2<m by omega);have NW:=Hd (show acc++(k::fJ dK f (i+1) m2)=R by rw[<- hm2];exact HRR.o);have HCX:=Hd (cells_one (S:=λb=>b=wr.heap.size) (g:=wr.heap.size) (v:= .int .i64 (k:Int)) (W:=wr.alloc (.cells #[.int .i64 (k:Int)] 3)) rfl (by simp) (Blk.new wr [.int .i64 (k:Int)] 3|>.cell 0 rfl))
     clear hR hcut hc3 hm hmf hai hm2 HRR;go_wp2_with (at_builtin;refine ak rfl (.tmp 30) (.tmp 32) 24 rfl jO w.heap.size _ acc.length (LJ acc) rfl (HO.o.alloc _) (λb=>b=wr.heap.size) (some ⟨wr.heap.size,0,none⟩) 1 1 [.int .i64 (k:Int)] rfl HCX.o (λu hu=>by simp at hu;subst hu;rfl) (λh=>by cases h) (by have:=HAI.o;have:=HNN.o;unfold maxLen;omega) (by have:=HAI.o;have:=HNN.o;omega) (by have:=HB.o.size;simp;omega) ?_;intro v2 w2 hown2 hgrow2;have HB2:=Hd (aV (HB.o.alloc HB.o.size _) (by have:=HB.o.size;simp;omega) (HO.o.alloc _) (Nat.le_refl _) hgrow2);have HO2:=Hd hown2;clear HCX hown2 hgrow2)
     go_roundw
     case rel=>
      refine⟨m2,i+1,f,acc++[k],rfl,by go_num,HM2.o.1,HM2.o.2.1,by rw[List.length_append,List.length_singleton];have:=HAI.o;omega,by rw[List.append_assoc];exact NW.o,?_,HB2.o⟩;rw[List.length_append,<- sD];exact HO2.o
     case measure=>have:=HM2.o;simp[intOf];omega
    .have Za:¬(m:Int)-(φ:Int)<3:=oM;rw[if_neg hc3]at hR;have HRR:=Hd hR;obtain⟨m2,hm2⟩:∃x,m-φ=x:=⟨_,rfl⟩;have Zb:(m:Int)-(φ:Int)=(m2:Int):=oM;have HM2:=Hd (show m2<=f/\i+1+m2<=n/\m2<m by omega);have NW:=Hd (show acc++(φ::fJ dK f (i+1) m2)=R by rw[<- hm2];exact HRR.o);have HCX:=Hd (cells_one (S:=λb=>b=wr.heap.size) (g:=wr.heap.size) (v:= .int .i64 (φ:Int)) (W:=wr.alloc (.cells #[.int .i64 (φ:Int)] 3)) rfl (by simp) (Blk.new wr [.int .i64 (φ:Int)] 3|>.cell 0 rfl))
     clear hR hcut hc3 hm hmf hai hm2 HRR;go_wp2_with (at_builtin;refine ak rfl (.tmp 30) (.tmp 32) 24 rfl jO w.heap.size _ acc.length (LJ acc) rfl (HO.o.alloc _) (λb=>b=wr.heap.size) (some ⟨wr.heap.size,0,none⟩) 1 1 [.int .i64 (φ:Int)] rfl HCX.o (λu hu=>by simp at hu;subst hu;rfl) (λh=>by cases h) (by have:=HAI.o;have:=HNN.o;unfold maxLen;omega) (by have:=HAI.o;have:=HNN.o;omega) (by have:=HB.o.size;simp;omega) ?_;intro v2 w2 hown2 hgrow2;have HB2:=Hd (aV (HB.o.alloc HB.o.size _) (by have:=HB.o.size;simp;omega) (HO.o.alloc _) (Nat.le_refl _) hgrow2);have HO2:=Hd hown2;clear HCX hown2 hgrow2)
     go_roundw
     case rel=>
      refine⟨m2,i+1,f,acc++[φ],rfl,by go_num,HM2.o.1,HM2.o.2.1,by rw[List.length_append,List.length_singleton];have:=HAI.o;omega,by rw[List.append_assoc];exact NW.o,?_,HB2.o⟩;rw[List.length_append,<- sD];exact HO2.o
     case measure=>have:=HM2.o;simp[intOf];omega
  .have hm':¬(6:Int)<(m:Int):=oM;by_cases h0:m=0
   .subst h0;have hRR:=Hd (show acc=R by rw[<- hR];cases f<;>simp[fJ]);clear hR hm hmf him hai hn6;go_wp2;go_ret;rw[<- hRR.o];exact⟨_,rfl,HO.o,HB.o⟩
   .have h0':(0:Int)<(m:Int):=oM;obtain⟨f,rfl⟩:∃g,f=g+1:=⟨f-1,oM⟩;rw[fJ,if_neg hm,if_neg h0]at hR;have hRR:=Hd hR;have HCX:=Hd (cells_one (S:=λb=>b=wr.heap.size) (g:=wr.heap.size) (v:= .int .i64 (m:Int)) (W:=wr.alloc (.cells #[.int .i64 (m:Int)] 3)) rfl (by simp) (Blk.new wr [.int .i64 (m:Int)] 3|>.cell 0 rfl))
    clear hR hm hmf hai hn6;go_wp2_with (at_builtin;refine ak rfl (.tmp 39) (.tmp 41) 24 rfl jO w.heap.size _ acc.length (LJ acc) rfl (HO.o.alloc _) (λb=>b=wr.heap.size) (some ⟨wr.heap.size,0,none⟩) 1 1 [.int .i64 (m:Int)] rfl HCX.o (λu hu=>by simp at hu;subst hu;rfl) (λh=>by cases h) (by have:=HAI.o;have:=HNN.o;unfold maxLen;omega) (by have:=HAI.o;have:=HNN.o;omega) (by have:=HB.o.size;simp;omega) ?_;intro v2 w2 hown2 hgrow2;have HB2:=Hd (aV (HB.o.alloc HB.o.size _) (by have:=HB.o.size;simp;omega) (HO.o.alloc _) (Nat.le_refl _) hgrow2);have HO2:=Hd hown2;clear HCX hown2 hgrow2)
    go_ret;refine⟨_,rfl,?_,HB2.o⟩;rw[<- hRR.o,List.length_append];have h:=HO2.o;rw[sD]at h;exact h
end Go.Proofs.YtenmnhnlcnmloaaGreat
