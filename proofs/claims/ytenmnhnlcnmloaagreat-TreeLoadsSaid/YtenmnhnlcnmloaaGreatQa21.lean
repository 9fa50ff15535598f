/- Part of a proof of a law of the layer of trees. -/
import Derived.Test.YtenmnhnlcnmloaaGreatQa20
import Derived.Test.YtenmnhnlcnmloaaGreatQa18
import Derived.Test.YtenmnhnlcnmloaaGreatQa19
import Derived.Test.YtenmnhnlcnmloaaGreatQa17
import Derived.Test.YtenmnhnlcnmloaaGreatQa14
import Derived.Test.YtenmnhnlcnmloaaGreatQa01
set_option linter.unusedVariables false
set_option linter.unusedSimpArgs false
set_option maxHeartbeats 8000000
set_option maxRecDepth 8000
namespace Go.Dav
open Go Go.RowKit
def um:Nat->List UInt8->List (Nat×UInt8)
 |_,[]=>[]
 |i,c::r=>if i%64=0 then(if c=0 then um (i+1) r else [])else(i,c)::um (i+1) r
def lU(l:List UInt8)(i:Nat):List (Nat×UInt8):=um i (l.drop i)
theorem vk{l:List UInt8}{i:Nat}{c:UInt8}(h:l[i]? =some c):l.drop i=c::l.drop (i+1):=by
 obtain⟨hl,hc⟩:=List.getElem?_eq_some_iff.1 h;rw[List.drop_eq_getElem_cons hl,hc]
theorem rU{l:List UInt8}{i:Nat}(h:l.length<=i):lU l i=[]:=by
 unfold lU;rw[List.drop_eq_nil_of_le h];rfl
theorem Ib{l:List UInt8}{i:Nat}{c:UInt8}(h:l[i]? =some c)(hi:i%64≠0):lU l i=(i,c)::lU l (i+1):=by
 unfold lU;rw[vk h,um,if_neg hi]
theorem Dz{l:List UInt8}{i:Nat}(h:l[i]? =some 0)(hi:i%64=0):lU l i=lU l (i+1):=by
 unfold lU;rw[vk h,um,if_pos hi,if_pos rfl]
theorem DC{l:List UInt8}{i:Nat}{c:UInt8}(h:l[i]? =some c)(hi:i%64=0)(hc:c≠0):lU l i=[]:=by
 unfold lU;rw[vk h,um,if_pos hi,if_neg hc]
def nK(l:List UInt8)(at_ from_:Nat):List (Nat×UInt8):=
 if from_<=at_ then(if l[from_]? =some 0 then lU l at_ else [])else lU l from_
def dF(l:List UInt8)(at_:Int):List (Nat×UInt8):=
 if at_<0\/(l.length:Int)<=at_\/at_%64=0 then []else nK l at_.toNat (at_.toNat-at_.toNat%64)
abbrev PlT:Type:= { x:Nat×UInt8 // x.1<=524288}
abbrev PlT.encs(x:PlT):Array Value:= #[.int .i64 (x.1.1:Int), .int .u8 (x.1.2.toNat:Int)]
theorem pG{W:World}{b i:Nat}{v:Value}(h:W.cell? ⟨b,i,none⟩=some v):∃o,W.heap[b]? =some o/\o.isCells=true:=by
 unfold World.cell? at h;cases hb:W.heap[b]? with
 |none=>simp[hb]at h
 |some o=>
  refine⟨o,rfl,?_⟩;cases o<;>first|rfl|(simp[hb]at h)
def mO(W:World)(q k:Nat):Prop:=∃o n c,W.cell? ⟨q,0,none⟩=some (.slice (some ⟨k,o,none⟩) n c)
theorem pI{W W':World}(h:Below W.heap.size W W'):W.grownBy W' none:=⟨h.os,h.tape,h.output,h.size,λk hk _=>h.block k hk⟩
structure KpQ(q:Nat)(p:Nat->Prop)(W W':World):Prop where
 size:W.heap.size<=W'.heap.size
 same:∀(k:Nat) (o:Obj),W.heap[k]? =some o->o.isCells=true->¬p k->¬mO W q k->W'.heap[k]? =some o
 pts:∀k,mO W' q k->mO W q k\/(W.heap.size<=k/\k<W'.heap.size)
theorem KpQ.t{q:Nat}{p:Nat->Prop}:∀ {A B C:World},KpQ q p A B->KpQ q p B C->KpQ q p A C:=λ{A B C} h k=>
 ⟨Nat.le_trans h.size k.size,λi o h1 h2 h3 h4=>k.same i o (h.same i o h1 h2 h3 h4) h2 h3 (λh5=>by
  rcases h.pts i h5 with h6|h6
  .exact h4 h6
  .have:=(Array.getElem?_eq_some_iff.1 h1).1;omega),
 λi h5=>by
  rcases k.pts i h5 with h6|h6
  .rcases h.pts i h6 with h7|h7
   .exact .inl h7
   .exact .inr ⟨h7.1,Nat.lt_of_lt_of_le h7.2 k.size⟩
  .exact .inr ⟨Nat.le_trans h.size h6.1,h6.2⟩⟩
theorem KpQ.of_below{q:Nat}{p:Nat->Prop}{W W':World}(hq:q<W.heap.size)(h:Below W.heap.size W W'):KpQ q p W W':=
 ⟨h.size,λk o h1 _ _ _=>(h.block k (Array.getElem?_eq_some_iff.1 h1).1).trans h1,λk ⟨o,n,c,hc⟩=> .inl ⟨o,n,c,by rw[<- World.cell?_of_block (h.block q hq)];exact hc⟩⟩
theorem KpQ.refl{q:Nat}{p:Nat->Prop}(W:World)(hq:q<W.heap.size):KpQ q p W W:=KpQ.of_below hq (Below.refl _ _)
theorem KpQ.b{q n:Nat}{p:Nat->Prop}(hn:q<n):∀(W:World) (l:Nat) (o o':Obj),n<=l->W.heap[l]? =some o->o.isCells=false->o.isWalk=false->KpQ q p W (W.putObj l o'):=λW l o o' h0 h2 h3 _=>by
 refine⟨(grownBy_putObj' W l o').size,λk x h4 h5 _ _=>?_,λk hk=>?_⟩
 .refine((grownBy_putObj' W l o').block k (Array.getElem?_eq_some_iff.1 h4).1 (λe=>?_)).trans h4;cases e;rw[h2]at h4;cases h4;rw[h3]at h5;cases h5
 .obtain⟨o1,n1,c1,hc⟩:=hk;have hl:q<W.heap.size:=by have:=(Array.getElem?_eq_some_iff.1 h2).1;omega
  exact .inl ⟨o1,n1,c1,by
   rw[<- World.cell?_of_block ((grownBy_putObj' W l o').block q hl (by intro e;cases e;omega))];exact hc⟩
theorem KpQ.blk{q:Nat}{p:Nat->Prop}{W W':World}(h:KpQ q p W W'){b:Nat}{cs:List Value}{t:TypeId}(hb:Blk W b cs t)(hp:¬p b)(hq:¬mO W q b):Blk W' b cs t:=h.same b _ hb rfl hp hq
theorem au.kpq{q:Nat}{p:Nat->Prop}{W W':World}{S:Nat->Prop}{a:Option Addr}{n c:Nat}{l:List UInt8}(h:au W S a n c l)(k:KpQ q p W W')(hp:∀b,S b->¬p b/\¬mO W q b):au W' S a n c l:=
 ⟨⟨h.at_.hlen,h.at_.hcap,h.at_.hmax,h.at_.hfew,λi x hi=>by
  obtain⟨b,o,h1,h2,h3⟩:=h.at_.hat i x hi;obtain⟨b',o',h1',h4⟩:=h.in_ i x hi;rw[h1]at h1';cases h1';obtain⟨ob,hb,hc⟩:=pG h3;have h5:=k.same b ob hb hc (hp b h4).1 (hp b h4).2;refine⟨b,o,h1,by have:=k.size;omega,?_⟩;rw[World.cell?_of_block (h5.trans hb.symm)];exact h3,h.at_.hnil⟩,h.in_⟩
theorem gK.kpq{q:Nat}{p:Nat->Prop}{W W':World}{S:Nat->Prop}{a:Option Addr}{n c:Nat}{L:List (List UInt8)}(h:gK W S a n c L)(k:KpQ q p W W')(hp:∀b,S b->¬p b/\¬mO W q b):gK W' S a n c L:=
 ⟨h.hlen,h.hcap,h.hmax,h.hfew,λi x hi=>by
  obtain⟨b,o,pa,pl,pc,h1,h2,h3,h4,h5⟩:=h.hat i x hi;obtain⟨ob,hb,hc⟩:=pG h4;have h6:=k.same b ob hb hc (hp b h3).1 (hp b h3).2;exact⟨b,o,pa,pl,pc,h1,by have:=k.size;omega,h3,by rw[World.cell?_of_block (h6.trans hb.symm)];exact h4,h5.kpq k hp⟩,h.hnil⟩
theorem fB.kpq{q:Nat}{p:Nat->Prop}{W W':World}{S:Nat->Prop}{fa la:Option Addr}{fl fc ll lc:Nat}{F:aB}(h:fB W S fa fl fc la ll lc F)(k:KpQ q p W W')(hp:∀b,S b->¬p b/\¬mO W q b):fB W' S fa fl fc la ll lc F:=
 ⟨h.jH.kpq k hp,h.loose.kpq k hp,h.fuse,h.fault⟩
theorem au.bound{W:World}{S:Nat->Prop}{a:Option Addr}{n c:Nat}{l:List UInt8}(h:au W S a n c l):au W (λb=>S b/\b<W.heap.size) a n c l:=
 ⟨h.at_,λk x hk=>by
  obtain⟨b,o,h1,h2⟩:=h.in_ k x hk;obtain⟨b',o',h1',h3,_⟩:=h.at_.hat k x hk;rw[h1]at h1';cases h1';exact⟨b,o,h1,h2,h3⟩⟩
theorem PW{F:aB}(hr:F.right=true){i k:Nat}(h:i+k<=F.many):F.read (i:Int) (k:Int)=((F.all.drop i).take k,0):=by
 unfold aB.read;rw[if_pos hr,if_neg oM,if_neg oM,Int.toNat_natCast,Int.toNat_natCast]
theorem jA{Fn:Fence}{n0:Nat}{P:Program}{W:World}{ops:Array Oper}{rest:List Oper}{o:Oper}{a:Act}{Q:Exit->Act->World->Prop}(hgd:o.guard=none)(s x:Operand)(t:TypeId)(ho:o.op= .call { callee:= .builtin .append,args:= #[s,x],argTypes:= #[t,t]}){e bytes:Nat}(E:BQ P t e bytes)(base:Nat)(v:Value)(n:Nat)(xs:List Value)(hs:a.eval s=v)(hown:W.ownsRow base e 1 v n xs)
  (ad:Addr) (m c:Nat) (ys:List Value) (hx:a.eval x= .slice (some ad) m c) (hl:ys.length=m) (hy:∀j u,ys[j]? =some u->W.cell? (ad.add j)=some u)
  (h1:∀u∈ys,u.oneCell'=true) (hm:0<m) (h63:n+m<=maxLen) (hbytes:(n+m)*bytes<=140737488355328) (hbase:base<=W.heap.size)
  (h:∀g cap w',w'.ownsRow base e 1 (.slice (some ⟨g,0,none⟩) (n+m) cap) (n+m) (xs++ys)->W.grownBy w' v.ownBlock->(v.ownBlock=some g\/g=W.heap.size)->g<w'.heap.size->wpListIn Fn n0 P ops Q rest (a.put o.dst (.slice (some ⟨g,0,none⟩) (n+m) cap)) w'):wpListIn Fn n0 P ops Q (o::rest) a W:=by
 refine wpListIn_plain hgd λK hK=>?_;obtain⟨hu,i,z,hi,hz,hsz,hby,hzc⟩:=E;obtain⟨g,cap,w',hr,h2,h3,h4,h5⟩:=run_append_lies (P:=P) W t o.type base e i z 1 bytes hu hi hz hsz hby hzc oM v n xs hown ad m c ys oM hy h1 hm h63 hbytes hbase _ rfl;unfold Oper.wpIn;refine⟨?_,?_⟩
 .simp[Oper.about,ho,resolve,Target.leads,Sem.run_pure]
 .rw[Oper.semAt_plain Fn _ _ (by rw[ho];intro c hc';cases hc')];simp[execOp,ho,resolve,invoke,builtin,hs,hx,hr,Result.andThen];exact hK _ _ (h g cap w' h2 h3 h4 h5)
def oO:List UInt8->Nat
 |a::b::_=>a.toNat*256+b.toNat
 |_=>0
theorem vw{l:List UInt8}(h:2<=l.length)(m:List UInt8):oO (l++m)=oO l:=by
 match l,h with
 |a::b::r,_=>rfl
theorem La{l:List UInt8}{a b:UInt8}(ha:l[0]? =some a)(hb:l[1]? =some b):oO l=a.toNat*256+b.toNat:=by
 match l,ha,hb with
 |_::_::_,ha,hb=>cases ha;cases hb;rfl
def yV(n:Nat):Prop:=1<=n/\n<=4096
instance (n:Nat):Decidable (yV n):=by unfold yV;infer_instance
def Alive(l:List UInt8)(want:Nat):Prop:=(l.length<6/\want=6)\/(6<=l.length/\yV (oO l)/\want=6+oO l/\l.length<want)
def PX(l:List UInt8)(want:Nat):Prop:=6<=l.length/\want=6+oO l/\((l.length=6/\¬yV (oO l))\/(l.length=want/\yV (oO l)))
theorem Alive.nil_:Alive [] 6:= .inl ⟨by simp,rfl⟩
theorem Alive.len{l:List UInt8}{want:Nat}(h:Alive l want):l.length<=4102:=by
 rcases h with h|⟨_,h2,h3,h4⟩
 .omega
 .have:=h2.2;omega
def fH(T:List (Nat×UInt8)):Option (List UInt8×Nat):=
 if 6<T.length/\yV (oO (T.map (·.2)))/\6+oO (T.map (·.2))<=T.length/\outOf (((T.map (·.2)).drop 6).take (oO (T.map (·.2))))=(T.map (·.2)).take (6+oO (T.map (·.2)))then
  some (((T.map (·.2)).drop 6).take (oO (T.map (·.2))),(T[5+oO (T.map (·.2))]?.map λx=>x.1+1).getD 0)
 else none
def bytesOf(pre:List PlT):List UInt8:=pre.map λx=>x.1.2
def Ap(pre:List PlT):Nat:=match pre.getLast? with|some x=>x.1.1+1|none=>0
theorem rV(pre:List PlT)(x:PlT):bytesOf (pre++[x])=bytesOf pre++[x.1.2]:=by simp[bytesOf]
theorem JO(pre:List PlT)(x:PlT):Ap (pre++[x])=x.1.1+1:=by simp[Ap]
theorem kT(pre:List PlT):(bytesOf pre).length=pre.length:=by simp[bytesOf]
theorem JQ{β:Type}(base e n:Nat)(v:β->Value)(m:β->Nat)(xs:β->List Value)(s:β){X Y:World}{row:Option Nat}(h:X.ownsRow base e 1 (v s) (m s) (xs s))(hg:X.grownBy Y row)(hr:∀r,row=some r->∃o:Obj,X.heap[r]? =some o/\o.isCells=false):Y.ownsRow base e 1 (v s) (m s) (xs s):=by
 refine⟨h.1,?_⟩;rcases h.2 with k|⟨g,cap,cur,k1,k2,k3,k4⟩
 .exact .inl k
 .refine .inr ⟨g,cap,cur,k1,k2,?_,k4⟩;refine(hg.block g (Array.getElem?_eq_some_iff.1 k3).1 (λe'=>?_)).trans k3;obtain⟨o,ho,hc⟩:=hr g e'.symm;rw[k3]at ho;cases ho;cases hc
def Sj(q base tb ts ti:Nat)(ok:List UInt8->Nat->Prop)(pre:List PlT)(W:World):Prop:=
 ∃(v:Value) (want:Nat),Blk W q [v] ts/\W.ownsRow base tb 1 v pre.length (u8s (bytesOf pre))/\Blk W (q+1) [.int .i64 (want:Int)] ti/\Blk W (q+1+1) [.int .i64 (Ap pre:Int)] ti/\ok (bytesOf pre) want/\base<=W.heap.size
theorem Ic(q base tb ts ti:Nat)(ok:List UInt8->Nat->Prop):Own (Sj q base tb ts ti ok):=λs X Y row ⟨v,want,h1,h2,h3,h4,h5,h6⟩ hg hr=>
 ⟨v,want,Ah q _ _ s X Y row h1 hg hr,JQ (β:=Unit) base tb 0 (λ_=>v) (λ_=>s.length) (λ_=>u8s (bytesOf s)) () h2 hg hr,Ah (q+1) _ _ s X Y row h3 hg hr,Ah (q+1+1) _ _ s X Y row h4 hg hr,h5,Nat.le_trans h6 hg.size⟩
theorem Aq{W w':World}{q base tb ts ti k m g cap:Nat}{z v x9 x10:Value}{xs ys:List Value}(h8:Blk W q [v] ts)(h9:Blk W (q+1) [x9] ti)(h10:Blk W (q+1+1) [x10] ti)(hts:ts≠tb)(hti:ti≠tb)(hrow:W.ownsRow base tb 1 v k xs)(hb:base<=W.heap.size)(hq:base<=q)
  (hown:w'.ownsRow base tb 1 (.slice (some ⟨g,0,none⟩) m cap) m ys) (hgrow:(W.alloc (.cells #[z] tb)).grownBy w' v.ownBlock) (hg:v.ownBlock=some g\/g=(W.alloc (.cells #[z] tb)).heap.size) (hgl:g<w'.heap.size):
  (Blk w' q [v] ts/\Blk w' (q+1) [x9] ti/\Blk w' (q+1+1) [x10] ti)/\
  ∀y W4,(w'.setCell ⟨q,0,none⟩ (.slice (some ⟨g,0,none⟩) m cap)).setCell ⟨q+1+1,0,none⟩ y=W4->
  Blk W4 q [.slice (some ⟨g,0,none⟩) m cap] ts/\Blk W4 (q+1) [x9] ti/\Blk W4 (q+1+1) [y] ti/\W4.ownsRow base tb 1 (.slice (some ⟨g,0,none⟩) m cap) m ys/\KeepsOthers W W4/\KpQ q (λk=>k=q\/k=q+1\/k=q+1+1) W W4/\Below base W W4:=by
 have far:∀ {b:Nat} {cs:List Value} {t:TypeId},Blk W b cs t->t≠tb->some b≠v.ownBlock:=λ{b cs t} h ht e=>by
  rcases hrow.2 with⟨rfl,_⟩|⟨g0,c0,cur,rfl,_,hgb,_⟩
  .simp[Value.ownBlock]at e
  .obtain rfl:b=g0:=by simpa[Value.ownBlock]using e
   rw[show W.heap[b]? =_ from h]at hgb;cases hgb;exact ht rfl
 have kept:∀ {b:Nat} {cs:List Value} {t:TypeId},Blk W b cs t->t≠tb->Blk w' b cs t:=λ{b cs t} h ht=>
  (hgrow.block b (by rw[World.size_alloc];exact Nat.lt_succ_of_lt h.lt) (far h ht)).trans (h.alloc _)
 have k8:=kept h8 hts;have k9:=kept h9 hti;have k10:=kept h10 hti;refine⟨⟨k8,k9,k10⟩,?_⟩;rintro y W4 rfl;have ZM:∀ {b:Nat} {cs:List Value} {t:TypeId},Blk w' b cs t->t≠tb->b≠g:=λ{b cs t} h ht e=>by
  rcases hown.2 with⟨e1,_⟩|⟨g0,c0,cur,e1,_,hgb,_⟩
  .cases e1
  .cases e1;subst e;rw[show w'.heap[b]? =_ from h]at hgb;cases hgb;exact ht rfl
 have g8:=ZM k8 hts;have g10:=ZM k10 hti;have hsz:W.heap.size<=w'.heap.size:=Nat.le_trans (by rw[World.size_alloc];omega) hgrow.size;have hb4:∀b,b≠q->b≠q+1+1->((w'.setCell ⟨q,0,none⟩ (.slice (some ⟨g,0,none⟩) m cap)).setCell ⟨q+1+1,0,none⟩ y).heap[b]? =w'.heap[b]?:=λb h1 h2=>(Below.heap_setCell _ _ _ b h2).trans (Below.heap_setCell _ _ _ b h1);have hs4:((w'.setCell ⟨q,0,none⟩ (.slice (some ⟨g,0,none⟩) m cap)).setCell ⟨q+1+1,0,none⟩ y).heap.size=w'.heap.size:=by simp
 have b8:Blk ((w'.setCell ⟨q,0,none⟩ (.slice (some ⟨g,0,none⟩) m cap)).setCell ⟨q+1+1,0,none⟩ y) q [.slice (some ⟨g,0,none⟩) m cap] ts:=(k8.set 0 _).other oM 0 _;have hko:KeepsOthers W w':=(KeepsOthers.alloc W _).trans (KeepsOthers.of_grownBy hgrow λj o ej hj=>by
  rcases(hrow.alloc (.cells #[z] tb)).2 with⟨rfl,_⟩|⟨g0,c0,cur,rfl,_,hgb,_⟩
  .simp[Value.ownBlock]at ej
  .obtain rfl:g0=j:=by simpa[Value.ownBlock]using ej
   rw[hgb]at hj;cases hj;rfl)
 have ZN:∀j,v.ownBlock=some j->mO W q j:=λj ej=>by
  rcases hrow.2 with⟨rfl,_⟩|⟨g0,c0,cur,rfl,_,hgb,_⟩
  .simp[Value.ownBlock]at ej
  .obtain rfl:g0=j:=by simpa[Value.ownBlock]using ej
   exact⟨0,k,c0,h8.cell 0 rfl⟩
 refine⟨b8,(k9.other oM 0 _).other oM 0 _,(k10.other oM 0 _).set 0 _,?_,(hko.trans (KeepsOthers.setCell _ _ _)).trans (KeepsOthers.setCell _ _ _),?_,?_⟩
 .refine(hown.kept (grownBy_setCell' w' q _) (.inr ?_)).kept (grownBy_setCell' _ (q+1+1) _) (.inr ?_)
  .intro e;simp[Value.ownBlock]at e;omega
  .intro e;simp[Value.ownBlock]at e;omega
 .refine⟨oM,λj o hj hc hp hn=>?_,?_⟩
  .have hjl:=(Array.getElem?_eq_some_iff.1 hj).1;have h1:j≠q:=λe=>hp (.inl e);have h2:j≠q+1+1:=λe=>hp (.inr (.inr e));rw[hb4 j h1 h2,hgrow.block j (by rw[World.size_alloc];omega) (λe=>hn (ZN j e.symm)),Below.heap_alloc _ _ _ hjl];exact hj
  .rintro j ⟨o,n1,c1,hc⟩;rw[b8.cell 0 rfl]at hc;cases hc;rcases hg with hg|hg
   .exact .inl (ZN g hg)
   .refine .inr ⟨?_,oM⟩;rw[World.size_alloc]at hg;omega
 .refine(((((Below.refl base W).alloc hb _).grown hgrow (by rw[World.size_alloc];omega) λj ej=>?_).setCell (p:=⟨q,0,none⟩) hq _).setCell (p:=⟨q+1+1,0,none⟩) (by show base<=q+1+1;omega) y);rcases hrow.2 with⟨rfl,_⟩|⟨g0,c0,cur,rfl,hb',_,_⟩
  .simp[Value.ownBlock]at ej
  .obtain rfl:g0=j:=by simpa[Value.ownBlock]using ej
   exact hb'
theorem KpQ.set{q b i:Nat}{p:Nat->Prop}{W:World}(hp:p b)(hq:b≠q)(v:Value):KpQ q p W (W.setCell ⟨b,i,none⟩ v):=
 ⟨by simp,λk o h1 _ h3 _=>(Below.heap_setCell _ _ _ k (λe=>h3 (e▸hp))).trans h1,λk ⟨o,n,c,hc⟩=> .inl ⟨o,n,c,by
  rw[<- World.cell?_of_block (Below.heap_setCell W ⟨b,i,none⟩ v q (λe=>hq e.symm))];exact hc⟩⟩
theorem Nl{W W4 W5 W7:World}{q base tb ts ti m g cap:Nat}{y x9 x10:Value}{ys:List Value}(c8:Blk W4 q [.slice (some ⟨g,0,none⟩) m cap] ts)(c9:Blk W4 (q+1) [x9] ti)(c10:Blk W4 (q+1+1) [x10] ti)(hti:ti≠tb)
  (cr:W4.ownsRow base tb 1 (.slice (some ⟨g,0,none⟩) m cap) m ys) (ck:KeepsOthers W W4) (cq:KpQ q (λk=>k=q\/k=q+1\/k=q+1+1) W W4) (cb:Below base W W4) (hq:base<=q) (hE:Below W4.heap.size W4 W5) (hb:Below (W5.setCell ⟨q+1,0,none⟩ y).heap.size (W5.setCell ⟨q+1,0,none⟩ y) W7):
  Blk W7 q [.slice (some ⟨g,0,none⟩) m cap] ts/\Blk W7 (q+1) [y] ti/\Blk W7 (q+1+1) [x10] ti/\W7.ownsRow base tb 1 (.slice (some ⟨g,0,none⟩) m cap) m ys/\KeepsOthers W W7/\KpQ q (λk=>k=q\/k=q+1\/k=q+1+1) W W7/\Below base W W7:=by
 have l8:=c8.lt;have s5:=hE.size;have s6:(W5.setCell ⟨q+1,0,none⟩ y).heap.size=W5.heap.size:=by simp
 have hg:q+1≠g:=λe=>by
  rcases cr.2 with⟨e1,_⟩|⟨g0,c0,cur,e1,_,hgb,_⟩
  .cases e1
  .cases e1;subst e;rw[show W4.heap[q+1]? =_ from c9]at hgb;cases hgb;exact hti rfl
 refine⟨((c8.ext hE).other oM 0 y).ext hb,((c9.ext hE).set 0 y).ext hb,((c10.ext hE).other oM 0 y).ext hb,aK ((aK cr hE).kept (grownBy_setCell' W5 (q+1) y) (.inr ?_)) hb,((ck.trans (qF hE)).trans (KeepsOthers.setCell _ _ _)).trans (qF hb),?_,?_⟩
 .intro e;simp[Value.ownBlock]at e;omega
 .exact((cq.t (KpQ.of_below l8 hE)).t (KpQ.set (.inr (.inl rfl)) oM y)).t (KpQ.of_below oM hb)
 .have h1:base<=W4.heap.size:=oM;exact((cb.trans (hE.mono h1)).setCell (p:=⟨q+1,0,none⟩) (by show base<=q+1;omega) y).trans (hb.mono oM)
theorem Np{l:List UInt8}{c:UInt8}{want:Nat}(h:Alive l want)(h6:¬l.length+1=6):(l.length+1=want->PX (l++[c]) want)/\(¬l.length+1=want->Alive (l++[c]) want):=by
 have e:(l++[c]).length=l.length+1:=by simp
 rcases h with⟨h1,h2⟩|⟨h1,h2,h3,h4⟩
 .exact⟨λhw=>oM,λhw=> .inl ⟨oM,h2⟩⟩
 .have hz:oO (l++[c])=oO l:=vw oM _;exact⟨λhw=>⟨oM,by rw[hz];exact h3, .inr ⟨oM,by rw[hz];exact h2⟩⟩,λhw=> .inr ⟨oM,by rw[hz];exact h2,by rw[hz];exact h3,oM⟩⟩
theorem PY{l:List UInt8}(h:l.length=6):(yV (oO l)->Alive l (6+oO l))/\(¬yV (oO l)->PX l (6+oO l)):=
 ⟨λhm=> .inr ⟨oM,hm,rfl,by have:=hm.1;omega⟩,λhm=>⟨oM,rfl, .inl ⟨h,hm⟩⟩⟩
theorem ES{T:List (Nat×UInt8)}{want:Nat}(h:Alive (T.map (·.2)) want):fH T=none:=by
 unfold fH;refine if_neg λhf=>?_;rcases h with⟨h1,_⟩|⟨_,_,h3,h4⟩
 .rw[List.length_map]at h1;have:=hf.1;omega
 .rw[List.length_map]at h4;have:=hf.2.2.1;omega
theorem JR{T:List (Nat×UInt8)}{l r:List UInt8}(hT:T.map (·.2)=l++r)(h6:l.length=6)(hm:¬yV (oO l)):fH T=none:=by
 unfold fH;refine if_neg λhf=>hm ?_;have:=hf.2.1;rwa [hT,vw oM]at this
theorem ET{T:List (Nat×UInt8)}{l r:List UInt8}{want:Nat}(hT:T.map (·.2)=l++r)(hl:l.length=want)(hm:yV (oO l))(hw:want=6+oO l):(outOf (l.drop 6)=l->fH T=some (l.drop 6,(T[want-1]?.map λx=>x.1+1).getD 0))/\(¬outOf (l.drop 6)=l->fH T=none):=by
 have hz:oO (T.map (·.2))=oO l:=by rw[hT,vw oM]
 have hlen:T.length=l.length+r.length:=by have:=congrArg List.length hT;simpa using this
 have e1:((T.map (·.2)).drop 6).take (oO (T.map (·.2)))=l.drop 6:=by
  rw[hz,hT,List.drop_append_of_le_length oM,List.take_left' (by rw[List.length_drop];omega)]
 have e2:(T.map (·.2)).take (6+oO (T.map (·.2)))=l:=by
  rw[hz,hT,List.take_left' oM]
 have e3:5+oO (T.map (·.2))=want-1:=by rw[hz];omega
 have h1:1<=oO l:=hm.1;unfold fH;refine⟨λhe=>?_,λhe=>if_neg λhf=>he ?_⟩
 .rw[if_pos ⟨oM,by rw[hz];exact hm,by rw[hz];omega,by rw[e1,e2];exact he⟩,e1,e3]
 .have:=hf.2.2.2;rwa [e1,e2]at this
theorem Nq{ys:List PlT}{T:List (Nat×UInt8)}(h:ys.map (·.1) <+: T)(hn:0<ys.length):(T[ys.length-1]?.map λx=>x.1+1).getD 0=Ap ys:=by
 obtain⟨r,rfl⟩:=h;rw[List.getElem?_append_left (by rw[List.length_map];omega),List.getElem?_map];unfold Ap;rw[List.getLast?_eq_getElem?];cases ys[ys.length-1]?<;>rfl
theorem rW(W:World)(x:Value)(t:TypeId):∀(j:Nat) (u:Value),[x][j]? =some u->(W.alloc (.cells #[x] t)).cell? (Addr.add ⟨W.heap.size,0,none⟩ j)=some u:=λj u h=>by
 cases j with
 |zero=>cases h;exact(Blk.new W [x] t).cell 0 rfl
 |succ j=>cases h
def jo(all:List UInt8)(at_ depth:Int):Option aT:=
 match fH (dF all at_)with
 |none=>none
 |some x=>match kS x.1 with
  |none=>none
  |some N=>if 0<=depth/\N.leaf=decide (depth=0)then some N else none
instance:DecidableEq Red:=λa b=>decidable_of_iff (a.c=b.c/\a.n=b.n/\a.s=b.s/\a.l=b.l/\a.m=b.m) (by cases a;cases b;simp)
def manyN(N:aT):Nat:=N.items.length+N.kids.length
def EU(all:List UInt8)(d:Nat)(above:Int)(k:dS):Option aT:=match jo all k.at_ d with
 |none=>none
 |some N=>if above<=k.at_\/manyN N<3\/je (Fv N).1 k.red=false\/bK N≠k.key then none else some N
structure mP where
 at_:Int
 depth:Int
 red:Red
structure bD where
 from_:List UInt8
 ends:Bool
 to_:List UInt8
def bD.endsB(b:bD)(k:List UInt8):Bool:=b.ends&& !(bH k b.to_)
def bD.holdsB(b:bD)(k:List UInt8):Bool:= !(bH k b.from_)&& !(b.endsB k)
def inP(b:bD)(N:aT)(i:Nat):Bool:=
 !(decide (0<i)&&(((N.kids[i]?).map λk=>b.endsB k.key).getD false))&&(((N.kids[i+1]?).map λk=>bH b.from_ k.key).getD true)
def Ar(turned:Bool)(last:Option (List UInt8))(k:List UInt8):Bool:=match last with
 |none=>true
 |some y=>if turned=true then bH k y else bH y k
def goI(b:bD)(turned:Bool):Option (List UInt8)->List aP->List aP×Option (Option (List UInt8))
 |last,[]=>([],some last)
 |last,x::r=>if Ar turned last x.key=true then((if b.holdsB x.key=true then [x]else [])++(goI b turned (some x.key) r).1,(goI b turned (some x.key) r).2)else([],none)
def oq(turned:Bool){α:Type}(l:List α):List α:=if turned=true then l.reverse else l
def goK(step:Nat->Option (List UInt8)->List aP×Option (Option (List UInt8))):List Nat->Option (List UInt8)->List aP×Option (Option (List UInt8))
 |[],last=>([],some last)
 |i::r,last=>match (step i last).2 with
  |none=>((step i last).1,none)
  |some last2=>((step i last).1++(goK step r last2).1,(goK step r last2).2)
def goN(all:List UInt8)(b:bD)(turned:Bool):(d:Nat)->aT->Int->Option (List UInt8)->List aP×Option (Option (List UInt8))
 |0,N,_,last=>goI b turned last (oq turned N.items)
 |d+1,N,a,last=>goK (λi last=>if inP b N i=true then(match N.kids[i]? with
   |none=>([],some last)
   |some k=>match EU all d a k with
    |none=>([],none)
    |some M=>goN all b turned d M k.at_ last)else([],some last)) (oq turned (List.range N.kids.length)) last
def noB:bD:=⟨[],false,[]⟩
theorem Lc{l:List UInt8}{N:aT}(h:kS l=some N):bI N=true:=by
 unfold kS at h;split at h
 .cases h
 .split at h
  .rename_i hh;cases h;exact hh.1
  .cases h
def Cm(d:Nat)(N:aT):Prop:=bI N=true/\N.leaf=decide (d=0)
theorem DF{all:List UInt8}{at_:Int}{d:Nat}{N:aT}(h:jo all at_ (d:Int)=some N):Cm d N:=by
 unfold jo at h;split at h
 .cases h
 .split at h
  .cases h
  .rename_i hr;split at h
   .rename_i hh;cases h;refine⟨Lc hr,hh.2.trans ?_⟩;rw[Bool.eq_iff_iff,decide_eq_true_eq,decide_eq_true_eq];omega
   .cases h
theorem Au{all:List UInt8}{at_ depth:Int}(h:depth<0):jo all at_ depth=none:=by
 unfold jo;split
 .rfl
 .split
  .rfl
  .rw[if_neg oM]
theorem Aw{all:List UInt8}{d:Nat}{a:Int}{k:dS}{M:aT}(h:EU all d a k=some M):Cm d M:=by
 unfold EU at h;split at h
 .cases h
 .rename_i hl;split at h
  .cases h
  .cases h;exact DF hl
theorem Ie{d:Nat}{N:aT}(h:Cm (d+1) N):N.items=[]/\N.kids.all uG=true/\2<=N.kids.length/\N.kids.length<=6:=by
 obtain⟨h1,h2⟩:=h;have hl:N.leaf=false:=by rw[h2];simp
 unfold bI at h1;rw[hl]at h1;simp only[Bool.false_eq_true,if_false,Bool.and_eq_true,decide_eq_true_eq]at h1;obtain⟨g1,g2,g3,g4,_⟩:=h1;exact⟨List.length_eq_zero_iff.1 g3,g4,g1,g2⟩
theorem DI{N:aT}(h:Cm 0 N):N.kids=[]/\N.items.all fD=true/\1<=N.items.length/\N.items.length<=6:=by
 obtain⟨h1,h2⟩:=h;have hl:N.leaf=true:=by rw[h2];simp
 unfold bI at h1;rw[hl]at h1;simp only[if_true,Bool.and_eq_true,decide_eq_true_eq]at h1;obtain⟨g1,_,g3,g4,g5⟩:=h1;exact⟨List.length_eq_zero_iff.1 g5,g1,g3,g4⟩
end Go.Dav
namespace Go.Proofs.YtenmnhnlcnmloaaGreat
open Go.RowKit Go.Dav Go.Shelf
attribute [local go_sem] Gives ite_val ay Oper.semAt_some
theorem JU(F:aB)(fa la:Option Addr)(fl fc ll lc:Nat)(at_:Int)(w:World):
  Calls Tryz.prog 99 #[.agg #[.slice fa fl fc, .slice la ll lc, .int .i64 F.fuse, .int .i64 F.fault, .bool F.off], .int .i64 at_] w λe w'=>e= .returned (.func (.func 146) #[] #[.pointer (some ⟨w.heap.size,0,none⟩), .pointer (some ⟨w.heap.size+1,0,none⟩)])/\w'=(w.alloc (.cells [.slice fa fl fc, .slice la ll lc, .int .i64 F.fuse, .int .i64 F.fault, .bool F.off].toArray 32)).alloc (.cells #[.int .i64 at_] 3):=by
 go_enter Tryz.func99,Tryz.ntmps99;go_wp2;go_ret;exact⟨rfl,rfl⟩
theorem EW(args:Array Value)(W:World):(callFunc 146 args).run Tryz.prog W= .ok (Next.enter 146 args) W:=kR
set_option maxRecDepth 100000 in
theorem Ig(F:aB)(fa la:Option Addr)(fl fc ll lc:Nat)(at_:Int)(w:World)(S p:Nat->Prop)(n B q ty:Nat)(hn:1<=n)(hF:fB w S fa fl fc la ll lc F)(hr:F.right=true)(hS:∀b,S b->b<w.heap.size/\¬p b)(hp:∀b,p b->b<w.heap.size)(hB:Blk w B [.slice fa fl fc, .slice la ll lc, .int .i64 F.fuse, .int .i64 F.fault, .bool F.off] 32)(hB2:Blk w (B+1) [.int .i64 at_] 3)(hBp:¬p B/\¬p (B+1))(hq:Blk w q [.slice none 0 0] ty)(ha:eY at_):
  SeqStopsK Fence.wide n Tryz.prog 146 #[.pointer (some ⟨B,0,none⟩), .pointer (some ⟨B+1,0,none⟩)] PlT.encs (KpQ q p) (λxs=>xs.map (·.1)=dF F.all at_) (λpre=>pre.map (·.1) <+: dF F.all at_) (dF F.all at_).length w:=λl J Jx W0 hW hA _ hY hJ0=>by
 obtain⟨m,hm⟩:∃m,F.many=m:=⟨_,rfl⟩;have hmx:=(aB.cZ.1 hr).2.2.2.2;have hal:=F.gu;rw[hm]at hmx hal;have hB0:=hB.ext hW;have Yw:=hB2.ext hW;have q1:=hB0.cells;have l1:=hB0.lt;have q2:=Yw.cells;have l2:=Yw.lt;have hqw:=hq.lt;have HF:=Hd (hF.ext hW);have HFw:=Hd hF;have HA:=Hd hA;have HY:=Hd hY;have HJ0:=Hd hJ0;have HS:=Hd hS;have HP:=Hd hp;have HW:=Hd hW;have HR:=Hd hr;have HM:=Hd hm;have HAL:=Hd hal;have HBw:=Hd hB;have XI:=Hd hB2;have HBP:=Hd hBp;have HK0:=Hd (KpQ.of_below (p:=p) hqw hW);have HNP:=Hd (show ∀k,¬mO w q k from λk ⟨o,n1,c,h⟩=>by rw[hq.cells]at h;cases h);have hL:=Rz F fa la fl fc ll lc W0 HF.o.at_;rw[if_pos hr,hm]at hL;have HL:=Hd hL;clear hF hB hB2 hB0 Yw hA hY hJ0 hS hp hW hL hr hm hal hq hBp;refine callsIn_of_wp Tryz.func146 rfl trivial (wpIn_wide.2 ?_) rfl;simp only[Tryz.ntmps146,List.size_toArray,List.length_cons,List.length_nil,Nat.reduceAdd,Nat.reduceSub,Array.replicate_succ,Array.replicate_zero,List.push_toArray,List.append_toArray,List.nil_append,List.cons_append];go_wp2_with fail;refine HL.o.mono ?_;rintro e w1 ⟨rfl,hb1⟩;have HJ1:=Hd (HA.o [] W0 w1 none HJ0.o (pI hb1) (λr e=>by cases e));have HK1:=Hd (KpQ.t HK0.o (KpQ.of_below (by have:=HW.o.size;omega) hb1));have hbw:=HW.o.trans (hb1.mono HW.o.size);have hB1:=HBw.o.ext hbw;have Yx:=XI.o.ext hbw;clear q1 l1 q2 l2 HL;have q1:=hB1.cells;have l1:=hB1.lt;have q2:=Yx.cells;have l2:=Yx.lt;have abg:=hbw.size;clear hb1 hbw hB1 Yx;by_cases h0:at_<0
 .have HT:=Hd (show dF F.all at_=[] by unfold dF;rw[if_pos (.inl h0)]);go_wp2;refine bodyPost_ret (results_none rfl _ _ _) rfl ?_;exact⟨⟨_,rfl⟩, .inl ⟨[],HT.o.symm,HJ1.o⟩⟩
 .obtain⟨i,rfl⟩:=Int.eq_ofNat_of_zero_le (show 0<=at_ by omega);by_cases h1:(m:Int)<=(i:Int)
  .have HT:=Hd (show dF F.all (i:Int)=[] by unfold dF;rw[if_pos (.inr (.inl (by rw[HAL.o];exact h1)))]);go_wp2;refine bodyPost_ret (results_none rfl _ _ _) rfl ?_;exact⟨⟨_,rfl⟩, .inl ⟨[],HT.o.symm,HJ1.o⟩⟩
  .have htm:(i:Int).tmod 64=(i:Int)%64:=Int.tmod_eq_emod_of_nonneg oM;by_cases h2:(i:Int)%64=0
   .have HT:=Hd (show dF F.all (i:Int)=[] by unfold dF;rw[if_pos (.inr (.inr h2))]);go_wp2;refine bodyPost_ret (results_none rfl _ _ _) rfl ?_;exact⟨⟨_,rfl⟩, .inl ⟨[],HT.o.symm,HJ1.o⟩⟩
   .have h2':((i:Int)%64==0)=false:=by simp;omega
    obtain⟨f0,hf0⟩:∃f0,i-i%64=f0:=⟨_,rfl⟩;have HT:=Hd (show dF F.all (i:Int)=nK F.all i f0 by unfold dF;rw[if_neg (by rw[HAL.o];omega),Int.toNat_natCast,hf0]);have hwf:IntKind.i64.wrap ((i:Int)-(i:Int)%64)=(f0:Int):=by rw[IntWalk.i64_in _ oM];omega
    have abh:f0%64=0:=oM;have him:i<m:=oM;have hi64:i%64≠0:=oM;have acL:f0+i%64=i:=oM;go_wp2_with fail;have acM:=Hd (And.intro HBw.o XI.o);clear q1 l1 q2 l2 abg h0 h1 h2;refine(wpIn_wide (n:=n)).1 ?_;gi_loopw [5] (λfv wr=>∃(f:Nat) (pre:List PlT),fv= .int .i64 (f:Int)/\f%64=0/\f0<=f/\f<=m+64/\pre.map (·.1)++nK F.all i f=dF F.all (i:Int)/\J pre wr/\KpQ q p w wr) (λfv _=>m+64-(intOf fv).toNat)
    case atStart=>exact⟨f0,[],rfl,abh,Nat.le_refl _,oM,by rw[HT.o];rfl,HJ1.o,HK1.o⟩
    case round=>
     obtain⟨f,pre,rfl,hf,acN,hfm,hpre,hJ,hk⟩:=hrel;have HJ:=Hd hJ;have HK:=Hd hk;have Ua:=Hd hpre;have hfI:(f:Int)<=600000:=oM;have hb1:=hk.blk HBw.o HBP.o.1 (HNP.o B);have hb2:=hk.blk XI.o HBP.o.2 (HNP.o (B+1));have q1:=hb1.cells;have l1:=hb1.lt;have q2:=hb2.cells;have l2:=hb2.lt;have abj:=hk.size;have HFr:=Hd (HFw.o.kpq hk (λb h=>⟨(HS.o b h).2,HNP.o b⟩));clear hJ hk hpre hb1 hb2;by_cases hlt:f<m
     .obtain⟨c,hc⟩:∃c,F.all[f]? =some c:=⟨_,List.getElem?_eq_getElem (by rw[HAL.o];exact hlt)⟩;obtain⟨k,hkk⟩:∃k,min 64 (m-f)=k:=⟨_,rfl⟩;have hlt':(f:Int)<(m:Int):=oM;have hk1:1<=k:=oM;have ZC:k<=64:=oM;have hkm:f+k<=m:=oM;have w1:IntKind.i64.wrap ((m:Int)-(f:Int))=(m:Int)-(f:Int):=IntWalk.i64_in _ oM;have w2:(if (m:Int)-(f:Int)<64 then(m:Int)-(f:Int)else 64)=(k:Int):=by split<;>omega
      have hA:=PV F fa la fl fc ll lc (f:Int) (k:Int) wr S HFr.o (λb h=>by have:=(HS.o b h).1;omega) (by unfold eY;omega) (by unfold eY;omega);rw[PW HR.o (by rw[HM.o];exact hkm)]at hA;have HA2:=Hd hA;have HC:=Hd hc;have HKK:=Hd hkk;clear hA hc hlt hkk;gi_wp2_with fail;refine⟨trivial,(callsIn_wide.2 HA2.o).mono ?_⟩;rintro e w3 ⟨ra,rl,rc,rfl,hR,hb3⟩;have hblk:∀j,j<k->((F.all.drop f).take k)[j]? =F.all[f+j]?:=λj hj=>by rw[List.getElem?_take,if_pos hj,List.getElem?_drop]
      have hrl:rl=k:=by have h:=hR.at_.hlen;rw[List.length_take,List.length_drop,HAL.o]at h;omega
      subst hrl;obtain⟨b0,o0,rfl,hb0,hcell⟩:=hR.at_.hat 0 c (by rw[hblk 0 oM];exact HC.o);rw[Nat.add_zero]at hcell;have HRB:=Hd hR.bound;have HBK:=Hd hblk;have HJ3:=Hd (HA.o pre wr w3 none HJ.o (pI hb3) (λr e=>by cases e));have HK3:=Hd (KpQ.t HK.o (KpQ.of_below oM hb3));have hsz3:=hb3.size;have HPT:=Hd (show ∀b,wr.heap.size<=b->¬mO w3 q b from λb hb ⟨o1,n1,c1,h1⟩=>by
       have h2:mO wr q b:=⟨o1,n1,c1,by rw[<- World.cell?_of_block (hb3.block q oM)];exact h1⟩;rcases HK.o.pts b h2 with h3|h3
       .exact HNP.o b h3
       .omega)
      have abk:=HK3.o.blk HBw.o HBP.o.1 (HNP.o B);have Yy:=HK3.o.blk XI.o HBP.o.2 (HNP.o (B+1));clear q1 l1 q2 l2 hR hblk hb3;have q2:=Yy.cells;have l2:=Yy.lt;clear abk Yy;by_cases hc0:c=0
      .subst hc0;have hcz:w3.cell? ⟨b0,o0,none⟩=some (.int .u8 0):=hcell;obtain⟨i0,hi0,hi1,hi2,hi3⟩:∃i0:Nat,(if IntKind.i64.wrap ((i:Int)-(f:Int))<1 then(1:Int)else IntKind.i64.wrap ((i:Int)-(f:Int)))=(i0:Int)/\1<=i0/\i0<=rl/\nK F.all i f=lU F.all (f+i0):=by
        have hw:IntKind.i64.wrap ((i:Int)-(f:Int))=(i:Int)-(f:Int):=IntWalk.i64_in _ oM;rw[hw];by_cases hfi:f<=i
        .refine⟨i-f,by split<;>omega,oM,by have:=HKK.o;omega,?_⟩;unfold nK;rw[if_pos hfi,if_pos HC.o,show f+(i-f)=i by omega]
        .refine⟨1,by split<;>omega,oM,oM,?_⟩;unfold nK;rw[if_neg hfi,Dz HC.o hf]
       have HI3:=Hd hi3;have hsub:IntKind.i64.wrap ((i:Int)-(f:Int))=(i:Int)-(f:Int):=IntWalk.i64_in _ oM;rw[hsub]at hi0;clear hcell hi3;gi_wp2_with fail;clear hi0 hsub hcz;obtain⟨lo,hlo⟩:∃lo,wr.heap.size=lo:=⟨_,rfl⟩;rw[hlo]at HRB abj hsz3;have abl:=Hd (show ∀b,lo<=b->¬mO w3 q b by rw[<- hlo];exact HPT.o);gi_loopw [8] (λjv wv=>∃(j:Nat) (pre':List PlT),jv= .int .i64 (j:Int)/\1<=j/\j<=rl/\pre'.map (·.1)++lU F.all (f+j)=dF F.all (i:Int)/\J pre' wv/\KpQ q p w wv/\au wv (λb=>lo<=b/\b<w3.heap.size) (some ⟨b0,o0,none⟩) rl rc ((F.all.drop f).take rl)/\(∀b,lo<=b->b<w3.heap.size->¬mO wv q b)/\w3.heap.size<=wv.heap.size) (λjv _=>rl-(intOf jv).toNat)
       case atStart=>exact⟨i0,pre,rfl,hi1,hi2,by have h:=Ua.o;rw[HI3.o]at h;exact h,HJ3.o,HK3.o,HRB.o,λb h1 _=>abl.o b h1,Nat.le_refl _⟩
       case round=>
        obtain⟨j,pre',rfl,hj1,hjl,hpre',hJ',hk',hrow,hpt,XJ⟩:=hrel;have HJ':=Hd hJ';have HK':=Hd hk';have UQ:=Hd hpre';have BP:=Hd hrow;have ZO:=Hd hpt;clear hJ' hk' hpre' hrow hpt;by_cases hjt:j<rl
        .obtain⟨x,hx⟩:∃x,F.all[f+j]? =some x:=⟨_,List.getElem?_eq_getElem (by rw[HAL.o];omega)⟩;obtain⟨b0',o0',e0,_,hxc⟩:=BP.o.at_.hat j x (by rw[HBK.o j hjt];exact hx);cases e0;have XK:=Hd (Ib hx oM);obtain⟨z,hz⟩:∃z,f+j=z:=⟨_,rfl⟩;obtain⟨y,hy⟩:∃y:PlT,y.1=(z,x):=⟨⟨(z,x),by show z<=524288;omega⟩,rfl⟩;have hlen:pre'.length<(dF F.all (i:Int)).length:=by
          rw[<- UQ.o,XK.o];simp
         obtain⟨fn,tmps,assign,body,hy2,hR⟩:=HY.o pre' y wr HJ'.o hlen;dsimp only[PlT.encs]at hy2;rw[hy]at hy2;dsimp only at hy2;have hnx:(pre'++[y]).map (·.1)++lU F.all (f+(j+1))=dF F.all (i:Int):=by
          rw[List.map_append,List.map_singleton,hy,List.append_assoc,<- UQ.o,XK.o,<- hz];rfl
         have HNX:=Hd hnx;have HR:=Hd hR;have w4:IntKind.i64.wrap ((f:Int)+(j:Int))=(z:Int):=by rw[IntWalk.i64_in _ oM];omega
         have hjI:(j:Int)<(rl:Int):=oM;have hJT:=Hd hjt;clear hx hy hlen hnx hR hjt hz;gi_wp2_with fail;refine HR.o.mono ?_;rintro e W5 (⟨rfl,hJ5,hk5⟩|⟨rfl,hx5⟩)
         .have HJ5:=Hd hJ5;have HK5:=Hd hk5;clear hJ5 hk5 HR hxc hy2;gi_wp2_with fail;go_roundw
          case rel=>
           refine⟨j+1,_,by go_num,oM,by have:=hJT.o;omega,HNX.o,HJ5.o,KpQ.t HK'.o HK5.o,BP.o.kpq HK5.o (λb h=>⟨λhpb=>?_,ZO.o b h.1 h.2⟩),λb h1 h2 h3=>?_,Nat.le_trans XJ HK5.o.size⟩
           .have:=HP.o b hpb;have:=h.1;omega
           .rcases HK5.o.pts b h3 with h4|h4
            .exact ZO.o b h1 h2 h4
            .omega
          case measure=>have:=hJT.o;simp[intOf];omega
         .gi_wp2;refine bodyPost_ret (results_none rfl _ _ _) rfl ?_;exact⟨⟨_,rfl⟩, .inr ⟨_,⟨_,HNX.o⟩,hx5⟩⟩
        .obtain rfl:j=rl:=oM;have HNX:=Hd (show pre'.map (·.1)++nK F.all i (f+64)=dF F.all (i:Int) by
          have h:=UQ.o;have hk2:=HKK.o;have e:nK F.all i (f+64)=lU F.all (f+64):=by unfold nK;rw[if_neg oM]
          rw[e];by_cases h64:j=64
          .rw[h64]at h;exact h
          .rw[rU (by rw[HAL.o];omega)]at h;rw[rU (by rw[HAL.o];omega)];exact h)
         have hjI:¬(j:Int)<(j:Int):=oM;have w5:IntKind.i64.wrap ((f:Int)+64)=(f:Int)+64:=IntWalk.i64_in _ oM;clear hjt;gi_wp2_with fail;go_roundw
         case rel=>exact⟨f+64,by go_num,oM,oM,oM,pre',HNX.o,HJ'.o,HK'.o⟩
         case measure=>simp[intOf];omega
      .have hne:((c.toNat:Int) !=0)=true:=by
        simp;intro h;exact hc0 (by rw[<- UInt8.toNat_inj];exact_mod_cast h)
       have HE:=Hd (show nK F.all i f=[] by
        unfold nK;split
        .rw[if_neg (by rw[HC.o];intro h;exact hc0 (Option.some.inj h))]
        .exact DC HC.o hf hc0)
       clear hc0;gi_wp2;refine bodyPost_ret (results_none rfl _ _ _) rfl ?_;exact⟨⟨_,rfl⟩, .inl ⟨pre,by have h:=Ua.o;rw[HE.o,List.append_nil]at h;exact h,HJ3.o⟩⟩
     .have hlt':¬(f:Int)<(m:Int):=oM;have HE:=Hd (show nK F.all i f=[] by unfold nK;rw[if_neg oM];exact rU (by rw[HAL.o];omega));clear hlt;gi_wp2;go_end0
      exact⟨⟨_,rfl⟩, .inl ⟨pre,by have h:=Ua.o;rw[HE.o,List.append_nil]at h;exact h,HJ.o⟩⟩
end Go.Proofs.YtenmnhnlcnmloaaGreat
