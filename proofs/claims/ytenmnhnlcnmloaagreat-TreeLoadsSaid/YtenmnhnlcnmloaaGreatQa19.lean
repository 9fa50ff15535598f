/- Part of a proof of a law of the layer of trees. -/
import Derived.Test.YtenmnhnlcnmloaaGreatQa18
import Derived.Test.YtenmnhnlcnmloaaGreatQa10
import Derived.Test.YtenmnhnlcnmloaaGreatQa07
import Derived.RangeFuncNested
import Derived.RangeFuncCalls
import Derived.OrdersIn
import Derived.Test.YtenmnhnlcnmloaaGreatQa01
set_option linter.unusedVariables false
set_option linter.unusedSimpArgs false
set_option maxHeartbeats 8000000
set_option maxRecDepth 8000
namespace Go.Dav
open Go Go.RowKit
theorem Ci{W w1:World}{n₀ B:Nat}{t e:TypeId}{size:Nat}{v v':Value}{k m:Nat}{xs ys:List Value}
  (hv:Boxed W B t v) (hte:t≠e) (hrow:W.ownsRow n₀ e size v k xs) (hn₀:n₀<=W.heap.size) (hB:n₀<=B)
  (hown':w1.ownsRow n₀ e size v' m ys) (hgrow:W.grownBy w1 v.ownBlock):
  Boxed w1 B t v/\Boxed (w1.setCell ⟨B,0,none⟩ v') B t v'/\(w1.setCell ⟨B,0,none⟩ v').ownsRow n₀ e size v' m ys/\KeepsOthers W (w1.setCell ⟨B,0,none⟩ v')/\Below n₀ W (w1.setCell ⟨B,0,none⟩ v')/\
   ∀(q:Nat) (cs:List Value) (t':TypeId),t'≠e->q≠B->Blk W q cs t'->Blk (w1.setCell ⟨B,0,none⟩ v') q cs t':=by
 have hv1:Boxed w1 B t v:=hv.kept hgrow (hv.not_row hte hrow);refine⟨hv1,hv1.set v',hown'.kept (grownBy_setCell' w1 B v') (.inr (hv1.not_row hte hown').symm),?_,?_,?_⟩
 .refine(KeepsOthers.of_grownBy hgrow λj o ej hj=>?_).trans (KeepsOthers.setCell _ _ _);rcases hrow.2 with⟨rfl,_⟩|⟨g,cap,cur,rfl,_,hgb,_⟩
  .simp[Value.ownBlock]at ej
  .obtain rfl:g=j:=by simpa[Value.ownBlock]using ej
   rw[hgb]at hj;cases hj;rfl
 .refine((Below.refl n₀ W).grown hgrow hn₀ λj ej=>?_).setCell (p:=⟨B,0,none⟩) hB v';rcases hrow.2 with⟨rfl,_⟩|⟨g,cap,cur,rfl,hb,_,_⟩
  .simp[Value.ownBlock]at ej
  .obtain rfl:g=j:=by simpa[Value.ownBlock]using ej
   exact hb
 .intro q cs t' ht hq hb;refine Blk.other (q:=B) (W:=w1) ?_ hq 0 v';refine(hgrow.block q hb.lt λe'=>?_).trans hb;rcases hrow.2 with⟨rfl,_⟩|⟨g,cap,cur,rfl,_,hgb,_⟩
  .simp[Value.ownBlock]at e'
  .obtain rfl:q=g:=by simpa[Value.ownBlock]using e'
   rw[show W.heap[q]? =_ from hb]at hgb;cases hgb;exact ht rfl
theorem Ah{β:Type}(B:Nat)(cs:List Value)(t:TypeId):Own (λ(_:β) W=>Blk W B cs t):=λs X Y row h hg hr=>
 (hg.block B h.lt λe=>by
  obtain⟨o,ho,hc⟩:=hr B e.symm;rw[show X.heap[B]? =_ from h]at ho;cases ho;cases hc).trans h
theorem bP.PO{W:World}{S:Nat->Prop}{a:Option Addr}{n D:Nat}{xs:List Value}{o:Obj}(h:bP W S a n xs)(hl:W.heap[D]? =some o)(ho:o.isCells=false):bP W (λb=>S b/\b≠D) a n xs:=
 ⟨h.len,λk v hk=>by
  obtain⟨b,i,h1,h2,h3,h4⟩:=h.at_ k v hk;refine⟨b,i,h1,h2,⟨h3,λe=>?_⟩,h4⟩;subst e;unfold World.cell? at h4;simp only[hl]at h4;cases o<;>first|cases h4|cases ho⟩
theorem lS{W:World}{D k:Nat}{o:Obj}(hk:k<W.heap.size)(hne:k≠D):(W.putObj D o).heap[k]? =W.heap[k]?:=(grownBy_putObj' W D o).block k hk (by intro e;cases e;exact hne rfl)
def told{W:World}{S:Nat->Prop}(xs:List (RunT W S)):List UInt8:=(xs.map λx=>x.1.l).flatten
section
variable{P:Program}{ops:Array Oper}
def JL(Q:Exit->Act->World->Prop):Exit->Act->World->Prop
 | .normal=>Q .normal
 |_=>λ_ _=>False
theorem yE{Q:Exit->Act->World->Prop}{a:Act}{w:World}(h:Q .normal a w):JL Q .normal a w:=h
theorem uY{ops:List Oper}{Q:Exit->Act->World->Prop}{a:Act}{w:World}(n:Nat)(F:List Nat)(ps:Nat->Value ⊕ (Value->World->Prop))(hB:gW ops.toArray n F=true)
  (hst:∀j R,ps j= .inr R->∀v W W',R v W->Below W.heap.size W W'->R v W')
  (hQ:∀c a d v w,Q (.panic c) (Act.put a d v) w->Q (.panic c) a w)
  (hop:∀vs i,i<n->lZ P ops.toArray ps a w vs i)
  (hend:∀vs W,Below w.heap.size w W->kF ps vs W n->wpList P ops.toArray Q (ops.drop n) (lay ops.toArray vs a n) W):wpAny P .any ops.toArray Q ops.toArray.size (Array.replicate ops.toArray.size false) a { w with drawn:=w.drawn+1}:=by
 have hn:n<ops.toArray.size:=by
  simp only[gW,Bool.and_eq_true,decide_eq_true_eq]at hB;exact hB.1.1.1.1.2
 have he:Below w.heap.size w { w with drawn:=w.drawn+1}:=(Below.refl _ _).drew;have hc:∀m,cnt (Array.replicate ops.toArray.size false) m=m:=λm=>by
  induction m with
  |zero=>rfl
  |succ m ih=>rw[cnt,ih,getD_replicate_false];rfl
 have:=vH (P:=P) (ops:=ops.toArray) (l:=ops.drop n) (λj=>by simp[List.getElem?_drop]) (by simp) hB hst hQ hop hend n (Array.replicate ops.toArray.size false) (λ_=>undef) a { w with drawn:=w.drawn+1}
  ⟨by simp,λj oj _ hl=>(by rw[getD_replicate_false]at hl;cases hl),λt _ ht=>getD_in (by simpa using ht) (getD_replicate_false _ _)⟩
  ⟨he,rfl,rfl,λt=>?_,λj _ hl=>(by rw[getD_replicate_false]at hl;cases hl)⟩ (hc n)
 .rwa [show n+(ops.toArray.size-n)=ops.toArray.size by omega]at this
 .unfold dR;rw[show eX ops.toArray (λj=>(Array.replicate ops.toArray.size false).getD j false) t n=none from ?_];cases h:eX ops.toArray (λj=>(Array.replicate ops.toArray.size false).getD j false) t n with
  |none=>rfl
  |some j=>have:=(bC h).2.1;rw[getD_replicate_false]at this;cases this
theorem xI{l:List Oper}{Q:Exit->Act->World->Prop}{a:Act}{w:World}(F:List Nat)(ps:List Piece)(hB:gW l.toArray ps.length F=true)
  (h:dY P l.toArray w (JL Q) l ps [] a):wpAny P .any l.toArray (JL Q) l.toArray.size (Array.replicate l.toArray.size false) a { w with drawn:=w.drawn+1}:=by
 have hn:ps.length<=l.length:=by
  simp only[gW,Bool.and_eq_true,decide_eq_true_eq]at hB;have:=hB.1.1.1.1.2;simp at this;omega
 have hsel:Region.noSelect l.toArray=true:=by
  simp only[gW,Bool.and_eq_true]at hB;exact hB.1.1.1.1.1.1.1
 have spec:=λvs=>sO (P:=P) (ops:=l.toArray) (w:=w) (Q:=JL Q) (a:=a) (qs:=λi=>(ps[i]?).getD (.inl undef)) vs l ps 0 (λj=>by simp) (λj p hj=>by simp[hj]) hn h;refine uY ps.length F (λi=>(ps[i]?).getD (.inl undef)) hB ?_ (λ_ _ _ _ _ h=>h) ?_ ?_
 .intro j R hj;by_cases hlt:j<ps.length
  .exact(spec (λ_=>undef)).2.1 j R oM oM hj
  .have:ps[j]? =none:=by simp;omega
   simp[this]at hj
 .intro vs i hi;unfold lZ;obtain⟨o,ho,hs⟩:=(spec vs).1 i oM oM;rw[ho];intro W hW hd;have hs:=hs W hW (wZ hd);have looks:∀t∈o.looksAt l.toArray,(lay l.toArray (fixed (λi=>(ps[i]?).getD (.inl undef)) vs) a i).tmps[t]? =(lay l.toArray vs a i).tmps[t]?:=by
   intro t ht;rw[dM,dM];unfold dR;cases hc:eX l.toArray (λ_=>true) t i with
   |none=>rfl
   |some j=>
    obtain⟨c1,_,c3,_⟩:=bC hc;simp only;rw[kV (iR hd j t c1 c3 ht)]
  rw[gy looks]at hs;simp only;split
  .rename_i hw;rw[if_pos hw]at hs;refine hs.kE (iI (λcs b=>Region.noSelect_spec hsel i o cs b ho) (λt ht=>(looks t ht).symm))
  .rename_i hw;rw[if_neg hw]at hs;exact hs
 .intro vs W hW hall;have:=(spec vs).2.2 W hW (sK (by simpa using hall));have e:lay l.toArray (fixed (λi=>(ps[i]?).getD (.inl undef)) vs) a ps.length=lay l.toArray vs a ps.length:=oD (λt=>by
   rw[dM,dM];unfold dR;cases hc:eX l.toArray (λ_=>true) t ps.length with
   |none=>rfl
   |some j=>
    obtain⟨c1,_,_,_⟩:=bC hc;simp only;rw[kV (kH hall j c1)]) (by rw[eP,eP])
  rw[Nat.zero_add,e]at this;exact this
def Ai(o:Oper):Bool:=match o.op with
 | .defer _=>false
 |_=>true
theorem Hw{o:Oper}(h:Ai o=true):∀c,o.op≠ .defer c:=λc e=>by
 unfold Ai at h;rw[e]at h;cases h
theorem UJ{r n i:Nat}{Q:Exit->Act->World->Prop}{K K':Act->World->Prop}{a:Act}{w:World}(hd:∀(i:Nat) (o:Oper),ops[i]? =some o->Ai o=true)(hk:∀a w,K a w->K' a w)(h:wpOp P ops (JL Q) i K a w):wpOpIn (Fence.wide.inRound r) n P ops Q i K' a w:=by
 unfold wpOp at h;unfold wpOpIn;cases ho:ops[i]? with
 |none=>rw[ho]at h;exact hk _ _ h
 |some o=>
  rw[ho]at h;simp only at h⊢;by_cases hw:Region.wanted o (yielded ops a.tmps)=true
  .rw[if_pos hw]at h⊢;rcases h with h|⟨_,_,_,h⟩
   .refine⟨λ_ _=>trivial,?_⟩;rw[Oper.semAt_eq _ _ _ (Hw (hd i o ho))];unfold Oper.wp at h;cases hx:(execOp a.eval o).run P w with
    |ok x w'=>
     rw[hx]at h;cases x with
     |value v=>exact hk _ _ h
     |skip=>exact hk _ _ h
     |defer d=>exact hk _ _ h
     |enter f args=>
      refine⟨λh=>(by cases h),CallsIn.inRound r (callsIn_wide.2 (Calls.mono h λe w'' he=>?_))⟩;cases e with
      |returned v=>exact hk _ _ he
      |panicked c=>exact he.elim
      |outgrown=>obtain⟨_,_,he⟩:=he;exact he.elim
     |row row args=>
      refine⟨λh=>(by cases h),λc cs _=>?_⟩;obtain⟨v,w'',h1,h2⟩:=h c cs;exact⟨v,w'',hk _ _ h1,stepsIn_wide.2 h2⟩
     |round=>exact h.elim
     |_=>exact h.elim
    |halt x w'=>
     rw[hx]at h;cases x<;>exact h.elim
   .exact h.elim
  .rw[if_neg hw]at h⊢;exact⟨λ_ _=>trivial,hk _ _ h⟩
theorem KY{r n:Nat}{Q:Exit->Act->World->Prop}(hd:∀(i:Nat) (o:Oper),ops[i]? =some o->Ai o=true):∀(fuel:Nat) (listed:Array Bool) (a:Act) (w:World),wpAny P .any ops (JL Q) fuel listed a w->wpAnyIn (Fence.wide.inRound r) n P .any ops Q fuel listed a w
 |0,listed,a,w,h=>h
 |fuel+1,listed,a,w,h=>⟨h.1,λi hi=>UJ hd (KY hd fuel _) (h.2 i hi)⟩
theorem qN{r n id:Nat}{l:List Oper}{Q:Exit->Act->World->Prop}{a:Act}{w:World}(F:List Nat)(ps:List Piece)(hm:P.follows .mixedOrders=true)(hd:l.all Ai=true)(hB:gW l.toArray ps.length F=true)
  (h:dY P l.toArray w (JL Q) l ps [] a):(Code.region id l.toArray true).wpIn (Fence.wide.inRound r) n P Q a w:=
 wpIn_region_any hm (KY (λi o ho=>List.all_eq_true.1 hd o (List.mem_of_getElem? (i:=i) (by simpa using ho))) _ _ _ _ (xI F ps hB h))
end
def aB.read(F:aB)(at_ n:Int):List UInt8×Int:=
 if F.right=true then(if at_<0\/n<0 then([],2)else if (F.many:Int)-at_<n then([],6)else((F.all.drop at_.toNat).take n.toNat,0))else([],200)
def Aj(w:World)(x:List UInt8)(err:Int)(e:Ending)(w':World):Prop:=
 ∃a n c,e= .returned (.tuple #[.slice a n c, .int .i64 err])/\au w' (λb=>w.heap.size<=b) a n c x/\Below w.heap.size w w'
def part{W:World}{S:Nat->Prop}(at_ n:Nat)(x:RunT W S):List UInt8:=(x.1.l.take (at_+n-x.1.at_.toNat)).drop (at_-x.1.at_.toNat)
def fV{W:World}{S:Nat->Prop}(at_ n:Nat)(xs:List (RunT W S)):List UInt8:=(xs.map (part at_ n)).flatten
theorem Ak{W:World}{S:Nat->Prop}(at_ n:Nat)(xs:List (RunT W S))(x:RunT W S):fV at_ n (xs++[x])=fV at_ n xs++part at_ n x:=by simp[fV]
def rowsOf(at_ n:Nat):Nat->List (List UInt8)->List UInt8
 |_,[]=>[]
 |o,l::ls=>(l.take (at_+n-o)).drop (at_-o)++rowsOf at_ n (o+l.length) ls
theorem Am(at_ n:Nat):∀(ls:List (List UInt8)) (o:Nat),rowsOf at_ n o ls=(ls.flatten.take (at_+n-o)).drop (at_-o)
 |[],o=>by simp[rowsOf]
 |l::ls,o=>by
  rw[rowsOf,Am at_ n ls,List.flatten_cons,List.take_append,List.drop_append,List.length_take];congr 1
  by_cases h:l.length<=at_+n-o
  .rw[Nat.min_eq_right h,Nat.sub_sub,Nat.sub_sub]
  .have h1:at_+n-o-l.length=0:=oM;have h2:at_+n-(o+l.length)=0:=oM;rw[h1,h2];simp
theorem uZ{W:World}{S:Nat->Prop}(at_ n:Nat):∀(xs:List (RunT W S)) (o:Nat),(∀(j:Nat) x,xs[j]? =some x->x.1.at_=((o+((xs.take j).map λy=>y.1.l.length).sum:Nat):Int))->fV at_ n xs=rowsOf at_ n o (xs.map λy=>y.1.l)
 |[],o,_=>rfl
 |x::xs,o,h=>by
  have h0:=h 0 x rfl;have ih:=uZ at_ n xs (o+x.1.l.length) λj y hy=>by
   have:=h (j+1) y (by simpa using hy);rw[this,List.take_succ_cons,List.map_cons,List.sum_cons];omega
  have e:fV at_ n (x::xs)=part at_ n x++fV at_ n xs:=by simp[fV]
  have e2:x.1.at_.toNat=o:=by rw[h0];simp
  rw[e,ih,List.map_cons,rowsOf];unfold part;rw[e2]
theorem Hy(F:aB)(j:Nat):Hu F j=(((F.jH::F.loose).take j).map List.length).sum:=by cases j<;>simp[Hu,sumTo]
theorem lQ.at_{W:World}{S:Nat->Prop}{F:aB}{k:Nat}{xs:List (RunT W S)}(h:lQ F k xs):∀(j:Nat) x,xs[j]? =some x->x.1.at_=((0+((xs.take j).map λy=>y.1.l.length).sum:Nat):Int):=λj x hj=>by
 have hjl:=(List.getElem?_eq_some_iff.1 hj).1;have hlen:xs.length=min k (F.loose.length+1):=by
  have h1:=congrArg List.length h.1;rw[List.length_map,List.length_take,List.length_cons]at h1;exact h1
 rw[h.2 j x hj,Hy];have e:(F.jH::F.loose).take j=(xs.take j).map λy=>y.1.l:=by
  rw[List.map_take,h.1,List.take_take,Nat.min_eq_left oM]
 rw[e,List.map_map];simp[Function.comp_def]
theorem Nh{W:World}{S:Nat->Prop}{F:aB}{xs:List (RunT W S)}(at_ n:Nat)(h:lQ F (F.loose.length+1) xs):fV at_ n xs=(F.all.drop at_).take n:=by
 rw[uZ at_ n xs 0 h.at_,Am,h.1,List.take_of_length_le (l:=F.jH::F.loose) (i:=F.loose.length+1) (by simp)];simp[aB.all,List.drop_take]
theorem JM{W:World}{S:Nat->Prop}{F:aB}{k:Nat}{xs:List (RunT W S)}{x:RunT W S}(at_ n:Nat)(h:lQ F k (xs++[x]))(hx:((at_+n:Nat):Int)<=x.1.at_):fV at_ n xs=(F.all.drop at_).take n:=by
 have h1:lQ F xs.length xs:=by
  refine⟨?_,λj y hy=>h.2 j y (by rw[List.getElem?_append_left (List.getElem?_eq_some_iff.1 hy).1];exact hy)⟩;have h2:=congrArg (List.take xs.length) h.1;have hlen:xs.length+1=min k (F.loose.length+1):=by
   have h1:=congrArg List.length h.1;rw[List.length_map,List.length_take,List.length_cons,List.length_append]at h1;exact h1
  rw[List.map_append,List.take_append_of_le_length (by simp),List.take_of_length_le (by simp),List.take_take,Nat.min_eq_left oM]at h2;exact h2
 have h3:=h.2 xs.length x (by simp);rw[h3,Hy]at hx;rw[uZ at_ n xs 0 h1.at_,Am,h1.1];have e:F.all=((F.jH::F.loose).take xs.length).flatten++((F.jH::F.loose).drop xs.length).flatten:=by
  rw[<- List.flatten_append,List.take_append_drop];rfl
 rw[e,List.take_drop,List.take_append_of_le_length (by rw[List.length_flatten];omega)];simp
theorem bP.part{W:World}{S:Nat->Prop}{b o n lo hi:Nat}{xs:List Value}(h:bP W S (some ⟨b,o,none⟩) n xs)(h1:lo<=hi)(h2:hi<=n):bP W S (some ⟨b,o+lo,none⟩) (hi-lo) ((xs.take hi).drop lo):=
 ⟨by rw[List.length_drop,List.length_take,h.len];omega,λk v hk=>by
  rw[List.getElem?_drop]at hk;have hlt:=(List.getElem?_eq_some_iff.1 hk).1;rw[List.length_take]at hlt;rw[List.getElem?_take_of_lt oM]at hk;obtain⟨b',o',g1,g2,g3,g4⟩:=h.at_ _ v hk;cases g1;exact⟨b,o+lo,rfl,g2,g3,by rw[Nat.add_assoc];exact g4⟩⟩
end Go.Dav
namespace Go.Proofs.YtenmnhnlcnmloaaGreat
open Go.RowKit Go.Dav
attribute [local go_sem] Gives ite_val ay
theorem KZ{w4 w5 w6:World}{T:Nat->Prop}{fa la:Option Addr}{fl fc ll lc p q:Nat}{F:aB}(h:fB w4 T fa fl fc la ll lc F)(hT:∀b,T b->b≠p/\b≠q)(h1:Only p w4 w5)(h2:Only q w5 w6):fB w6 T fa fl fc la ll lc F:=
 (h.same h1.size λb hb hlt=>h1.block b hlt (hT b hb).1).same h2.size λb hb hlt=>h2.block b hlt (hT b hb).2
theorem aB.Nj(F:aB)(more:Int):(F.asked more).1.jH=F.jH/\(F.asked more).1.loose=F.loose:=by
 unfold aB.asked;repeat' split
 all_goals exact⟨rfl,rfl⟩
theorem Cj(F:aB)(fa la ba:Option Addr)(fl fc ll lc bl bc:Nat)(x:List UInt8)(w:World)(S Sb:Nat->Prop)(hF:fB w S fa fl fc la ll lc F)(hS:∀b,S b->b<w.heap.size)(hr:F.right=true)(hx:au w Sb ba bl bc x):
  Calls Tryz.prog 166 #[.agg #[.slice fa fl fc, .slice la ll lc, .int .i64 F.fuse, .int .i64 F.fault, .bool F.off], .slice ba bl bc] w (FI w S (F.op x.length λG=> { G with loose:=G.loose++[x]}).1 (F.op x.length λG=> { G with loose:=G.loose++[x]}).2):=by
 have hW:Below w.heap.size w ((w.alloc (.cells [.slice fa fl fc, .slice la ll lc, .int .i64 F.fuse, .int .i64 F.fault, .bool F.off].toArray 32)).alloc (.cells #[.slice none 0 0, .slice none 0 0, .int .i64 0, .int .i64 0, .bool false] 32)):=bW;have hf0:=(Blk.new w [.slice fa fl fc, .slice la ll lc, .int .i64 F.fuse, .int .i64 F.fault, .bool F.off] 32).alloc (o:=(.cells #[.slice none 0 0, .slice none 0 0, .int .i64 0, .int .i64 0, .bool false] 32));have B0:=Blk.new' (w.alloc (.cells [.slice fa fl fc, .slice la ll lc, .int .i64 F.fuse, .int .i64 F.fault, .bool F.off].toArray 32)) [.slice none 0 0, .slice none 0 0, .int .i64 0, .int .i64 0, .bool false] 32 (p:=w.heap.size+1) (by simp);have hxl:=hx.at_.hlen;have hxf:=hx.at_.hfew;obtain⟨F1,e1,hV⟩:∃F1 e1,F.asked bl=(F1,e1):=⟨_,_,rfl⟩;have hsame:=aB.Nj F bl;have hC:=Nb F fa la fl fc ll lc bl _ S (hF.ext hW) hr hxf;rw[hV]at hC hsame;have hop:F.op x.length (λG=> { G with loose:=G.loose++[x]})=if e1=0 then({ F1 with loose:=F1.loose++[x]},0)else(F1,e1):=by
  unfold aB.op;rw[if_pos hr,hxl,hV]
 have HOP:=Hd hop;have HC:=Hd hC;have HX:=Hd hx;have HS:=Hd hS;have HSM:=Hd hsame;have HB0:=Hd B0;have HF0:=Hd hf0;have HR:=Hd (aB.cZ.1 hr);have HXL:=Hd hxl;clear hW hf0 B0 hop hC hx hS hV hsame hF hxl;go_enter Tryz.func166,Tryz.ntmps166;go_wp2_with fail;refine HC.o.mono ?_;rintro e w1 ⟨ga,gl,gc,ma,ml,mc,rfl,hR1,hb1⟩;have s1:=hb1.size;simp only[World.size_alloc]at s1;have B1:=HB0.o.ext hb1;have G1:=HF0.o.ext hb1;have q1:=B1.cells;have m1:=B1.marks;have q2:=G1.cells;have m2:=G1.marks;have l1:=B1.lt;have l2:=G1.lt;have HR1:=Hd hR1;have bel:Below w.heap.size w w1:=(by have hz:=hb1;exact bV);have HB1:=Hd B1;have HG1:=Hd G1;have n12:w.heap.size≠w.heap.size+1:=oM;clear hR1 B1 G1 HC;by_cases he:e1=0
 .subst he;have HV:=Hd (HOP.o.trans (if_pos rfl));obtain⟨vs,hvs,hpc⟩:=HR1.o.loose.open_;have hml:ml<=524288:=by
   have h2:=HR1.o.loose.hlen;have h4:=HR.o.1;have h3:=Eo h4;have h1:=HR.o.2.2.2.2;have h5:=HSM.o.2;unfold aB.many at h1;rw[h5]at h2;omega
  have HVS:=Hd hvs;have HPC:=Hd hpc;have HMN:=Hd HR1.o.loose.hnil;clear hvs hpc;have hO:Only w.heap.size w1 (((((w1.setCell ⟨w.heap.size,0,none⟩ (.slice ga gl gc)).setCell ⟨w.heap.size,1,none⟩ (.slice ma ml mc)).setCell ⟨w.heap.size,2,none⟩ (.int .i64 F1.fuse)).setCell ⟨w.heap.size,3,none⟩ (.int .i64 F1.fault)).setCell ⟨w.heap.size,4,none⟩ (.bool F1.off)):=(by repeat (first|(with_reducible exact Only.refl _ _)|(with_reducible refine Only.set ?_ _ _)|(with_reducible refine Only.alloc ?_ _)|(with_reducible refine Only.drew ?_)))
  have hne:∀b,Or S ((w.alloc (.cells [.slice fa fl fc, .slice la ll lc, .int .i64 F.fuse, .int .i64 F.fault, .bool F.off].toArray 32)).alloc (.cells #[.slice none 0 0, .slice none 0 0, .int .i64 0, .int .i64 0, .bool false] 32)) b->b≠w.heap.size:=λb h=>by
   rcases h with h|h
   .have:=HS.o b h;omega
   .simp at h;omega
  have hszA:(((((w1.setCell ⟨w.heap.size,0,none⟩ (.slice ga gl gc)).setCell ⟨w.heap.size,1,none⟩ (.slice ma ml mc)).setCell ⟨w.heap.size,2,none⟩ (.int .i64 F1.fuse)).setCell ⟨w.heap.size,3,none⟩ (.int .i64 F1.fault)).setCell ⟨w.heap.size,4,none⟩ (.bool F1.off)).heap.size=w1.heap.size:=by simp
  have HVA:=Hd (HVS.o.same hO.size λb h hlt=>hO.block b hlt (hne b h));have HPA:=Hd (HPC.o.same hO.size λb h hlt=>hO.block b hlt (hne b h));have HFA:=Hd (HR1.o.jH.same hO.size λb h hlt=>hO.block b hlt (hne b h));have HGA:=Hd (((((HG1.o.set 0 (.slice ga gl gc)).set 1 (.slice ma ml mc)).set 2 (.int .i64 F1.fuse)).set 3 (.int .i64 F1.fault)).set 4 (.bool F1.off));have HBA:=Hd (HB1.o.only hO oM);have WA:Below w.heap.size w (((((w1.setCell ⟨w.heap.size,0,none⟩ (.slice ga gl gc)).setCell ⟨w.heap.size,1,none⟩ (.slice ma ml mc)).setCell ⟨w.heap.size,2,none⟩ (.int .i64 F1.fuse)).setCell ⟨w.heap.size,3,none⟩ (.int .i64 F1.fault)).setCell ⟨w.heap.size,4,none⟩ (.bool F1.off)):=(by have hz:=bel;exact bV);have HOO:=Hd hO;have HSZ:=Hd hszA;have WB:=Hd WA;clear hO hne hszA WA;go_wp2_with (first|(at_builtin;refine ak rfl (.tmp 17) (.tmp 19) 30 rfl uj w1.heap.size _ 0 [] rfl (World.ownsRow_nil _ _ _ _) (Or S ((w.alloc (.cells [.slice fa fl fc, .slice la ll lc, .int .i64 F.fuse, .int .i64 F.fault, .bool F.off].toArray 32)).alloc (.cells #[.slice none 0 0, .slice none 0 0, .int .i64 0, .int .i64 0, .bool false] 32))) ma ml mc vs rfl HVA.o HPC.o.one HMN.o (by unfold maxLen;omega) oM (by simp) ?_;intro v1 w2 hown1 hgrow1;rw[Nat.zero_add,List.nil_append]at hown1;have hb2:=Hd ((Below.refl w1.heap.size _).grown hgrow1 (by simp) (λk hk=>by cases hk));have Yn:=Hd hown1;have hs2:=hb2.o.size;(try rw[HSZ.o]at hs2);clear hgrow1 hown1 q1 m1 q2 m2 HVA)|(at_builtin;refine ak rfl (.tmp 22) (.tmp 23) 22 rfl aF w2.heap.size _ 0 [] rfl (World.ownsRow_made (e:=5) (size:=1) w2 #[] 0 (Nat.le_refl _) (by unfold maxLen;omega) rfl) Sb ba bl bc (u8s x) rfl ((HX.o.ext (WB.o.trans (hb2.o.mono oM))).ext ((Below.refl _ _).alloc (Nat.le_refl _) _)).cells (iy x) HX.o.at_.hnil (by unfold maxLen;omega) oM (by simp) ?_;intro v2 w3 hown2 hgrow2;rw[Nat.zero_add,List.nil_append]at hown2;obtain⟨a2,c2,rfl,hB2⟩:=fM hown2 hxf;have hb3:=Hd (((Below.refl w2.heap.size w2).alloc (Nat.le_refl _) _).grown hgrow2 (by simp) (λk hk=>(World.ownsRow_made (e:=5) (size:=1) w2 #[] 0 (Nat.le_refl _) (by unfold maxLen;omega) rfl).lt k hk|>.1));have HB2:=Hd hB2;have hs3:=hb3.o.size;clear hown2 hgrow2 hB2 HX)|(at_builtin;refine ak rfl (.tmp 21) (.tmp 25) 30 rfl uj w1.heap.size _ ml vs rfl ((aK Yn.o hb3.o).alloc _) (λ_=>True) (some ⟨w3.heap.size,0,none⟩) 1 1 [.slice a2 bl c2] rfl (cells_one trivial (by simp) ((Blk.new w3 [_] _).cell 0 rfl)) (by simp[Value.oneCell']) (λh=>by cases h) (by unfold maxLen;omega) oM (by simp;omega) ?_;intro v3 w4 hown3 hgrow3;obtain⟨a3,c3,rfl,hk1,hk2,hk3,hC3⟩:=bf hown3;have hb4:=Hd (aV (B:=w1.heap.size) (W0:=w3) bW (by simp;omega) ((aK Yn.o hb3.o).alloc _) (Nat.le_refl _) hgrow3);have HC3:=Hd hC3;have HSM:=Hd (show ∀b,w2.heap.size<=b->b<w3.heap.size->w4.heap[b]? =w3.heap[b]? from λb h1 h2=>(hgrow3.block b (by simp;omega) (λe=>by have:=(Yn.o.lt b e.symm).2;omega)).trans (Below.heap_alloc w3 _ b h2));have hs4:=hb4.o.size;have UK:=Hd (hb2.o.trans ((hb3.o.mono oM).trans hb4.o));have G4:=HGA.o.below UK.o oM;have B4:=HBA.o.below UK.o oM;have qg:=G4.cells;have mg:=G4.marks;have qb:=B4.cells;have mb:=B4.marks;have lg:=G4.lt;have lb:=B4.lt;simp only[List.set_cons_zero,List.set_cons_succ]at qg;have HG4:=Hd G4;have HB4:=Hd B4;clear hown3 hgrow3 hC3 G4 B4))
  rw[HV.o];have hr2:=((((((HB4.o.other (q:=w.heap.size) oM 1 (.slice a3 (ml+1) c3)).set 0 (.slice ga gl gc)).set 1 (.slice a3 (ml+1) c3)).set 2 (.int .i64 F1.fuse)).set 3 (.int .i64 F1.fault)).set 4 (.bool F1.off));have c2:=hr2.cells;simp only[List.set_cons_zero,List.set_cons_succ]at c2;have hszA:=HSZ.o;have hf4:=HFA.o.same UK.o.size (λb _ h2=>UK.o.block b oM);have hp4:=HPA.o.same UK.o.size (λb _ h2=>UK.o.block b oM);have hx4:=HB2.o.same (W':=w4) hb4.o.size (λb h1 h2=>HSM.o b h1 h2);have Yo:fB w4 (Or S ((w.alloc (.cells [.slice fa fl fc, .slice la ll lc, .int .i64 F.fuse, .int .i64 F.fault, .bool F.off].toArray 32)).alloc (.cells #[.slice none 0 0, .slice none 0 0, .int .i64 0, .int .i64 0, .bool false] 32))) ga gl gc a3 (ml+1) c3 { F1 with loose:=F1.loose++[x]}:=
   ⟨hf4,gK.Ya (HC3.o.mono λb h=>Or.inr (by simp;omega)) (dI.append hp4 ((LY hx4).mono λb h=>Or.inr (by simp;omega))) hk1 hk2 oM hk3,HR1.o.fuse,HR1.o.fault⟩
  refine bodyPost_ret (v:= .tuple #[.agg #[.slice ga gl gc, .slice a3 (ml+1) c3, .int .i64 F1.fuse, .int .i64 F1.fault, .bool F1.off], .int .i64 0]) (by simp[results,Tryz.results166,go_sem,c2]) rfl ⟨ga,gl,gc,a3,ml+1,c3,rfl,?_,?_⟩
  .refine(KZ Yo (p:=w.heap.size) (q:=w.heap.size+1) (λb h=>?_) ((by repeat (first|(with_reducible exact Only.refl _ _)|(with_reducible refine Only.set ?_ _ _)|(with_reducible refine Only.alloc ?_ _)|(with_reducible refine Only.drew ?_))):Only w.heap.size w4 (w4.setCell ⟨w.heap.size,1,none⟩ (.slice a3 (ml+1) c3))) (by repeat (first|(with_reducible exact Only.refl _ _)|(with_reducible refine Only.set ?_ _ _)|(with_reducible refine Only.alloc ?_ _)|(with_reducible refine Only.drew ?_)))).mono λb h=>?_
   .rcases h with h|h
    .have:=HS.o b h;omega
    .simp at h;omega
   .rcases h with h|h
    .exact .inl h
    .exact .inr (by simp at h;omega)
  .have aa5:=WB.o.trans (UK.o.mono oM);exact(by have hz:=aa5;exact bV)
 .have he':(e1==0)=false:=by simp[he]
  have HV:=Hd (HOP.o.trans (if_neg he));clear he;go_wp2;rw[HV.o];have hr2:=((((HB1.o.other (q:=w.heap.size) oM 0 (.slice ga gl gc)).other (q:=w.heap.size) oM 1 (.slice ma ml mc)).other (q:=w.heap.size) oM 2 (.int .i64 F1.fuse)).other (q:=w.heap.size) oM 3 (.int .i64 F1.fault)).other (q:=w.heap.size) oM 4 (.bool F1.off);have c2:=(((((hr2.set 0 (.slice ga gl gc)).set 1 (.slice ma ml mc)).set 2 (.int .i64 F1.fuse)).set 3 (.int .i64 F1.fault)).set 4 (.bool F1.off)).cells;simp only[List.set_cons_zero,List.set_cons_succ]at c2;refine bodyPost_ret (v:= .tuple #[.agg #[.slice ga gl gc, .slice ma ml mc, .int .i64 F1.fuse, .int .i64 F1.fault, .bool F1.off], .int .i64 e1]) (by simp[results,Tryz.results166,go_sem,c2]) rfl ⟨ga,gl,gc,ma,ml,mc,rfl,?_,?_⟩
  .refine(KZ HR1.o (p:=w.heap.size) (q:=w.heap.size+1) (λb h=>?_) ((by repeat (first|(with_reducible exact Only.refl _ _)|(with_reducible refine Only.set ?_ _ _)|(with_reducible refine Only.alloc ?_ _)|(with_reducible refine Only.drew ?_))):Only w.heap.size w1 (((((w1.setCell ⟨w.heap.size,0,none⟩ (.slice ga gl gc)).setCell ⟨w.heap.size,1,none⟩ (.slice ma ml mc)).setCell ⟨w.heap.size,2,none⟩ (.int .i64 F1.fuse)).setCell ⟨w.heap.size,3,none⟩ (.int .i64 F1.fault)).setCell ⟨w.heap.size,4,none⟩ (.bool F1.off))) (by repeat (first|(with_reducible exact Only.refl _ _)|(with_reducible refine Only.set ?_ _ _)|(with_reducible refine Only.alloc ?_ _)|(with_reducible refine Only.drew ?_)))).mono λb h=>?_
   .rcases h with h|h
    .have:=HS.o b h;omega
    .simp at h;omega
   .rcases h with h|h
    .exact .inl h
    .exact .inr (by simp at h;omega)
  .exact(by have hz:=bel;exact bV)
end Go.Proofs.YtenmnhnlcnmloaaGreat
namespace Go.Proofs.YtenmnhnlcnmloaaGreat
open Go.RowKit Go.Dav Go.Shelf
attribute [local go_sem] Gives ite_val ay Oper.semAt_some
theorem EN(args:Array Value)(W:World):(callFunc 182 args).run Tryz.prog W= .ok (Next.enter 182 args) W:=kR
end Go.Proofs.YtenmnhnlcnmloaaGreat
namespace Go.Proofs.YtenmnhnlcnmloaaGreat
open Go.RowKit Go.Dav
attribute [local go_sem] Gives ite_val ay
theorem aB.Hz{F:aB}(h:F.right=true):F.err=0:=by unfold aB.err;rw[if_pos h]
theorem aB.PS{F:aB}(h:F.right=false):F.err=200:=by unfold aB.err;rw[if_neg (by rw[h];decide)]
end Go.Proofs.YtenmnhnlcnmloaaGreat
namespace Go.Proofs.YtenmnhnlcnmloaaGreat
open Go.RowKit Go.Dav Go.Shelf
attribute [local go_sem] Gives ite_val ay Oper.semAt_some
set_option maxRecDepth 100000 in
theorem H7(F:aB)(fa la:Option Addr)(fl fc ll lc:Nat)(at_ n:Int)(w:World)(hF:lF w fa fl fc la ll lc F)(h1:eY at_)(h2:eY n)(hne:(F.read at_ n).2≠0):
  Calls Tryz.prog 148 #[.agg #[.slice fa fl fc, .slice la ll lc, .int .i64 F.fuse, .int .i64 F.fault, .bool F.off], .int .i64 at_, .int .i64 n] w (Aj w (F.read at_ n).1 (F.read at_ n).2):=by
 have hW:Below w.heap.size w (((w.alloc (.cells [.slice fa fl fc, .slice la ll lc, .int .i64 F.fuse, .int .i64 F.fault, .bool F.off].toArray 32)).alloc (.cells #[.int .i64 at_] 3)).alloc (.cells #[.int .i64 n] 3)):=bW;have HF:=Hd (hF.ext hW);have HB1:=Hd (((Blk.new w [.slice fa fl fc, .slice la ll lc, .int .i64 F.fuse, .int .i64 F.fault, .bool F.off] 32).alloc (.cells #[.int .i64 at_] 3)).alloc (.cells #[.int .i64 n] 3));have HB2:=Hd ((Blk.new' (w.alloc (.cells [.slice fa fl fc, .slice la ll lc, .int .i64 F.fuse, .int .i64 F.fault, .bool F.off].toArray 32)) [.int .i64 at_] 3 (p:=w.heap.size+1) (by simp)).alloc (.cells #[.int .i64 n] 3));have HB3:=Hd (Blk.new' ((w.alloc (.cells [.slice fa fl fc, .slice la ll lc, .int .i64 F.fuse, .int .i64 F.fault, .bool F.off].toArray 32)).alloc (.cells #[.int .i64 at_] 3)) [.int .i64 n] 3 (p:=w.heap.size+1+1) (by simp));have hC:=kP F fa la fl fc ll lc _ (hF.ext hW);obtain⟨h1a,h1b⟩:=h1;obtain⟨h2a,h2b⟩:=h2;have HNE:=Hd hne;clear hF hW hne;cases hr:F.right with
 |false=>
  rw[aB.PS hr]at hC;have HV:=Hd (show F.read at_ n=([],200) by unfold aB.read;rw[if_neg (by rw[hr];decide)]);have HC:=Hd hC;clear hC hr;go_enter Tryz.func148,Tryz.ntmps148;go_wp2_with fail;go_step3;go_wp2_with fail;refine HC.o.mono ?_;rintro e w1 ⟨rfl,hb1⟩;have bel:Below w.heap.size w w1:=(by have hz:=hb1;exact bV);clear hb1;go_wp2_with fail;rw[Exit.noGoto_ret];go_ret2
  rw[HV.o];exact⟨none,0,0,rfl,au.nil_,bel⟩
 |true=>
  rw[aB.Hz hr]at hC;have HC:=Hd hC;have HR:=Hd hr;clear hC;go_enter Tryz.func148,Tryz.ntmps148;go_wp2_with fail;go_step3;go_wp2_with fail;refine HC.o.mono ?_;rintro e w1 ⟨rfl,hb1⟩;have s1:=hb1.size;simp only[World.size_alloc]at s1;have B1:=HB1.o.ext hb1;have B2:=HB2.o.ext hb1;have B3:=HB3.o.ext hb1;have q1:=B1.cells;have q2:=B2.cells;have q3:=B3.cells;have m1:=B1.marks;have m2:=B2.marks;have m3:=B3.marks;have l1:=B1.lt;have l2:=B2.lt;have l3:=B3.lt;have bel:Below w.heap.size w w1:=(by have hz:=hb1;exact bV);have HF1:=Hd (HF.o.ext hb1);clear hb1 B1 B2 B3;by_cases g1:at_<0
  .have HV:=Hd (show F.read at_ n=([],2) by unfold aB.read;rw[if_pos hr,if_pos (.inl g1)]);clear hr;go_wp2_with fail;rw[Exit.noGoto_ret];go_ret2
   rw[HV.o];exact⟨none,0,0,rfl,au.nil_,(by have hz:=bel;exact bV)⟩
  .by_cases g2:n<0
   .have HV:=Hd (show F.read at_ n=([],2) by unfold aB.read;rw[if_pos hr,if_pos (.inr g2)]);clear hr;go_wp2_with fail;rw[Exit.noGoto_ret];go_ret2
    rw[HV.o];exact⟨none,0,0,rfl,au.nil_,(by have hz:=bel;exact bV)⟩
   .have hmx:=(aB.cZ.1 hr).2.2.2.2;obtain⟨m,hm⟩:∃m,F.many=m:=⟨_,rfl⟩;have g3:(m:Int)-at_<n:=by
     apply Classical.byContradiction;intro h;refine HNE.o ?_;unfold aB.read;rw[if_pos hr,if_neg oM,if_neg (by rw[hm];exact h)]
    have HV:=Hd (show F.read at_ n=([],6) by unfold aB.read;rw[if_pos hr,if_neg oM,if_pos (by rw[hm];exact g3)]);have HM:=Hd hm;rw[hm]at hmx;have aa6:(m:Int)<=524288:=oM;have HL:=Hd (aB.zX hr);clear hr hm;have HC6:=Hd (nI F fa la fl fc ll lc);go_wp2_with fail;refine' ah [.inl _, .inl _, .inl _, .inl _, .inl _, .inl _] kR kR ?dN
    case dN=>
     iterate 2 refine wE ?_
     refine wG (λW hE hN=>by go_simp;refine⟨Below.refl _ _,?_⟩;refine((HL.o.trans (congrArg Nat.cast HM.o))▸HC6.o _ (HF1.o.ext hE)).mono ?_;rintro e w' ⟨rfl,hb⟩;refine⟨?_,hb⟩;rfl) ?_;refine wE ?_;iterate 2 refine wD ?_
     refine aj λW2 hE2 hG2=>?_;have QY:=hE2.cF;have QZ:=hE2.fF;have hw:IntKind.i64.wrap ((m:Int)-at_)=m-at_:=IntWalk.i64_in _ oM;have hd:IntKind.i64.wrap ((m:Int)-at_)<n:=by rw[hw];exact g3
     have s2:=hE2.size;clear hw g3;go_wp2_with fail;try rw[Exit.noGoto_ret]
     go_ret2
     rw[HV.o];exact⟨none,0,0,rfl,au.nil_,(by have hz:=hE2;have hy:=bel;exact bY)⟩
end Go.Proofs.YtenmnhnlcnmloaaGreat
