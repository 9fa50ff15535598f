/- Part of a proof of a law of the layer of trees. -/
import Derived.Test.YtenmnhnlcnmloaaGreatQa27
import Derived.Test.YtenmnhnlcnmloaaGreatQa21
import Derived.Test.YtenmnhnlcnmloaaGreatQa29
import Derived.Test.YtenmnhnlcnmloaaGreatQa16
import Derived.Test.YtenmnhnlcnmloaaGreatQa10
import Derived.Test.YtenmnhnlcnmloaaGreatQa07
import Derived.Test.YtenmnhnlcnmloaaGreatQa23
import Derived.Test.YtenmnhnlcnmloaaGreatQa04
import Derived.Test.YtenmnhnlcnmloaaGreatQa01
set_option linter.unusedVariables false
set_option linter.unusedSimpArgs false
set_option maxHeartbeats 8000000
set_option maxRecDepth 8000
namespace Go.Dav
open Go Go.RowKit
theorem Fe{T:List (Nat×UInt8)}(h:T.length<7):fH T=none:=by
 unfold fH;exact if_neg λhf=>by have:=hf.1;omega
theorem IG{T:List (Nat×UInt8)}(h:¬yV (oO (bytesIn T))):fH T=none:=by
 unfold fH;exact if_neg λhf=>h hf.2.1
theorem J7{T:List (Nat×UInt8)}(h:T.length<6+oO (bytesIn T)):fH T=none:=by
 unfold fH;exact if_neg λhf=>by have h1:=hf.2.2.1;unfold bytesIn at h;omega
theorem II{T:List (Nat×UInt8)}(h:6<T.length)(hm:yV (oO (bytesIn T)))(hl:6+oO (bytesIn T)<=T.length):
  (outOf (((bytesIn T).drop 6).take (oO (bytesIn T)))=(bytesIn T).take (6+oO (bytesIn T))->fH T=some (((bytesIn T).drop 6).take (oO (bytesIn T)),(T[5+oO (bytesIn T)]?.map λx=>x.1+1).getD 0))/\
  (¬outOf (((bytesIn T).drop 6).take (oO (bytesIn T)))=(bytesIn T).take (6+oO (bytesIn T))->fH T=none):=by
 unfold fH;exact⟨λhe=>if_pos ⟨h,hm,hl,he⟩,λhe=>if_neg λhf=>he hf.2.2.2⟩
theorem NH{x:Nat×UInt8}:∀(m:List UInt8) (i:Nat),x∈um i m->x.1<i+m.length:=λm=>by
 induction m with
 |nil=>intro i h;cases h
 |cons c r ih=>
  intro i h;unfold um at h;have:=ih (i+1);simp only[List.length_cons];split at h
  .split at h
   .have:=this h;omega
   .cases h
  .rcases List.mem_cons.1 h with rfl|h
   .show i<_;omega
   .have:=this h;omega
theorem Qm{x:Nat×UInt8}{l:List UInt8}{i:Nat}(h:x∈lU l i):x.1<l.length:=by
 by_cases hi:l.length<=i
 .rw[rU hi]at h;cases h
 .have:=NH _ _ h;rw[List.length_drop]at this;omega
theorem wI(l:List UInt8)(at_:Int):dF l at_=[]\/∃i,dF l at_=lU l i:=by
 unfold dF;split
 .exact .inl rfl
 .unfold nK;split
  .split
   .exact .inr ⟨_,rfl⟩
   .exact .inl rfl
  .exact .inr ⟨_,rfl⟩
theorem J8(l:List UInt8)(at_:Int):(dF l at_).length<=l.length:=by
 rcases wI l at_ with h|⟨i,h⟩
 .rw[h];exact Nat.zero_le _
 .rw[h];have:=Iw l i;omega
theorem Fg(l:List UInt8)(at_:Int)(x:Nat×UInt8)(h:x∈dF l at_):x.1<l.length:=by
 rcases wI l at_ with e|⟨i,e⟩
 .rw[e]at h;cases h
 .rw[e]at h;exact Qm h
theorem J9(T:List (Nat×UInt8)):(bytesIn T).length=T.length:=by simp[bytesIn]
theorem AY{T:List (Nat×UInt8)}{p:List UInt8}{nx:Nat}(h:fH T=some (p,nx)):1<=p.length:=by
 unfold fH at h;split at h
 .rename_i hc;obtain⟨h1,h2,h3,_⟩:=hc;simp only[Option.some.injEq,Prod.mk.injEq]at h;rw[<- h.1,List.length_take,List.length_drop,List.length_map];have:=h2.1;omega
 .cases h
theorem AZ{W:World}{a:Option Addr}{n c:Nat}{l:List UInt8}(h:BytesAt W a n c l)(hl:1<=l.length):iH a:=by
 obtain⟨x,hx⟩:∃x,l[0]? =some x:=⟨_,List.getElem?_eq_getElem oM⟩;obtain⟨b,o,h1,_⟩:=h.hat 0 x hx;exact .inr ⟨b,o,h1⟩
def wJ(w:World)(o:Option aT)(e:Ending)(w':World):Prop:=match o with
 |none=>e= .returned (.tuple #[.agg #[.bool false, .slice none 0 0, .slice none 0 0], .int .i64 260])/\Below w.heap.size w w'
 |some N=>∃ia il ic ka kl kc,e= .returned (.tuple #[.agg #[.bool N.leaf, .slice ia il ic, .slice ka kl kc], .int .i64 0])/\bM w' (λb=>w.heap.size<=b) ia il ic ka kl kc N/\Below w.heap.size w w'
section
variable{P:Program}{ops:Array Oper}{K0:World->World->Prop}{p0:Nat}
theorem Fh{K:World->World->Prop}{o:Oper}{a:Act}{W:World}{R:Value->World->Prop}(hp:xY o=true)(h:dG P K o a W R):
  ∃v,Yields P ops o v a/\R v W:=by
 unfold xY at hp;simp only[Bool.and_eq_true,Option.isNone_iff_eq_none]at hp;have hw:Region.wanted o (yielded ops a.tmps)=true:=by unfold Region.wanted;rw[hp.1]
 have hop:=hp.2;cases he:o.op with
 |move x=>
  have hr:∀w,(execOp a.eval o).run P w= .ok (.value (a.eval x)) w:=λw=>by
   simp only[execOp,he];rfl
  unfold dG at h;rw[hr]at h;exact⟨_, .inl ⟨hw,hr⟩,h.2⟩
 |extract x k=>
  unfold dG at h;cases hx:a.eval x with
  |tuple vs=>
   cases hk:vs[k]? with
   |some v=>
    have hr:∀w,(execOp a.eval o).run P w= .ok (.value v) w:=λw=>by
     simp only[execOp,he,hx];simp[Instr.extract,hk,go_sem]
    rw[hr]at h;exact⟨_, .inl ⟨hw,hr⟩,h.2⟩
   |none=>
    exfalso;simp only[execOp,he,hx]at h;simp[Instr.extract,hk,go_sem]at h
  |_=>
   exfalso;simp only[execOp,he,hx]at h;simp[Instr.extract,go_sem]at h
 |_=>rw[he]at hop;cases hop
theorem NI{n:Nat}{ps:Nat->Value ⊕ (Value->World->Prop)}{a0:Act}{w0:World}{listed:Array Bool}{vs:Nat->Value}{a:Act}{W:World}
  (hB:yO ops n=true) (hsel:Region.noSelect ops=true)
  (hop:∀vs i,i<n->kX P K0 p0 ops ps a0 w0 vs i) (inv:HeadInv .any ops n listed) (mid:UE K0 p0 ops n ps a0 w0 listed vs a W)
  {i:Nat} {oi:Oper} (hr:i∈Region.ready .any ops listed) (hin:i<n) (hoi:ops[i]? =some oi) (hg:oi.guard=none):dG P (oW K0 p0 i) oi a W (dH (ps i)):=by
 obtain⟨hun,oi',hoi',hall⟩:=mem_ready.1 hr;obtain rfl:oi'=oi:=Option.some.inj (hoi'.symm.trans hoi);have yP:listed.getD i false=false:=getD_both hun;have later:∀j oj d,j<n->ops[j]? =some oj->oj.dst=some d->listed.getD j false=true->(d∈oi'.looksAt ops\/oi'.dst=some d)->j<i:=by
  intro j oj d hj hoj hd hl hlook;have hji:i≠j:=λe=>by subst e;rw[yP]at hl;cases hl
  obtain⟨_,h1,_⟩:=iG hB hin hj hoi hoj hd (hlook.imp id λh=>⟨h,hji⟩);rcases Nat.lt_trichotomy i j with h|h|h
  .obtain⟨oj',LX,e,he,hb,hon⟩:=Region.waitsFor_spec (h1 h);have:=inv.closed j oj' LX hl e he hb;rw[hon,yP]at this;cases this
  .exact absurd h hji
  .exact h
 have early:∀j oj d,j<i->ops[j]? =some oj->oj.dst=some d->(d∈oi'.looksAt ops)->listed.getD j false=true:=by
  intro j oj d hj hoj hd hlook;obtain⟨_,_,h2⟩:=iG hB hin oM hoi hoj hd (.inl hlook);obtain⟨oi2,Yd,e,he,hb,hon⟩:=Region.waitsFor_spec (h2 hj);have:oi2=oi':=Option.some.inj (Yd.symm.trans hoi);subst this;have:=hall e he hb;rwa [hon]at this
 have looks:∀t∈oi'.looksAt ops,(lay ops vs a0 i).tmps[t]? =a.tmps[t]?:=by
  intro t ht;rw[dM,mid.slots t];unfold dR;rw[iw (ops:=ops) (t:=t) (p:=λ_=>true) (q:=λj=>listed.getD j false) (m:=i) (n:=n) ?_];intro j;constructor
  .rintro⟨h1,_,h3⟩;obtain⟨oj,hoj,hd⟩:=Option.bind_eq_some_iff.1 h3;exact⟨oM,early j oj t h1 hoj hd ht,h3⟩
  .rintro⟨h1,h2,h3⟩;obtain⟨oj,hoj,hd⟩:=Option.bind_eq_some_iff.1 h3;exact⟨later j oj t h1 hoj hd h2 (.inl ht),rfl,h3⟩
 have Jm:kU ops ps vs oi' W i:=ny i λj d hj hd hl=>by
  obtain⟨oj,hoj,hd'⟩:=Option.bind_eq_some_iff.1 hd;exact mid.held j oM (early j oj d hj hoj hd' hl)
 have hs:=hop vs i hin;unfold kX at hs;simp only[hoi]at hs;have hs:=hs W mid.ext (λe=>mid.XD (by rw[<- e];exact yP)) Jm;have hw:Region.wanted oi' (yielded ops (lay ops vs a0 i).tmps)=true:=by unfold Region.wanted;rw[hg]
 rw[if_pos hw]at hs;exact hs.kE (iI (λcs b=>Region.noSelect_spec hsel i oi' cs b hoi) (λt ht=>(looks t ht).symm))
theorem SQ(g:Goes K0){n:Nat}{ps:Nat->Value ⊕ (Value->World->Prop)}{a0:Act}{w0:World}{listed:Array Bool}{vs:Nat->Value}{a:Act}{W:World}
  (hB:yO ops n=true) (inv:HeadInv .any ops n listed) (mid:UE K0 p0 ops n ps a0 w0 listed vs a W)
  {i:Nat} {oi:Oper} (hr:i∈Region.ready .any ops listed) (hin:i<n) (hoi:ops[i]? =some oi) {v:Value} (hv:dH (ps i) v W):
  UE K0 p0 ops n ps a0 w0 (listed.setIfInBounds i true) (λj=>if j=i then v else vs j) (a.put oi.dst v) W:=by
 obtain⟨hun,oi',hoi',hall⟩:=mem_ready.1 hr;obtain rfl:oi'=oi:=Option.some.inj (hoi'.symm.trans hoi);have yP:listed.getD i false=false:=getD_both hun;have hisz:i<listed.size:=by rw[inv.size];exact(Array.getElem?_eq_some_iff.1 hoi).1
 have later:∀j oj d,j<n->ops[j]? =some oj->oj.dst=some d->listed.getD j false=true->(d∈oi'.looksAt ops\/oi'.dst=some d)->j<i:=by
  intro j oj d hj hoj hd hl hlook;have hji:i≠j:=λe=>by subst e;rw[yP]at hl;cases hl
  obtain⟨_,h1,_⟩:=iG hB hin hj hoi hoj hd (hlook.imp id λh=>⟨h,hji⟩);rcases Nat.lt_trichotomy i j with h|h|h
  .obtain⟨oj',LX,e,he,hb,hon⟩:=Region.waitsFor_spec (h1 h);have:=inv.closed j oj' LX hl e he hb;rw[hon,yP]at this;cases this
  .exact absurd h hji
  .exact h
 refine⟨mid.ext,λhp0=>mid.XD (if e:p0=i then by rw[e];exact yP else by rwa [getD_set_ne false (Ne.symm e)]at hp0),by rw[sJ,mid.size],by rw[put_defers,mid.defers],λt=>?_,λj hj hl=>?_⟩
 .rw[wX,mid.size];unfold dR;by_cases hd:oi'.dst=some t
  .simp only[hd,if_true];have:eX ops (λj=>(listed.setIfInBounds i true).getD j false) t n=some i:=by
    cases hc:eX ops (λj=>(listed.setIfInBounds i true).getD j false) t n with
    |none=>exact absurd ⟨by simp[hisz],by simp[hoi,hd]⟩ (jL hc i hin)
    |some j=>
     obtain⟨c1,c2,c3,c4⟩:=bC hc;obtain⟨oj,hoj,hdj⟩:=Option.bind_eq_some_iff.1 c3;by_cases e:j=i
     .rw[e]
     .have hlj:listed.getD j false=true:=by rwa [getD_set_ne false (Ne.symm e)]at c2
      have:=later j oj t c1 hoj hdj hlj (.inr hd);exact absurd ⟨by simp[hisz],by simp[hoi,hd]⟩ (c4 i this hin)
   rw[this];simp
  .simp only[hd,if_false];rw[mid.slots t];unfold dR;have:eX ops (λj=>(listed.setIfInBounds i true).getD j false) t n=eX ops (λj=>listed.getD j false) t n:=by
    refine iw λj=>?_;by_cases e:j=i
    .subst e;simp[hoi,hd]
    .rw[getD_set_ne false (Ne.symm e)]
   rw[this];cases hc:eX ops (λj=>listed.getD j false) t n with
   |none=>rfl
   |some j=>
    obtain⟨c1,c2,c3,c4⟩:=bC hc;have e:j≠i:=λe=>by subst e;simp[hoi,hd]at c3
    simp[e]
 .by_cases e:j=i
  .subst e;simpa using hv
  .simp only[e,if_false];have hl':listed.getD j false=true:=by rwa [getD_set_ne false (Ne.symm e)]at hl
   exact mid.held j hj hl'
theorem CO(g:Goes K0){n:Nat}{F:List Nat}{ps:Nat->Value ⊕ (Value->World->Prop)}{a0:Act}{w0:World}{Q:Exit->Act->World->Prop}{l:List Oper}
  (hl:∀j:Nat,l[j]? =ops[n+j]?) (hll:l.length=ops.size-n)
  (hB:gW ops n F=true) (hst:∀j R,ps j= .inr R->uh K0 p0 j R)
  (hQ:∀c a d v w,Q (.panic c) (Act.put a d v) w->Q (.panic c) a w)
  (hop:∀vs i,i<n->kX P K0 p0 ops ps a0 w0 vs i)
  (hend:∀vs W,K0 w0 W->kF ps vs W n->wpList P ops Q l (lay ops vs a0 n) W):
  ∀(f:Nat) (listed:Array Bool) (vs:Nat->Value) (a:Act) (W:World),HeadInv .any ops n listed->UE K0 p0 ops n ps a0 w0 listed vs a W->cnt listed n=f->
   wpAny P .any ops Q (f+(ops.size-n)) listed a W:=by
 simp only[gW,Bool.and_eq_true,decide_eq_true_eq,Bool.not_eq_true']at hB;obtain⟨⟨⟨⟨⟨⟨⟨hsel,wY⟩,hback⟩,hn⟩,UD,hchain⟩,hfree⟩,hseq⟩,hFn⟩:=hB;intro f;induction f with
 |zero=>
  intro listed vs a W inv mid hc;have hall:=qh listed n hc;have uD:listed=(Array.range ops.size).map λj=>decide (j<n):=by
   apply Array.ext
   .simp[inv.size]
   .intro j h1 h2;simp only[Array.getElem_map,Array.getElem_range];by_cases hj:j<n
    .have:=hall j hj;simp only[h1,Array.getD_eq_getD_getElem?,Array.getElem?_eq_getElem,Option.getD_some]at this;simp[hj,this]
    .have:=getD_both (inv.tail j oM (by simpa using h2));simp only[h1,Array.getD_eq_getD_getElem?,Array.getElem?_eq_getElem,Option.getD_some]at this;simp[hj,this]
  have ha:a=lay ops vs a0 n:=oD (λt=>by
   rw[dM,mid.slots t];unfold dR;rw[iw (ops:=ops) (t:=t) (p:=λj=>listed.getD j false) (q:=λ_=>true) (m:=n) (n:=n) ?_];intro j;constructor
   .rintro⟨h1,_,h3⟩;exact⟨h1,rfl,h3⟩
   .rintro⟨h1,_,h3⟩;exact⟨h1,hall j h1,h3⟩) (by rw[mid.defers,eP])
  have h:=hend vs W mid.ext (oQ n λj hj=>mid.held j hj (hall j hj));rw[Nat.zero_add,<- hll];rw[<- uD,<- hll]at hseq;rw[ha];exact wpAny_of_seq l n listed _ W hl hseq h
 |succ f ih=>
  intro listed vs a W inv mid hc;obtain⟨i0,hi0,hu0,hlow⟩:=iJ listed n oM;rw[show f+1+(ops.size-n)=(f+(ops.size-n))+1 by omega];have hr0:i0∈Region.ready .any ops listed:=by
   have h1:=List.all_eq_true.1 hback i0 (List.mem_range.2 hi0);cases ho:ops[i0]? with
   |none=>simp[ho]at h1
   |some o=>
    simp only[ho]at h1;refine mem_ready.2 ⟨getD_in (by rw[inv.size];omega) hu0,o,ho,λe he hb=>?_⟩;have h2:=Array.all_eq_true'.1 h1 e he;simp only[hb,Bool.not_true,Bool.false_or,decide_eq_true_eq]at h2;exact hlow e.on h2
  by_cases hex:∃i1,i1<n/\F.contains i1=false/\listed.getD i1 false=false
  .obtain⟨i1,hi1,hf1,hu1⟩:=hex;refine⟨λh=>(by rw[h]at hr0;cases hr0),λi hi=>?_⟩;have hin:i<n:=by
    rcases Nat.lt_or_ge i n with h|h
    .exact h
    .exact absurd hi (zN UD hchain hn hFn inv _ i1 rfl hi1 hf1 (getD_in (by rw[inv.size];omega) hu1) i h)
   have hun:=(mem_ready.1 hi).1;refine Gs g wY hsel hst hop inv mid hi hin λvs' a' W' Rt mid'=>ih _ vs' a' W' Rt mid' ?_;have:=ru listed i (by rw[inv.size];omega) (getD_both hun) n hin;omega
  .have hF0:F.contains i0=true:=by
    cases h:F.contains i0 with
    |true=>rfl
    |false=>exact absurd ⟨i0,hi0,h,hu0⟩ hex
   obtain⟨_,oi,hoi,hpl,hap⟩:=free_spec hfree hF0;have hg:=NI wY hsel hop inv mid hr0 hi0 hoi (by simp only[xY,Bool.and_eq_true,Option.isNone_iff_eq_none]at hpl;exact hpl.1);obtain⟨v,hy,hv⟩:=Fh (ops:=ops) hpl hg;have hun:=(mem_ready.1 hr0).1;refine wpAny_first (v:=v) hoi (λj o cs b ho=>Region.noSelect_spec hsel j o cs b ho) (λc a w h=>hQ c a _ _ w h) _ listed a W (λj oj hj hji hjun hno=>hap j oj hj hji (λ⟨h1,h2⟩=>hex ⟨j,h1,h2,getD_both hjun⟩) hno) hr0 hy ?_;refine ih _ (λj=>if j=i0 then v else vs j) _ W (inv.set hr0 hi0) (SQ g wY inv mid hr0 hi0 hoi hv) ?_;have:=ru listed i0 (by rw[inv.size];omega) (getD_both hun) n hi0;omega
theorem xO(g:Goes K0)(F:List Nat){id:Nat}{ops:List Oper}{Q:Exit->Act->World->Prop}{a:Act}{w:World}(n:Nat)(ps:Nat->Value ⊕ (Value->World->Prop))(hm:P.follows .mixedOrders=true)(hB:gW ops.toArray n F=true)
  (hst:∀j R,ps j= .inr R->uh K0 p0 j R)
  (hQ:∀c a d v w,Q (.panic c) (Act.put a d v) w->Q (.panic c) a w)
  (hop:∀vs i,i<n->kX P K0 p0 ops.toArray ps a w vs i)
  (hend:∀vs W,K0 w W->kF ps vs W n->wpList P ops.toArray Q (ops.drop n) (lay ops.toArray vs a n) W):(Code.region id ops.toArray true).wp P Q a w:=by
 have hn:n<=ops.toArray.size:=by
  simp only[gW,Bool.and_eq_true,decide_eq_true_eq]at hB;exact Nat.le_of_lt hB.1.1.1.1.2
 have he:K0 w { w with drawn:=w.drawn+1}:=g.bel _ _ (Below.refl _ _).drew;have hc:∀m,cnt (Array.replicate ops.toArray.size false) m=m:=λm=>by
  induction m with
  |zero=>rfl
  |succ m ih=>rw[cnt,ih,getD_replicate_false];rfl
 refine wp_region_any hm ?_;have:=CO g (P:=P) (ops:=ops.toArray) (l:=ops.drop n) (λj=>by simp[List.getElem?_drop]) (by simp) hB hst hQ hop hend n (Array.replicate ops.toArray.size false) (λ_=>undef) a { w with drawn:=w.drawn+1}
  ⟨by simp,λj oj _ hl=>(by rw[getD_replicate_false]at hl;cases hl),λt _ ht=>getD_in (by simpa using ht) (getD_replicate_false _ _)⟩
  ⟨he,λ_=>(Below.refl _ _).drew,rfl,rfl,λt=>?_,λj _ hl=>(by rw[getD_replicate_false]at hl;cases hl)⟩ (hc n)
 .rwa [show n+(ops.toArray.size-n)=ops.toArray.size by omega]at this
 .unfold dR;rw[show eX ops.toArray (λj=>(Array.replicate ops.toArray.size false).getD j false) t n=none from ?_];cases h:eX ops.toArray (λj=>(Array.replicate ops.toArray.size false).getD j false) t n with
  |none=>rfl
  |some j=>have:=(bC h).2.1;rw[getD_replicate_false]at this;cases this
end
section
variable{P:Program}
theorem rY(K0:World->World->Prop)(g:Goes K0)(p0:Nat)(F:List Nat){id:Nat}{l:List Oper}{Q:Exit->Act->World->Prop}{a:Act}{w:World}(ps:List Piece)(hm:P.follows .mixedOrders=true)(hB:gW l.toArray ps.length F=true)
  (h:eu P K0 p0 l.toArray w (qo Q) 0 l ps [] a):(Code.region id l.toArray true).wp P Q a w:=by
 refine Code.wp_mono (Q:=qo Q) (λe a w h=>h.of) ?_;have hn:ps.length<=l.length:=by
  simp only[gW,Bool.and_eq_true,decide_eq_true_eq]at hB;have:=hB.1.1.1.1.2;simp at this;omega
 have hsel:Region.noSelect l.toArray=true:=by
  simp only[gW,Bool.and_eq_true]at hB;exact hB.1.1.1.1.1.1.1
 have spec:=λvs=>uP (P:=P) (K0:=K0) (p0:=p0) (ops:=l.toArray) (w:=w) (Q:=qo Q) (a:=a) (qs:=λi=>(ps[i]?).getD (.inl undef)) vs l ps 0 (λj=>by simp) (λj p hj=>by simp[hj]) hn h;refine xO (K0:=K0) (p0:=p0) g F ps.length (λi=>(ps[i]?).getD (.inl undef)) hm hB ?_ (λ_ _ _ _ _ h=>h) ?_ ?_
 .intro j R hj;by_cases hlt:j<ps.length
  .exact(spec (λ_=>undef)).2.1 j R oM oM hj
  .have:ps[j]? =none:=by simp;omega
   simp[this]at hj
 .intro vs i hi;unfold kX;obtain⟨o,ho,hs⟩:=(spec vs).1 i oM oM;rw[ho];intro W hW hW2 hd;have hs:=hs W hW hW2 (wZ hd);have looks:∀t∈o.looksAt l.toArray,(lay l.toArray (fixed (λi=>(ps[i]?).getD (.inl undef)) vs) a i).tmps[t]? =(lay l.toArray vs a i).tmps[t]?:=by
   intro t ht;rw[dM,dM];unfold dR;cases hc:eX l.toArray (λ_=>true) t i with
   |none=>rfl
   |some j=>
    obtain⟨c1,_,c3,_⟩:=bC hc;simp only;rw[kV (iR hd j t c1 c3 ht)]
  rw[gy looks]at hs;simp only;split
  .rename_i hw;rw[if_pos hw]at hs;refine hs.kE (iI (λcs b=>Region.noSelect_spec hsel i o cs b ho) (λt ht=>(looks t ht).symm))
  .rename_i hw;rw[if_neg hw]at hs;exact hs
 .intro vs W hW hall;have:=(spec vs).2.2 W hW (sK (by simpa using hall));have e:lay l.toArray (fixed (λi=>(ps[i]?).getD (.inl undef)) vs) a ps.length=lay l.toArray vs a ps.length:=oD (λt=>by
   rw[dM,dM];unfold dR;cases hc:eX l.toArray (λ_=>true) t ps.length with
   |none=>rfl
   |some j=>
    obtain⟨c1,_,_,_⟩:=bC hc;simp only;rw[kV (kH hall j c1)]) (by rw[eP,eP])
  rw[Nat.zero_add,e]at this;exact this
end
def Fz(cs:List Value):Prop:=∃f a n c a' n' c',cs=[.bool f, .slice a n c, .slice a' n' c']
theorem Fz.mk(f:Bool)(a a':Option Addr)(n c n' c':Nat):Fz [.bool f, .slice a n c, .slice a' n' c']:=⟨_,_,_,_,_,_,_,rfl⟩
theorem Fz.VB:VB Fz:=by
 rintro cs ⟨f,a,n,c,a',n',c',rfl⟩ v hv x e;subst e;simp at hv
theorem Fz.short{cs:List Value}(h:Fz cs){o:Nat}(ho:3<=o)(v:Value):cs[o]?≠some v:=by
 obtain⟨f,a,n,c,a',n',c',rfl⟩:=h;match o,ho with
 |o+3,_=>simp
theorem aY.adn{B:Nat}{t:TypeId}{W W':World}{S:Nat->Prop}{a:Option Addr}{len cap:Nat}{l:List aP}(h:aY W S a len cap l)(k:Ih B Fz t W W'):aY W' S a len cap l:=
 ⟨h.hlen,h.hcap,h.hmax,h.hfew,λj x hj=>by
  obtain⟨b,o,ka,kl,kc,va,vl,vc,h1,h2,h3,c0,c1,c2,c3,h4,h5,h6⟩:=h.hat j x hj;have e:=k.cell c3 (λcs hz=>hz.short oM _);have hc:=λj=>World.cell?_of_block (a:=⟨b,j,none⟩) e;exact⟨b,o,ka,kl,kc,va,vl,vc,h1,Nat.lt_of_lt_of_le h2 k.size,h3,(hc _).trans c0,(hc _).trans c1,(hc _).trans c2,(hc _).trans c3,h4.adn k Fz.VB,h5.adn k Fz.VB,h6⟩,h.hnil⟩
theorem dZ.adn{B:Nat}{t:TypeId}{W W':World}{S:Nat->Prop}{a:Option Addr}{len cap:Nat}{l:List dS}(h:dZ W S a len cap l)(k:Ih B Fz t W W'):dZ W' S a len cap l:=
 ⟨h.hlen,h.hcap,h.hmax,h.hfew,λj x hj=>by
  obtain⟨b,o,ka,kl,kc,h1,h2,h3,c0,c1,c2,c3,c4,c5,c6,c7,h4,h5,h6⟩:=h.hat j x hj;have e:=k.cell c3 (λcs hz=>hz.short oM _);have hc:=λj=>World.cell?_of_block (a:=⟨b,j,none⟩) e;exact⟨b,o,ka,kl,kc,h1,Nat.lt_of_lt_of_le h2 k.size,h3,(hc _).trans c0,(hc _).trans c1,(hc _).trans c2,(hc _).trans c3,(hc _).trans c4,(hc _).trans c5,(hc _).trans c6,(hc _).trans c7,h4.adn k Fz.VB,h5,h6⟩,h.hnil⟩
theorem aY.JX{W:World}{S:Nat->Prop}{a:Option Addr}{len cap p t:Nat}{l:List aP}{cs:List Value}(h:aY W S a len cap l)(hp:Blk W p cs t)(hz:Fz cs):aY W (λb=>S b/\b≠p) a len cap l:=
 ⟨h.hlen,h.hcap,h.hmax,h.hfew,λj x hj=>by
  obtain⟨b,o,ka,kl,kc,va,vl,vc,h1,h2,h3,c0,c1,c2,c3,h4,h5,h6⟩:=h.hat j x hj;exact⟨b,o,ka,kl,kc,va,vl,vc,h1,h2,⟨h3,λe=>by subst e;rw[hp.cells]at c3;exact hz.short oM _ c3⟩,c0,c1,c2,c3,h4.JX hp hz Fz.VB,h5.JX hp hz Fz.VB,h6⟩,h.hnil⟩
theorem dZ.JX{W:World}{S:Nat->Prop}{a:Option Addr}{len cap p t:Nat}{l:List dS}{cs:List Value}(h:dZ W S a len cap l)(hp:Blk W p cs t)(hz:Fz cs):dZ W (λb=>S b/\b≠p) a len cap l:=
 ⟨h.hlen,h.hcap,h.hmax,h.hfew,λj x hj=>by
  obtain⟨b,o,ka,kl,kc,h1,h2,h3,c0,c1,c2,c3,c4,c5,c6,c7,h4,h5,h6⟩:=h.hat j x hj;exact⟨b,o,ka,kl,kc,h1,h2,⟨h3,λe=>by subst e;rw[hp.cells]at c3;exact hz.short oM _ c3⟩,c0,c1,c2,c3,c4,c5,c6,c7,h4.JX hp hz Fz.VB,h5,h6⟩,h.hnil⟩
def U6(B:Nat)(N:aT)(v:Value)(W:World):Prop:=∃ja jl jc la ll lc,v= .agg #[.bool N.leaf, .slice ja jl jc, .slice la ll lc]/\bM W (λb=>B<=b) ja jl jc la ll lc N
theorem U6.later{B:Nat}{N:aT}:∀v W W',U6 B N v W->Below W.heap.size W W'->U6 B N v W':=λ_ _ _ ⟨ja,jl,jc,la,ll,lc,h1,h2⟩ hb=>⟨ja,jl,jc,la,ll,lc,h1,h2.ext hb⟩
theorem U6.adn{B B':Nat}{N:aT}{t:TypeId}:∀v W W',U6 B N v W->Ih B' Fz t W W'->U6 B N v W':=λ_ _ _ ⟨ja,jl,jc,la,ll,lc,h1,h2⟩ hk=>⟨ja,jl,jc,la,ll,lc,h1,h2.items.adn hk,h2.kids.adn hk⟩
theorem bM.JX{W:World}{S:Nat->Prop}{ia ka:Option Addr}{il ic kl kc p t:Nat}{N:aT}{cs:List Value}(h:bM W S ia il ic ka kl kc N)(hp:Blk W p cs t)(hz:Fz cs):bM W (λb=>S b/\b≠p) ia il ic ka kl kc N:=⟨h.items.JX hp hz,h.kids.JX hp hz⟩
theorem bM.adn{B:Nat}{t:TypeId}{W W':World}{S:Nat->Prop}{ia ka:Option Addr}{il ic kl kc:Nat}{N:aT}(h:bM W S ia il ic ka kl kc N)(k:Ih B Fz t W W'):bM W' S ia il ic ka kl kc N:=⟨h.items.adn k,h.kids.adn k⟩
def Ko(s B:Nat)(N:aT)(t:TypeId)(a:Act)(W:World):Prop:=∃p ja jl jc la ll lc,a.tmps[s]? =some (.pointer (some ⟨p,0,none⟩))/\B<=p/\Blk W p [.bool N.leaf, .slice ja jl jc, .slice la ll lc] t/\bM W (λb=>B<=b/\b≠p) ja jl jc la ll lc N
theorem Ko.later{s B:Nat}{N:aT}{t:TypeId}:∀a W W',Ko s B N t a W->Below W.heap.size W W'->Ko s B N t a W':=λ_ _ _ ⟨p,ja,jl,jc,la,ll,lc,h1,h2,h3,h4⟩ hb=>⟨p,ja,jl,jc,la,ll,lc,h1,h2,h3.ext hb,h4.ext hb⟩
end Go.Dav
namespace Go.Proofs.YtenmnhnlcnmloaaGreat
open Go.RowKit Go.Dav
attribute [local go_sem] Gives ite_val ay
theorem tJ(F:aB)(fa la:Option Addr)(fl fc ll lc:Nat)(at_ depth:Int)(w:World)(S:Nat->Prop)(hF:fB w S fa fl fc la ll lc F)(hS:∀b,S b->b<w.heap.size)(hr:F.right=true)(ha:eY at_):
  Calls Tryz.prog 25 #[.agg #[.slice fa fl fc, .slice la ll lc, .int .i64 F.fuse, .int .i64 F.fault, .bool F.off], .int .i64 at_, .int .i64 depth] w (wJ w (jo F.all at_ depth)):=by
 have hb0:Below w.heap.size w ((w.alloc (.cells [.slice fa fl fc, .slice la ll lc, .int .i64 F.fuse, .int .i64 F.fault, .bool F.off].toArray 32)).alloc (.cells #[.bool false, .slice none 0 0, .slice none 0 0] 67)):=bW;have HG:=Hd (Ql F fa la fl fc ll lc at_ _ S (hF.ext hb0) (λb h=>Nat.lt_of_lt_of_le (hS b h) hb0.size) hr ha);have HB0:=Hd hb0;have HQ0:=Hd (Blk.new' (w.alloc (.cells [.slice fa fl fc, .slice la ll lc, .int .i64 F.fuse, .int .i64 F.fault, .bool F.off].toArray 32)) [.bool false, .slice none 0 0, .slice none 0 0] 67 (p:=w.heap.size+1) (by simp));clear hb0 hF hS hr ha;go_enter Tryz.func25,Tryz.ntmps25;go_wp2_with fail;refine HG.o.mono ?_;rintro e w1 h1;rcases h1 with⟨p,nx,hf,a,n,c,rfl,hB,hb1⟩|⟨hf,rfl,hb1⟩
 .have hpl:=AZ hB.at_ (AY hf);have hlf:Lf ⟨a,n,c,p,true⟩ p:=⟨rfl,rfl,hB.at_.hlen.symm⟩;obtain⟨hy,hn⟩:=RS hlf;have HD:=Hd (JF _ a n c p w1 hB.bound hpl (λb h=>h.2));have HL:=Hd (show jo F.all at_ depth=match kS p with|none=>none|some N=>if 0<=depth/\N.leaf=decide (depth=0)then some N else none by unfold jo;rw[hf];rfl)
  have B1:=Hd (HB0.o.trans (hb1.mono HB0.o.size));have hq1:=HQ0.o.ext hb1;have hs1:=hb1.size;simp only[World.size_alloc]at hs1;have HS1:=Hd hs1;clear hb1 hB hf HQ0 HB0 HG hs1 hlf hpl;by_cases hd0:depth<0
  .have HLN:=Hd (Au (all:=F.all) (at_:=at_) hd0);have BX:=B1;have q1:=hq1.cells;have m1:=hq1.marks;have l1:=hq1.lt;have Q1:=Hd hq1;clear hq1;go_wp2;have c4:=(((Q1.o.set 0 (.bool false)).set 1 (.slice none 0 0)).set 2 (.slice none 0 0)).cells;have ho:=(((aA.refl (· =w.heap.size+1) w1).set (w.heap.size+1) 0 (.bool false) rfl).set (w.heap.size+1) 1 (.slice none 0 0) rfl).set (w.heap.size+1) 2 (.slice none 0 0) rfl;refine bodyPost_ret (v:= .tuple #[.agg #[.bool false, .slice none 0 0, .slice none 0 0], .int .i64 260]) (by simp[results,Tryz.results25,go_sem,c4]) rfl ?_;rw[HLN.o];exact⟨rfl,BX.o.trans (ho.below BX.o.size (λk e=>oM))⟩
  .have HN1:=Hd hq1;have hdec:decide (depth<0)=false:=decide_eq_false hd0;clear hq1;go_wp2_with fail;refine HD.o.mono ?_;rintro e w2 ⟨ia,il,ic,ka,kl,kc,rfl,hN,hb2⟩;have B2:=Hd (B1.o.trans (hb2.mono B1.o.size));have hq2:=HN1.o.ext hb2;cases hrd:kS p with
   |none=>
    have hg:=hn hrd;have hde:Ce ⟨a,n,c,p,true⟩=240:=by unfold Ce;rw[hg];rfl
    have HLN:=Hd (show jo F.all at_ depth=none by rw[HL.o,hrd]);rw[hde];obtain⟨lf,hlf⟩:∃lf,(qY ⟨a,n,c,p,true⟩).leaf=lf:=⟨_,rfl⟩;rw[hlf];have hb3:Below w2.heap.size w2 (w2.alloc (.cells #[.bool lf, .slice ia il ic, .slice ka kl kc] 67)):=bW;have BX:=Hd (B2.o.trans (hb3.mono B2.o.size));have hq1:=hq2.ext hb3;clear hq2 hb2 hN hlf hde hg hy hn hb3 HD;have q1:=hq1.cells;have m1:=hq1.marks;have l1:=hq1.lt;have Q1:=Hd hq1;clear hq1;go_wp2;have c4:=(((Q1.o.set 0 (.bool false)).set 1 (.slice none 0 0)).set 2 (.slice none 0 0)).cells;have ho:=(((aA.refl (· =w.heap.size+1) (w2.alloc (.cells #[.bool lf, .slice ia il ic, .slice ka kl kc] 67))).set (w.heap.size+1) 0 (.bool false) rfl).set (w.heap.size+1) 1 (.slice none 0 0) rfl).set (w.heap.size+1) 2 (.slice none 0 0) rfl;refine bodyPost_ret (v:= .tuple #[.agg #[.bool false, .slice none 0 0, .slice none 0 0], .int .i64 260]) (by simp[results,Tryz.results25,go_sem,c4]) rfl ?_;rw[HLN.o];exact⟨rfl,BX.o.trans (ho.below BX.o.size (λk e=>oM))⟩
   |some N=>
    obtain⟨hg,hdn,hok⟩:=hy N hrd;have hde:Ce ⟨a,n,c,p,true⟩=0:=by unfold Ce;rw[hg];rfl
    rw[hde,hdn];rw[hdn]at hN;obtain⟨lf,hlf⟩:∃lf,N.leaf=lf:=⟨_,rfl⟩;obtain⟨dz,hdz⟩:∃dz,(depth==0)=dz:=⟨_,rfl⟩;rw[hlf];have hb3:Below w2.heap.size w2 (w2.alloc (.cells #[.bool lf, .slice ia il ic, .slice ka kl kc] 67)):=bW;have BX:=Hd (B2.o.trans (hb3.mono B2.o.size));have hq1:=hq2.ext hb3;have hnew:=Blk.new w2 [.bool lf, .slice ia il ic, .slice ka kl kc] 67;have HNS:=Hd ((hN.ext hb3).mono λb h=>show w.heap.size+2<=b by
     have h1:=HS1.o;rcases h with h|h
     .have h2:=h.1;simp only[World.size_alloc]at h2;omega
     .omega)
    have HLF:=Hd hlf;have HDZ:=Hd hdz;have hl2:jo F.all at_ depth=if 0<=depth/\lf=decide (depth=0)then some N else none:=by rw[HL.o,hrd,<- hlf]
    have HL2:=Hd hl2;have hdd:decide (depth=0)=dz:=by rw[<- hdz];rfl
    have HDD:=Hd hdd;have qn:=hnew.cells;have ln:=hnew.lt;have XR:=Hd hnew;clear hq2 hb2 hN hlf hde hdn hg hok hy hn hb3 HD hl2 hdd hnew;by_cases heq:lf=dz
    .subst heq;have HLS:=Hd (show jo F.all at_ depth=some N by rw[HL2.o,HDD.o,if_pos ⟨oM,rfl⟩]);have q1:=hq1.cells;have m1:=hq1.marks;have l1:=hq1.lt;have Q1:=Hd hq1;clear hq1;cases lf
     .clear XR;go_wp2;have c4:=(((Q1.o.set 0 (.bool false)).set 1 (.slice ia il ic)).set 2 (.slice ka kl kc)).cells;have ho:=(((aA.refl (· =w.heap.size+1) (w2.alloc (.cells #[.bool false, .slice ia il ic, .slice ka kl kc] 67))).set (w.heap.size+1) 0 (.bool false) rfl).set (w.heap.size+1) 1 (.slice ia il ic) rfl).set (w.heap.size+1) 2 (.slice ka kl kc) rfl;refine bodyPost_ret (v:= .tuple #[.agg #[.bool false, .slice ia il ic, .slice ka kl kc], .int .i64 0]) (by simp[results,Tryz.results25,go_sem,c4]) rfl ?_;rw[HLS.o];refine⟨ia,il,ic,ka,kl,kc,by rw[HLF.o],(HNS.o.same ho.size λb hb hl=>ho.block b hl oM).mono λb hb=>oM,BX.o.trans (ho.below BX.o.size (λk e=>oM))⟩
     .clear XR;go_wp2;have c4:=(((Q1.o.set 0 (.bool true)).set 1 (.slice ia il ic)).set 2 (.slice ka kl kc)).cells;have ho:=(((aA.refl (· =w.heap.size+1) (w2.alloc (.cells #[.bool true, .slice ia il ic, .slice ka kl kc] 67))).set (w.heap.size+1) 0 (.bool true) rfl).set (w.heap.size+1) 1 (.slice ia il ic) rfl).set (w.heap.size+1) 2 (.slice ka kl kc) rfl;refine bodyPost_ret (v:= .tuple #[.agg #[.bool true, .slice ia il ic, .slice ka kl kc], .int .i64 0]) (by simp[results,Tryz.results25,go_sem,c4]) rfl ?_;rw[HLS.o];refine⟨ia,il,ic,ka,kl,kc,by rw[HLF.o],(HNS.o.same ho.size λb hb hl=>ho.block b hl oM).mono λb hb=>oM,BX.o.trans (ho.below BX.o.size (λk e=>oM))⟩
    .have HLN:=Hd (show jo F.all at_ depth=none by rw[HL2.o,HDD.o,if_neg (λh=>heq h.2)]);cases lf<;>cases dz
     .exact(heq rfl).elim
     .clear XR;have q1:=hq1.cells;have m1:=hq1.marks;have l1:=hq1.lt;have Q1:=Hd hq1;clear hq1;go_wp2;have c4:=(((Q1.o.set 0 (.bool false)).set 1 (.slice none 0 0)).set 2 (.slice none 0 0)).cells;have ho:=(((aA.refl (· =w.heap.size+1) (w2.alloc (.cells #[.bool false, .slice ia il ic, .slice ka kl kc] 67))).set (w.heap.size+1) 0 (.bool false) rfl).set (w.heap.size+1) 1 (.slice none 0 0) rfl).set (w.heap.size+1) 2 (.slice none 0 0) rfl;refine bodyPost_ret (v:= .tuple #[.agg #[.bool false, .slice none 0 0, .slice none 0 0], .int .i64 260]) (by simp[results,Tryz.results25,go_sem,c4]) rfl ?_;rw[HLN.o];exact⟨rfl,BX.o.trans (ho.below BX.o.size (λk e=>oM))⟩
     .clear XR;have q1:=hq1.cells;have m1:=hq1.marks;have l1:=hq1.lt;have Q1:=Hd hq1;clear hq1;go_wp2;have c4:=(((Q1.o.set 0 (.bool false)).set 1 (.slice none 0 0)).set 2 (.slice none 0 0)).cells;have ho:=(((aA.refl (· =w.heap.size+1) (w2.alloc (.cells #[.bool true, .slice ia il ic, .slice ka kl kc] 67))).set (w.heap.size+1) 0 (.bool false) rfl).set (w.heap.size+1) 1 (.slice none 0 0) rfl).set (w.heap.size+1) 2 (.slice none 0 0) rfl;refine bodyPost_ret (v:= .tuple #[.agg #[.bool false, .slice none 0 0, .slice none 0 0], .int .i64 260]) (by simp[results,Tryz.results25,go_sem,c4]) rfl ?_;rw[HLN.o];exact⟨rfl,BX.o.trans (ho.below BX.o.size (λk e=>oM))⟩
     .exact(heq rfl).elim
 .have HLN:=Hd (show jo F.all at_ depth=none by unfold jo;rw[hf]);have B1:=Hd (HB0.o.trans (hb1.mono HB0.o.size));have hq1:=HQ0.o.ext hb1;have hs1:=hb1.size;simp only[World.size_alloc]at hs1;have HS1:=Hd hs1;clear hb1 hf hs1;have BX:=B1;have q1:=hq1.cells;have m1:=hq1.marks;have l1:=hq1.lt;have Q1:=Hd hq1;clear hq1;go_wp2;have c4:=(((Q1.o.set 0 (.bool false)).set 1 (.slice none 0 0)).set 2 (.slice none 0 0)).cells;have ho:=(((aA.refl (· =w.heap.size+1) w1).set (w.heap.size+1) 0 (.bool false) rfl).set (w.heap.size+1) 1 (.slice none 0 0) rfl).set (w.heap.size+1) 2 (.slice none 0 0) rfl;refine bodyPost_ret (v:= .tuple #[.agg #[.bool false, .slice none 0 0, .slice none 0 0], .int .i64 260]) (by simp[results,Tryz.results25,go_sem,c4]) rfl ?_;rw[HLN.o];exact⟨rfl,BX.o.trans (ho.below BX.o.size (λk e=>oM))⟩
end Go.Proofs.YtenmnhnlcnmloaaGreat
