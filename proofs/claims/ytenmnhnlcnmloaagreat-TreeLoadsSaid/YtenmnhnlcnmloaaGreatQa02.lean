/- Part of a proof of a law of the layer of trees. -/
import Derived.StillTail
import Derived.Below
import Derived.KernelRfl
import Derived.WalkKit
import Derived.Test.YtenmnhnlcnmloaaGreatQa01
set_option linter.unusedVariables false
set_option linter.unusedSimpArgs false
set_option maxHeartbeats 8000000
set_option maxRecDepth 8000
namespace Go.Dav
open Go Go.RowKit
def Gives(P:Program)(o:Oper)(a:Act)(W:World)(R:Value->World->Prop):Prop:=
 match (execOp a.eval o).run P W with
 | .ok (.value u) W'=>Below W.heap.size W W'/\R u W'
 | .ok .skip W'=>Below W.heap.size W W'/\R undef W'
 | .ok (.enter f args) W'=>Below W.heap.size W W'/\Calls P f args W' (λe W''=>∃v,e= .returned v/\Below W'.heap.size W' W''/\R v W'')
 |_=>False
theorem oP{a b c:World}(h:Below a.heap.size a b)(k:Below b.heap.size b c):Below a.heap.size a c:=h.trans (k.mono h.size)
theorem zA{P:Program}{o:Oper}{a:Act}{W:World}{R:Value->World->Prop}{K:Act->World->Prop}{Q:Exit->Act->World->Prop}
  (h:Gives P o a W R) (hk:∀v W',Below W.heap.size W W'->R v W'->K (a.put o.dst v) W'):o.wp P a W K Q:=by
 unfold Gives at h;unfold Oper.wp;generalize(execOp a.eval o).run P W=r at*;cases r with
 |ok n w'=>
  cases n<;>simp only[Oper.upon]at h⊢
  case value u=>exact hk _ _ h.1 h.2
  case skip=>exact hk _ _ h.1 h.2
  case enter f args=>
   refine h.2.mono λe w'' ⟨v,he,hb,hr⟩=>?_;subst he;exact hk _ _ (oP h.1 hb) hr
 |halt x w'=>cases h
theorem Gives.kE{P:Program}{o:Oper}{a a':Act}{W:World}{R:Value->World->Prop}(h:Gives P o a W R)(he:execOp a'.eval o=execOp a.eval o):Gives P o a' W R:=by
 unfold Gives at*;rwa [he]
section
variable{P:Program}{ops:Array Oper}
def eX(ops:Array Oper)(p:Nat->Bool)(t:Tmp):Nat->Option Nat
 |0=>none
 |m+1=>if p m=true/\(ops[m]?).bind (·.dst)=some t then some m else eX ops p t m
theorem bC{p:Nat->Bool}{t:Tmp}:∀ {m j:Nat},eX ops p t m=some j->j<m/\p j=true/\(ops[j]?).bind (·.dst)=some t/\∀k,j<k->k<m->¬(p k=true/\(ops[k]?).bind (·.dst)=some t)
 |0,_,h=>by cases h
 |m+1,j,h=>by
  unfold eX at h;split at h
  .rename_i hp;obtain rfl:m=j:=by simpa using h
   exact⟨oM,hp.1,hp.2,λk h1 h2=>oM⟩
  .rename_i hp;obtain⟨h1,h2,h3,h4⟩:=bC h;refine⟨oM,h2,h3,λk hk hk'=>?_⟩;by_cases e:k=m
   .subst e;exact hp
   .exact h4 k hk oM
theorem jL{p:Nat->Bool}{t:Tmp}:∀ {m:Nat},eX ops p t m=none->∀k,k<m->¬(p k=true/\(ops[k]?).bind (·.dst)=some t)
 |0,_,k,hk=>by omega
 |m+1,h,k,hk=>by
  unfold eX at h;split at h
  .cases h
  .rename_i hp;by_cases e:k=m
   .subst e;exact hp
   .exact jL h k oM
theorem iw{p q:Nat->Bool}{t:Tmp}{m n:Nat}
  (h:∀j,(j<m/\p j=true/\(ops[j]?).bind (·.dst)=some t)↔(j<n/\q j=true/\(ops[j]?).bind (·.dst)=some t)):eX ops p t m=eX ops q t n:=by
 cases h1:eX ops p t m with
 |none=>
  cases h2:eX ops q t n with
  |none=>rfl
  |some j=>
   obtain⟨a1,a2,a3,_⟩:=bC h2;obtain⟨b1,b2,b3⟩:=(h j).2 ⟨a1,a2,a3⟩;exact absurd ⟨b2,b3⟩ (jL h1 j b1)
 |some i=>
  obtain⟨a1,a2,a3,a4⟩:=bC h1;obtain⟨b1,b2,b3⟩:=(h i).1 ⟨a1,a2,a3⟩;cases h2:eX ops q t n with
  |none=>exact absurd ⟨b2,b3⟩ (jL h2 i b1)
  |some j=>
   obtain⟨c1,c2,c3,c4⟩:=bC h2;obtain⟨d1,d2,d3⟩:=(h j).2 ⟨c1,c2,c3⟩;congr 1
   rcases Nat.lt_trichotomy i j with hl|hl|hl
   .exact absurd ⟨d2,d3⟩ (a4 j hl d1)
   .exact hl
   .exact absurd ⟨b2,b3⟩ (c4 i hl b1)
def dR(ops:Array Oper)(p:Nat->Bool)(vs:Nat->Value)(a:Act)(m:Nat)(t:Tmp):Option Value:=
 match eX ops p t m with
 |none=>a.tmps[t]?
 |some j=>if t<a.tmps.size then some (vs j)else none
def lay(ops:Array Oper)(vs:Nat->Value)(a:Act):Nat->Act
 |0=>a
 |m+1=>(lay ops vs a m).put ((ops[m]?).bind (·.dst)) (vs m)
theorem sJ(a:Act)(d:Option Tmp)(v:Value):(a.put d v).tmps.size=a.tmps.size:=by
 cases d<;>simp[Act.put]
theorem put_defers(a:Act)(d:Option Tmp)(v:Value):(a.put d v).defers=a.defers:=by
 cases d<;>rfl
theorem wX(a:Act)(d:Option Tmp)(v:Value)(t:Tmp):(a.put d v).tmps[t]? =if d=some t then(if t<a.tmps.size then some v else none)else a.tmps[t]?:=by
 cases d with
 |none=>simp[Act.put]
 |some e=>
  by_cases h:e=t
  .subst h;simp[Act.put,Array.getElem?_setIfInBounds]
  .simp[Act.put,h,Array.getElem?_setIfInBounds_ne h]
theorem lay_size(vs:Nat->Value)(a:Act):∀m,(lay ops vs a m).tmps.size=a.tmps.size
 |0=>rfl
 |m+1=>by rw[lay,sJ,lay_size vs a m]
theorem eP(vs:Nat->Value)(a:Act):∀m,(lay ops vs a m).defers=a.defers
 |0=>rfl
 |m+1=>by rw[lay,put_defers,eP vs a m]
theorem dM(vs:Nat->Value)(a:Act)(t:Tmp):∀m:Nat,(lay ops vs a m).tmps[t]? =dR ops (λ_=>true) vs a m t
 |0=>rfl
 |m+1=>by
  rw[lay,wX,lay_size];unfold dR eX;by_cases h:(ops[m]?).bind (·.dst)=some t
  .simp[h]
  .simp only[h,and_false,if_false];exact dM vs a t m
theorem oD{a b:Act}(h:∀t:Nat,a.tmps[t]? =b.tmps[t]?)(hd:a.defers=b.defers):a=b:=by
 cases a;cases b;simp only at h hd;rw[Array.ext_getElem? h,hd]
theorem eval_congr{a b:Act}{l:List Tmp}(h:∀t∈l,a.tmps[t]? =b.tmps[t]?)(x:Operand)(hx:∀t,x= .tmp t->t∈l):a.eval x=b.eval x:=by
 cases x with
 |tmp t=>have:=h t (hx t rfl);simp[Act.eval,Array.getD_eq_getD_getElem?,this]
 |_=>rfl
theorem iI{a b:Act}{o:Oper}(hs:∀cs t,o.op≠ .select cs t)(h:∀t∈o.looksAt ops,a.tmps[t]? =b.tmps[t]?):execOp a.eval o=execOp b.eval o:=
 execOp_congr o hs λx hx=>eval_congr h x λt ht=>by
  unfold Oper.looksAt;refine List.mem_append_left _ (List.mem_filterMap.2 ⟨x,by simpa using hx,by rw[ht]⟩)
theorem gy{a b:Act}{o:Oper}(h:∀t∈o.looksAt ops,a.tmps[t]? =b.tmps[t]?):Region.wanted o (yielded ops a.tmps)=Region.wanted o (yielded ops b.tmps):=by
 unfold Region.wanted;cases hg:o.guard with
 |none=>rfl
 |some g=>
  obtain⟨j,want⟩:=g;simp only;congr 1
  unfold yielded;cases hd:(ops[j]?).bind (·.dst)with
  |none=>rfl
  |some d=>
   simp only[Option.bind_some];rw[h d (by unfold Oper.looksAt;refine List.mem_append_right _ ?_;simp[hg,hd])]
def dH:Value ⊕ (Value->World->Prop)->Value->World->Prop
 | .inl v,u,_=>u=v
 | .inr R,u,W=>R u W
def yO(ops:Array Oper)(n:Nat):Bool:=
 (List.range n).all λi=>(List.range n).all λj=>
  match ops[i]?,ops[j]? with
  |some oi,some oj=>match oj.dst with
   |none=>true
   |some d=>
    if i=j then !(oi.looksAt ops).contains d
    else if (oi.looksAt ops).contains d||oi.dst==some d then(if i<j then Region.waitsFor .any ops j i else Region.waitsFor .any ops i j)else true
  |_,_=>false
def Rq(ops:Array Oper)(n:Nat):Bool:=
 (List.range n).all λi=>match ops[i]? with
  |some o=>o.after.all λe=> !Region.binds .any e||decide (e.on<i)
  |none=>false
def nT(ops:Array Oper)(n:Nat):Bool:=
 Region.noSelect ops&&yO ops n&&Rq ops n&&decide (n<=ops.size)&&(decide (n=ops.size)||(Region.sinkB .any ops n&&Region.chainB .any ops n))&&
  Region.seqB .any ops (ops.size-n) n ((Array.range ops.size).map λj=>decide (j<n))
end
section
variable{P:Program}{ops:Array Oper}
theorem iG{n:Nat}(h:yO ops n=true){i j:Nat}{oi oj:Oper}{d:Tmp}(hi:i<n)(hj:j<n)(hoi:ops[i]? =some oi)(hoj:ops[j]? =some oj)(hd:oj.dst=some d)
  (hl:d∈oi.looksAt ops\/(oi.dst=some d/\i≠j)):i≠j/\(i<j->Region.waitsFor .any ops j i=true)/\(j<i->Region.waitsFor .any ops i j=true):=by
 have h1:=List.all_eq_true.1 (List.all_eq_true.1 h i (List.mem_range.2 hi)) j (List.mem_range.2 hj);simp only[hoi,hoj,hd]at h1;by_cases e:i=j
 .subst e;simp only[if_true]at h1;rcases hl with hl|⟨_,hl⟩
  .simp[hl]at h1
  .exact absurd rfl hl
 .have hc:((oi.looksAt ops).contains d||oi.dst==some d)=true:=by
   rcases hl with hl|⟨hl,_⟩
   .simp[hl]
   .simp[hl]
  simp only[e,if_false,hc,if_true]at h1;refine⟨e,λhlt=>by simpa[hlt]using h1,λhlt=>?_⟩;have:¬i<j:=oM;simpa[this]using h1
structure Mid(ops:Array Oper)(n:Nat)(ps:Nat->Value ⊕ (Value->World->Prop))(a0:Act)(w0:World)(listed:Array Bool)(vs:Nat->Value)(a:Act)(W:World):Prop where
 ext:Below w0.heap.size w0 W
 size:a.tmps.size=a0.tmps.size
 defers:a.defers=a0.defers
 slots:∀t:Nat,a.tmps[t]? =dR ops (λj=>listed.getD j false) vs a0 n t
 held:∀j,j<n->listed.getD j false=true->dH (ps j) (vs j) W
def kU(ops:Array Oper)(ps:Nat->Value ⊕ (Value->World->Prop))(vs:Nat->Value)(o:Oper)(W:World):Nat->Prop
 |0=>True
 |m+1=>(match (ops[m]?).bind (·.dst)with
   |none=>True
   |some d=>if (o.looksAt ops).contains d then dH (ps m) (vs m) W else True)/\kU ops ps vs o W m
theorem ny{ps:Nat->Value ⊕ (Value->World->Prop)}{vs:Nat->Value}{o:Oper}{W:World}:∀m,(∀j d,j<m->(ops[j]?).bind (·.dst)=some d->d∈o.looksAt ops->dH (ps j) (vs j) W)->kU ops ps vs o W m
 |0,_=>trivial
 |m+1,h=>by
  refine⟨?_,ny m λj d hj=>h j d oM⟩;split
  .trivial
  .rename_i d hd;split
   .rename_i hc;exact h m d oM hd (by simpa using hc)
   .trivial
def lZ(P:Program)(ops:Array Oper)(ps:Nat->Value ⊕ (Value->World->Prop))(a0:Act)(w0:World)(vs:Nat->Value)(i:Nat):Prop:=
 match ops[i]? with
 |none=>True
 |some o=>∀W,Below w0.heap.size w0 W->kU ops ps vs o W i->
   if Region.wanted o (yielded ops (lay ops vs a0 i).tmps)then Gives P o (lay ops vs a0 i) W (dH (ps i))else dH (ps i) undef W
def kF(ps:Nat->Value ⊕ (Value->World->Prop))(vs:Nat->Value)(W:World):Nat->Prop
 |0=>True
 |m+1=>dH (ps m) (vs m) W/\kF ps vs W m
theorem oQ{ps:Nat->Value ⊕ (Value->World->Prop)}{vs:Nat->Value}{W:World}:∀m,(∀j,j<m->dH (ps j) (vs j) W)->kF ps vs W m
 |0,_=>trivial
 |m+1,h=>⟨h m oM,oQ m λj hj=>h j oM⟩
theorem mid_step{n:Nat}{ps:Nat->Value ⊕ (Value->World->Prop)}{a0:Act}{w0:World}{listed:Array Bool}{vs:Nat->Value}{a:Act}{W:World}{Q:Exit->Act->World->Prop}
  (hB:yO ops n=true) (hsel:Region.noSelect ops=true) (hst:∀j R,ps j= .inr R->∀v W W',R v W->Below W.heap.size W W'->R v W')
  (hop:∀vs i,i<n->lZ P ops ps a0 w0 vs i) (inv:HeadInv .any ops n listed) (mid:Mid ops n ps a0 w0 listed vs a W)
  {i:Nat} (hr:i∈Region.ready .any ops listed) (hin:i<n) {K:Act->World->Prop}
  (hk:∀vs a W,HeadInv .any ops n (listed.setIfInBounds i true)->Mid ops n ps a0 w0 (listed.setIfInBounds i true) vs a W->K a W):wpOp P ops Q i K a W:=by
 obtain⟨hun,oi,hoi,hall⟩:=mem_ready.1 hr;have yP:listed.getD i false=false:=getD_both hun;have hisz:i<listed.size:=by rw[inv.size];exact(Array.getElem?_eq_some_iff.1 hoi).1
 have later:∀j oj d,j<n->ops[j]? =some oj->oj.dst=some d->listed.getD j false=true->(d∈oi.looksAt ops\/oi.dst=some d)->j<i:=by
  intro j oj d hj hoj hd hl hlook;have hji:i≠j:=λe=>by subst e;rw[yP]at hl;cases hl
  obtain⟨_,h1,_⟩:=iG hB hin hj hoi hoj hd (hlook.imp id λh=>⟨h,hji⟩);rcases Nat.lt_trichotomy i j with h|h|h
  .obtain⟨oj',LX,e,he,hb,hon⟩:=Region.waitsFor_spec (h1 h);have:=inv.closed j oj' LX hl e he hb;rw[hon,yP]at this;cases this
  .exact absurd h hji
  .exact h
 have early:∀j oj d,j<i->ops[j]? =some oj->oj.dst=some d->(d∈oi.looksAt ops)->listed.getD j false=true:=by
  intro j oj d hj hoj hd hlook;obtain⟨_,_,h2⟩:=iG hB hin oM hoi hoj hd (.inl hlook);obtain⟨oi',hoi',e,he,hb,hon⟩:=Region.waitsFor_spec (h2 hj);have:oi'=oi:=Option.some.inj (hoi'.symm.trans hoi);subst this;have:=hall e he hb;rwa [hon]at this
 have looks:∀t∈oi.looksAt ops,(lay ops vs a0 i).tmps[t]? =a.tmps[t]?:=by
  intro t ht;rw[dM,mid.slots t];unfold dR;rw[iw (ops:=ops) (t:=t) (p:=λ_=>true) (q:=λj=>listed.getD j false) (m:=i) (n:=n) ?_];intro j;constructor
  .rintro⟨h1,_,h3⟩;obtain⟨oj,hoj,hd⟩:=Option.bind_eq_some_iff.1 h3;exact⟨oM,early j oj t h1 hoj hd ht,h3⟩
  .rintro⟨h1,h2,h3⟩;obtain⟨oj,hoj,hd⟩:=Option.bind_eq_some_iff.1 h3;exact⟨later j oj t h1 hoj hd h2 (.inl ht),rfl,h3⟩
 have Jm:kU ops ps vs oi W i:=ny i λj d hj hd hl=>by
  obtain⟨oj,hoj,hd'⟩:=Option.bind_eq_some_iff.1 hd;exact mid.held j oM (early j oj d hj hoj hd' hl)
 have hs:=hop vs i hin;unfold lZ at hs;simp only[hoi]at hs;have hs:=hs W mid.ext Jm;rw[gy looks]at hs;have next:∀v W',Below W.heap.size W W'->dH (ps i) v W'->K (a.put oi.dst v) W':=by
  intro v W' hb hv;refine hk (λj=>if j=i then v else vs j) _ W' (inv.set hr hin) ⟨oP mid.ext hb,by rw[sJ,mid.size],by rw[put_defers,mid.defers],λt=>?_,λj hj hl=>?_⟩
  .rw[wX,mid.size];unfold dR;by_cases hd:oi.dst=some t
   .simp only[hd,if_true];have:eX ops (λj=>(listed.setIfInBounds i true).getD j false) t n=some i:=by
     cases hc:eX ops (λj=>(listed.setIfInBounds i true).getD j false) t n with
     |none=>exact absurd ⟨by simp[hisz],by simp[hoi,hd]⟩ (jL hc i hin)
     |some j=>
      obtain⟨c1,c2,c3,c4⟩:=bC hc;obtain⟨oj,hoj,hdj⟩:=Option.bind_eq_some_iff.1 c3;by_cases e:j=i
      .rw[e]
      .have hlj:listed.getD j false=true:=by rwa [getD_set_ne false (Ne.symm e)]at c2
       have:=later j oj t c1 hoj hdj hlj (.inr hd);exact absurd ⟨by simp[hisz],by simp[hoi,hd]⟩ (c4 i this hin)
    rw[this];simp
   .simp only[hd,if_false];rw[mid.slots t];unfold dR;have:eX ops (λj=>(listed.setIfInBounds i true).getD j false) t n=eX ops (λj=>listed.getD j false) t n:=by
     refine iw λj=>?_;by_cases e:j=i
     .subst e;simp[hoi,hd]
     .rw[getD_set_ne false (Ne.symm e)]
    rw[this];cases hc:eX ops (λj=>listed.getD j false) t n with
    |none=>rfl
    |some j=>
     obtain⟨c1,c2,c3,c4⟩:=bC hc;have e:j≠i:=λe=>by subst e;simp[hoi,hd]at c3
     simp[e]
  .by_cases e:j=i
   .subst e;simpa using hv
   .simp only[e,if_false];have hl':listed.getD j false=true:=by rwa [getD_set_ne false (Ne.symm e)]at hl
    have h1:=mid.held j hj hl';cases hp:ps j with
    |inl u=>simpa[hp,dH]using h1
    |inr R=>simp only[hp,dH]at h1⊢;exact hst j R hp _ _ _ h1 hb
 unfold wpOp;simp only[hoi];split
 .rename_i hw;simp only[hw,if_true]at hs;exact .inl (zA (hs.kE (iI (λcs b=>Region.noSelect_spec hsel i oi cs b hoi) (λt ht=>(looks t ht).symm))) next)
 .rename_i hw;simp only[hw]at hs;exact next _ _ (Below.refl _ _) (by simpa using hs)
def cnt(listed:Array Bool):Nat->Nat
 |0=>0
 |m+1=>cnt listed m+if listed.getD m false then 0 else 1
theorem OE(listed:Array Bool)(i:Nat):∀m,m<=i->cnt (listed.setIfInBounds i true) m=cnt listed m
 |0,_=>rfl
 |m+1,h=>by rw[cnt,cnt,OE listed i m oM,getD_set_ne false (show i≠m by omega)]
theorem ru(listed:Array Bool)(i:Nat)(hi:i<listed.size)(hu:listed.getD i false=false):∀m,i<m->cnt (listed.setIfInBounds i true) m+1=cnt listed m
 |0,h=>by omega
 |m+1,h=>by
  rw[cnt,cnt];by_cases e:i=m
  .subst e;rw[OE _ _ _ (Nat.le_refl _),hu];simp[hi]
  .have:=ru listed i hi hu m oM;rw[getD_set_ne false e];omega
theorem qh(listed:Array Bool):∀m,cnt listed m=0->∀j,j<m->listed.getD j false=true
 |0,_,j,h=>by omega
 |m+1,h,j,hj=>by
  rw[cnt]at h;by_cases e:j=m
  .subst e;cases hl:listed.getD j false with
   |true=>rfl
   |false=>simp[hl]at h
  .exact qh listed m oM j oM
theorem iJ(listed:Array Bool):∀m,cnt listed m≠0->∃i,i<m/\listed.getD i false=false/\∀k,k<i->listed.getD k false=true
 |0,h=>absurd rfl h
 |m+1,h=>by
  by_cases e:cnt listed m=0
  .rw[cnt,e]at h;refine⟨m,oM,?_,qh listed m e⟩;cases hl:listed.getD m false with
   |true=>simp[hl]at h
   |false=>rfl
  .obtain⟨i,h1,h2,h3⟩:=iJ listed m e;exact⟨i,oM,h2,h3⟩
theorem FC{n:Nat}{ps:Nat->Value ⊕ (Value->World->Prop)}{a0:Act}{w0:World}{Q:Exit->Act->World->Prop}{l:List Oper}
  (hl:∀j:Nat,l[j]? =ops[n+j]?) (hll:l.length=ops.size-n)
  (hB:nT ops n=true) (hst:∀j R,ps j= .inr R->∀v W W',R v W->Below W.heap.size W W'->R v W')
  (hop:∀vs i,i<n->lZ P ops ps a0 w0 vs i)
  (hend:∀vs W,Below w0.heap.size w0 W->kF ps vs W n->wpList P ops Q l (lay ops vs a0 n) W):
  ∀(f:Nat) (listed:Array Bool) (vs:Nat->Value) (a:Act) (W:World),HeadInv .any ops n listed->Mid ops n ps a0 w0 listed vs a W->cnt listed n=f->
   wpAny P .any ops Q (f+(ops.size-n)) listed a W:=by
 simp only[nT,Bool.and_eq_true,decide_eq_true_eq]at hB;obtain⟨⟨⟨⟨⟨hsel,wY⟩,hback⟩,hn⟩,OG⟩,hseq⟩:=hB;have htail:n=ops.size\/(Region.sinkB .any ops n=true/\Region.chainB .any ops n=true):=by simpa using OG
 intro f;induction f with
 |zero=>
  intro listed vs a W inv mid hc;have hall:=qh listed n hc;have uD:listed=(Array.range ops.size).map λj=>decide (j<n):=by
   apply Array.ext
   .simp[inv.size]
   .intro j h1 h2;simp only[Array.getElem_map,Array.getElem_range];by_cases hj:j<n
    .have:=hall j hj;simp only[h1,Array.getD_eq_getD_getElem?,Array.getElem?_eq_getElem,Option.getD_some]at this;simp[hj,this]
    .have:=getD_both (inv.tail j oM (by simpa using h2));simp only[h1,Array.getD_eq_getD_getElem?,Array.getElem?_eq_getElem,Option.getD_some]at this;simp[hj,this]
  have ha:a=lay ops vs a0 n:=oD (λt=>by
   rw[dM,mid.slots t];unfold dR;rw[iw (ops:=ops) (t:=t) (p:=λj=>listed.getD j false) (q:=λ_=>true) (m:=n) (n:=n) ?_];intro j;constructor
   .rintro⟨h1,_,h3⟩;exact⟨h1,rfl,h3⟩
   .rintro⟨h1,_,h3⟩;exact⟨h1,hall j h1,h3⟩) (by rw[mid.defers,eP])
  have h:=hend vs W mid.ext (oQ n λj hj=>mid.held j hj (hall j hj));rw[Nat.zero_add,<- hll];rw[<- uD,<- hll]at hseq;rw[ha];exact wpAny_of_seq l n listed _ W hl hseq h
 |succ f ih=>
  intro listed vs a W inv mid hc;obtain⟨i0,hi0,hu0,hlow⟩:=iJ listed n oM;rw[show f+1+(ops.size-n)=(f+(ops.size-n))+1 by omega];refine⟨λh=>?_,λi hi=>?_⟩
  .exfalso;have h1:=List.all_eq_true.1 hback i0 (List.mem_range.2 hi0);cases ho:ops[i0]? with
   |none=>simp[ho]at h1
   |some o=>
    simp only[ho]at h1;have:i0∈Region.ready .any ops listed:=by
     refine mem_ready.2 ⟨getD_in (by rw[inv.size];omega) hu0,o,ho,λe he hb=>?_⟩;have h2:=Array.all_eq_true'.1 h1 e he;simp only[hb,Bool.not_true,Bool.false_or,decide_eq_true_eq]at h2;exact hlow e.on h2
    rw[h]at this;cases this
  .have hin:i<n:=by
    rcases Nat.lt_or_ge i n with h|h
    .exact h
    .rcases htail with ht|ht
     .obtain⟨_,o,ho,_⟩:=mem_ready.1 hi;have:=(Array.getElem?_eq_some_iff.1 ho).1;omega
     .rcases Nat.lt_or_ge n ops.size with hns|hns
      .exact absurd hi (tail_waits ht.1 ht.2 hns inv _ i0 rfl hi0 (getD_in (by rw[inv.size];omega) hu0) i h)
      .obtain⟨_,o,ho,_⟩:=mem_ready.1 hi;have:=(Array.getElem?_eq_some_iff.1 ho).1;omega
   have hun:=(mem_ready.1 hi).1;refine mid_step wY hsel hst hop inv mid hi hin λvs' a' W' Rt mid'=>ih _ vs' a' W' Rt mid' ?_;have:=ru listed i (by rw[inv.size];omega) (getD_both hun) n hin;omega
theorem zB{id:Nat}{ops:List Oper}{Q:Exit->Act->World->Prop}{a:Act}{w:World}(n:Nat)(ps:Nat->Value ⊕ (Value->World->Prop))(hm:P.follows .mixedOrders=true)(hB:nT ops.toArray n=true)
  (hst:∀j R,ps j= .inr R->∀v W W',R v W->Below W.heap.size W W'->R v W')
  (hop:∀vs i,i<n->lZ P ops.toArray ps a w vs i)
  (hend:∀vs W,Below w.heap.size w W->kF ps vs W n->wpList P ops.toArray Q (ops.drop n) (lay ops.toArray vs a n) W):(Code.region id ops.toArray true).wp P Q a w:=by
 have hn:n<=ops.toArray.size:=by
  simp only[nT,Bool.and_eq_true,decide_eq_true_eq]at hB;exact hB.1.1.2
 have he:Below w.heap.size w { w with drawn:=w.drawn+1}:=(Below.refl _ _).drew;have hc:∀m,cnt (Array.replicate ops.toArray.size false) m=m:=λm=>by
  induction m with
  |zero=>rfl
  |succ m ih=>rw[cnt,ih,getD_replicate_false];rfl
 refine wp_region_any hm ?_;have:=FC (P:=P) (ops:=ops.toArray) (l:=ops.drop n) (λj=>by simp[List.getElem?_drop]) (by simp) hB hst hop hend n (Array.replicate ops.toArray.size false) (λ_=>undef) a { w with drawn:=w.drawn+1}
  ⟨by simp,λj oj _ hl=>(by rw[getD_replicate_false]at hl;cases hl),λt _ ht=>getD_in (by simpa using ht) (getD_replicate_false _ _)⟩
  ⟨he,rfl,rfl,λt=>?_,λj _ hl=>(by rw[getD_replicate_false]at hl;cases hl)⟩ (hc n)
 .rwa [show n+(ops.toArray.size-n)=ops.toArray.size by omega]at this
 .unfold dR;rw[show eX ops.toArray (λj=>(Array.replicate ops.toArray.size false).getD j false) t n=none from ?_];cases h:eX ops.toArray (λj=>(Array.replicate ops.toArray.size false).getD j false) t n with
  |none=>rfl
  |some j=>have:=(bC h).2.1;rw[getD_replicate_false]at this;cases this
end
section
variable{P:Program}
abbrev Piece:=Value ⊕ (Value->World->Prop)
def near(ops:Array Oper)(o:Oper):List (Tmp×(World->Prop))->World->Prop
 |[],_=>True
 |g::G,W=>if (o.looksAt ops).contains g.1 then g.2 W/\near ops o G W else near ops o G W
def every:List (Tmp×(World->Prop))->World->Prop
 |[],_=>True
 |g::G,W=>g.2 W/\every G W
def dY(P:Program)(ops:Array Oper)(w:World)(Q:Exit->Act->World->Prop):List Oper->List Piece->List (Tmp×(World->Prop))->Act->Prop
 |o::os, .inl v::ps,G,a=>
  (if Region.wanted o (yielded ops a.tmps)then(∀W,Below w.heap.size w W->near ops o G W->Gives P o a W (λu _=>u=v))else undef=v)/\dY P ops w Q os ps G (a.put o.dst v)
 |o::os, .inr R::ps,G,a=>
  ((∀v W W',R v W->Below W.heap.size W W'->R v W')/\Region.wanted o (yielded ops a.tmps)=true/\(∀W,Below w.heap.size w W->near ops o G W->Gives P o a W R))/\
   ∀u,dY P ops w Q os ps (match o.dst with|some d=>(d,R u)::G|none=>G) (a.put o.dst u)
 |os,_,G,a=>∀W,Below w.heap.size w W->every G W->wpList P ops Q os a W
end
section
variable{P:Program}{ops:Array Oper}
theorem iR{ps:Nat->Piece}{vs:Nat->Value}{o:Oper}{W:World}:∀ {m:Nat},kU ops ps vs o W m->∀j d,j<m->(ops[j]?).bind (·.dst)=some d->d∈o.looksAt ops->dH (ps j) (vs j) W
 |0,_,j,_,hj,_,_=>by omega
 |m+1,h,j,d,hj,hd,hl=>by
  obtain⟨h1,h2⟩:=h;by_cases e:j=m
  .subst e;rw[hd]at h1;have hc:(o.looksAt ops).contains d=true:=by simpa using hl
   simpa only[hc,if_true]using h1
  .exact iR h2 j d oM hd hl
theorem kH{ps:Nat->Piece}{vs:Nat->Value}{W:World}:∀ {m:Nat},kF ps vs W m->∀j,j<m->dH (ps j) (vs j) W
 |0,_,j,hj=>by omega
 |m+1,h,j,hj=>by
  by_cases e:j=m
  .subst e;exact h.1
  .exact kH h.2 j oM
def fixed(ps:Nat->Piece)(vs:Nat->Value)(i:Nat):Value:=
 match ps i with
 | .inl v=>v
 | .inr _=>vs i
theorem kV{ps:Nat->Piece}{vs:Nat->Value}{i:Nat}{W:World}(h:dH (ps i) (vs i) W):fixed ps vs i=vs i:=by
 unfold fixed dH at*;split<;>rename_i h'
 .rw[h']at h;exact h.symm
 .rfl
def facts(ops:Array Oper)(ps:Nat->Piece)(vs:Nat->Value):Nat->List (Tmp×(World->Prop))
 |0=>[]
 |k+1=>match ps k with
  | .inl _=>facts ops ps vs k
  | .inr R=>match (ops[k]?).bind (·.dst)with
   |some d=>(d,R (vs k))::facts ops ps vs k
   |none=>facts ops ps vs k
theorem wZ{ps:Nat->Piece}{vs:Nat->Value}{o:Oper}{W:World}:∀ {k:Nat},kU ops ps vs o W k->near ops o (facts ops ps vs k) W
 |0,_=>trivial
 |k+1,h=>by
  have ih:=wZ h.2;unfold facts;cases hp:ps k with
  |inl v=>exact ih
  |inr R=>
   simp only;cases hd:(ops[k]?).bind (·.dst)with
   |none=>exact ih
   |some d=>
    simp only[near];by_cases hl:d∈o.looksAt ops
    .have h1:=iR h k d oM hd hl;rw[hp]at h1;rw[if_pos (by simpa using hl)];exact⟨h1,ih⟩
    .rw[if_neg (by simpa using hl)];exact ih
theorem sK{ps:Nat->Piece}{vs:Nat->Value}{W:World}:∀ {k:Nat},kF ps vs W k->every (facts ops ps vs k) W
 |0,_=>trivial
 |k+1,h=>by
  have ih:=sK h.2;unfold facts;cases hp:ps k with
  |inl v=>exact ih
  |inr R=>
   simp only;cases hd:(ops[k]?).bind (·.dst)with
   |none=>exact ih
   |some d=>
    have h1:=h.1;rw[hp]at h1;exact⟨h1,ih⟩
theorem sO{w:World}{Q:Exit->Act->World->Prop}{a:Act}{qs:Nat->Piece}(vs:Nat->Value):
  ∀(l:List Oper) (ps:List Piece) (k:Nat),(∀j:Nat,l[j]? =ops[k+j]?)->(∀j p,ps[j]? =some p->qs (k+j)=p)->ps.length<=l.length->
   dY P ops w Q l ps (facts ops qs vs k) (lay ops (fixed qs vs) a k)->
   (∀i,k<=i->i<k+ps.length->∃o,ops[i]? =some o/\∀W,Below w.heap.size w W->near ops o (facts ops qs vs i) W->
    (if Region.wanted o (yielded ops (lay ops (fixed qs vs) a i).tmps)then Gives P o (lay ops (fixed qs vs) a i) W (dH (qs i))else dH (qs i) undef W))/\
   (∀i R,k<=i->i<k+ps.length->qs i= .inr R->∀v W W',R v W->Below W.heap.size W W'->R v W')/\
   (∀W,Below w.heap.size w W->every (facts ops qs vs (k+ps.length)) W->wpList P ops Q (l.drop ps.length) (lay ops (fixed qs vs) a (k+ps.length)) W)
 |l,[],k,_,_,_,h=>by
  refine⟨λi h1 h2=>?_,λi R h1 h2=>?_,?_⟩
  .simp at h2;omega
  .simp at h2;omega
  .cases l<;>simpa[dY]using h
 |[],_::_,_,_,_,hlen,_=>by simp at hlen
 |o::l,p::ps,k,hl,hq,hlen,h=>by
  have h0:ops[k]? =some o:=by simpa using(hl 0).symm
  have hp:qs k=p:=by simpa using hq 0 p rfl
  have hb:(ops[k]?).bind (·.dst)=o.dst:=by rw[h0];rfl
  have rest:=λ(h':dY P ops w Q l ps (facts ops qs vs (k+1)) (lay ops (fixed qs vs) a (k+1)))=>sO vs l ps (k+1) (λj=>by have:=hl (j+1);simpa[Nat.add_assoc,Nat.add_comm 1 j]using this)
   (λj q hj=>by have:=hq (j+1) q (by simpa using hj);simpa[Nat.add_assoc,Nat.add_comm 1 j]using this) (by simpa using hlen) h'
  have key:dY P ops w Q l ps (facts ops qs vs (k+1)) (lay ops (fixed qs vs) a (k+1))/\
    (∀R,p= .inr R->∀v W W',R v W->Below W.heap.size W W'->R v W')/\
    ∀W,Below w.heap.size w W->near ops o (facts ops qs vs k) W->
     (if Region.wanted o (yielded ops (lay ops (fixed qs vs) a k).tmps)then Gives P o (lay ops (fixed qs vs) a k) W (dH p)else dH p undef W):=by
   cases p with
   |inl v=>
    obtain⟨h1,h2⟩:=h;have e:fixed qs vs k=v:=by unfold fixed;rw[hp]
    refine⟨by rw[facts,hp,lay,hb,e];exact h2,(λR hR=>by cases hR),λW hW hn=>?_⟩;split
    .rename_i hw;rw[if_pos hw]at h1;exact h1 W hW hn
    .rename_i hw;rw[if_neg hw]at h1;exact h1
   |inr R=>
    obtain⟨⟨h1,h3,h4⟩,h2⟩:=h;have e:fixed qs vs k=vs k:=by unfold fixed;rw[hp]
    refine⟨?_,(λR' hR=>by cases hR;exact h1),λW hW hn=>by rw[if_pos h3];exact h4 W hW hn⟩;have:=h2 (vs k);rw[facts,hp,lay,hb,e];cases hd:o.dst<;>simpa[hd]using this
  obtain⟨r1,r2,r3⟩:=rest key.1;have hl':k+(p::ps).length=k+1+ps.length:=by simp;omega
  refine⟨λi h1 h2=>?_,λi R h1 h2 hR=>?_,?_⟩
  .by_cases e:i=k
   .subst e;exact⟨o,h0,by rw[hp];exact key.2.2⟩
   .exact r1 i oM oM
  .by_cases e:i=k
   .subst e;exact key.2.1 R (by rw[<- hp,hR])
   .exact r2 i R oM oM hR
  .rw[hl'];simpa using r3
theorem ah{id:Nat}{l:List Oper}{Q:Exit->Act->World->Prop}{a:Act}{w:World}(ps:List Piece)(hm:P.follows .mixedOrders=true)(hB:nT l.toArray ps.length=true)
  (h:dY P l.toArray w Q l ps [] a):(Code.region id l.toArray true).wp P Q a w:=by
 have hn:ps.length<=l.length:=by
  simp only[nT,Bool.and_eq_true,decide_eq_true_eq]at hB;simpa using hB.1.1.2
 have spec:=λvs=>sO (P:=P) (ops:=l.toArray) (w:=w) (Q:=Q) (a:=a) (qs:=λi=>(ps[i]?).getD (.inl undef)) vs l ps 0 (λj=>by simp) (λj p hj=>by simp[hj]) hn h;refine zB ps.length (λi=>(ps[i]?).getD (.inl undef)) hm hB ?_ ?_ ?_
 .intro j R hj;by_cases hlt:j<ps.length
  .exact(spec (λ_=>undef)).2.1 j R oM oM hj
  .have:ps[j]? =none:=by simp;omega
   simp[this]at hj
 .intro vs i hi;unfold lZ;obtain⟨o,ho,hs⟩:=(spec vs).1 i oM oM;rw[ho];intro W hW hd;have hs:=hs W hW (wZ hd);have looks:∀t∈o.looksAt l.toArray,(lay l.toArray (fixed (λi=>(ps[i]?).getD (.inl undef)) vs) a i).tmps[t]? =(lay l.toArray vs a i).tmps[t]?:=by
   intro t ht;rw[dM,dM];unfold dR;cases hc:eX l.toArray (λ_=>true) t i with
   |none=>rfl
   |some j=>
    obtain⟨c1,_,c3,_⟩:=bC hc;simp only;rw[kV (iR hd j t c1 c3 ht)]
  rw[gy looks]at hs;simp only;split
  .rename_i hw;rw[if_pos hw]at hs;refine hs.kE (iI (λcs b=>Region.noSelect_spec (by simp only[nT,Bool.and_eq_true]at hB;exact hB.1.1.1.1.1) i o cs b ho) (λt ht=>(looks t ht).symm))
  .rename_i hw;rw[if_neg hw]at hs;exact hs
 .intro vs W hW hall;have:=(spec vs).2.2 W hW (sK (by simpa using hall));have e:lay l.toArray (fixed (λi=>(ps[i]?).getD (.inl undef)) vs) a ps.length=lay l.toArray vs a ps.length:=oD (λt=>by
   rw[dM,dM];unfold dR;cases hc:eX l.toArray (λ_=>true) t ps.length with
   |none=>rfl
   |some j=>
    obtain⟨c1,_,_,_⟩:=bC hc;simp only;rw[kV (kH hall j c1)]) (by rw[eP,eP])
  rw[Nat.zero_add,e]at this;exact this
end
section
variable{P:Program}{ops:Array Oper}{w:World}{Q:Exit->Act->World->Prop}{o:Oper}{os:List Oper}{ps:List Piece}{G:List (Tmp×(World->Prop))}{a:Act}
theorem uF{v:Value}(hw:Region.wanted o (yielded ops a.tmps)=true)(h:∀W,Below w.heap.size w W->near ops o G W->Gives P o a W (λu _=>u=v))
  (hr:dY P ops w Q os ps G (a.put o.dst v)):dY P ops w Q (o::os) (.inl v::ps) G a:=by
 unfold dY;rw[if_pos hw];exact⟨h,hr⟩
theorem FD(hw:Region.wanted o (yielded ops a.tmps)=false)(hr:dY P ops w Q os ps G (a.put o.dst undef)):dY P ops w Q (o::os) (.inl undef::ps) G a:=by
 unfold dY;rw[if_neg (by rw[hw];exact Bool.false_ne_true)];exact⟨rfl,hr⟩
theorem aG{d:Tmp}{R:Value->World->Prop}(hd:o.dst=some d)(hst:∀v W W',R v W->Below W.heap.size W W'->R v W')(hw:Region.wanted o (yielded ops a.tmps)=true)
  (h:∀W,Below w.heap.size w W->near ops o G W->Gives P o a W R) (hr:∀u,dY P ops w Q os ps ((d,R u)::G) (a.put (some d) u)):dY P ops w Q (o::os) (.inr R::ps) G a:=by
 unfold dY;refine⟨⟨hst,hw,h⟩,λu=>?_⟩;simp only[hd];exact hr u
theorem aj(h:∀W,Below w.heap.size w W->every G W->wpList P ops Q os a W):dY P ops w Q os [] G a:=by
 cases os<;>(unfold dY;exact h)
end
theorem ite_val(p:Prop) [Decidable p](W:World)(b:Bool):(if p then(Result.ok (Next.value (.bool b)) W)else(Result.ok (Next.value (.bool false)) W))=Result.ok (Next.value (.bool (decide p&&b))) W:=by
 by_cases h:p<;>simp[h]
theorem ay(p:Prop) [Decidable p](W:World):(if p then(Result.ok (Next.value (.bool true)) W)else(Result.ok (Next.value (.bool false)) W))=Result.ok (Next.value (.bool (decide p))) W:=by
 by_cases h:p<;>simp[h]
section
variable{P:Program}{ops:Array Oper}{w:World}{Q:Exit->Act->World->Prop}{os:List Oper}{ps:List Piece}{G:List (Tmp×(World->Prop))}{o:Oper}{a a':Act}{v:Value}
theorem wG(h:∀W,Below w.heap.size w W->near ops o G W->Gives P o a W (λu _=>u=v))(hr:dY P ops w Q os ps G a')(hw:Region.wanted o (yielded ops a.tmps)=true:=by rfl)(ha:a.put o.dst v=a':=by simp only[Act.put,pB,pC,pD];rfl):dY P ops w Q (o::os) (.inl v::ps) G a:=uF hw h (by rw[ha];exact hr)
theorem wD(hr:dY P ops w Q os ps G a')(h:∀W,Below w.heap.size w W->near ops o G W->Gives P o a W (λu _=>u=v):=by intro W hE hN;go_simp;refine⟨Below.refl _ _,?_⟩;rfl)(hw:Region.wanted o (yielded ops a.tmps)=true:=by rfl)(ha:a.put o.dst v=a':=by simp only[Act.put,pB,pC,pD];rfl):dY P ops w Q (o::os) (.inl v::ps) G a:=uF hw h (by rw[ha];exact hr)
theorem wE(hr:dY P ops w Q os ps G a')(h:∀W,Below w.heap.size w W->near ops o G W->Gives P o a W (λu _=>u=v):=by intro W hE hN;have hc:=λb o h=>hE.cell (p:=⟨b,o,none⟩) h;go_simp;refine⟨Below.refl _ _,?_⟩;rfl)(hw:Region.wanted o (yielded ops a.tmps)=true:=by rfl)(ha:a.put o.dst v=a':=by simp only[Act.put,pB,pC,pD];rfl):dY P ops w Q (o::os) (.inl v::ps) G a:=uF hw h (by rw[ha];exact hr)
theorem wS(hr:dY P ops w Q os ps G a')(hw:Region.wanted o (yielded ops a.tmps)=false:=by rfl)(ha:a.put o.dst undef=a':=by simp only[Act.put,pB,pC,pD];rfl):dY P ops w Q (o::os) (.inl undef::ps) G a:=FD hw (by rw[ha];exact hr)
theorem gF{p:Prop}(h:p:=by go_simp;refine⟨Below.refl _ _,?_⟩;rfl):p:=h
theorem gC{p:Prop}(h:p:=by go_simp;refine hz.o.mono ?_;rintro e w' ⟨rfl,hb⟩;refine⟨?_,hb⟩;rfl):p:=h
end
theorem Hd{p:Prop}(h:p):RowKit.Hid p:=h
theorem _root_.Go.RowKit.Hid.o{p:Prop}(h:RowKit.Hid p):p:=h.out
theorem _root_.Go.RowKit.Below.cF{B:Nat}{w w':World}(h:Below B w w')(b o:Nat)(hb:b<B):w'.cell? ⟨b,o,none⟩=w.cell? ⟨b,o,none⟩:=h.cell (p:=⟨b,o,none⟩) hb
theorem _root_.Go.RowKit.Below.fF{B:Nat}{w w':World}(h:Below B w w')(b o:Nat)(hb:b<B):w'.frozen? ⟨b,o,none⟩=w.frozen? ⟨b,o,none⟩:=h.frozen (p:=⟨b,o,none⟩) hb
theorem pB{α:Type}(l:List α)(i:Nat)(v:α):l.toArray.setIfInBounds i v=(l.set i v).toArray:=List.setIfInBounds_toArray l i v
theorem pC{α:Type}(a b:α)(l:List α):(a::l).set 0 b=b::l:=List.set_cons_zero
theorem pD{α:Type}(a b:α)(l:List α)(n:Nat):(a::l).set (n+1) b=a::l.set n b:=List.set_cons_succ
end Go.Dav
