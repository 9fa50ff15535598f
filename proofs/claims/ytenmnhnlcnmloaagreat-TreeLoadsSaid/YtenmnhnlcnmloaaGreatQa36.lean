/- Part of a proof of a law of the layer of trees. -/
import Derived.Test.YtenmnhnlcnmloaaGreatQa34
import Derived.Test.YtenmnhnlcnmloaaGreatQa35
import Derived.Test.YtenmnhnlcnmloaaGreatQa28
import Derived.Test.YtenmnhnlcnmloaaGreatQa20
import Derived.Test.YtenmnhnlcnmloaaGreatQa21
import Derived.Test.YtenmnhnlcnmloaaGreatQa15
import Derived.Test.YtenmnhnlcnmloaaGreatQa04
import Derived.Test.YtenmnhnlcnmloaaGreatQa01
set_option linter.unusedVariables false
set_option linter.unusedSimpArgs false
set_option maxHeartbeats 8000000
set_option maxRecDepth 8000
namespace Go.Dav
open Go Go.RowKit
theorem LG{F:aB}{b:bD}{turned:Bool}{t:mP}(h:nM F t=none):goT F b turned t=([],qV F t):=by
 unfold goT qV;unfold nM at h;by_cases h1:F.right=true
 .rw[if_pos h1]at h⊢;rw[if_pos h1];by_cases h2:t.Ue=true
  .rw[if_pos h2,if_pos h2]
  .rw[if_neg h2]at h⊢;rw[if_neg h2,h,if_pos rfl]
 .rw[if_neg h1,if_neg h1]
theorem LH{F:aB}{b:bD}{turned:Bool}{t:mP}{N:aT}(h:nM F t=some N):goT F b turned t=((goN F.all b turned t.depth.toNat N t.at_ none).1,if (goN F.all b turned t.depth.toNat N t.at_ none).2=none then 260 else 0)/\F.right=true/\0<=t.depth/\t.depth<=8/\Cm t.depth.toNat N:=by
 unfold goT;unfold nM at h;by_cases h1:F.right=true
 .rw[if_pos h1]at h⊢;by_cases h2:t.Ue=true
  .rw[if_pos h2]at h;cases h
  .rw[if_neg h2]at h⊢;rw[h];refine⟨rfl,h1,?_⟩;unfold vF at h;split at h
   .cases h
   .rename_i hn;split at h
    .cases h
    .rename_i N' hl;split at h
     .cases h
     .cases h;have h0:0<=t.depth:=by
       refine Classical.byContradiction λhc=>?_;rw[Au oM]at hl;cases hl
      refine⟨h0,oM,?_⟩;exact DF (by rw[Int.toNat_of_nonneg h0];exact hl)
 .rw[if_neg h1]at h;cases h
section
variable{F:Fence}{n:Nat}{P:Program}
theorem qO{α:Type}{g:Operand}{ps:Array Tmp}{assign body:Code}{Q:Exit->Act->World->Prop}{a:Act}{w:World}
  (hro:F.round=none) (hdp:F.depth=none) (h1:1<=n) {gf:Nat} {lb:Array Value} (hg:a.eval g= .func (.func gf) #[] lb) (hFg:F.fn gf) (eg:∀args w,(callFunc gf args).run P w= .ok (.enter gf args) w)
  {encs:α->Array Value} {q:Nat->Prop} (hq:∀b,q b->b<w.heap.size) {Kp:World->World->Prop} {X:α->World->Prop} {S Sp:List α->World->Prop} {N:Nat} (hseq:ZT F (n-1) P gf lb encs q Kp X S Sp N w)
  (hKt:∀ {A B C:World},Kp A B->Kp B C->Kp A C) (hKb:∀(W:World) (l:Nat) (o o':Obj),w.heap.size<=l->W.heap[l]? =some o->o.isCells=false->o.isWalk=false->Kp W (W.putObj l o')) (YR:∀A B:World,w.heap.size<=A.heap.size->Below A.heap.size A B->Kp A B) (hps:∀x,(encs x).size=ps.size)
  (hX:∀(x:α) (W:World) (l:Nat) (o o':Obj),w.heap.size<=l->W.heap[l]? =some o->o.isCells=false->X x W->X x (W.putObj l o'))
  (hS:∀(xs:List α) (W:World) (l:Nat) (o o':Obj),w.heap.size<=l->W.heap[l]? =some o->o.isCells=false->S xs W->S xs (W.putObj l o')) (hSp:∀(xs:List α) (W:World) (l:Nat) (o o':Obj),w.heap.size<=l->W.heap[l]? =some o->o.isCells=false->Sp xs W->Sp xs (W.putObj l o'))
  (I:List α->World->Prop) (Ix:Code->List α->World->Prop) (hI:OwnFrom w.heap.size I) (hIx:∀c,OwnFrom w.heap.size (Ix c)) (hIq:∀s A B,I s A->aA q A B->I s B) (abL:∀c s A B,Ix c s A->aA q A B->Ix c s B) (h0:I [] w) (A:α->Act->World->Prop) (hAp:∀(x:α) (a':Act) (W:World) (l:Nat) (o o':Obj),w.heap.size<=l->W.heap[l]? =some o->o.isCells=false->A x a' W->A x a' (W.putObj l o'))
  (hassign:∀(m l:Nat) (pre:List α) (x:α) (W:World) (K:Act->World->Prop),I pre W->X x W->w.heap.size<=W.heap.size->(∀a' W',Below W.heap.size W W'->I pre W'->X x W'->A x a' W'->K a' W')->
   assign.wpIn (F.inRound l) m P (Exit.then K (λ_ _ _=>False)) { tmps:=(ps.zip (encs x)).foldl (λt (p,v)=>t.setIfInBounds p v) a.tmps,defers:=[]} W)
  (hbody:∀(m l:Nat) (pre:List α) (x:α) (a':Act) (W:World),I pre W->X x W->A x a' W->pre.length<N->w.heap.size<=W.heap.size->body.wpIn (F.inRound l) m P (SH Kp I Ix (pre++[x]) W) a' W)
  (hdone:∀(D:Nat) (xs:List α) (W:World),w.heap.size<=D->S xs W->I xs W->W.heap[D]? =some (.deferred (some []))->Q .normal { a with defers:= { target:= .collected D,args:= #[]}::a.defers} W)
  (hstop:∀(D:Nat) (c:Code) (pre:List α) (W:World),w.heap.size<=D->Sp pre W->Ix c pre W->W.heap[D]? =some (.deferred (some []))->c.wpIn F n P Q { a with defers:= { target:= .collected D,args:= #[]}::a.defers} W):
  (Code.rangeFunc g ps assign body).wpIn F n P Q a w:=by
 refine wpIn_rangeFunc λfn hfn=>?_;rw[hro];obtain⟨rc,hrc⟩:∃rc:LoopState->Option Code->Loop,rc=λst pe=> { state:=st,pending:=pe,fn,tmps:=a.tmps,params:=ps,assign,body,defers:=w.heap.size}:=⟨_,rfl⟩;obtain⟨B,hB⟩:∃B,w.heap.size=B:=⟨_,rfl⟩;obtain⟨V,hV⟩:∃V,(w.alloc (.deferred (some []))).alloc (.loop (rc .ready none))=V:=⟨_,rfl⟩;have hVs:V.heap.size=B+2:=by rw[<- hV,<- hB];simp
 have bV:Below w.heap.size w V:=by rw[<- hV];exact((Below.refl _ w).alloc (Nat.le_refl _) _).alloc (by simp) _
 have lV:V.heap[B+1]? =some (.loop (rc .ready none)):=by
  rw[<- hV,<- hB];have:=World.alloc_heap_new (w.alloc (.deferred (some []))) (.loop (rc .ready none));rwa [World.size_alloc]at this
 have dV:V.heap[B]? =some (.deferred (some [])):=by
  rw[<- hV,<- hB];exact(Below.heap_alloc _ _ _ (by simp)).trans (World.alloc_heap_new w _)
 have iV:I [] V:=by rw[<- hV];exact hI.alloc _ (hI.alloc _ h0)
 have nq:∀k,B<=k->¬q k:=λk hk h=>by have:=hq k h;omega
 refine⟨B+1,[{ target:= .collected B,args:= #[]}],V,{ target:= .fn (.func gf) lb,args:= #[.func (.yield (B+1)) #[] #[]]},V,gf,#[.func (.yield (B+1)) #[] #[]]++lb,V,?_,?_,?_,?_,λ_=>h1,?_⟩
 .rw[<- hV,hrc,<- hB];exact run_enterLoop_outer _ _ _ _ _
 .simp only[resolve,hg];simp[go_sem]
 .intro f' hf';simp[Target.leads]at hf';subst hf';exact hFg
 .simp[invoke,go_sem,eg]
 .refine(hseq (B+1)
   (λpre W=>I pre W/\W.heap[B+1]? =some (.loop (rc .ready none))/\W.heap[B]? =some (.deferred (some [])))
   (λpre W=>∃c,Ix c pre W/\W.heap[B+1]? =some (.loop (rc .done (some c)))/\W.heap[B]? =some (.deferred (some [])))
   V bV bV.size (λs A C h k=>⟨hIq s A C h.1 k,k.keeps h.2.1 (nq _ oM),k.keeps h.2.2 (nq _ (Nat.le_refl _))⟩)
   (λs A C ⟨c,h,hl,hd⟩ k=>⟨c,abL c s A C h k,k.keeps hl (nq _ oM),k.keeps hd (nq _ (Nat.le_refl _))⟩) ?_ ⟨iV,lV,dV⟩).mono ?_
  .rintro m pre x W ⟨hi,hl,hd⟩ hx hlen;have hy:=run_yield (P:=P) (args:=encs x) hl (by rw[hrc];exact hps x);rw[hrc]at hy;refine⟨fn,_,assign,body,hy,roundIn_of_wpIn hfn (hassign m _ pre x W _ hi hx (by have:=(Array.getElem?_eq_some_iff.1 hl).1;omega) ?_)⟩;intro a' W0 hb0 hi hx hA;have kW:Kp W W0:=YR _ _ (by have:=(Array.getElem?_eq_some_iff.1 hl).1;omega) hb0;have hl:W0.heap[B+1]? =some (.loop (rc .ready none)):=(hb0.block _ (Array.getElem?_eq_some_iff.1 hl).1).trans hl;have hd:W0.heap[B]? =some (.deferred (some [])):=(hb0.block _ (Array.getElem?_eq_some_iff.1 hd).1).trans hd;refine⟨_,run_beginRound hl (by rw[hrc]),?_⟩;have hlt:B+1<W0.heap.size:=(Array.getElem?_eq_some_iff.1 hl).1;obtain⟨C,hC⟩:∃C,W0.putObj (B+1) (.loop { rc .ready none with state:= .busy})=C:=⟨_,rfl⟩;have lC:C.heap[B+1]? =some (.loop { rc .ready none with state:= .busy}):=by rw[<- hC];exact World.putObj_heap_same hlt
   have dC:C.heap[B]? =some (.deferred (some [])):=by rw[<- hC];exact(World.putObj_heap_other oM).trans hd
   have kC:Kp W C:=hKt kW (by rw[<- hC];exact hKb _ _ _ _ oM hl rfl rfl);have xC:X x C:=by rw[<- hC];exact hX _ _ _ _ _ oM hl rfl hx
   have aC:A x a' C:=by rw[<- hC];exact hAp _ _ _ _ _ _ oM hl rfl hA
   have iC:I pre C:=by rw[<- hC];exact hI.putObj _ hi oM hl rfl
   rw[hC];refine wpIn_mono (hbody m _ pre x a' _ iC xC aC hlen (by have:=(Array.getElem?_eq_some_iff.1 lC).1;omega)) ?_;have fin:∀(jump:Option Code) (T:World),KeepsOthers C T->
     (Instr.endRound (B+1) jump).run P T= .ok (.bool jump.isNone) (T.putObj (B+1) (.loop (rc (if jump.isNone then .ready else .done) jump)))/\
     T.heap[B+1]? =some (.loop { rc .ready none with state:= .busy})/\
     (T.putObj (B+1) (.loop (rc (if jump.isNone then .ready else .done) jump))).heap[B+1]? =some (.loop (rc (if jump.isNone then .ready else .done) jump))/\
     (T.putObj (B+1) (.loop (rc (if jump.isNone then .ready else .done) jump))).heap[B]? =some (.deferred (some [])):=λjump T hk=>by
    have lT:=hk.same _ _ lC rfl;have hr:=run_endRound (P:=P) jump lT;rw[hrc]at hr⊢;exact⟨hr,by rw[hrc]at lT;exact lT,World.putObj_heap_same (Array.getElem?_eq_some_iff.1 lT).1,(World.putObj_heap_other oM).trans (hk.same _ _ dC rfl)⟩
   rintro e a3 T hp;cases e with
   |normal=>
    obtain⟨hk,hkp,hi3⟩:=hp;obtain⟨hr,l3,l4,d4⟩:=fin none T hk;exact⟨_,_,hr, .inl ⟨rfl,⟨hI.putObj _ hi3 oM l3 rfl,l4,d4⟩,hKt (hKt kC hkp) (hKb _ _ _ _ oM l3 rfl rfl)⟩⟩
   |ret=>
    obtain⟨hk,hkp,hi3⟩:=hp;obtain⟨hr,l3,l4,d4⟩:=fin (some .ret) T hk;exact⟨_,_,hr, .inr ⟨rfl,⟨.ret,(hIx _).putObj _ hi3 oM l3 rfl,l4,d4⟩,hKt (hKt kC hkp) (hKb _ _ _ _ oM l3 rfl rfl)⟩⟩
   |exit id=>
    obtain⟨hk,hkp,hi3⟩:=hp;obtain⟨hr,l3,l4,d4⟩:=fin (some (.exit id)) T hk;exact⟨_,_,hr, .inr ⟨rfl,⟨.exit id,(hIx _).putObj _ hi3 oM l3 rfl,l4,d4⟩,hKt (hKt kC hkp) (hKb _ _ _ _ oM l3 rfl rfl)⟩⟩
   |goto t=>
    obtain⟨hk,hkp,hi3⟩:=hp;obtain⟨hr,l3,l4,d4⟩:=fin (some (.goto t)) T hk;exact⟨_,_,hr, .inr ⟨rfl,⟨.goto t,(hIx _).putObj _ hi3 oM l3 rfl,l4,d4⟩,hKt (hKt kC hkp) (hKb _ _ _ _ oM l3 rfl rfl)⟩⟩
   |panic ch=>exact hp.elim
   |outgrown=>exact hp.elim
  .rintro e T ⟨⟨v,rfl⟩,(⟨xs,hs,hi,hl,hd⟩|⟨pre,hs,c,hi,hl,hd⟩)⟩
   .exact⟨none,_,by have:=run_endLoop (P:=P) hl (by rw[hrc];simp);rw[hrc]at this;exact this,hdone _ xs _ oM (hS _ _ _ _ _ oM hl rfl hs) (hI.putObj _ hi oM hl rfl) ((World.putObj_heap_other oM).trans hd)⟩
   .exact⟨some c,_,by have:=run_endLoop (P:=P) hl (by rw[hrc];simp);rw[hrc]at this;exact this,hstop _ c pre _ oM (hSp _ _ _ _ _ oM hl rfl hs) ((hIx c).putObj _ hi oM hl rfl) ((World.putObj_heap_other oM).trans hd)⟩
end
theorem WkE.put{q ob t:Nat}{p:WkP}{B:bD}{F:aB}{turned:Bool}{last:Option (List UInt8)}{why:Int}{W:World}{l:Nat}{o o':Obj}(h:WkE W q ob t p B F turned last why)(h0:ob<l)(h2:W.heap[l]? =some o)(h3:o.isCells=false):WkE (W.putObj l o') q ob t p B F turned last why:=by
 obtain⟨hv,za,zl,zc,h⟩:=h;have k:KpQ ob (pO ob) W (W.putObj l o'):=KpQ.put h0 h2 h3;exact⟨hv.kpq k,za,zl,zc,h.round hv k⟩
theorem jh.put{q ob:Nat}{x:aP}{v:Value}{W:World}{l:Nat}{o o':Obj}(h:jh W (Sf q ob W) x v)(h0:ob<l)(h2:W.heap[l]? =some o)(h3:o.isCells=false):jh (W.putObj l o') (Sf q ob (W.putObj l o')) x v:=h.go (KpQ.put h0 h2 h3)
theorem Qv(b:bD)(turned:Bool):∀(l:List aP) (last:Option (List UInt8)),(goI b turned last l).1.length<=l.length
 |[],_=>Nat.le_refl _
 |x::l,last=>by
  rw[goI];by_cases h:Ar turned last x.key=true
  .rw[if_pos h];have:=Qv b turned l (some x.key);dsimp only;rw[List.length_append,List.length_cons];by_cases h2:b.holdsB x.key=true
   .rw[if_pos h2,List.length_singleton];omega
   .rw[if_neg h2,List.length_nil];omega
  .rw[if_neg h];simp
theorem Qw(step:Nat->Option (List UInt8)->GoT)(M:Nat)(hs:∀i last,(step i last).1.length<=M):∀(l:List Nat) (last:Option (List UInt8)),(goK step l last).1.length<=l.length*M
 |[],_=>by simp[goK]
 |i::l,last=>by
  rw[goK];have h1:=hs i last;cases h:(step i last).2 with
  |none=>dsimp only;rw[List.length_cons,Nat.succ_mul];omega
  |some z=>
   have h2:=Qw step M hs l z;dsimp only;rw[List.length_append,List.length_cons,Nat.succ_mul];omega
theorem Qx(all:List UInt8)(b:bD)(turned:Bool):∀(d:Nat) (N:aT) (a:Int) (last:Option (List UInt8)),Cm d N->(goN all b turned d N a last).1.length<=6^(d+1)
 |0,N,a,last,hf=>by
  rw[Ll];have h1:=Qv b turned (oq turned N.items) last;rw[mW]at h1;have:=(DI hf).2.2.2;omega
 |d+1,N,a,last,hf=>by
  rw[Lj];have h6:=(Ie hf).2.2.2;have h1:=Qw (Qj all b turned d N a) (6^(d+1)) (λi last=>by
   unfold Qj;split
   .split
    .exact Nat.zero_le _
    .split
     .exact Nat.zero_le _
     .rename_i M hM;exact Qx all b turned d M _ last (Aw hM)
   .exact Nat.zero_le _) (oq turned (List.range N.kids.length)) last
  rw[mW,List.length_range]at h1;refine Nat.le_trans h1 ?_;rw[Nat.pow_succ 6 (d+1),Nat.mul_comm];exact Nat.mul_le_mul_left _ h6
theorem Ku(F:aB)(b:bD)(turned:Bool)(t:mP):(goT F b turned t).1.length<=10077696:=by
 cases hro:nM F t with
 |none=>rw[LG hro];exact Nat.zero_le _
 |some N=>
  obtain⟨h1,_,h3,h4,h5⟩:=LH (b:=b) (turned:=turned) hro;rw[h1];refine Nat.le_trans (Qx _ _ _ _ _ _ _ h5) ?_;exact Nat.le_trans (Nat.pow_le_pow_right oM (show t.depth.toNat+1<=9 by omega)) dC
theorem lY{Fn:Fence}{n0:Nat}{P:Program}{W:World}{ops:Array Oper}{rest:List Oper}{o:Oper}{a:Act}{Q:Exit->Act->World->Prop}(hgd:o.guard=none)(s x:Operand)(t:TypeId)(ho:o.op= .call { callee:= .builtin .append,args:= #[s,x],argTypes:= #[t,t]})
  (base:Nat) (e:TypeId) (i:TypeInfo) (z:Value) (size bytes:Nat) (ht:P.underlying t=some (.slice e)) (hi:P.info? e=some i) (hz:i.zero=some z) (hsize:i.size=size) (hby:i.bytes=bytes) (hzs:z.cells.size=size) (hsz:0<size)
  (v:Value) (n:Nat) (xs:List Value) (hs:a.eval s=v) (hown:W.ownsRow base e size v n xs)
  (ad:Addr) (m c:Nat) (ys:List Value) (hx:a.eval x= .slice (some ad) m c) (hl:ys.length=m*size) (hy:∀j u,ys[j]? =some u->W.cell? (ad.add j)=some u)
  (h1:∀u∈ys,u.oneCell'=true) (hm:0<m) (h63:n+m<=maxLen) (hbytes:(n+m)*bytes<=140737488355328) (hbase:base<=W.heap.size)
  (h:∀g cap w',w'.ownsRow base e size (.slice (some ⟨g,0,none⟩) (n+m) cap) (n+m) (xs++ys)->W.grownBy w' v.ownBlock->(v.ownBlock=some g\/g=W.heap.size)->g<w'.heap.size->wpListIn Fn n0 P ops Q rest (a.put o.dst (.slice (some ⟨g,0,none⟩) (n+m) cap)) w'):wpListIn Fn n0 P ops Q (o::rest) a W:=by
 refine wpListIn_plain hgd λK hK=>?_;obtain⟨g,cap,w',hr,h2,h3,h4,h5⟩:=run_append_lies (P:=P) W t o.type base e i z size bytes ht hi hz hsize hby hzs hsz v n xs hown ad m c ys hl hy h1 hm h63 hbytes hbase _ rfl;unfold Oper.wpIn;refine⟨?_,?_⟩
 .simp[Oper.about,ho,resolve,Target.leads,Sem.run_pure]
 .rw[Oper.semAt_plain Fn _ _ (by rw[ho];intro c hc';cases hc')];simp[execOp,ho,resolve,invoke,builtin,hs,hx,hr,Result.andThen];exact hK _ _ (h g cap w' h2 h3 h4 h5)
theorem IK{W Wa w6:World}{ob B1 nB g cap n:Nat}{ts te:TypeId}{v:Value}{cs cs':List Value}(hv:Boxed W ob ts v)(hte:ts≠te)(hrow:W.ownsRow B1 te 4 v n cs)(hb:Below W.heap.size W Wa)
  (hown:w6.ownsRow B1 te 4 (.slice (some ⟨g,0,none⟩) (n+1) cap) (n+1) cs') (hgrow:Wa.grownBy w6 v.ownBlock) (hg:v.ownBlock=some g\/g=Wa.heap.size) (hgl:g<w6.heap.size) (hnB:nB<=B1) (hnO:nB<=ob) (hnW:nB<=W.heap.size):
  Boxed w6 ob ts v/\Boxed (w6.setCell ⟨ob,0,none⟩ (.slice (some ⟨g,0,none⟩) (n+1) cap)) ob ts (.slice (some ⟨g,0,none⟩) (n+1) cap)/\(w6.setCell ⟨ob,0,none⟩ (.slice (some ⟨g,0,none⟩) (n+1) cap)).ownsRow B1 te 4 (.slice (some ⟨g,0,none⟩) (n+1) cap) (n+1) cs'/\
   KeepsOthers W (w6.setCell ⟨ob,0,none⟩ (.slice (some ⟨g,0,none⟩) (n+1) cap))/\Below nB W (w6.setCell ⟨ob,0,none⟩ (.slice (some ⟨g,0,none⟩) (n+1) cap))/\KpQ ob (pO ob) W (w6.setCell ⟨ob,0,none⟩ (.slice (some ⟨g,0,none⟩) (n+1) cap)):=by
 have hva:Boxed Wa ob ts v:=(hb.block ob hv.lt).trans hv;have Va:Wa.ownsRow B1 te 4 v n cs:=aK hrow hb;have hv1:Boxed w6 ob ts v:=hva.kept hgrow (hva.not_row hte Va);have hpt:∀k,v.ownBlock=some k->mO W ob k:=by
  intro k hk;rcases hrow.2 with⟨rfl,_⟩|⟨g0,cap0,cur,rfl,_,hgb,_⟩
  .simp[Value.ownBlock]at hk
  .obtain rfl:g0=k:=by simpa[Value.ownBlock]using hk
   exact⟨0,n,cap0,hv.cell⟩
 have hrk:∀j o,v.ownBlock=some j->Wa.heap[j]? =some o->o.isCells=true:=by
  intro j o ej hj;rcases Va.2 with⟨rfl,_⟩|⟨g0,cap0,cur,rfl,_,hgb,_⟩
  .simp[Value.ownBlock]at ej
  .obtain rfl:g0=j:=by simpa[Value.ownBlock]using ej
   rw[hgb]at hj;cases hj;rfl
 refine⟨hv1,hv1.set _,hown.kept (grownBy_setCell' w6 ob _) (.inr (hv1.not_row hte hown).symm),?_,?_,?_⟩
 .exact(qF hb).trans ((KeepsOthers.of_grownBy hgrow λj o ej hj=>hrk j o ej hj).trans (KeepsOthers.setCell _ _ _))
 .have h1:Below nB W Wa:=hb.mono hnW;refine h1.trans (((Below.refl nB Wa).grown hgrow (Nat.le_trans hnW hb.size) λj ej=>?_).setCell (p:=⟨ob,0,none⟩) hnO _);have:=(Va.lt j ej).1;omega
 .have hs6:Wa.heap.size<=w6.heap.size:=hgrow.size;have hsz:=hb.size;refine⟨by simp;omega,λk o h1 h2 h3 h4=>?_,λk hk=>?_⟩
  .have hk:=(Array.getElem?_eq_some_iff.1 h1).1;rw[Below.heap_setCell w6 ⟨ob,0,none⟩ _ k (λe=>h3 e)];rw[hgrow.block k oM (λe=>h4 (hpt k e.symm)),hb.block k hk];exact h1
  .obtain⟨o1,n1,c1,hc⟩:=hk;rw[(hv1.set (.slice (some ⟨g,0,none⟩) (n+1) cap)).cell]at hc;cases hc;rcases hg with hg|hg
   .exact .inl (hpt _ hg)
   .refine .inr ⟨oM,by simpa using hgl⟩
theorem aS.go{q ob:Nat}{W W':World}{cs:List Value}{L:List aP}(h:aS W (Sf q ob W) cs L)(k:KpQ ob (pQ q ob) W W'):aS W' (Sf q ob W') cs L:=
 ⟨h.1,λi x hx=>by
  obtain⟨ka,kl,kc,va,vl,vc,c0,c1,c2,c3,g1,g2,g3⟩:=h.2 i x hx;exact⟨ka,kl,kc,va,vl,vc,c0,c1,c2,c3,g1.go k,g2.go k,g3⟩⟩
theorem aS.shut2{W:World}{S:Nat->Prop}{cs:List Value}{L:List aP}{e base n:Nat}{v:Value}(h:aS W S cs L)(ho:W.ownsRow base e 4 v n cs)(hn:n<=140737488355328):∃a c,v= .slice a n c/\aY W (λb=>S b\/base<=b) a n c L:=by
 have hln:L.length=n:=by have:=ho.1;have:=h.1;omega
 rcases ho.2 with⟨h1,h2⟩|⟨g,cap,cur,hv,hg,hh,hc,hm,_⟩
 .subst h2;have:L=[]:=List.length_eq_zero_iff.1 hln;subst this;exact⟨none,0,h1,⟨rfl,Nat.le_refl _,by unfold maxLen;omega,oM,λk x hx=>by simp at hx,λ_=>rfl⟩⟩
 .refine⟨some ⟨g,0,none⟩,cap,hv,⟨hln,hc,hm,oM,λk x hx=>?_,λh=>by cases h⟩⟩;obtain⟨ka,kl,kc,va,vl,vc,c0,c1,c2,c3,g1,g2,g3⟩:=h.2 k x hx;have hcell:=λj u hu=>ho.cells (g:=g) (by rw[hv];rfl) j u hu;have e:∀j,(⟨g,0,none⟩:Addr).add j=⟨g,0+j,none⟩:=λj=>Addr.add_mid g 0 j;have hlt:=(Array.getElem?_eq_some_iff.1 hh).1;have r:=λj u hu=>(show W.cell? ⟨g,0+j,none⟩=some u by rw[<- e];exact hcell j u hu);exact⟨g,0,ka,kl,kc,va,vl,vc,rfl,hlt, .inr hg,r _ _ c0,by have:=r _ _ c1;rwa [Nat.add_assoc],by have:=r _ _ c2;rwa [Nat.add_assoc],by have:=r _ _ c3;rwa [Nat.add_assoc],g1.mono λb hb=> .inl hb,g2.mono λb hb=> .inl hb,g3⟩
def Rf(q ob B1:Nat)(ts te:TypeId)(pre:List iP)(W:World):Prop:=∃v cs,Boxed W ob ts v/\W.ownsRow B1 te 4 v pre.length cs/\aS W (Sf q ob W) cs (pre.map (·.1))/\Vd q ob W
theorem Rf.only{q ob B1:Nat}{ts te:TypeId}{pre:List iP}{W W':World}(h:Rf q ob B1 ts te pre W)(k:aA (· =q) W W')(hB:q<B1):Rf q ob B1 ts te pre W':=by
 obtain⟨v,cs,h1,h2,h3,h4⟩:=h;exact⟨v,cs,(k.block ob h1.lt (λe=>h4.hne e.symm)).trans h1,vY h2 k (λb e=>oM),h3.go (h4.only k),h4.kpq (h4.only k)⟩
theorem Rf.own{q ob B1:Nat}{ts te:TypeId}(hte:ts≠te):Own (λpre W=>Rf q ob B1 ts te pre W):=λpre X Y row ⟨v,cs,h1,h2,h3,h4⟩ hg hr=>by
 have hk:KpQ ob (pQ q ob) X Y:=by
  refine⟨hg.size,λk o k1 k2 _ _=>?_,λk ⟨o,n,c,hc⟩=> .inl ⟨o,n,c,?_⟩⟩
  .refine(hg.block k (Array.getElem?_eq_some_iff.1 k1).1 λe=>?_).trans k1;obtain⟨o',ho,hc⟩:=hr k e.symm;rw[k1]at ho;cases ho;rw[k2]at hc;cases hc
  .rw[<- World.cell?_of_block (hg.block ob h1.lt λe=>by
    obtain⟨o',ho,hc⟩:=hr ob e.symm;rw[show X.heap[ob]? =_ from h1]at ho;cases ho;cases hc)]
   exact hc
 obtain⟨v',e1,e2,_⟩:=holdsRow_own (β:=Unit) B1 ob ts te 4 (λ_=>pre.length) (λ_=>cs) (λ_ u=>u=v) () X Y row ⟨v,h1,h2,rfl⟩ hg hr;rename_i e3;exact⟨v,cs,by rw[<- e3];exact e1,by rw[<- e3];exact e2,h3.go hk,h4.kpq hk⟩
end Go.Dav
namespace Go.Proofs.YtenmnhnlcnmloaaGreat
open Go.RowKit Go.Dav Go.Shelf
attribute [local go_sem] Gives dG ite_val ay Oper.semAt_some
theorem Qy{p:WkP}{B:bD}{F:aB}{turned:Bool}{q ob wb yb ib l NN:Nat}{J Jx:List iP->World->Prop}(hr:F.right=true)
  (hJq:∀s A B,J s A->aA (· =q) A B->J s B) (NM:∀s A B,Jx s A->aA (· =q) A B->Jx s B)
  (hY:∀m pre x W,J pre W->jh W (Sf q ob W) x.1 x.2->pre.length<NN->YieldAt Fence.wide m Tryz.prog l (iP.encs x) W λe W'=>(e= .returned (.bool true)/\J (pre++[x]) W'/\KpQ ob (pO ob) W W')\/(e= .returned (.bool false)/\Jx (pre++[x]) W'/\KpQ ob (pO ob) W W')):
  ∀(d:Nat),d<=100->∀(N:aT) (a:Int) (ia ka:Option Addr) (il ic kl kc:Nat) (last:Option (List UInt8)) (pre:List iP) (W:World),Cm d N->bM W (Sf q ob W) ia il ic ka kl kc N->WkE W q ob 116 p B F turned last 0->iF W q ob wb yb ib l->J pre W->pre.length+(goN F.all B turned d N a last).1.length<=NN->
   Calls Tryz.prog 93 #[vO N.leaf ia il ic ka kl kc, .int .i64 a, .int .i64 (d:Int), .pointer (some ⟨wb,0,none⟩), .pointer (some ⟨yb,0,none⟩), .pointer (some ⟨ib,0,none⟩)] W (cu q ob 116 p B F turned J Jx pre W (goN F.all B turned d N a last)):=by
 intro d;induction d with
 |zero=>
  intro _ N a ia ka il ic kl kc last pre W hf hNS hw henv hJ hN;exact NQ hJq NM hY N a ia ka il ic kl kc last pre W hf hNS hw henv hJ hN
 |succ d ih=>
  intro hd N a ia ka il ic kl kc last pre W hf hNS hw henv hJ hN;exact NS hr hJq NM d ((d+1:Nat):Int) (by rw[beq_eq_false_iff_ne];omega) (by rw[IntWalk.i64_in _ oM];omega) (ih oM) N a ia ka il ic kl kc last pre W hf hNS hw henv hJ hN
theorem D5(q:Nat)(t:mP)(w:World):
  Calls Tryz.prog 57 #[.pointer (some ⟨q,0,none⟩), .agg (fU t).toArray] w λe w'=>e= .returned (.func (.func 92) #[] #[.pointer (some ⟨w.heap.size,0,none⟩), .pointer (some ⟨w.heap.size+1,0,none⟩)])/\w'=(w.alloc (.cells #[.pointer (some ⟨q,0,none⟩)] 113)).alloc (.cells (fU t).toArray 37):=by
 unfold fU;go_enter Tryz.func57,Tryz.ntmps57;go_wp2;go_ret;exact⟨rfl,rfl⟩
theorem yI(args:Array Value)(W:World):(callFunc 92 args).run Tryz.prog W= .ok (Next.enter 92 args) W:=kR
set_option maxRecDepth 100000 in
theorem Bc{p:WkP}{B:bD}{F:aB}{turned:Bool}{za:Option Addr}{zl zc q ob wb tb m:Nat}(t:mP)(w1:World)(hvd:Vd q ob w1)(hW1:WkS w1 q 116 (Sf q ob w1) p B F turned none 0 za zl zc)(hwb:Sf q ob w1 wb)
  (hWB:Blk w1 wb [.pointer (some ⟨q,0,none⟩)] 113) (hTB:Blk w1 tb (fU t) 37) (ha:eY t.at_) (hf:t.red.fits):
  ZT Fence.wide m Tryz.prog 92 #[.pointer (some ⟨wb,0,none⟩), .pointer (some ⟨tb,0,none⟩)] iP.encs (· =q) (KpQ ob (pO ob)) (λx W=>jh W (Sf q ob W) x.1 x.2)
   (λxs W=>xs.map (·.1)=(goT F B turned t).1/\∃last,WkE W q ob 116 p B F turned last (goT F B turned t).2) (λpre W=>pre.map (·.1) <+: (goT F B turned t).1/\∃last,WkE W q ob 116 p B F turned last 0) (goT F B turned t).1.length w1:=λl J Jx W hW hsz hJq NM hY hJ0=>by
 refine callsIn_wide.2 ?_;have hb2:Below W.heap.size W ((W.alloc (.cells #[.func (.yield l) #[] #[]] 156)).alloc (.cells #[.func (.func 93) #[] #[.pointer (some ⟨wb,0,none⟩), .pointer (some ⟨W.heap.size,0,none⟩), .pointer (some ⟨W.heap.size+1,0,none⟩)]] 174)):=bW;have hy2:Blk ((W.alloc (.cells #[.func (.yield l) #[] #[]] 156)).alloc (.cells #[.func (.func 93) #[] #[.pointer (some ⟨wb,0,none⟩), .pointer (some ⟨W.heap.size,0,none⟩), .pointer (some ⟨W.heap.size+1,0,none⟩)]] 174)) W.heap.size [.func (.yield l) #[] #[]] 156:=(Blk.new _ _ _).alloc _;have hi2:Blk ((W.alloc (.cells #[.func (.yield l) #[] #[]] 156)).alloc (.cells #[.func (.func 93) #[] #[.pointer (some ⟨wb,0,none⟩), .pointer (some ⟨W.heap.size,0,none⟩), .pointer (some ⟨W.heap.size+1,0,none⟩)]] 174)) (W.heap.size+1) [.func (.func 93) #[] #[.pointer (some ⟨wb,0,none⟩), .pointer (some ⟨W.heap.size,0,none⟩), .pointer (some ⟨W.heap.size+1,0,none⟩)]] 174:=Blk.new' _ _ _ (by simp);have HB2:=Hd hb2;have HY2:=Hd hy2;have HI2:=Hd hi2;have kw:KpQ ob (pQ q ob) w1 W:=hvd.below hW;have HWB:=Hd (hWB.ext hW);have HTB:=Hd (hTB.ext hW);have HV:=Hd (hvd.kpq kw);have HW:=Hd ((hW1.ext hW).mono λ_ hb=>hb.kpq kw);have HSW:=Hd (hwb.kpq kw);have HA:=Hd ha;have HF:=Hd hf;have HJQ:=Hd hJq;have VI:=Hd NM;have HY:=Hd hY;have HJ0:=Hd hJ0;clear hb2 hy2 hi2 kw hWB hTB hW1 hW hvd hwb ha hf hJq NM hY hJ0 hsz;have hen:=rZ;go_enter Tryz.func92,Tryz.ntmps92;go_upto_region 3 with fail;obtain⟨W2,hW2⟩:∃W2,(W.alloc (.cells #[.func (.yield l) #[] #[]] 156)).alloc (.cells #[.func (.func 93) #[] #[.pointer (some ⟨wb,0,none⟩), .pointer (some ⟨W.heap.size,0,none⟩), .pointer (some ⟨W.heap.size+1,0,none⟩)]] 174)=W2:=⟨_,rfl⟩;rw[hW2]at HB2 HY2 HI2;rw[hW2];have hsz2:W.heap.size+1+1=W2.heap.size:=by rw[<- hW2];simp
 have HSZ:=Hd hsz2;have YS:=Hd (HWB.o.ext HB2.o);have YT:=Hd (HTB.o.ext HB2.o);have k2:KpQ ob (pQ q ob) W W2:=HV.o.below HB2.o;have HV2:=Hd (HV.o.kpq k2);have HW2:=Hd ((HW.o.ext HB2.o).mono λ_ hb=>hb.kpq k2);have abM:=Hd (HSW.o.kpq k2);have abN:=Hd (Sf.new HV.o HB2.o (Nat.le_refl _) HY2.o.lt);have abO:=Hd (Sf.new HV.o HB2.o (Nat.le_succ _) HI2.o.lt);have HJ2:=Hd (HJQ.o _ _ _ HJ0.o (aA.of_below HB2.o));have HRT:=Hd (Qu t W2 HW2.o Sf.ne HA.o HF.o);clear hW2 hsz2 k2 HWB HTB HW HJ0 HSW HV;have u1:=YS.o.cells;have u1l:=YS.o.lt;have u2:=YT.o.cells;have u2l:=YT.o.lt;unfold fU at u2 HRT;cases hro:nM F t with
 |none=>
  have HGT:=Hd (LG (b:=B) (turned:=turned) hro);rw[hro]at HRT;clear hro;go_wp2_with fail;refine HRT.o.mono ?_;rintro e w3 ⟨⟨vb,ia,il,ic,ka,kl,kc,rfl⟩,hw3,ho3⟩;have HW3:=Hd hw3;have HJ3:=Hd (HJQ.o _ _ _ HJ2.o ho3);have HK3:=Hd (HV2.o.only ho3);clear hw3 ho3 u1 u1l u2 u2l;simp only[Go.Dav.vO];go_wp2;go_end0
  have hb:Below w3.heap.size w3 (w3.alloc (.cells #[.bool vb, .slice ia il ic, .slice ka kl kc] 67)):=bW;rw[HGT.o];exact⟨⟨_,rfl⟩, .inl ⟨[],⟨rfl,none,WkE.ext ⟨HV2.o.kpq HK3.o,_,_,_,HW3.o.mono λ_ hb=>hb.kpq HK3.o⟩ hb⟩,HJQ.o _ _ _ HJ3.o (aA.of_below hb)⟩⟩
 |some N=>
  obtain⟨h1,h2,h3,h4,h5⟩:=LH (b:=B) (turned:=turned) hro;obtain⟨D,hD⟩:=Int.eq_ofNat_of_zero_le h3;have hDn:t.depth.toNat=D:=oM;rw[hDn]at h1 h5;rw[hro]at HRT;rw[hD]at u2 HRT;have HGT:=Hd h1;have HDN:=Hd (show D<=100 by omega);have HR:=Hd h2;have HFN:=Hd h5;have HDD:=Hd hD;clear hro h1 h2 h3 h4 h5 hD hDn;go_wp2_with fail;refine HRT.o.mono ?_;rintro e w3 ⟨ia,il,ic,ka,kl,kc,rfl,hN,hb3⟩;simp only[Go.Dav.vO];obtain⟨lf,hlf⟩:∃z,N.leaf=z:=⟨_,rfl⟩;rw[hlf];have hb4:Below w3.heap.size w3 (w3.alloc (.cells #[.bool lf, .slice ia il ic, .slice ka kl kc] 67)):=bW;have Qz:=hb3.trans (hb4.mono hb3.size);have hW3:WkE _ q ob 116 p B F turned none 0:=WkE.ext ⟨HV2.o,_,_,_,HW2.o⟩ Qz;have hJ3:=HJQ.o _ _ _ HJ2.o (aA.of_below Qz);have aae:=YS.o.ext hb3;have YU:=YT.o.ext hb3;have hi3:=HI2.o.ext hb3;have k3:KpQ ob (pQ q ob) W2 _:=HV2.o.below Qz;have hdn:=Qy HR.o HJQ.o VI.o HY.o D HDN.o N t.at_ ia ka il ic kl kc none [] _ HFN.o ((hN.ext hb4).bound.mono (λb h=>Sf.new HV2.o Qz h.1 h.2)) hW3 ⟨aae.ext hb4,(HY2.o.ext hb3).ext hb4,hi3.ext hb4,abM.o.kpq k3,abN.o.kpq k3,abO.o.kpq k3⟩ hJ3 (by rw[HGT.o];simp);unfold vO at hdn;rw[hlf]at hdn;have HDW:=Hd hdn;clear hN Qz hdn k3 hlf hW3 hJ3 u1 u1l u2 u2l HRT;have v1:=YU.cells;have v1l:=YU.lt;have v2:=hi3.cells;have v2l:=hi3.lt;unfold fU at v1;rw[HDD.o]at v1;clear aae YU hi3 hb3 hb4;go_wp2_with fail;refine HDW.o.mono ?_;rintro e w4 hd;have HGD:=Hd hd.2;clear hd HDW v1 v1l v2 v2l hen;rcases HGD.o with⟨ys,e1,hj,hm⟩|⟨rfl,ys,e1,hjx,l2,hw⟩
  .cases hz:(goN F.all B turned D N t.at_ none).2 with
   |none=>
    rw[hz]at hm;obtain⟨rfl,l2,hw⟩:=hm;have HX:=Hd (And.intro e1 (And.intro hj hw));have HZ:=Hd hz;clear e1 hj hw hz;go_wp2;go_end0
    rw[HGT.o];exact⟨⟨_,rfl⟩, .inl ⟨ys,⟨HX.o.1,l2,by rw[HZ.o];exact HX.o.2.2⟩,HX.o.2.1⟩⟩
   |some z=>
    rw[hz]at hm;obtain⟨rfl,hw⟩:=hm;have HX:=Hd (And.intro e1 (And.intro hj hw));have HZ:=Hd hz;clear e1 hj hw hz;go_wp2;go_end0
    rw[HGT.o];exact⟨⟨_,rfl⟩, .inl ⟨ys,⟨HX.o.1,z,by rw[HZ.o];exact HX.o.2.2⟩,HX.o.2.1⟩⟩
  .have HX:=Hd (And.intro e1 (And.intro hjx hw));clear e1 hjx hw;go_wp2;go_end0
   rw[HGT.o];exact⟨⟨_,rfl⟩, .inr ⟨ys,⟨HX.o.1,l2,HX.o.2.2⟩,HX.o.2.1⟩⟩
set_option maxRecDepth 100000 in
theorem Bd(F:aB)(fa la:Option Addr)(fl fc ll lc:Nat)(t:mP)(w:World)(hF:lF w fa fl fc la ll lc F)(ha:eY t.at_)(hf:t.red.fits):
  Calls Tryz.prog 22 #[.agg #[.slice fa fl fc, .slice la ll lc, .int .i64 F.fuse, .int .i64 F.fault, .bool F.off], .agg (fU t).toArray] w λe w'=>e= .returned (.int .i64 (goT F noB false t).2)/\Below w.heap.size w w':=by
 have HF:=Hd hF;have HA:=Hd ha;have HFF:=Hd hf;obtain⟨y,hy⟩:∃y,(goT F noB false t).2=y:=⟨_,rfl⟩;rw[hy];have HYY:=Hd hy;clear hF ha hf hy;unfold fU;refine(callsIn_wide (n:=4)).1 ?_;refine callsIn_of_wp_marks Tryz.func22 rfl trivial (wpIn_wide.2 ?_) rfl;simp only[Tryz.ntmps22,List.size_toArray,List.length_cons,List.length_nil,Nat.reduceAdd,Nat.reduceSub,Array.replicate_succ,Array.replicate_zero,List.push_toArray,List.append_toArray,List.nil_append,List.cons_append];go_wp2_with fail;try (go_step3;go_wp2_with fail)
 try (go_step3;go_wp2_with fail)
 have hit:=D5 (w.heap.size+1+1) t;unfold fU at hit;refine(hit _).mono ?_;rintro e w4 ⟨rfl,rfl⟩;clear hit;go_wp2_with fail;obtain⟨L,hL⟩:∃L,(((((w.alloc (.cells [.slice fa fl fc, .slice la ll lc, .int .i64 F.fuse, .int .i64 F.fault, .bool F.off].toArray 32)).alloc (.cells (fU t).toArray 37)).alloc (.cells #[.slice none 0 0, .bool false, .slice none 0 0, .slice fa fl fc, .slice la ll lc, .int .i64 F.fuse, .int .i64 F.fault, .bool F.off, .bool false, .slice none 0 0, .bool false, .int .i64 0] 116)).alloc (.cells #[.pointer (some ⟨w.heap.size+1+1,0,none⟩)] 113)).alloc (.cells (fU t).toArray 37))=L:=⟨_,rfl⟩;have hsz:L.heap.size=w.heap.size+1+1+1+1+1:=by rw[<- hL];simp
 have hbL:Below w.heap.size w L:=by rw[<- hL];unfold fU;exact bW
 have hbq:Blk L (w.heap.size+1+1) [.slice none 0 0, .bool false, .slice none 0 0, .slice fa fl fc, .slice la ll lc, .int .i64 F.fuse, .int .i64 F.fault, .bool F.off, .bool false, .slice none 0 0, .bool false, .int .i64 0] 116:=by rw[<- hL];exact((Blk.new' _ _ _ (by simp)).alloc _).alloc _
 have hbw:Blk L (w.heap.size+1+1+1) [.pointer (some ⟨w.heap.size+1+1,0,none⟩)] 113:=by rw[<- hL];exact(Blk.new' _ _ _ (by simp)).alloc _
 have hbt:Blk L (w.heap.size+1+1+1+1) (fU t) 37:=by rw[<- hL];exact Blk.new' _ _ _ (by simp)
 have hbo:Blk L (w.heap.size+1) (fU t) 37:=by rw[<- hL];exact(((Blk.new' _ _ _ (by simp)).alloc _).alloc _).alloc _
 have hnp:∀b,¬mO L (w.heap.size+1) b:=λb ⟨o,n,c,h⟩=>by
  have hc:=hbo.cells;unfold fU at hc;rw[show L.cell? ⟨w.heap.size+1,0,none⟩=some (.int .i64 t.at_) by simp[go_sem,hc]]at h;cases h
 have hvd:Vd (w.heap.size+1+1) (w.heap.size+1) L:=⟨oM,oM,oM,hnp _,λb h=>(hnp b h).elim⟩;have hsf:∀b,b<L.heap.size->b≠w.heap.size+1->b≠w.heap.size+1+1->Sf (w.heap.size+1+1) (w.heap.size+1) L b:=λb h1 h2 h3=>⟨h1,h3,h2,hnp b⟩;have hwk:WkS L (w.heap.size+1+1) 116 (Sf (w.heap.size+1+1) (w.heap.size+1) L) ⟨none,0,0,none,0,0,fa,fl,fc,la,ll,lc⟩ noB F false none 0 none 0 0:=
  ⟨hbq,au.nil_,au.nil_,au.nil_,((HF.o.s).ext hbL).mono (λb h=>hsf b oM oM oM)⟩
 have hseq:=Bc (ob:=w.heap.size+1) (wb:=w.heap.size+1+1+1) (tb:=w.heap.size+1+1+1+1) (m:=4-1) t L hvd hwk (hsf _ oM oM oM) hbw hbt HA.o HFF.o;have UM:=Hd hseq;have HSZ:=Hd hsz;have HBL:=Hd hbL;unfold fU at hL;rw[hL];clear hL hsz hbL hbq hbw hbt hbo hnp hvd hsf hwk hseq;refine wpIn_wide.1 (qO (n:=4) rfl rfl dC (gf:=92) (lb:= #[.pointer (some ⟨w.heap.size+1+1+1,0,none⟩), .pointer (some ⟨w.heap.size+1+1+1+1,0,none⟩)]) rfl trivial yI (λb e=>by have:=HSZ.o;omega) UM.o KpQ.t (KpQ.b (by have:=HSZ.o;omega)) (λ_ _ h0 h=>KpQ.of_below (by have:=HSZ.o;omega) h) (λ_=>rfl)
  (λx W l o o' h0 h2 h3 h=>h.put (by have:=HSZ.o;omega) h2 h3) (λxs W l o o' h0 h2 h3 h=>⟨h.1,h.2.imp λ_ h=>h.put (by have:=HSZ.o;omega) h2 h3⟩) (λxs W l o o' h0 h2 h3 h=>⟨h.1,h.2.imp λ_ h=>h.put (by have:=HSZ.o;omega) h2 h3⟩)
  (λ_ W=>Below w.heap.size w W) (λ_ _ _=>False) (ownFrom_below (Nat.le_refl _) (by have:=HSZ.o;omega)) (λc=>ownFrom_pure _ _) (λs A B h k=>h.trans (k.below h.size (λb e=>oM))) (λc s A B h k=>h) HBL.o
  (λ_ _ _=>True) (λ_ _ _ _ _ _ _ _ _ h=>h) ?assign ?body ?done ?stop)
 case assign=>
  intro m l pre x W K hI hX _ hK;have HK:=Hd hK;have HI:=Hd hI;have HX:=Hd hX;clear hK hI hX;gi_wp2;exact HK.o _ _ (Below.refl _ _) HI.o HX.o trivial
 case body=>
  rintro m l pre x a' W hI hX-hlt hsw;have HI:=Hd hI;clear hI hX;gi_wp2;exact⟨KeepsOthers.refl _,KpQ.refl _ (by have:=HSZ.o;omega),HI.o⟩
 case done=>
  rintro D xs W hD ⟨hxs,last,hvd,za,zl,zc,hw⟩ hI hD2;have q1:=hw.box.cells;have l1:=hw.box.lt;unfold wkC at q1;rw[HYY.o]at q1;have HI:=Hd hI;have HKK:=Hd hD2;have HDW:=Hd (show w.heap.size<=D by have:=HSZ.o;omega);clear hxs hw hI hD2 hvd;go_wp2_with fail;refine⟨by simp, .inl ⟨_,_,rfl,run_takeDeferred HKK.o,?_⟩⟩;refine⟨.int .i64 y,by simp[results,Tryz.results22,go_sem],rfl,?_⟩;exact HI.o.trans (belowK_b (w:=w) (Nat.le_refl _) W D _ _ HDW.o HKK.o rfl rfl)
 case stop=>
  rintro D c pre W hD _ h _;exact h.elim
end Go.Proofs.YtenmnhnlcnmloaaGreat
namespace Go.Proofs.YtenmnhnlcnmloaaGreat
open Go.RowKit Go.Dav
attribute [local go_sem] ite_val ay
theorem pV(x:aP)(ka va:Option Addr)(kl kc vl vc:Nat)(w:World)(hk:x.key.length=kl)(hv:x.value.length=vl):
  Calls Tryz.prog 78 #[.agg #[.slice ka kl kc, .slice va vl vc, .bool x.int, .int .i64 x.n]] w λe w'=>e= .returned (.bool (fD x))/\Below w.heap.size w w':=by
 obtain⟨key,value,int,n⟩:=x;dsimp only at*;obtain⟨r,hr⟩:∃r,fD ⟨key,value,int,n⟩=r:=⟨_,rfl⟩;rw[hr];unfold fD at hr;dsimp only at hr;rw[hk,hv]at hr;have HR:=Hd hr;clear hr hk hv;cases int with
 |true=>
  go_enter Tryz.func78,Tryz.ntmps78;go_wp2;all_goals
   go_ret;refine⟨?_,bW⟩;rw[<- HR.o];simp[*]<;>first|omega|(rw[Bool.eq_iff_iff];simp;done)|(rw[Bool.eq_iff_iff];simp;omega)
 |false=>
  go_enter Tryz.func78,Tryz.ntmps78;go_wp2;all_goals
   go_ret;refine⟨?_,bW⟩;rw[<- HR.o];simp[*]<;>first|omega|(rw[Bool.eq_iff_iff];simp;done)|(rw[Bool.eq_iff_iff];simp;omega)
end Go.Proofs.YtenmnhnlcnmloaaGreat
