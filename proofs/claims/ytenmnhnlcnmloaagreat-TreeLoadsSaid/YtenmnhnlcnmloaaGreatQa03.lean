/- Part of a proof of a law of the layer of trees. -/
import Derived.Test.YtenmnhnlcnmloaaGreatQa02
import Derived.WalkKit
import Derived.Deep.Draws
import Derived.Lib.Hide
import Derived.Laws.AppendOwn
import Derived.Test.YtenmnhnlcnmloaaGreatQa01
set_option linter.unusedVariables false
set_option linter.unusedSimpArgs false
set_option maxHeartbeats 8000000
set_option maxRecDepth 8000
namespace Go.Dav
open Go Go.RowKit
def Blk(W:World)(p:Nat)(cs:List Value)(t:TypeId):Prop:=W.heap[p]? =some (.cells cs.toArray t (0,0))
theorem Blk.lt{W:World}{p:Nat}{cs:List Value}{t:TypeId}(h:Blk W p cs t):p<W.heap.size:=(Array.getElem?_eq_some_iff.1 h).1
theorem Blk.cell{W:World}{p:Nat}{cs:List Value}{t:TypeId}(h:Blk W p cs t)(i:Nat){v:Value}(hi:cs[i]? =some v):W.cell? ⟨p,i,none⟩=some v:=by
 unfold Blk at h;simp[World.cell?,h,hi]
theorem Blk.frozen{W:World}{p:Nat}{cs:List Value}{t:TypeId}(h:Blk W p cs t)(i:Nat):W.frozen? ⟨p,i,none⟩=false:=by
 unfold Blk at h;simp[World.frozen?,h]
theorem Blk.cells{W:World}{p:Nat}{cs:List Value}{t:TypeId}(h:Blk W p cs t):∀i,W.cell? ⟨p,i,none⟩=cs[i]?:=λi=>by
 unfold Blk at h;simp[World.cell?,h]
theorem Blk.marks{W:World}{p:Nat}{cs:List Value}{t:TypeId}(h:Blk W p cs t):∀i,W.frozen? ⟨p,i,none⟩=false:=λi=>h.frozen i
theorem Blk.below{W W':World}{B p:Nat}{cs:List Value}{t:TypeId}(h:Blk W p cs t)(hb:Below B W W')(hp:p<B):Blk W' p cs t:=(hb.block p hp).trans h
theorem Blk.ext{W W':World}{p:Nat}{cs:List Value}{t:TypeId}(h:Blk W p cs t)(hb:Below W.heap.size W W'):Blk W' p cs t:=h.below hb h.lt
theorem Blk.new(W:World)(cs:List Value)(t:TypeId):Blk (W.alloc (.cells cs.toArray t)) W.heap.size cs t:=by
 unfold Blk World.alloc;simp
theorem Blk.new'(W:World)(cs:List Value)(t:TypeId){p:Nat}(h:W.heap.size=p):Blk (W.alloc (.cells cs.toArray t)) p cs t:=h▸Blk.new W cs t
theorem Blk.alloc{W:World}{p:Nat}{cs:List Value}{t:TypeId}(h:Blk W p cs t)(o:Obj):Blk (W.alloc o) p cs t:=(Below.heap_alloc W o p h.lt).trans h
theorem Blk.drew{W:World}{p:Nat}{cs:List Value}{t:TypeId}(h:Blk W p cs t):Blk W.drew p cs t:=h
theorem Blk.set{W:World}{p:Nat}{cs:List Value}{t:TypeId}(h:Blk W p cs t)(i:Nat)(v:Value):Blk (W.setCell ⟨p,i,none⟩ v) p (cs.set i v) t:=by
 have hlt:=h.lt;unfold Blk at*;have:W.heap[p]= .cells cs.toArray t (0,0):=(Array.getElem?_eq_some_iff.1 h).2;simp[World.setCell,hlt,Array.getElem_modify,this]
theorem Blk.other{W:World}{p q:Nat}{cs:List Value}{t:TypeId}(h:Blk W p cs t)(hne:p≠q)(i:Nat)(v:Value):Blk (W.setCell ⟨q,i,none⟩ v) p cs t:=
 (Below.heap_setCell W ⟨q,i,none⟩ v p hne).trans h
def dA(B:Nat)(cs:List Value)(t:TypeId)(v:Value)(W:World):Prop:=∃p,v= .pointer (some ⟨p,0,none⟩)/\B<=p/\Blk W p cs t
theorem dA.later{B:Nat}{cs:List Value}{t:TypeId}:∀v W W',dA B cs t v W->Below W.heap.size W W'->dA B cs t v W':=
 λ_ _ _ ⟨p,h1,h2,h3⟩ hb=>⟨p,h1,h2,h3.ext hb⟩
theorem dB{B:Nat}{cs:List Value}{t:TypeId}{W:World}(h:B<=W.heap.size):
  Below W.heap.size W (W.alloc (.cells cs.toArray t))/\dA B cs t (.pointer (some ⟨W.heap.size,0,none⟩)) (W.alloc (.cells cs.toArray t)):=
 ⟨(Below.refl _ _).alloc (Nat.le_refl _) _,⟨_,rfl,h,Blk.new _ _ _⟩⟩
def CellIs(o j:Nat)(u v:Value)(W:World):Prop:=∃g,v= .pointer (some ⟨g,o,none⟩)/\W.cell? ⟨g,j,none⟩=some u
theorem CellIs.later{o j:Nat}{u:Value}:∀v W W',CellIs o j u v W->Below W.heap.size W W'->CellIs o j u v W':=
 λ_ _ _ ⟨g,h1,h2⟩ hb=>⟨g,h1,by rw[hb.cell (p:=⟨g,j,none⟩) (World.block_lt_of_cell? _ _ h2)];exact h2⟩
theorem below_drewN{B:Nat}{w w':World}(h:Below B w w')(n:Nat):Below B w (w'.drewN n):=⟨h.os,h.tape,h.output,h.size,h.block⟩
structure Only(p:Nat)(w w':World):Prop where
 os:w'.os=w.os
 tape:w'.tape=w.tape
 output:w'.output=w.output
 size:w.heap.size<=w'.heap.size
 block:∀k,k<w.heap.size->k≠p->w'.heap[k]? =w.heap[k]?
theorem Only.refl(p:Nat)(w:World):Only p w w:=⟨rfl,rfl,rfl,Nat.le_refl _,λ_ _ _=>rfl⟩
theorem Only.set{p:Nat}{w w':World}(h:Only p w w')(i:Nat)(v:Value):Only p w (w'.setCell ⟨p,i,none⟩ v):=
 ⟨h.os,h.tape,h.output,by simpa using h.size,λk hk hne=>(Below.heap_setCell w' ⟨p,i,none⟩ v k hne).trans (h.block k hk hne)⟩
theorem Only.alloc{p:Nat}{w w':World}(h:Only p w w')(o:Obj):Only p w (w'.alloc o):=
 ⟨h.os,h.tape,h.output,by have:=h.size;simp;omega,λk hk hne=>(Below.heap_alloc w' o k (Nat.lt_of_lt_of_le hk h.size)).trans (h.block k hk hne)⟩
theorem Only.drew{p:Nat}{w w':World}(h:Only p w w'):Only p w w'.drew:=⟨h.os,h.tape,h.output,h.size,h.block⟩
theorem Only.ext{p:Nat}{w w' w'':World}(h:Only p w w')(hb:Below w'.heap.size w' w''):Only p w w'':=
 ⟨hb.os.trans h.os,hb.tape.trans h.tape,hb.output.trans h.output,Nat.le_trans h.size hb.size,λk hk hne=>(hb.block k (Nat.lt_of_lt_of_le hk h.size)).trans (h.block k hk hne)⟩
theorem Only.trans{p:Nat}{w w' w'':World}(h:Only p w w')(k:Only p w' w''):Only p w w'':=
 ⟨k.os.trans h.os,k.tape.trans h.tape,k.output.trans h.output,Nat.le_trans h.size k.size,λi hi hne=>(k.block i (Nat.lt_of_lt_of_le hi h.size) hne).trans (h.block i hi hne)⟩
theorem gV{B p:Nat}{a w w':World}(h:Below B a w)(k:Only p w w')(hs:B<=w.heap.size)(hp:B<=p):Below B a w':=
 ⟨k.os.trans h.os,k.tape.trans h.tape,k.output.trans h.output,Nat.le_trans h.size k.size,λi hi=>(k.block i oM oM).trans (h.block i hi)⟩
theorem Blk.only{W W':World}{p q:Nat}{cs:List Value}{t:TypeId}(h:Blk W q cs t)(k:Only p W W')(hne:q≠p):Blk W' q cs t:=(k.block q h.lt hne).trans h
theorem after{W W':World}(hb:Below W.heap.size W W'):(∀b o,b<W.heap.size->W'.cell? ⟨b,o,none⟩=W.cell? ⟨b,o,none⟩)/\(∀b o,b<W.heap.size->W'.frozen? ⟨b,o,none⟩=W.frozen? ⟨b,o,none⟩)/\W.heap.size<=W'.heap.size:=
 ⟨λb o h=>hb.cell (p:=⟨b,o,none⟩) h,λb o h=>hb.frozen (p:=⟨b,o,none⟩) h,hb.size⟩
theorem bU{B:Nat}{W W':World}(h:Below B W W':=by repeat (first|(with_reducible exact Below.refl _ _)|(with_reducible refine Below.setCell ?_ (by first|omega|(simp;done)|(simp;omega)) _)|(with_reducible refine Below.alloc ?_ (by first|omega|(simp;done)|(simp;omega)) _)|(with_reducible refine Below.drew ?_)|(with_reducible refine below_drewN ?_ _)|(with_reducible refine Below.trans ?_ (hz.mono (by first|omega|(simp;done)|(simp;omega))))|(with_reducible refine Below.trans ?_ (hy.mono (by first|omega|(simp;done)|(simp;omega))))|(with_reducible refine Below.trans ?_ (hx.mono (by first|omega|(simp;done)|(simp;omega))))|(with_reducible refine Below.trans ?_ (hw.mono (by first|omega|(simp;done)|(simp;omega)))))):Below B W W':=h
theorem bT{B:Nat}{W W':World}(h:Below B W W':=by repeat (first|(with_reducible exact Below.refl _ _)|(with_reducible refine Below.setCell ?_ (by first|omega|(simp;done)|(simp;omega)) _)|(with_reducible refine Below.alloc ?_ (by first|omega|(simp;done)|(simp;omega)) _)|(with_reducible refine Below.drew ?_)|(with_reducible refine below_drewN ?_ _)|(with_reducible refine Below.trans ?_ (hz.mono (by first|omega|(simp;done)|(simp;omega))))|(with_reducible refine Below.trans ?_ (hy.mono (by first|omega|(simp;done)|(simp;omega))))|(with_reducible refine Below.trans ?_ (hx.mono (by first|omega|(simp;done)|(simp;omega))))|(with_reducible refine Below.trans ?_ (hw.mono (by first|omega|(simp;done)|(simp;omega))))|(with_reducible refine Below.trans ?_ (hv.mono (by first|omega|(simp;done)|(simp;omega)))))):Below B W W':=h
theorem bS{B:Nat}{W W':World}(h:Below B W W':=by repeat (first|(with_reducible exact Below.refl _ _)|(with_reducible refine Below.setCell ?_ (by first|omega|(simp;done)|(simp;omega)) _)|(with_reducible refine Below.alloc ?_ (by first|omega|(simp;done)|(simp;omega)) _)|(with_reducible refine Below.drew ?_)|(with_reducible refine below_drewN ?_ _)|(with_reducible refine Below.trans ?_ (hz.mono (by first|omega|(simp;done)|(simp;omega))))|(with_reducible refine Below.trans ?_ (hy.mono (by first|omega|(simp;done)|(simp;omega))))|(with_reducible refine Below.trans ?_ (hx.mono (by first|omega|(simp;done)|(simp;omega))))|(with_reducible refine Below.trans ?_ (hw.mono (by first|omega|(simp;done)|(simp;omega))))|(with_reducible refine Below.trans ?_ (hv.mono (by first|omega|(simp;done)|(simp;omega))))|(with_reducible refine Below.trans ?_ (hu.mono (by first|omega|(simp;done)|(simp;omega)))))):Below B W W':=h
theorem bR{B:Nat}{W W':World}(h:Below B W W':=by repeat (first|(with_reducible exact Below.refl _ _)|(with_reducible refine Below.setCell ?_ (by first|omega|(simp;done)|(simp;omega)) _)|(with_reducible refine Below.alloc ?_ (by first|omega|(simp;done)|(simp;omega)) _)|(with_reducible refine Below.drew ?_)|(with_reducible refine below_drewN ?_ _)|(with_reducible refine Below.trans ?_ (hz.mono (by first|omega|(simp;done)|(simp;omega))))|(with_reducible refine Below.trans ?_ (hy.mono (by first|omega|(simp;done)|(simp;omega))))|(with_reducible refine Below.trans ?_ (hx.mono (by first|omega|(simp;done)|(simp;omega))))|(with_reducible refine Below.trans ?_ (hw.mono (by first|omega|(simp;done)|(simp;omega))))|(with_reducible refine Below.trans ?_ (hv.mono (by first|omega|(simp;done)|(simp;omega))))|(with_reducible refine Below.trans ?_ (hu.mono (by first|omega|(simp;done)|(simp;omega))))|(with_reducible refine Below.trans ?_ (ht.mono (by first|omega|(simp;done)|(simp;omega)))))):Below B W W':=h
theorem bW{B:Nat}{W W':World}(h:Below B W W':=by repeat (first|(with_reducible exact Below.refl _ _)|(with_reducible refine Below.setCell ?_ (by first|omega|(simp;done)|(simp;omega)) _)|(with_reducible refine Below.alloc ?_ (by first|omega|(simp;done)|(simp;omega)) _)|(with_reducible refine Below.drew ?_)|(with_reducible refine below_drewN ?_ _))):Below B W W':=h
theorem bV{B:Nat}{W W':World}(h:Below B W W':=by repeat (first|(with_reducible exact Below.refl _ _)|(with_reducible refine Below.setCell ?_ (by first|omega|(simp;done)|(simp;omega)) _)|(with_reducible refine Below.alloc ?_ (by first|omega|(simp;done)|(simp;omega)) _)|(with_reducible refine Below.drew ?_)|(with_reducible refine below_drewN ?_ _)|(with_reducible refine Below.trans ?_ (hz.mono (by first|omega|(simp;done)|(simp;omega)))))):Below B W W':=h
theorem bY{B:Nat}{W W':World}(h:Below B W W':=by repeat (first|(with_reducible exact Below.refl _ _)|(with_reducible refine Below.setCell ?_ (by first|omega|(simp;done)|(simp;omega)) _)|(with_reducible refine Below.alloc ?_ (by first|omega|(simp;done)|(simp;omega)) _)|(with_reducible refine Below.drew ?_)|(with_reducible refine below_drewN ?_ _)|(with_reducible refine Below.trans ?_ (hz.mono (by first|omega|(simp;done)|(simp;omega))))|(with_reducible refine Below.trans ?_ (hy.mono (by first|omega|(simp;done)|(simp;omega)))))):Below B W W':=h
theorem bX{B:Nat}{W W':World}(h:Below B W W':=by repeat (first|(with_reducible exact Below.refl _ _)|(with_reducible refine Below.setCell ?_ (by first|omega|(simp;done)|(simp;omega)) _)|(with_reducible refine Below.alloc ?_ (by first|omega|(simp;done)|(simp;omega)) _)|(with_reducible refine Below.drew ?_)|(with_reducible refine below_drewN ?_ _)|(with_reducible refine Below.trans ?_ (hz.mono (by first|omega|(simp;done)|(simp;omega))))|(with_reducible refine Below.trans ?_ (hy.mono (by first|omega|(simp;done)|(simp;omega))))|(with_reducible refine Below.trans ?_ (hx.mono (by first|omega|(simp;done)|(simp;omega)))))):Below B W W':=h
def eY(n:Int):Prop:= -9223372036854775808<=n/\n<=9223372036854775807
structure aB where
 jH:List UInt8
 loose:List (List UInt8)
 fuse:Int
 fault:Int
 off:Bool
def sumTo(L:List (List UInt8))(k:Nat):Nat:=((L.take k).map List.length).sum
theorem oU(L:List (List UInt8)):sumTo L 0=0:=by simp[sumTo]
theorem sQ{L:List (List UInt8)}{k:Nat}{p:List UInt8}(h:L[k]? =some p):sumTo L (k+1)=sumTo L k+p.length:=by
 unfold sumTo;rw[List.take_add_one,h];simp
def aB.many(F:aB):Nat:=F.jH.length+(F.loose.map List.length).sum
theorem FH(L:List (List UInt8)):sumTo L L.length=(L.map List.length).sum:=by simp[sumTo]
theorem mX(L:List (List UInt8))(k:Nat):sumTo L k<=(L.map List.length).sum:=by
 have h:(L.map List.length).sum=sumTo L k+((L.drop k).map List.length).sum:=by
  unfold sumTo;rw[<- List.sum_append,<- List.map_append,List.take_append_drop]
 omega
def aB.all(F:aB):List UInt8:=F.jH++F.loose.flatten
theorem aB.gu(F:aB):F.all.length=F.many:=by simp[aB.all,aB.many,List.length_flatten]
def aB.full(F:aB):Bool:=F.loose.all λp=> !p.isEmpty
def aB.right(F:aB):Bool:=F.full&&decide (-1<=F.fuse)&&decide (-1<=F.fault)&&(!F.off||decide (F.fuse= -1))&&decide (F.many<=524288)
def aB.len(F:aB):Int:=if F.full=true/\F.many<=524288 then(F.many:Int)else-1
def aB.err(F:aB):Int:=if F.right=true then 0 else 200
theorem aB.cZ{F:aB}:F.right=true↔F.full=true/\ -1<=F.fuse/\ -1<=F.fault/\(F.off=true->F.fuse= -1)/\F.many<=524288:=by
 unfold aB.right;cases F.off<;>simp[and_assoc]
structure BytesAt(W:World)(a:Option Addr)(len cap:Nat)(l:List UInt8):Prop where
 hlen:l.length=len
 hcap:len<=cap
 hmax:cap<=maxLen
 hfew:len<=140737488355328
 hat:∀k x,l[k]? =some x->∃b o,a=some ⟨b,o,none⟩/\b<W.heap.size/\W.cell? ⟨b,o+k,none⟩=some (.int .u8 (x.toNat:Int))
 hnil:a=none->cap=0
structure qj(W:World)(a:Option Addr)(len cap:Nat)(L:List (List UInt8)):Prop where
 hlen:L.length=len
 hcap:len<=cap
 hmax:cap<=maxLen
 hfew:len<=140737488355328
 hat:∀k p,L[k]? =some p->∃b o pa pl pc,a=some ⟨b,o,none⟩/\b<W.heap.size/\W.cell? ⟨b,o+k,none⟩=some (.slice pa pl pc)/\BytesAt W pa pl pc p
 hnil:a=none->cap=0
structure lF(W:World)(fa:Option Addr)(fl fc:Nat)(la:Option Addr)(ll lc:Nat)(F:aB):Prop where
 jH:BytesAt W fa fl fc F.jH
 loose:qj W la ll lc F.loose
 fuse:eY F.fuse
 fault:eY F.fault
theorem BytesAt.ext{W W':World}{a:Option Addr}{len cap:Nat}{l:List UInt8}(h:BytesAt W a len cap l)(hb:Below W.heap.size W W'):BytesAt W' a len cap l:=
 ⟨h.hlen,h.hcap,h.hmax,h.hfew,λk x hk=>by
  obtain⟨b,o,h1,h2,h3⟩:=h.hat k x hk;exact⟨b,o,h1,Nat.lt_of_lt_of_le h2 hb.size,by rw[hb.cell (p:=⟨b,o+k,none⟩) h2];exact h3⟩,h.hnil⟩
theorem qj.ext{W W':World}{a:Option Addr}{len cap:Nat}{L:List (List UInt8)}(h:qj W a len cap L)(hb:Below W.heap.size W W'):qj W' a len cap L:=
 ⟨h.hlen,h.hcap,h.hmax,h.hfew,λk x hk=>by
  obtain⟨b,o,pa,pl,pc,h1,h2,h3,h4⟩:=h.hat k x hk;exact⟨b,o,pa,pl,pc,h1,Nat.lt_of_lt_of_le h2 hb.size,by rw[hb.cell (p:=⟨b,o+k,none⟩) h2];exact h3,h4.ext hb⟩,h.hnil⟩
theorem lF.ext{W W':World}{fa la:Option Addr}{fl fc ll lc:Nat}{F:aB}(h:lF W fa fl fc la ll lc F)(hb:Below W.heap.size W W'):lF W' fa fl fc la ll lc F:=
 ⟨h.jH.ext hb,h.loose.ext hb,h.fuse,h.fault⟩
theorem OH{L:List (List UInt8)}{k:Nat}{p:List UInt8}(h:L[k]? =some p):((L.take (k+1)).all λp=> !p.isEmpty)=((L.take k).all (λp=> !p.isEmpty)&& !p.isEmpty):=by
 rw[List.take_add_one,h,List.all_append];simp
theorem aB.Ux{F:aB}:F.len<0↔¬(F.full=true/\F.many<=524288):=by
 unfold aB.len;split
 .rename_i h;simp[h]
 .rename_i h;simp[h]
theorem aB.OI{F:aB}:F.right=true↔ -1<=F.fuse/\ -1<=F.fault/\(F.off=true->F.fuse= -1)/\0<=F.len:=by
 rw[aB.cZ];have:=F.Ux;constructor
 .rintro⟨h1,h2,h3,h4,h5⟩;exact⟨h2,h3,h4,by simp[h1,h5]at this;exact this⟩
 .rintro⟨h2,h3,h4,h5⟩;have h6:F.full=true/\F.many<=524288:=by
   apply Classical.byContradiction;intro h;have:=this.2 h;omega
  exact⟨h6.1,h2,h3,h4,h6.2⟩
def aB.one(F G:aB):Bool:=decide (F.fuse=G.fuse)&&(decide (F.fault=G.fault)&&(decide (F.off=G.off)&&(decide (F.jH=G.jH)&&decide (F.loose=G.loose))))
def aB.asked(F:aB)(more:Int):aB×Int:=
 if F.off=true then(F,10)
 else if 524288-(F.many:Int)<more then(F,8)
 else if F.fault=0 then({ F with fault:= -1},9)
 else if F.fuse=0 then({ F with fault:=if 0<F.fault then F.fault-1 else F.fault,fuse:= -1,off:=true},10)
 else({ F with fault:=if 0<F.fault then F.fault-1 else F.fault,fuse:=if 0<F.fuse then F.fuse-1 else F.fuse},0)
def aB.op(F:aB)(more:Int)(g:aB->aB):aB×Int:=
 if F.right=true then(if (F.asked more).2=0 then(g (F.asked more).1,0)else F.asked more)else(F,200)
def aB.append(F:aB)(b:List UInt8):aB×Int:=
 if F.right=true/\b=[]then(F,2)else F.op b.length λG=> { G with loose:=G.loose++[b]}
def aB.set(F:aB)(g:aB->aB):aB×Int:=
 if F.right=true then(if F.off=true then(F,10)else(g F,0))else(F,200)
def aB.none:aB:=⟨[],[],-1,-1,false⟩
def BytesIn(S:Nat->Prop)(a:Option Addr)(l:List UInt8):Prop:=∀(k:Nat) (x:UInt8),l[k]? =some x->∃b o:Nat,a=some ⟨b,o,none⟩/\S b
structure au(W:World)(S:Nat->Prop)(a:Option Addr)(len cap:Nat)(l:List UInt8):Prop where
 at_:BytesAt W a len cap l
 in_:BytesIn S a l
structure gK(W:World)(S:Nat->Prop)(a:Option Addr)(len cap:Nat)(L:List (List UInt8)):Prop where
 hlen:L.length=len
 hcap:len<=cap
 hmax:cap<=maxLen
 hfew:len<=140737488355328
 hat:∀k p,L[k]? =some p->∃b o pa pl pc,a=some ⟨b,o,none⟩/\b<W.heap.size/\S b/\W.cell? ⟨b,o+k,none⟩=some (.slice pa pl pc)/\au W S pa pl pc p
 hnil:a=none->cap=0
structure fB(W:World)(S:Nat->Prop)(fa:Option Addr)(fl fc:Nat)(la:Option Addr)(ll lc:Nat)(F:aB):Prop where
 jH:au W S fa fl fc F.jH
 loose:gK W S la ll lc F.loose
 fuse:eY F.fuse
 fault:eY F.fault
theorem gK.at_{W:World}{S:Nat->Prop}{a:Option Addr}{len cap:Nat}{L:List (List UInt8)}(h:gK W S a len cap L):qj W a len cap L:=
 ⟨h.hlen,h.hcap,h.hmax,h.hfew,λk p hk=>by
  obtain⟨b,o,pa,pl,pc,h1,h2,_,h3,h4⟩:=h.hat k p hk;exact⟨b,o,pa,pl,pc,h1,h2,h3,h4.at_⟩,h.hnil⟩
theorem fB.at_{W:World}{S:Nat->Prop}{fa la:Option Addr}{fl fc ll lc:Nat}{F:aB}(h:fB W S fa fl fc la ll lc F):lF W fa fl fc la ll lc F:=
 ⟨h.jH.at_,h.loose.at_,h.fuse,h.fault⟩
theorem au.same{W W':World}{S:Nat->Prop}{a:Option Addr}{len cap:Nat}{l:List UInt8}(h:au W S a len cap l)(hs:W.heap.size<=W'.heap.size)(hb:∀b,S b->b<W.heap.size->W'.heap[b]? =W.heap[b]?):au W' S a len cap l:=
 ⟨⟨h.at_.hlen,h.at_.hcap,h.at_.hmax,h.at_.hfew,λk x hk=>by
  obtain⟨b,o,h1,h2,h3⟩:=h.at_.hat k x hk;obtain⟨b',o',h1',h4⟩:=h.in_ k x hk;rw[h1]at h1';cases h1';exact⟨b,o,h1,oM,(World.cell?_of_block (hb b h4 h2)).trans h3⟩,h.at_.hnil⟩,h.in_⟩
theorem gK.same{W W':World}{S:Nat->Prop}{a:Option Addr}{len cap:Nat}{L:List (List UInt8)}(h:gK W S a len cap L)(hs:W.heap.size<=W'.heap.size)(hb:∀b,S b->b<W.heap.size->W'.heap[b]? =W.heap[b]?):gK W' S a len cap L:=
 ⟨h.hlen,h.hcap,h.hmax,h.hfew,λk p hk=>by
  obtain⟨b,o,pa,pl,pc,h1,h2,h3,h4,h5⟩:=h.hat k p hk;exact⟨b,o,pa,pl,pc,h1,oM,h3,(World.cell?_of_block (hb b h3 h2)).trans h4,h5.same hs hb⟩,h.hnil⟩
theorem fB.same{W W':World}{S:Nat->Prop}{fa la:Option Addr}{fl fc ll lc:Nat}{F:aB}(h:fB W S fa fl fc la ll lc F)(hs:W.heap.size<=W'.heap.size)(hb:∀b,S b->b<W.heap.size->W'.heap[b]? =W.heap[b]?):fB W' S fa fl fc la ll lc F:=
 ⟨h.jH.same hs hb,h.loose.same hs hb,h.fuse,h.fault⟩
theorem au.ext{W W':World}{S:Nat->Prop}{a:Option Addr}{len cap:Nat}{l:List UInt8}(h:au W S a len cap l)(hb:Below W.heap.size W W'):au W' S a len cap l:=h.same hb.size λb _ h2=>hb.block b h2
theorem gK.ext{W W':World}{S:Nat->Prop}{a:Option Addr}{len cap:Nat}{L:List (List UInt8)}(h:gK W S a len cap L)(hb:Below W.heap.size W W'):gK W' S a len cap L:=h.same hb.size λb _ h2=>hb.block b h2
theorem fB.ext{W W':World}{S:Nat->Prop}{fa la:Option Addr}{fl fc ll lc:Nat}{F:aB}(h:fB W S fa fl fc la ll lc F)(hb:Below W.heap.size W W'):fB W' S fa fl fc la ll lc F:=h.same hb.size λb _ h2=>hb.block b h2
theorem BytesIn.mono{S T:Nat->Prop}{a:Option Addr}{l:List UInt8}(h:BytesIn S a l)(hst:∀b,S b->T b):BytesIn T a l:=λk x hk=>by
 obtain⟨b,o,h1,h2⟩:=h k x hk;exact⟨b,o,h1,hst b h2⟩
theorem au.mono{W:World}{S T:Nat->Prop}{a:Option Addr}{len cap:Nat}{l:List UInt8}(h:au W S a len cap l)(hst:∀b,S b->T b):au W T a len cap l:=⟨h.at_,h.in_.mono hst⟩
theorem gK.mono{W:World}{S T:Nat->Prop}{a:Option Addr}{len cap:Nat}{L:List (List UInt8)}(h:gK W S a len cap L)(hst:∀b,S b->T b):gK W T a len cap L:=
 ⟨h.hlen,h.hcap,h.hmax,h.hfew,λk p hk=>by
  obtain⟨b,o,pa,pl,pc,h1,h2,h3,h4,h5⟩:=h.hat k p hk;exact⟨b,o,pa,pl,pc,h1,h2,hst b h3,h4,h5.mono hst⟩,h.hnil⟩
theorem fB.mono{W:World}{S T:Nat->Prop}{fa la:Option Addr}{fl fc ll lc:Nat}{F:aB}(h:fB W S fa fl fc la ll lc F)(hst:∀b,S b->T b):fB W T fa fl fc la ll lc F:=
 ⟨h.jH.mono hst,h.loose.mono hst,h.fuse,h.fault⟩
theorem BytesAt.s{W:World}{a:Option Addr}{len cap:Nat}{l:List UInt8}(h:BytesAt W a len cap l):au W (λb=>b<W.heap.size) a len cap l:=
 ⟨h,λk x hk=>by obtain⟨b,o,h1,h2,_⟩:=h.hat k x hk;exact⟨b,o,h1,h2⟩⟩
theorem qj.s{W:World}{a:Option Addr}{len cap:Nat}{L:List (List UInt8)}(h:qj W a len cap L):gK W (λb=>b<W.heap.size) a len cap L:=
 ⟨h.hlen,h.hcap,h.hmax,h.hfew,λk p hk=>by
  obtain⟨b,o,pa,pl,pc,h1,h2,h3,h4⟩:=h.hat k p hk;exact⟨b,o,pa,pl,pc,h1,h2,h2,h3,h4.s⟩,h.hnil⟩
theorem lF.s{W:World}{fa la:Option Addr}{fl fc ll lc:Nat}{F:aB}(h:lF W fa fl fc la ll lc F):fB W (λb=>b<W.heap.size) fa fl fc la ll lc F:=
 ⟨h.jH.s,h.loose.s,h.fuse,h.fault⟩
theorem au.nil_{W:World}{S:Nat->Prop}:au W S none 0 0 []:=⟨⟨rfl,Nat.le_refl _,by unfold maxLen;omega,oM,λk x hk=>by simp at hk,λ_=>rfl⟩,λk x hk=>by simp at hk⟩
theorem gK.nil_{W:World}{S:Nat->Prop}:gK W S none 0 0 []:=⟨rfl,Nat.le_refl _,by unfold maxLen;omega,oM,λk x hk=>by simp at hk,λ_=>rfl⟩
def Or(S:Nat->Prop)(w:World)(b:Nat):Prop:=S b\/w.heap.size<=b
def FI(w:World)(S:Nat->Prop)(F:aB)(err:Int)(e:Ending)(w':World):Prop:=
 ∃fa fl fc la ll lc,e= .returned (.tuple #[.agg #[.slice fa fl fc, .slice la ll lc, .int .i64 F.fuse, .int .i64 F.fault, .bool F.off], .int .i64 err])/\fB w' (Or S w) fa fl fc la ll lc F/\Below w.heap.size w w'
theorem BytesAt.nil_{W:World}:BytesAt W none 0 0 []:=⟨rfl,Nat.le_refl _,by unfold maxLen;omega,oM,λk x hk=>by simp at hk,λ_=>rfl⟩
theorem qj.nil_{W:World}:qj W none 0 0 []:=⟨rfl,Nat.le_refl _,by unfold maxLen;omega,oM,λk x hk=>by simp at hk,λ_=>rfl⟩
end Go.Dav
