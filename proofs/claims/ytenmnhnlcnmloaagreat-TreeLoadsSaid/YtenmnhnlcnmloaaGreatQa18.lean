/- Part of a proof of a law of the layer of trees. -/
import Derived.Test.YtenmnhnlcnmloaaGreatQa17
import Derived.Test.YtenmnhnlcnmloaaGreatQa09
import Derived.Test.YtenmnhnlcnmloaaGreatQa10
import Derived.Deep.AppendLies
import Derived.Deep.RegionLaw
import Derived.Deep.QuietTactic
import Derived.BigQuiet
import Derived.Deep.DeepCutAuto
import Derived.RangeFuncNested
import Derived.RangeFuncBound
import Derived.RangeFuncCalls
import Derived.RangeFuncLeaves
import Derived.RangeFuncBox
import Derived.Shelf.Abstract
import Derived.Shelf.RegionOpen
import Derived.WalkKit
import Derived.OwnWalkIn
import Derived.TacticsInMore
import Derived.LoopNIn
import Derived.LoopIn
import Derived.Test.YtenmnhnlcnmloaaGreatQa01
set_option linter.unusedVariables false
set_option linter.unusedSimpArgs false
set_option maxHeartbeats 8000000
set_option maxRecDepth 8000
namespace Go.Dav
open Go Go.RowKit
def dJ(n:Nat):List UInt8:=[UInt8.ofNat (n/256),UInt8.ofNat n]
def outOf(p:List UInt8):List UInt8:=dJ p.length++fC (Dy (dJ p.length++p))++p
theorem wC(p:List UInt8):(outOf p).length=6+p.length:=by simp[outOf,dJ,fC];omega
theorem PK(n:Nat):u8s (dJ n)=[.int .u8 ((n:Int)/256%256), .int .u8 ((n:Int)%256)]:=by simp[u8s,dJ]
def dU(n:Nat)(b:List UInt8):List UInt8:=if (n+b.length)%64=0 then b++[0]else b
def fA(n:Nat)(b:List UInt8)(c:UInt8):List UInt8:=dU n b++[c]
def oN(n:Nat)(b0 cs:List UInt8):List UInt8:=cs.foldl (fA n) b0
theorem MZ(n:Nat)(b0 cs:List UInt8)(c:UInt8):oN n b0 (cs++[c])=fA n (oN n b0 cs) c:=by simp[oN]
theorem JI(n:Nat)(b:List UInt8):(dU n b).length<=b.length+1:=by unfold dU;split<;>simp
theorem JJ(n:Nat)(b:List UInt8)(c:UInt8):(fA n b c).length<=b.length+2:=by
 unfold fA;have:=JI n b;simp;omega
theorem rQ(n:Nat)(b0:List UInt8):∀cs,(oN n b0 cs).length<=b0.length+2*cs.length:=by
 intro cs;induction cs generalizing b0 with
 |nil=>simp[oN]
 |cons c cs ih=>
  have h:=ih (fA n b0 c);have h2:=JJ n b0 c;show(oN n (fA n b0 c) cs).length<=_;simp;omega
structure Run where
 at_:Int
 a:Option Addr
 len:Nat
 cap:Nat
 l:List UInt8
def Yk(W:World)(S:Nat->Prop)(r:Run):Prop:=au W S r.a r.len r.cap r.l/\r.len<=524288/\0<=r.at_/\r.at_<=524288/\(r.len=0->r.at_=0)
abbrev RunT(W:World)(S:Nat->Prop):Type:= { r:Run // Yk W S r}
abbrev RunT.encs{W:World}{S:Nat->Prop}(x:RunT W S):Array Value:= #[.int .i64 x.1.at_, .slice x.1.a x.1.len x.1.cap]
def Hu(F:aB):Nat->Nat
 |0=>0
 |j+1=>F.jH.length+sumTo F.loose j
def lQ{W:World}{S:Nat->Prop}(F:aB)(k:Nat)(xs:List (RunT W S)):Prop:=xs.map (λx=>x.1.l)=(F.jH::F.loose).take k/\∀(j:Nat) x,xs[j]? =some x->x.1.at_=(Hu F j:Int)
theorem lQ.nil_{W:World}{S:Nat->Prop}(F:aB):lQ (W:=W) (S:=S) F 0 []:=⟨rfl,λj x h=>by simp at h⟩
theorem lQ.snoc{W:World}{S:Nat->Prop}{F:aB}{k:Nat}{xs:List (RunT W S)}(h:lQ F k xs){x:RunT W S}(hx:(F.jH::F.loose)[k]? =some x.1.l)(ha:x.1.at_=(Hu F k:Int)):lQ F (k+1) (xs++[x]):=by
 have hlen:xs.length=k:=by
  have h1:=congrArg List.length h.1;obtain⟨h2,_⟩:=List.getElem?_eq_some_iff.1 hx;rw[List.length_map,List.length_take]at h1;omega
 refine⟨?_,λj y hy=>?_⟩
 .rw[List.map_append,h.1,List.take_add_one,hx];rfl
 .by_cases hj:j<xs.length
  .rw[List.getElem?_append_left hj]at hy;exact h.2 j y hy
  .rw[List.getElem?_append_right oM]at hy;have hj2:j-xs.length=0:=by
    obtain⟨h2,_⟩:=List.getElem?_eq_some_iff.1 hy;simp at h2;omega
   rw[hj2]at hy;cases hy;have:j=k:=oM;rw[this];exact ha
theorem lQ.length{W:World}{S:Nat->Prop}{F:aB}{k:Nat}{xs:List (RunT W S)}(h:lQ F k xs)(hk:k<=F.loose.length+1):xs.length=k:=by
 have h1:=congrArg List.length h.1;rw[List.length_map,List.length_take,List.length_cons]at h1;omega
def KpR(n B:Nat)(W W':World):Prop:=Below n W W'/\W'.heap[B]? =W.heap[B]?
theorem KpR.refl(n B:Nat)(W:World):KpR n B W W:=⟨Below.refl _ _,rfl⟩
theorem KpR.trans{n B:Nat}{A C D:World}(h:KpR n B A C)(k:KpR n B C D):KpR n B A D:=⟨h.1.trans k.1,k.2.trans h.2⟩
theorem KpR.t{n B:Nat}:∀ {A C D:World},KpR n B A C->KpR n B C D->KpR n B A D:=λh k=>h.trans k
theorem KpR.b{n B:Nat}{w:World}(h:n<=w.heap.size)(hB:B<w.heap.size):∀(W:World) (l:Nat) (o o':Obj),w.heap.size<=l->W.heap[l]? =some o->o.isCells=false->o.isWalk=false->KpR n B W (W.putObj l o'):=λW l o o' h1 h2 h3 h4=>
 ⟨belowK_b h W l o o' h1 h2 h3 h4,(grownBy_putObj' W l o').block B (by
  obtain⟨h5,_⟩:=Array.getElem?_eq_some_iff.1 h2;omega) (by intro e;cases e;omega)⟩
theorem KpR.blk{n B:Nat}{W W':World}(h:KpR n B W W'){vs:List Value}{t:TypeId}(hb:Blk W B vs t):Blk W' B vs t:=h.2.trans hb
end Go.Dav
namespace Go.Proofs.YtenmnhnlcnmloaaGreat
open Go.RowKit Go.Dav
attribute [local go_sem] Gives ite_val ay
theorem Na(n:Nat)(hn:n<=1048576)(W:World):(Instr.makeSlice 22 (.int .i64 2) (.int .i64 (6+(n:Int)))).run Tryz.prog W= .ok (.slice (some ⟨W.heap.size,0,none⟩) 2 (6+n)) (W.alloc (.cells (List.replicate (6+n) (Value.int .u8 0)).toArray 5)):=by
 have hinfo:(Tryz.prog.info? 5).map (λi=>(i.zero,i.size,i.bytes))=some (some (.int .u8 0),1,1):=kR;obtain⟨i,hi,hz,hs,hb⟩:=info_parts hinfo;have h:=run_make (P:=Tryz.prog) (w:=W) 22 5 i (.int .u8 0) Tryz.underlying22 hi hz .i64 .i64 2 (6+(n:Int)) oM oM (by rw[hb];omega) oM;rw[hs]at h;simp only[show(2:Int).toNat=2 by rfl,show(6+(n:Int)).toNat=6+n by omega,Nat.mul_one]at h;rw[h];have e:madeCells (Value.int .u8 0).cells (6+n)=(List.replicate (6+n) (Value.int .u8 0)).toArray:=by
  rw[<- toList_madeCells_one];rfl
 rw[e]
set_option maxRecDepth 100000 in
theorem RY(a:Option Addr)(n c:Nat)(l:List UInt8)(w:World)(S:Nat->Prop)(hl:au w S a n c l)(hn:n<=1048576):
  Calls Tryz.prog 101 #[.slice a n c] w λe w'=>∃v,e= .returned v/\w'.ownsRow w.heap.size 5 1 v (6+n) (u8s (outOf l))/\Below w.heap.size w w':=by
 have HL:=Hd hl;have hn':(n:Int)<=1048576:=oM;have hwn:IntKind.i64.wrap (6+(n:Int))=6+(n:Int):=IntWalk.i64_in _ oM;obtain⟨W0,hW0⟩:∃W0,w.alloc (.cells (List.replicate (6+n) (Value.int .u8 0)).toArray 5)=W0:=⟨_,rfl⟩;have hb0:Blk W0 w.heap.size (List.replicate (6+n) (Value.int .u8 0)) 5:=by rw[<- hW0];exact Blk.new w _ _
 have hmk:(Instr.makeSlice 22 (.int .i64 2) (.int .i64 (6+(n:Int)))).run Tryz.prog w= .ok (.slice (some ⟨w.heap.size,0,none⟩) 2 (6+n)) W0:=by rw[Na n hn w,hW0]
 have c0:W0.cell? ⟨w.heap.size,0,none⟩=some (.int .u8 0):=hb0.cell 0 (by rw[List.getElem?_replicate,if_pos oM]);have c1:W0.cell? ⟨w.heap.size,1,none⟩=some (.int .u8 0):=hb0.cell 1 (by rw[List.getElem?_replicate,if_pos oM]);have m0:=hb0.marks;have l0:=hb0.lt;have Vz:=Hd (show Below w.heap.size w W0 by rw[<- hW0];exact bW);have HB0:=Hd hb0;have HLN:=Hd hl.at_.hlen;clear hl hb0 hW0;go_enter Tryz.func101,Tryz.ntmps101;go_wp2_with fail;obtain⟨W1,hW1⟩:∃W1,(W0.setCell ⟨w.heap.size,0,none⟩ (.int .u8 ((n:Int)/256%256))).setCell ⟨w.heap.size,1,none⟩ (.int .u8 ((n:Int)%256))=W1:=⟨_,rfl⟩;have o1:Only w.heap.size W0 W1:=by rw[<- hW1];exact(by repeat (first|(with_reducible exact Only.refl _ _)|(with_reducible refine Only.set ?_ _ _)|(with_reducible refine Only.alloc ?_ _)|(with_reducible refine Only.drew ?_)))
 have hb1:Blk W1 w.heap.size (((List.replicate (6+n) (Value.int .u8 0)).set 0 (.int .u8 ((n:Int)/256%256))).set 1 (.int .u8 ((n:Int)%256))) 5:=by rw[<- hW1];exact(HB0.o.set 0 _).set 1 _
 have hown:W1.ownsRow w.heap.size 5 1 (.slice (some ⟨w.heap.size,0,none⟩) 2 (6+n)) 2 (u8s (dJ n)):=by
  refine⟨by simp[u8s,dJ], .inr ⟨_,_,_,rfl,Nat.le_refl _,hb1,oM,by unfold maxLen;omega,by simp,?_⟩⟩;rw[PK,show 6+n=(4+n)+1+1 by omega];simp[List.replicate_succ]
 have xu:=gV Vz.o o1 Vz.o.size (Nat.le_refl _);have HO1:=Hd hown;have JK:=Hd xu;have HL1:=Hd (HL.o.ext xu);rw[hW1];clear hW1 o1 hb1 hown xu c0 c1 m0 l0 HB0 Vz hmk;obtain⟨_,_,e2,hby⟩:=fM HO1.o oM;cases e2;have hA:=JG (some ⟨w.heap.size,0,none⟩) 2 (6+n) (dJ n) W1 hby.at_;obtain⟨s0,hs0⟩:∃s0,nP 4294967295 (dJ n)=s0:=⟨_,rfl⟩;have ZI:s0<4294967296:=by rw[<- hs0];exact zo oM _
 rw[hs0]at hA;refine hA.mono ?_;rintro e w2 ⟨rfl,hb2⟩;have HO2:=Hd (aK HO1.o hb2);have HL2:=Hd (HL1.o.ext hb2);have Q5:=Hd (JK.o.trans (hb2.mono JK.o.size));have HS0:=Hd hs0;have aa2:=Hd ZI;clear hA hs0 ZI hb2 hby HO1 HL1 JK;go_wp2_with fail;obtain⟨s,hs⟩:∃s,Dy (dJ n++l)=s:=⟨_,rfl⟩;have hB:Calls Tryz.prog 149 #[.int .u32 ((4294967295-s0:Nat):Int), .slice a n c] w2 λe w'=>e= .returned (.int .u32 (s:Int))/\Below w2.heap.size w2 w':=by
  have h:=yD (4294967295-s0) a n c l oM w2 HL2.o.at_;have e1:4294967295-(4294967295-s0)=s0:=by have:=aa2.o;omega
  rw[e1]at h;rw[<- hs];unfold Dy;rw[G6,HS0.o];exact h
 have HB:=Hd hB;have HSL:=Hd (show s<4294967296 by rw[<- hs];exact Hl _);have HSS:=Hd hs;clear hB hs;refine HB.o.mono ?_;rintro e w3 ⟨rfl,hb3⟩;have HO3:=Hd (aK HO2.o hb3);have HL3:=Hd (HL2.o.ext hb3);have VA:=Hd (Q5.o.trans (hb3.mono Q5.o.size));clear hb3 HO2 HL2 Q5 HB;go_wp2_with fail;go_loopg [4,25] 4 (λg vx ix wr=>∃k:Nat,k<=4/\g=4-k/\ix= .int .i64 k/\wr.ownsRow w.heap.size 5 1 vx (2+k) (u8s (dJ n++(fC s).take k))/\Below w.heap.size w wr)
 case atStart=>exact⟨0,oM,rfl,rfl,by simpa using HO3.o,VA.o⟩
 case round=>
  obtain⟨k,hk,rfl,rfl,ho,hbl⟩:=hrel;obtain⟨ra,rc,rfl,_⟩:=fM ho oM;have HO:=Hd ho;have HBL:=Hd hbl;have hsl:=HSL.o;have acK:=Hd hsl;clear ho hbl hsl;by_cases hk4:k<4
  .have h4:k=0\/k=1\/k=2\/k=3:=oM;rcases h4 with rfl|rfl|rfl|rfl
   .
    have HOx:=Hd (aK HO.o ((Below.refl _ wr).alloc (Nat.le_refl _) (.cells #[.int .u8 ((s:Int)%256)] 5)));have HCx:=Hd (cells_one (S:=λb=>b=wr.heap.size) (g:=wr.heap.size) (v:= .int .u8 ((s:Int)%256)) rfl (by simp) (Blk.new wr [.int .u8 ((s:Int)%256)] 5|>.cell 0 rfl))
    have hsx:w.heap.size<=(wr.alloc (.cells #[.int .u8 ((s:Int)%256)] 5)).heap.size:=by have:=HBL.o.size;simp;omega
    go_wp2_with (at_builtin;refine ak rfl (.tmp 28) (.tmp 34) 22 rfl aF w.heap.size _ (2+0) (u8s (dJ n++(fC s).take 0)) rfl HOx.o (λb=>b=wr.heap.size) (some ⟨wr.heap.size,0,none⟩) 1 1 [.int .u8 ((s:Int)%256)] rfl HCx.o (λu hu=>by simp at hu;subst hu;rfl) (λh=>by cases h) (by unfold maxLen;omega) oM hsx ?_;intro v' w' hown' hgrow)
    go_wp2_with fail;go_roundg (4-(0+1))
    case measure=>omega
    case rel=>
     refine⟨0+1,oM,rfl,by go_num,?_,aV (HBL.o.alloc HBL.o.size _) (by have:=HBL.o.size;simp;omega) HOx.o (Nat.le_refl _) hgrow⟩;have e:u8s (dJ n++(fC s).take (0+1))=u8s (dJ n++(fC s).take 0)++[.int .u8 ((s:Int)%256)]:=by simp[u8s,fC]
     rw[e];exact hown'
   .
    have HOx:=Hd (aK HO.o ((Below.refl _ wr).alloc (Nat.le_refl _) (.cells #[.int .u8 ((s:Int)/256%256)] 5)));have HCx:=Hd (cells_one (S:=λb=>b=wr.heap.size) (g:=wr.heap.size) (v:= .int .u8 ((s:Int)/256%256)) rfl (by simp) (Blk.new wr [.int .u8 ((s:Int)/256%256)] 5|>.cell 0 rfl))
    have hsx:w.heap.size<=(wr.alloc (.cells #[.int .u8 ((s:Int)/256%256)] 5)).heap.size:=by have:=HBL.o.size;simp;omega
    go_wp2_with (at_builtin;refine ak rfl (.tmp 28) (.tmp 34) 22 rfl aF w.heap.size _ (2+1) (u8s (dJ n++(fC s).take 1)) rfl HOx.o (λb=>b=wr.heap.size) (some ⟨wr.heap.size,0,none⟩) 1 1 [.int .u8 ((s:Int)/256%256)] rfl HCx.o (λu hu=>by simp at hu;subst hu;rfl) (λh=>by cases h) (by unfold maxLen;omega) oM hsx ?_;intro v' w' hown' hgrow)
    go_wp2_with fail;go_roundg (4-(1+1))
    case measure=>omega
    case rel=>
     refine⟨1+1,oM,rfl,by go_num,?_,aV (HBL.o.alloc HBL.o.size _) (by have:=HBL.o.size;simp;omega) HOx.o (Nat.le_refl _) hgrow⟩;have e:u8s (dJ n++(fC s).take (1+1))=u8s (dJ n++(fC s).take 1)++[.int .u8 ((s:Int)/256%256)]:=by simp[u8s,fC]
     rw[e];exact hown'
   .
    have HOx:=Hd (aK HO.o ((Below.refl _ wr).alloc (Nat.le_refl _) (.cells #[.int .u8 ((s:Int)/65536%256)] 5)));have HCx:=Hd (cells_one (S:=λb=>b=wr.heap.size) (g:=wr.heap.size) (v:= .int .u8 ((s:Int)/65536%256)) rfl (by simp) (Blk.new wr [.int .u8 ((s:Int)/65536%256)] 5|>.cell 0 rfl))
    have hsx:w.heap.size<=(wr.alloc (.cells #[.int .u8 ((s:Int)/65536%256)] 5)).heap.size:=by have:=HBL.o.size;simp;omega
    go_wp2_with (at_builtin;refine ak rfl (.tmp 28) (.tmp 34) 22 rfl aF w.heap.size _ (2+2) (u8s (dJ n++(fC s).take 2)) rfl HOx.o (λb=>b=wr.heap.size) (some ⟨wr.heap.size,0,none⟩) 1 1 [.int .u8 ((s:Int)/65536%256)] rfl HCx.o (λu hu=>by simp at hu;subst hu;rfl) (λh=>by cases h) (by unfold maxLen;omega) oM hsx ?_;intro v' w' hown' hgrow)
    go_wp2_with fail;go_roundg (4-(2+1))
    case measure=>omega
    case rel=>
     refine⟨2+1,oM,rfl,by go_num,?_,aV (HBL.o.alloc HBL.o.size _) (by have:=HBL.o.size;simp;omega) HOx.o (Nat.le_refl _) hgrow⟩;have e:u8s (dJ n++(fC s).take (2+1))=u8s (dJ n++(fC s).take 2)++[.int .u8 ((s:Int)/65536%256)]:=by simp[u8s,fC]
     rw[e];exact hown'
   .
    have HOx:=Hd (aK HO.o ((Below.refl _ wr).alloc (Nat.le_refl _) (.cells #[.int .u8 ((s:Int)/16777216%256)] 5)));have HCx:=Hd (cells_one (S:=λb=>b=wr.heap.size) (g:=wr.heap.size) (v:= .int .u8 ((s:Int)/16777216%256)) rfl (by simp) (Blk.new wr [.int .u8 ((s:Int)/16777216%256)] 5|>.cell 0 rfl))
    have hsx:w.heap.size<=(wr.alloc (.cells #[.int .u8 ((s:Int)/16777216%256)] 5)).heap.size:=by have:=HBL.o.size;simp;omega
    go_wp2_with (at_builtin;refine ak rfl (.tmp 28) (.tmp 34) 22 rfl aF w.heap.size _ (2+3) (u8s (dJ n++(fC s).take 3)) rfl HOx.o (λb=>b=wr.heap.size) (some ⟨wr.heap.size,0,none⟩) 1 1 [.int .u8 ((s:Int)/16777216%256)] rfl HCx.o (λu hu=>by simp at hu;subst hu;rfl) (λh=>by cases h) (by unfold maxLen;omega) oM hsx ?_;intro v' w' hown' hgrow)
    go_wp2_with fail;go_roundg (4-(3+1))
    case measure=>omega
    case rel=>
     refine⟨3+1,oM,rfl,by go_num,?_,aV (HBL.o.alloc HBL.o.size _) (by have:=HBL.o.size;simp;omega) HOx.o (Nat.le_refl _) hgrow⟩;have e:u8s (dJ n++(fC s).take (3+1))=u8s (dJ n++(fC s).take 3)++[.int .u8 ((s:Int)/16777216%256)]:=by simp[u8s,fC]
     rw[e];exact hown'
  .obtain rfl:k=4:=oM;clear hk4;have HLr:=Hd (HL.o.ext HBL.o);have RG:=Hd HL.o.at_.hnil;have hsz:=HBL.o.size;go_wp2_with (at_builtin;refine ak rfl (.tmp 37) (.tmp 38) 22 rfl aF w.heap.size _ (2+4) (u8s (dJ n++(fC s).take 4)) rfl HO.o S a n c (u8s l) rfl HLr.o.cells (iy l) RG.o (by unfold maxLen;omega) oM hsz ?_;intro v' w' hown' hgrow;have HO5:=Hd hown';have aa3:=Hd (aV HBL.o hsz HO.o (Nat.le_refl _) hgrow);clear hown' hgrow)
   go_ret;refine⟨_,rfl,?_,aa3.o⟩;have h:=HO5.o;have e:u8s (outOf l)=u8s (dJ n++(fC s).take 4)++u8s l:=by
    unfold outOf;rw[HLN.o,HSS.o,aW];rfl
   rw[e,show 6+n=2+4+n by omega];exact h
theorem Nb(F:aB)(fa la:Option Addr)(fl fc ll lc:Nat)(more:Nat)(w:World)(S:Nat->Prop)(hF:fB w S fa fl fc la ll lc F)(hr:F.right=true)(hm:more<=140737488355328):
  Calls Tryz.prog 179 #[.agg #[.slice fa fl fc, .slice la ll lc, .int .i64 F.fuse, .int .i64 F.fault, .bool F.off], .int .i64 more] w (FI w S (F.asked more).1 (F.asked more).2):=by
 have hW:Below w.heap.size w ((w.alloc (.cells [.slice fa fl fc, .slice la ll lc, .int .i64 F.fuse, .int .i64 F.fault, .bool F.off].toArray 32)).alloc (.cells #[.slice none 0 0, .slice none 0 0, .int .i64 0, .int .i64 0, .bool false] 32)):=bW;have hf0:=(Blk.new w [.slice fa fl fc, .slice la ll lc, .int .i64 F.fuse, .int .i64 F.fault, .bool F.off] 32).alloc (o:=(.cells #[.slice none 0 0, .slice none 0 0, .int .i64 0, .int .i64 0, .bool false] 32));have B1:=Blk.new' (w.alloc (.cells [.slice fa fl fc, .slice la ll lc, .int .i64 F.fuse, .int .i64 F.fault, .bool F.off].toArray 32)) [.slice none 0 0, .slice none 0 0, .int .i64 0, .int .i64 0, .bool false] 32 (p:=w.heap.size+1) (by simp);have hrs:=aB.cZ.1 hr;have HF:=Hd hF;have HW:=Hd hW;have HFF:=Hd (hF.at_.ext hW);clear hF hW;by_cases hoff:F.off=true
 .have q10:=B1.cells;have m10:=B1.marks;have HV:=Hd (show F.asked more=(F,10) by unfold aB.asked;rw[if_pos hoff]);clear hrs;go_enter Tryz.func179,Tryz.ntmps179;have HB1:=Hd B1;clear B1;go_wp2;rw[HV.o];have hr2:=((((HB1.o.set 0 (.slice fa fl fc)).set 1 (.slice la ll lc)).set 2 (.int .i64 (F.fuse))).set 3 (.int .i64 (F.fault))).set 4 (.bool (true));have c2:=hr2.cells;simp only[List.set_cons_zero,List.set_cons_succ]at c2;refine bodyPost_ret (v:= .tuple #[.agg #[.slice fa fl fc, .slice la ll lc, .int .i64 (F.fuse), .int .i64 (F.fault), .bool (true)], .int .i64 (10)]) (by simp[results,Tryz.results179,go_sem,c2]) rfl ⟨fa,fl,fc,la,ll,lc,by first|rfl|(simp only[wF];done)|(simp only[hoff];done),?_,?_⟩
  .exact((HF.o).mono λb h=>Or.inl h).ext (by have hz:=HW.o;exact bV)
  .exact(by have hz:=HW.o;exact bV)
 .have wF:F.off=false:=by simpa using hoff
  have HNO:=Hd hoff;clear hoff;have hL:=Hd (Pj F fa la fl fc ll lc _ HFF.o);rw[wF]at hL hf0 B1;go_enter Tryz.func179,Tryz.ntmps179;go_wp2_with fail;refine hL.o.mono ?_;rintro e w1 ⟨n,rfl,hn1,hn2,hn3,hb1⟩;have hn:n=F.many:=hn1 hrs.2.2.2.2;subst hn;clear hn1 hn2 hn3;have MC:(F.many:Int)<=524288:=by have:=hrs.2.2.2.2;omega
  have hmore:(more:Int)<=140737488355328:=oM;have B1:=B1.ext hb1;have q10:=B1.cells;have m10:=B1.marks;have l10:=B1.lt;have hf1:=hf0.ext hb1;have s1:=hb1.size;simp only[World.size_alloc]at s1;have bel:Below w.heap.size w w1:=(by have hz:=hb1;exact bV);have cf:=hf1.cells;have mf:=hf1.marks;have lf:=hf1.lt;have nBf:w.heap.size≠w.heap.size+1:=oM;by_cases hroom:524288-(F.many:Int)<(more:Int)
  .have HV:=Hd (show F.asked more=(F,8) by unfold aB.asked;rw[if_neg HNO.o,if_pos hroom]);have Wy:(524288:Int)<(F.many:Int)+(more:Int):=oM;have HB1:=Hd B1;clear B1;go_wp2;rw[HV.o];have hr2:=((((HB1.o.set 0 (.slice fa fl fc)).set 1 (.slice la ll lc)).set 2 (.int .i64 (F.fuse))).set 3 (.int .i64 (F.fault))).set 4 (.bool (false));have c2:=hr2.cells;simp only[List.set_cons_zero,List.set_cons_succ]at c2;refine bodyPost_ret (v:= .tuple #[.agg #[.slice fa fl fc, .slice la ll lc, .int .i64 (F.fuse), .int .i64 (F.fault), .bool (false)], .int .i64 (8)]) (by simp[results,Tryz.results179,go_sem,c2]) rfl ⟨fa,fl,fc,la,ll,lc,by first|rfl|(simp only[wF];done)|(simp only[hoff];done),?_,?_⟩
   .exact((HF.o).mono λb h=>Or.inl h).ext (by have hz:=bel;exact bV)
   .exact(by have hz:=bel;exact bV)
  .have Wy:(F.many:Int)+(more:Int)<=524288:=oM;have HRM:=Hd hroom;clear hroom;have ZJ:=HF.o.fault;have Yl:=HF.o.fuse;unfold eY at ZJ Yl;by_cases hfa:F.fault=0
   .have HV:=Hd (show F.asked more=({ F with fault:= -1},9) by unfold aB.asked;rw[if_neg HNO.o,if_neg HRM.o,if_pos hfa]);have hR:fB w S fa fl fc la ll lc { F with fault:= -1}:=⟨HF.o.jH,HF.o.loose,HF.o.fuse,by unfold eY;simp⟩;have hg2:=hf1.set 3 (.int .i64 (-1));have B1:=B1.other (q:=w.heap.size) oM 3 (.int .i64 (-1));have aa4:(F.fault==0)=true:=by simp[hfa]
    clear hfa hrs ZJ hg2;have HB1:=Hd B1;clear B1;go_wp2;rw[HV.o];have hr2:=((((HB1.o.set 0 (.slice fa fl fc)).set 1 (.slice la ll lc)).set 2 (.int .i64 (F.fuse))).set 3 (.int .i64 (-1))).set 4 (.bool (false));have c2:=hr2.cells;simp only[List.set_cons_zero,List.set_cons_succ]at c2;refine bodyPost_ret (v:= .tuple #[.agg #[.slice fa fl fc, .slice la ll lc, .int .i64 (F.fuse), .int .i64 (-1), .bool (false)], .int .i64 (9)]) (by simp[results,Tryz.results179,go_sem,c2]) rfl ⟨fa,fl,fc,la,ll,lc,by first|rfl|(simp only[wF];done)|(simp only[hoff];done),?_,?_⟩
    .exact((hR).mono λb h=>Or.inl h).ext (by have hz:=bel;exact bV)
    .exact(by have hz:=bel;exact bV)
   .have aa4:(F.fault==0)=false:=by simp[hfa]
    have HFA:=Hd hfa;by_cases hfp:0<F.fault
    .have hg2:=hf1.set 3 (.int .i64 (F.fault-1));have B2:=B1.other (q:=w.heap.size) oM 3 (.int .i64 (F.fault-1));have bel2:Below w.heap.size w (w1.setCell ⟨w.heap.size,3,none⟩ (.int .i64 (F.fault-1))):=(by have hz:=bel;exact bV);have hfe:=Hd (show(if 0<F.fault then F.fault-1 else F.fault)=F.fault-1 from if_pos hfp);have hf3:eY (F.fault-1):=by unfold eY;omega
     simp only[List.set_cons_zero,List.set_cons_succ]at hg2;have HG2:=Hd hg2;have HB2:=Hd B2;clear B1 hg2 B2;clear hfa;by_cases hfu:F.fuse=0
     .have HV:=Hd (show F.asked more=({ F with fault:=F.fault-1,fuse:= -1,off:=true},10) by unfold aB.asked;rw[if_neg HNO.o,if_neg HRM.o,if_neg HFA.o,if_pos hfu,hfe.o]);have hR:fB w S fa fl fc la ll lc { F with fault:=F.fault-1,fuse:= -1,off:=true}:=⟨HF.o.jH,HF.o.loose,by unfold eY;simp,hf3⟩;have B1:=((HB2.o).other (q:=w.heap.size) oM 2 (.int .i64 (-1))).other (q:=w.heap.size) oM 4 (.bool true);have Ym:(F.fuse==0)=true:=by simp[hfu]
      clear hfu hrs Yl;have HB1:=Hd B1;clear B1;go_wp2;rw[HV.o];have hr2:=((((HB1.o.set 0 (.slice fa fl fc)).set 1 (.slice la ll lc)).set 2 (.int .i64 (-1))).set 3 (.int .i64 (F.fault-1))).set 4 (.bool (true));have c2:=hr2.cells;simp only[List.set_cons_zero,List.set_cons_succ]at c2;refine bodyPost_ret (v:= .tuple #[.agg #[.slice fa fl fc, .slice la ll lc, .int .i64 (-1), .int .i64 (F.fault-1), .bool (true)], .int .i64 (10)]) (by simp[results,Tryz.results179,go_sem,c2]) rfl ⟨fa,fl,fc,la,ll,lc,by first|rfl|(simp only[wF];done)|(simp only[hoff];done),?_,?_⟩
      .exact((hR).mono λb h=>Or.inl h).ext (by have hz:=bel;exact bV)
      .exact(by have hz:=bel;exact bV)
     .have Ym:(F.fuse==0)=false:=by simp[hfu]
      by_cases hup:0<F.fuse
      .have HV:=Hd (show F.asked more=({ F with fault:=F.fault-1,fuse:=F.fuse-1,off:=false},0) by unfold aB.asked;rw[if_neg HNO.o,if_neg HRM.o,if_neg HFA.o,if_neg hfu,hfe.o,if_pos hup,wF]);have hf4:eY (F.fuse-1):=by unfold eY;omega
       have hR:fB w S fa fl fc la ll lc { F with fault:=F.fault-1,fuse:=F.fuse-1,off:=false}:=⟨HF.o.jH,HF.o.loose,hf4,hf3⟩;have B1:=(HB2.o).other (q:=w.heap.size) oM 2 (.int .i64 (F.fuse-1));clear hfu hrs;have HB1:=Hd B1;clear B1;go_wp2;rw[HV.o];have hr2:=((((HB1.o.set 0 (.slice fa fl fc)).set 1 (.slice la ll lc)).set 2 (.int .i64 (F.fuse-1))).set 3 (.int .i64 (F.fault-1))).set 4 (.bool (false));have c2:=hr2.cells;simp only[List.set_cons_zero,List.set_cons_succ]at c2;refine bodyPost_ret (v:= .tuple #[.agg #[.slice fa fl fc, .slice la ll lc, .int .i64 (F.fuse-1), .int .i64 (F.fault-1), .bool (false)], .int .i64 (0)]) (by simp[results,Tryz.results179,go_sem,c2]) rfl ⟨fa,fl,fc,la,ll,lc,by first|rfl|(simp only[wF];done)|(simp only[hoff];done),?_,?_⟩
       .exact((hR).mono λb h=>Or.inl h).ext (by have hz:=bel;exact bV)
       .exact(by have hz:=bel;exact bV)
      .have HV:=Hd (show F.asked more=({ F with fault:=F.fault-1,off:=false},0) by unfold aB.asked;rw[if_neg HNO.o,if_neg HRM.o,if_neg HFA.o,if_neg hfu,hfe.o,if_neg hup,wF]);have hR:fB w S fa fl fc la ll lc { F with fault:=F.fault-1,off:=false}:=⟨HF.o.jH,HF.o.loose,HF.o.fuse,hf3⟩;have B1:=HB2.o;have hun:F.fuse<=0:=oM;clear hfu hrs;have HB1:=Hd B1;clear B1;go_wp2;rw[HV.o];have hr2:=((((HB1.o.set 0 (.slice fa fl fc)).set 1 (.slice la ll lc)).set 2 (.int .i64 (F.fuse))).set 3 (.int .i64 (F.fault-1))).set 4 (.bool (false));have c2:=hr2.cells;simp only[List.set_cons_zero,List.set_cons_succ]at c2;refine bodyPost_ret (v:= .tuple #[.agg #[.slice fa fl fc, .slice la ll lc, .int .i64 (F.fuse), .int .i64 (F.fault-1), .bool (false)], .int .i64 (0)]) (by simp[results,Tryz.results179,go_sem,c2]) rfl ⟨fa,fl,fc,la,ll,lc,by first|rfl|(simp only[wF];done)|(simp only[hoff];done),?_,?_⟩
       .exact((hR).mono λb h=>Or.inl h).ext (by have hz:=bel;exact bV)
       .exact(by have hz:=bel;exact bV)
    .have hfe:=Hd (show(if 0<F.fault then F.fault-1 else F.fault)=F.fault from if_neg hfp);have hf3:eY F.fault:=by unfold eY;omega
     have hfn:F.fault<=0:=oM;clear hfa;by_cases hfu:F.fuse=0
     .have HV:=Hd (show F.asked more=({ F with fault:=F.fault,fuse:= -1,off:=true},10) by unfold aB.asked;rw[if_neg HNO.o,if_neg HRM.o,if_neg HFA.o,if_pos hfu,hfe.o]);have hR:fB w S fa fl fc la ll lc { F with fault:=F.fault,fuse:= -1,off:=true}:=⟨HF.o.jH,HF.o.loose,by unfold eY;simp,hf3⟩;have B1:=((B1).other (q:=w.heap.size) oM 2 (.int .i64 (-1))).other (q:=w.heap.size) oM 4 (.bool true);have Ym:(F.fuse==0)=true:=by simp[hfu]
      clear hfu hrs Yl;have HB1:=Hd B1;clear B1;go_wp2;rw[HV.o];have hr2:=((((HB1.o.set 0 (.slice fa fl fc)).set 1 (.slice la ll lc)).set 2 (.int .i64 (-1))).set 3 (.int .i64 (F.fault))).set 4 (.bool (true));have c2:=hr2.cells;simp only[List.set_cons_zero,List.set_cons_succ]at c2;refine bodyPost_ret (v:= .tuple #[.agg #[.slice fa fl fc, .slice la ll lc, .int .i64 (-1), .int .i64 (F.fault), .bool (true)], .int .i64 (10)]) (by simp[results,Tryz.results179,go_sem,c2]) rfl ⟨fa,fl,fc,la,ll,lc,by first|rfl|(simp only[wF];done)|(simp only[hoff];done),?_,?_⟩
      .exact((hR).mono λb h=>Or.inl h).ext (by have hz:=bel;exact bV)
      .exact(by have hz:=bel;exact bV)
     .have Ym:(F.fuse==0)=false:=by simp[hfu]
      by_cases hup:0<F.fuse
      .have HV:=Hd (show F.asked more=({ F with fault:=F.fault,fuse:=F.fuse-1,off:=false},0) by unfold aB.asked;rw[if_neg HNO.o,if_neg HRM.o,if_neg HFA.o,if_neg hfu,hfe.o,if_pos hup,wF]);have hf4:eY (F.fuse-1):=by unfold eY;omega
       have hR:fB w S fa fl fc la ll lc { F with fault:=F.fault,fuse:=F.fuse-1,off:=false}:=⟨HF.o.jH,HF.o.loose,hf4,hf3⟩;have B1:=(B1).other (q:=w.heap.size) oM 2 (.int .i64 (F.fuse-1));clear hfu hrs;have HB1:=Hd B1;clear B1;go_wp2;rw[HV.o];have hr2:=((((HB1.o.set 0 (.slice fa fl fc)).set 1 (.slice la ll lc)).set 2 (.int .i64 (F.fuse-1))).set 3 (.int .i64 (F.fault))).set 4 (.bool (false));have c2:=hr2.cells;simp only[List.set_cons_zero,List.set_cons_succ]at c2;refine bodyPost_ret (v:= .tuple #[.agg #[.slice fa fl fc, .slice la ll lc, .int .i64 (F.fuse-1), .int .i64 (F.fault), .bool (false)], .int .i64 (0)]) (by simp[results,Tryz.results179,go_sem,c2]) rfl ⟨fa,fl,fc,la,ll,lc,by first|rfl|(simp only[wF];done)|(simp only[hoff];done),?_,?_⟩
       .exact((hR).mono λb h=>Or.inl h).ext (by have hz:=bel;exact bV)
       .exact(by have hz:=bel;exact bV)
      .have HV:=Hd (show F.asked more=({ F with fault:=F.fault,off:=false},0) by unfold aB.asked;rw[if_neg HNO.o,if_neg HRM.o,if_neg HFA.o,if_neg hfu,hfe.o,if_neg hup,wF]);have hR:fB w S fa fl fc la ll lc { F with fault:=F.fault,off:=false}:=⟨HF.o.jH,HF.o.loose,HF.o.fuse,hf3⟩;have B1:=B1;have hun:F.fuse<=0:=oM;clear hfu hrs;have HB1:=Hd B1;clear B1;go_wp2;rw[HV.o];have hr2:=((((HB1.o.set 0 (.slice fa fl fc)).set 1 (.slice la ll lc)).set 2 (.int .i64 (F.fuse))).set 3 (.int .i64 (F.fault))).set 4 (.bool (false));have c2:=hr2.cells;simp only[List.set_cons_zero,List.set_cons_succ]at c2;refine bodyPost_ret (v:= .tuple #[.agg #[.slice fa fl fc, .slice la ll lc, .int .i64 (F.fuse), .int .i64 (F.fault), .bool (false)], .int .i64 (0)]) (by simp[results,Tryz.results179,go_sem,c2]) rfl ⟨fa,fl,fc,la,ll,lc,by first|rfl|(simp only[wF];done)|(simp only[hoff];done),?_,?_⟩
       .exact((hR).mono λb h=>Or.inl h).ext (by have hz:=bel;exact bV)
       .exact(by have hz:=bel;exact bV)
end Go.Proofs.YtenmnhnlcnmloaaGreat
namespace Go.Proofs.YtenmnhnlcnmloaaGreat
open Go.RowKit Go.Dav Go.Shelf
attribute [local go_sem] Gives ite_val ay Oper.semAt_some
theorem PL(F:aB)(fa la:Option Addr)(fl fc ll lc:Nat)(w:World):
  Calls Tryz.prog 174 #[.agg #[.slice fa fl fc, .slice la ll lc, .int .i64 F.fuse, .int .i64 F.fault, .bool F.off]] w λe w'=>e= .returned (.func (.func 182) #[] #[.pointer (some ⟨w.heap.size,0,none⟩)])/\w'=w.alloc (.cells [.slice fa fl fc, .slice la ll lc, .int .i64 F.fuse, .int .i64 F.fault, .bool F.off].toArray 32):=by
 go_enter Tryz.func174,Tryz.ntmps174;go_wp2;go_ret;exact⟨rfl,rfl⟩
theorem PN{F:aB}{k:Nat}{p:List UInt8}(h:F.loose[k]? =some p):Hu F (k+1+1)=Hu F (k+1)+p.length:=by
 show F.jH.length+sumTo F.loose (k+1)=F.jH.length+sumTo F.loose k+p.length;rw[sQ h];omega
theorem RZ(F:aB)(k:Nat):Hu F k<=F.many:=by
 cases k with
 |zero=>exact Nat.zero_le _
 |succ k=>
  show F.jH.length+sumTo F.loose k<=F.many;unfold aB.many;have:=mX F.loose k;omega
theorem Si{F:aB}{k:Nat}{p:List UInt8}(h:F.loose[k]? =some p):p.length<=F.many:=by
 have h1:=sQ h;have h2:=mX F.loose (k+1);unfold aB.many;omega
set_option maxRecDepth 100000 in
theorem Nc(F:aB)(fa la:Option Addr)(fl fc ll lc:Nat)(w:World)(S:Nat->Prop)(n n₀ B:Nat)(hn:1<=n)(hF:fB w S fa fl fc la ll lc F)(hr:F.right=true)(hS:∀b,S b->b<n₀)(h0:n₀<=w.heap.size)(hB:Blk w B [.slice fa fl fc, .slice la ll lc, .int .i64 F.fuse, .int .i64 F.fault, .bool F.off] 32):
  SeqStopsK Fence.wide n Tryz.prog 182 #[.pointer (some ⟨B,0,none⟩)] (RunT.encs (W:=w) (S:=S)) (KpR n₀ B) (lQ F (F.loose.length+1)) (λpre=>∃k,lQ F k pre) (F.loose.length+1) w:=λl J Jx W hW _ _ hY hJ0=>by
 have hm:=(aB.cZ.1 hr).2.2.2.2;have hB1:=hB.ext hW;have q1:=hB1.cells;have l1:=hB1.lt;have e1:=hF.loose.hlen;have e2:=hF.jH.at_.hlen;have e3:=hF.loose.hfew;have hfm:F.jH.length<=F.many:=by unfold aB.many;omega
 obtain⟨x0,hx0⟩:∃x:RunT w S,x.1=⟨0,fa,fl,fc,F.jH⟩:=⟨⟨⟨0,fa,fl,fc,F.jH⟩,hF.jH,by show fl<=_;omega,by show(0:Int)<=0;omega,by show(0:Int)<=_;omega,λ_=>rfl⟩,rfl⟩;have hJ1:lQ F 1 ([]++[x0]):=(lQ.nil_ F).snoc (by rw[hx0];rfl) (by rw[hx0];rfl);obtain⟨f1,t1,a1,b1,hy1,hR1⟩:=hY [] x0 W hJ0 (by simp);dsimp only[RunT.encs]at hy1;rw[hx0]at hy1;dsimp only at hy1;have HFU:=Hd (aB.cZ.1 hr).1;have HJ1:=Hd hJ1;have HB:=Hd hB1;have HF:=Hd hF;have HM:=Hd hm;have HY:=Hd hY;have HW:=Hd hW;have HR1:=Hd hR1;have HS:=Hd hS;have H1:=Hd e1;have H2:=Hd e2;have f2:(fl:Int)<=524288:=oM;have HX0:=Hd hx0;clear hB hB1 hF hW hY hJ1 hR1 hr hS e1 e2 hfm hx0 hm;refine callsIn_of_wp Tryz.func182 rfl trivial ?_ rfl;simp only[Tryz.ntmps182,List.size_toArray,List.length_cons,List.length_nil,Nat.reduceAdd,Nat.reduceSub,Array.replicate_succ,Array.replicate_zero,List.push_toArray,List.append_toArray,List.nil_append,List.cons_append];gi_wp2_with fail;refine HR1.o.mono ?_;rintro e W1 (⟨rfl,hJ1,hk1⟩|⟨rfl,hx1⟩)
 .have HJJ:=Hd hJ1;have HK1:=Hd hk1;have B1:=hk1.blk HB.o;have q2:=B1.cells;have m2:=B1.marks;have HBB:=Hd B1;clear hJ1 hk1 B1 q1 HR1;gi_wp2_with fail;gi_loopw [17,3] (λix at_ wr=>∃(k m:Nat) (pre:List (RunT w S)),k<=F.loose.length/\m=Hu F (k+1)/\ix= .int .i64 k/\at_= .int .i64 m/\lQ F (k+1) pre/\J pre wr/\KpR n₀ B W wr) (λix _ _=>ll-(intOf ix).toNat)
  case atStart=>exact⟨0,fl,_,Nat.zero_le _,by show fl=F.jH.length+sumTo F.loose 0;rw[oU,H2.o];rfl,rfl,rfl,HJ1.o,HJJ.o,HK1.o⟩
  case round=>
   obtain⟨k,m,pre,hk,hmk,rfl,rfl,hrt,hJ,hkp⟩:=hrel;have hm2:(m:Int)<=524288:=by have:=RZ F (k+1);have:=HM.o;omega
   have hk2:k<=ll:=by have:=H1.o;omega
   have HMK:=Hd hmk;have HRT:=Hd hrt;have HJ:=Hd hJ;have HKP:=Hd hkp;clear hmk hrt hJ hkp q2 m2;by_cases hlt:k<F.loose.length
   .obtain⟨p,hp⟩:∃p,F.loose[k]? =some p:=⟨_,List.getElem?_eq_getElem hlt⟩;obtain⟨b,o,pa,pl,pc,rfl,hb,hSb,hc,hP⟩:=HF.o.loose.hat k p hp;have hcell:wr.cell? ⟨b,o+k,none⟩=some (.slice pa pl pc):=(HKP.o.1.cell (p:=⟨b,o+k,none⟩) (HS.o b hSb)).trans ((HW.o.cell (p:=⟨b,o+k,none⟩) hb).trans hc);have hpl:=hP.at_.hlen;have hp2:pl<=524288:=by have:=Si hp;have:=HM.o;omega
    have hp3:(pl:Int)<=524288:=oM;have ZK:pl≠0:=by
     intro h;have:=List.all_eq_true.1 HFU.o p (List.mem_of_getElem? hp);have hnil:p=[]:=List.length_eq_zero_iff.1 oM;rw[hnil]at this;cases this
    obtain⟨x,hx⟩:∃x:RunT w S,x.1=⟨m,pa,pl,pc,p⟩:=⟨⟨⟨m,pa,pl,pc,p⟩,hP,hp2,by show(0:Int)<=m;omega,hm2,λh=>(ZK h).elim⟩,rfl⟩;obtain⟨fn,tmps,assign,body,hy,hR⟩:=HY.o pre x wr HJ.o (by rw[HRT.o.length oM];omega);dsimp only[RunT.encs]at hy;rw[hx]at hy;dsimp only at hy;have HN:=Hd (HRT.o.snoc (x:=x) (by rw[hx];exact hp) (by rw[hx,<- HMK.o]));have HA:=Hd (PN hp);have HPL:=Hd hpl;have HR:=Hd hR;have hkl:(k:Int)<(ll:Int):=by have:=H1.o;omega
    have HLT:=Hd hlt;clear hp hc hP hpl hx hR hlt hk hb hSb ZK;gi_wp2_with fail;refine HR.o.mono ?_;rintro e W3 (⟨rfl,hJ3,hk3⟩|⟨rfl,hx3⟩)
    .have HJ3:=Hd hJ3;have HK3:=Hd (HKP.o.trans hk3);clear hJ3 hk3 HR hcell;gi_wp2_with fail;go_roundw
     case rel=>exact⟨k+1,m+pl,_,HLT.o,by rw[HA.o,<- HMK.o,HPL.o],by go_num,by go_num,HN.o,HJ3.o,HK3.o⟩
     case measure=>simp[intOf];omega
    .gi_wp2;refine bodyPost_ret (results_none rfl _ _ _) rfl ?_;exact⟨⟨_,rfl⟩, .inr ⟨_,⟨_,HN.o⟩,hx3⟩⟩
   .have hkl:k=F.loose.length:=oM;have hk3:¬((k:Int)<(ll:Int)):=by have:=H1.o;omega
    have HL:=Hd hkl;clear hkl hlt hk;gi_wp2;go_end0
    exact⟨⟨_,rfl⟩, .inl ⟨_,by rw[<- HL.o];exact HRT.o,HJ.o⟩⟩
 .gi_wp2;refine bodyPost_ret (results_none rfl _ _ _) rfl ?_;exact⟨⟨_,rfl⟩, .inr ⟨_,⟨1,HJ1.o⟩,hx1⟩⟩
end Go.Proofs.YtenmnhnlcnmloaaGreat
