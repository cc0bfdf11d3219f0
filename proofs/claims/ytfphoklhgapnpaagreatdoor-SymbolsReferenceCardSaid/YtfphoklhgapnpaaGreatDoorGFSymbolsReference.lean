/- Part 11 of a proof of the law SymbolsReference: Go data as trees, the walks of the functions that the law reaches, the plain laws. -/
import Derived.Test.YtfphoklhgapnpaaGreatDoorGESymbolsReference
import Derived.Shelf.SlLaysF0
import Derived.Ground.SlsfProg
import Derived.Ground.Names2Prog
import Derived.Test.YtfphoklhgapnpaaGreatDoorProg
import Derived.Shelf.Small.Wraps
import Derived.WalkKit
import Derived.BigCall
import Derived.Lib.Hide
import Derived.StillTailTactics
import Derived.Lib.FrozenHead2
import Derived.Sort.Grow
import Derived.Shelf.Strings.Builder1
import Derived.Shelf.Strings.BuilderF
import Derived.Shelf.Strings.BuilderK
import Derived.Shelf.Strconv.AtoiAll
import Derived.Lib.AtoiErrMem
import Derived.Shelf.SlSortCmp.InsertionK
import Derived.Shelf.SlSortCmp.WholeK
import Derived.Shelf.SlSortCmp.NoneTotal
open Option renaming bind_some->aQw,getD_some->aQs,isSome_none->aRj,map_some->aQz
open List renaming all_cons->aQc,all_eq_true->aRo,append_assoc->aR4,append_nil->aR0,cons_append->aQf,drop_eq_getElem_cons->aR6,drop_zero->aSb,getD_eq_getElem?_getD->aRb,getElem?_append_left->aQt,getElem?_append_right->aQu,getElem?_cons_zero->aRl,getElem?_eq_getElem->aRa,getElem?_eq_none->aQv,getElem?_set_ne->aQy,getElem?_set_self->aQx,getElem?_toArray->aQ7,getElem_map->aQg,getElem_mem->aRh,length_append->aRf,length_cons->aQ0,length_drop->aQ5,length_map->aQp,length_nil->aR1,length_take->aQ6,map_append->aRt,map_cons->aRd,mem_append->aRp,mem_append_left->aSa,mem_append_right->aR9,mem_cons->aRs,mem_cons_of_mem->aSd,mem_map->aRn,mem_singleton->aRz,nil_append->aRy,not_mem_nil->aR2,replicate->aQ3,set_append_right->aRu,take_length->aR7,take_of_length_le->aR8
open Nat renaming le_refl->aQj,le_trans->aQk,lt_of_lt_of_le->aQl,lt_or_ge->aQi,lt_succ_self->aR3,succ_ne_self->aR5,zero_add->aRe,zero_le->aRk
open Go.Sem renaming run_bind->aQ1,run_pure->aQ4
open Bool renaming and_eq_true->aQd,false_eq_true->aQ9,not_eq_true'->aQe,not_false->aRm,not_true->aRq,or_eq_true->aRv
open Array renaming getD_eq_getD_getElem?->aQm,getElem?_eq_getElem->aQr,getElem?_toList->aRc,length_toList->aQq
open Go.Result renaming andThen_ok->aQ2
set_option linter.unusedSectionVars false
set_option linter.unnecessarySimpa false
set_option linter.unusedVariables false
set_option linter.unusedSimpArgs false
namespace Go.Proofs
open Go.Shelf
def Tryz.laysSort_ren:Go.Shelf.Ren:=⟨fun|6=>57|15=>108|14=>107|28=>180|29=>181|20=>172|21=>173|22=>174|23=>175|24=>176|25=>177|26=>178|27=>179|46=>243|47=>244|48=>245|49=>246|50=>247|57=>281|n=>n,fun|22=>38|24=>84|25=>120|3=>3|39=>174|0=>0|53=>217|55=>219|4=>4|46=>210|45=>209|50=>214|5=>5|9=>9|66=>248|70=>156|76=>271|77=>138|n=>n,fun|n=>n⟩
theorem Tryz.laysSort:Go.Proofs.SlLaysF0.n6 Tryz.prog Tryz.laysSort_ren:= {
 mixed:=by kernel_rfl
 f6:=⟨Tryz.f57.name,z7,Tryz.func57.trans (congrArg some (by kernel_rfl))⟩
 f14:=⟨Tryz.f107.name,z7,Tryz.func107.trans (congrArg some (by kernel_rfl))⟩
 f15:=Tryz.func108.trans (congrArg some (by kernel_rfl))
 f20:=⟨Tryz.f172.name,z7,Tryz.func172.trans (congrArg some (by kernel_rfl))⟩
 f21:=⟨Tryz.f173.name,z7,Tryz.func173.trans (congrArg some (by kernel_rfl))⟩
 f22:=⟨Tryz.f174.name,z7,Tryz.func174.trans (congrArg some (by kernel_rfl))⟩
 f23:=⟨Tryz.f175.name,z7,Tryz.func175.trans (congrArg some (by kernel_rfl))⟩
 f24:=⟨Tryz.f176.name,z7,Tryz.func176.trans (congrArg some (by kernel_rfl))⟩
 f25:=⟨Tryz.f177.name,z7,Tryz.func177.trans (congrArg some (by kernel_rfl))⟩
 f26:=⟨Tryz.f178.name,z7,Tryz.func178.trans (congrArg some (by kernel_rfl))⟩
 f27:=⟨Tryz.f179.name,z7,Tryz.func179.trans (congrArg some (by kernel_rfl))⟩
 f28:=Tryz.func180.trans (congrArg some (by kernel_rfl))
 f29:=Tryz.func181.trans (congrArg some (by kernel_rfl))
 f46:=⟨Tryz.f243.name,z7,Tryz.func243.trans (congrArg some (by kernel_rfl))⟩
 f47:=Tryz.func244.trans (congrArg some (by kernel_rfl))
 f48:=Tryz.func245.trans (congrArg some (by kernel_rfl))
 f49:=⟨Tryz.f246.name,z7,Tryz.func246.trans (congrArg some (by kernel_rfl))⟩
 f50:=⟨Tryz.f247.name,z7,Tryz.func247.trans (congrArg some (by kernel_rfl))⟩
 f57:=⟨Tryz.f281.name,z7,Tryz.func281.trans (congrArg some (by kernel_rfl))⟩
 t0:=Tryz.underlying0
 a0:=Tryz.isAgg0
 z0:=Tryz.sizeOf0
 v0:=Tryz.zeroValue0
 t3:=Tryz.underlying3
 a3:=Tryz.isAgg3
 z3:=Tryz.sizeOf3
 v3:=Tryz.zeroValue3
 t4:=Tryz.underlying4
 a4:=Tryz.isAgg4
 z4:=Tryz.sizeOf4
 v4:=Tryz.zeroValue4
 t5:=Tryz.underlying5
 a5:=Tryz.isAgg5
 z5:=Tryz.sizeOf5
 v5:=Tryz.zeroValue5
 t9:=Tryz.underlying9
 a9:=Tryz.isAgg9
 z9:=Tryz.sizeOf9
 v9:=Tryz.zeroValue9
 t22:=Tryz.underlying38
 a22:=Tryz.isAgg38
 z22:=Tryz.sizeOf38
 v22:=Tryz.zeroValue38
 t25:=Tryz.underlying120
 a25:=Tryz.isAgg120
 z25:=Tryz.sizeOf120
 v25:=Tryz.zeroValue120
 t39:=Tryz.underlying174
 a39:=Tryz.isAgg174
 z39:=Tryz.sizeOf174
 v39:=Tryz.zeroValue174
 t45:=Tryz.underlying209
 a45:=Tryz.isAgg209
 z45:=Tryz.sizeOf209
 v45:=Tryz.zeroValue209
 t46:=Tryz.underlying210
 a46:=Tryz.isAgg210
 z46:=Tryz.sizeOf210
 v46:=Tryz.zeroValue210
 t50:=Tryz.underlying214
 a50:=Tryz.isAgg214
 z50:=Tryz.sizeOf214
 v50:=Tryz.zeroValue214
 t53:=Tryz.underlying217
 a53:=Tryz.isAgg217
 z53:=Tryz.sizeOf217
 v53:=Tryz.zeroValue217
 t55:=Tryz.underlying219
 a55:=Tryz.isAgg219
 z55:=Tryz.sizeOf219
 v55:=Tryz.zeroValue219
 t66:=Tryz.underlying248
 a66:=Tryz.isAgg248
 z66:=Tryz.sizeOf248
 v66:=Tryz.zeroValue248
 t70:=Tryz.underlying156
 a70:=Tryz.isAgg156
 z70:=Tryz.sizeOf156
 v70:=Tryz.zeroValue156
 t76:=Tryz.underlying271
 a76:=Tryz.isAgg271
 z76:=Tryz.sizeOf271
 v76:=Tryz.zeroValue271
 t77:=Tryz.underlying138
 a77:=Tryz.isAgg138
 z77:=Tryz.sizeOf138
 v77:=Tryz.zeroValue138}
end Go.Proofs
namespace Go.Proofs
open Go.Shelf Go.RowKit Go.Lib Go.Sort
def Tryz.lays122_ren:Go.Shelf.Ren:=⟨fun|122=>78|215=>140|n=>n,fun|3=>3|4=>4|n=>n,fun|n=>n⟩
theorem Tryz.lays122:Go.Proofs.Lays.n122 Tryz.prog Tryz.lays122_ren:= {
 mixed:=by kernel_rfl
 f122:=Tryz.func78.trans (congrArg some (by kernel_rfl))
 f215:=Tryz.func140.trans (congrArg some (by kernel_rfl))
 t3:=Tryz.underlying3
 a3:=Tryz.isAgg3
 z3:=Tryz.sizeOf3
 v3:=Tryz.zeroValue3
 t4:=Tryz.underlying4
 a4:=Tryz.isAgg4
 z4:=Tryz.sizeOf4
 v4:=Tryz.zeroValue4}
theorem Tryz.cmpI(x y:Int)(w:World):Calls Tryz.prog 78 #[.int .i64 x, .int .i64 y] w λe w'=>e= .returned (.int .i64 (Lib.compareInt x y))/\w'=w:=Any.cmp_Compare_int Tryz.lays122 x y w
theorem Tryz.nanS(w:World):Calls Tryz.prog 141 #[.string ⟨#[]⟩] w λe w'=>e= .returned (.bool false)/\w'=w:=by
 have t9:=Tryz.underlying9;have a9:=Tryz.isAgg9;have z9:=Tryz.sizeOf9;have v9:=Tryz.zeroValue9;have t4:=Tryz.underlying4;have a4:=Tryz.isAgg4;have z4:=Tryz.sizeOf4;have v4:=Tryz.zeroValue4
 go_enter Tryz.func141,Tryz.ntmps141
 go_wp2
 go_ret
 exact⟨z6,rfl⟩
set_option maxHeartbeats 1000000 in
set_option maxRecDepth 100000 in
theorem Tryz.cmpS(w:World):Calls Tryz.prog 79 #[.string ⟨#[]⟩, .string ⟨#[]⟩] w λe w'=>e= .returned (.int .i64 0)/\w'=w:=by
 have t9:=Tryz.underlying9;have a9:=Tryz.isAgg9;have z9:=Tryz.sizeOf9;have v9:=Tryz.zeroValue9;have t4:=Tryz.underlying4;have a4:=Tryz.isAgg4;have z4:=Tryz.sizeOf4;have v4:=Tryz.zeroValue4;have t3:=Tryz.underlying3;have a3:=Tryz.isAgg3;have z3:=Tryz.sizeOf3;have v3:=Tryz.zeroValue3;have e215:∀args w,(callFunc 141 args).run Tryz.prog w= .ok (.enter 141 args) w:=enters_of Tryz.func141 (by kernel_rfl) rfl;have hgt:∀w,(Sem.run Tryz.prog (binOp .gtr 9 (.string ⟨#[]⟩) (.string ⟨#[]⟩)) w)= .ok (.bool false) w:=λw=>by
  simp[binOp,Op.stringOp,Op.bytesLess]
 have hlt:Op.bytesLess [] []=false:=rfl
 go_enter Tryz.func79,Tryz.ntmps79
 go_wp2_with (go_at_fn 141;refine(Tryz.nanS _).mono ?_;rintro e w' ⟨rfl,hw⟩;rw[hw])
 all_goals (go_ret;exact⟨rfl,rfl⟩)
def orL:List Int->Int
 | []=>0
 |x::l=>if x=0 then orL l else x
set_option maxHeartbeats 1000000 in
set_option maxRecDepth 100000 in
theorem Tryz.orI(w:World)(a:Addr)(vs:List Int)(hl:vs.length<=5)(hc:∀j x,vs[j]? =some x->w.cell? (a.add j)=some (.int .i64 x)):Calls Tryz.prog 77 #[.slice (some a) vs.length vs.length] w λe w'=>e= .returned (.int .i64 (orL vs))/\w'=w:=by
 have t3:=Tryz.underlying3;have a3:=Tryz.isAgg3;have z3:=Tryz.sizeOf3;have v3:=Tryz.zeroValue3;have t4:=Tryz.underlying4;have a4:=Tryz.isAgg4;have z4:=Tryz.sizeOf4;have v4:=Tryz.zeroValue4;have t48:=Tryz.underlying48;have a48:=Tryz.isAgg48;have z48:=Tryz.sizeOf48;have v48:=Tryz.zeroValue48;have HC:=Lib.hid hc;clear hc
 go_enter Tryz.func77,Tryz.ntmps77
 go_wp2
 go_loopw [5,8] (λ_ tv wr=>∃i:Nat,tv= .int .i64 (i:Int)/\i<=vs.length/\orL vs=orL (vs.drop i)/\wr=w) (λ_ tv _=>vs.length- (match tv with| .int _ n=>n.toNat|_=>0))
 case atStart=>exact⟨0,rfl,aRk _,rfl,rfl⟩
 case round=>
  obtain⟨i,rfl,hi,ho,rfl⟩:=hrel
  by_cases hlt:i<vs.length
  ·have hli:(i:Int)<(vs.length:Int):=z8
   have c0:=HC.out i _ (aRa hlt);have hd:orL vs=if vs[i]=0 then orL (vs.drop (i+1))else vs[i]:=by rw[ho,aR6 hlt,orL]
   go_wp2
   ·rename_i h
    go_ret
    have hz:¬vs[i]=0:=by simpa using h
    exact⟨by rw[hd,if_neg hz];rfl,rfl⟩
   case roundEnd=>
    rename_i h;have hz:vs[i]=0:=by simpa using h
    refine⟨⟨i+1,by rw[Int.natCast_add];rfl,z8,by rw[hd,if_pos hz],trivial⟩, ?_⟩;simp only[aQm];show vs.length- ((i:Int)+1).toNat<vs.length- (i:Int).toNat
    rw[show((i:Int)+1).toNat=i+1 from rfl,show(i:Int).toNat=i from rfl];omega
  ·obtain rfl:i=vs.length:=z8
   rw[List.drop_length]at ho
   go_wp2
   go_ret
   exact⟨by rw[ho];rfl,rfl⟩
abbrev XD:=Int×Int×Int
def sJ(x:XD):List Value:= [.int .i64 x.1, .int .i64 0, .int .i64 x.2.1, .int .i64 x.2.2, .string ⟨#[]⟩]
def PW(x y:XD):Int:=orL [Lib.compareInt 0 0,Lib.compareInt x.2.1 y.2.1,Lib.compareInt x.2.2 y.2.2,Lib.compareInt x.1 y.1,0]
set_option maxHeartbeats 4000000 in
set_option maxRecDepth 100000 in
theorem Tryz.cmp58(x y:XD)(W:World):Calls Tryz.prog 58 #[.agg (sJ x).toArray, .agg (sJ y).toArray] W λe w'=>e= .returned (.int .i64 (PW x y))/\∃q os',w'=grow (W.drewN q) os':=by
 obtain⟨xc,xs,xe⟩:=x;obtain⟨yc,ys,ye⟩:=y;unfold PW sJ;simp only;have h1:=λW'=>Tryz.cmpI 0 0 W';have h2:=λW'=>Tryz.cmpI xs ys W';have h3:=λW'=>Tryz.cmpI xe ye W';have h4:=λW'=>Tryz.cmpI xc yc W';generalize Lib.compareInt 0 0=r1 at h1⊢;generalize Lib.compareInt xs ys=r2 at h2⊢;generalize Lib.compareInt xe ye=r3 at h3⊢;generalize Lib.compareInt xc yc=r4 at h4⊢
 go_enter Tryz.func58,Tryz.ntmps58
 go_wp2_with fail
 generalize hw1:(World.alloc (World.alloc W (Obj.cells #[Value.int IntKind.i64 xc,Value.int IntKind.i64 0,Value.int IntKind.i64 xs,Value.int IntKind.i64 xe,Value.string {data:= #[]}] 84)) (Obj.cells #[Value.int IntKind.i64 yc,Value.int IntKind.i64 0,Value.int IntKind.i64 ys,Value.int IntKind.i64 ye,Value.string {data:= #[]}] 84))=w1;have hX:w1.heap[W.heap.size]? =some (.cells #[.int .i64 xc, .int .i64 0, .int .i64 xs, .int .i64 xe, .string ⟨#[]⟩] 84 (0,0)):=by
  rw[<-hw1];show((W.alloc _).alloc _).heap[W.heap.size]? =_;rw[Lib.alloc_old _ _ _ z6];exact heap_alloc_new W _
 have hY:w1.heap[W.heap.size+1]? =some (.cells #[.int .i64 yc, .int .i64 0, .int .i64 ys, .int .i64 ye, .string ⟨#[]⟩] 84 (0,0)):=by
  rw[<-hw1];have:=heap_alloc_new (W.alloc (Obj.cells #[Value.int IntKind.i64 xc,Value.int IntKind.i64 0,Value.int IntKind.i64 xs,Value.int IntKind.i64 xe,Value.string {data:= #[]}] 84)) (Obj.cells #[Value.int IntKind.i64 yc,Value.int IntKind.i64 0,Value.int IntKind.i64 ys,Value.int IntKind.i64 ye,Value.string {data:= #[]}] 84);simpa using this
 have x0:w1.cell? ⟨W.heap.size,0,none⟩=some (.int .i64 xc):=by rw[Lib.cell_of_heap hX];rfl
 have x1:w1.cell? ⟨W.heap.size,1,none⟩=some (.int .i64 0):=by rw[Lib.cell_of_heap hX];rfl
 have x2:w1.cell? ⟨W.heap.size,2,none⟩=some (.int .i64 xs):=by rw[Lib.cell_of_heap hX];rfl
 have x3:w1.cell? ⟨W.heap.size,3,none⟩=some (.int .i64 xe):=by rw[Lib.cell_of_heap hX];rfl
 have x4:w1.cell? ⟨W.heap.size,4,none⟩=some (.string ⟨#[]⟩):=by rw[Lib.cell_of_heap hX];rfl
 have y0:w1.cell? ⟨W.heap.size+1,0,none⟩=some (.int .i64 yc):=by rw[Lib.cell_of_heap hY];rfl
 have y1:w1.cell? ⟨W.heap.size+1,1,none⟩=some (.int .i64 0):=by rw[Lib.cell_of_heap hY];rfl
 have y2:w1.cell? ⟨W.heap.size+1,2,none⟩=some (.int .i64 ys):=by rw[Lib.cell_of_heap hY];rfl
 have y3:w1.cell? ⟨W.heap.size+1,3,none⟩=some (.int .i64 ye):=by rw[Lib.cell_of_heap hY];rfl
 have y4:w1.cell? ⟨W.heap.size+1,4,none⟩=some (.string ⟨#[]⟩):=by rw[Lib.cell_of_heap hY];rfl
 refine wp_region_still_tail 25 (by kernel_rfl) (by kernel_rfl) ?_;simp only[List.take_succ_cons,List.take_zero,List.drop_succ_cons,aSb]
 iterate 4 still_step
 still_call (h1 _)
 iterate 4 still_step
 still_call (h2 _)
 iterate 4 still_step
 still_call (h3 _)
 iterate 4 still_step
 still_call (h4 _)
 iterate 4 still_step
 still_call (Tryz.cmpS _)
 refine wpStill_nil ?_;have hor:∀(w3:World) (b:Nat),w3.heap[b]? =some (.cells #[.int .i64 r1, .int .i64 r2, .int .i64 r3, .int .i64 r4, .int .i64 0] 3 (0,0))->Calls Tryz.prog 77 #[.slice (some ⟨b,0,none⟩) 5 5] w3 λe w'=>e= .returned (.int .i64 (orL [r1,r2,r3,r4,0]))/\w'=w3:=λw3 b hb=>
  Tryz.orI w3 ⟨b,0,none⟩ [r1,r2,r3,r4,0] z6 λj x hj=>by
   have hc:∀k,w3.cell? ⟨b,k,none⟩=(#[Value.int .i64 r1, .int .i64 r2, .int .i64 r3, .int .i64 r4, .int .i64 0]:Array Value)[k]? :=λk=>by rw[Lib.cell_of_heap hb]
   match j,hj with
   |0,hj=>injection hj with hj;subst hj;exact hc 0
   |1,hj=>injection hj with hj;subst hj;exact hc 1
   |2,hj=>injection hj with hj;subst hj;exact hc 2
   |3,hj=>injection hj with hj;subst hj;exact hc 3
   |4,hj=>injection hj with hj;subst hj;exact hc 4
 go_wp2_with (go_at_call 77;refine(hor _ _ (by first|exact heap_alloc_new _ _|simpa using heap_alloc_new w1.drew _)).mono ?_;rintro e w' ⟨rfl,rfl⟩)
 go_ret
 refine⟨rfl,1,((#[Obj.cells #[Value.int IntKind.i64 xc,Value.int IntKind.i64 0,Value.int IntKind.i64 xs,Value.int IntKind.i64 xe,Value.string {data:= #[]}] 84]++ #[Obj.cells #[Value.int IntKind.i64 yc,Value.int IntKind.i64 0,Value.int IntKind.i64 ys,Value.int IntKind.i64 ye,Value.string {data:= #[]}] 84])++ #[Obj.cells #[.int .i64 r1, .int .i64 r2, .int .i64 r3, .int .i64 r4, .int .i64 0] 3]), ?_⟩;subst hw1;rw[<-grow_grow,<-grow_grow,<-alloc_eq_grow,<-alloc_eq_grow,<-alloc_eq_grow];rfl
end Go.Proofs
namespace Go.Abs
open Go.RowKit
theorem eU.sel{V:cQ}{N:Nat}{a:Act}{T T':aD}(ht:eU V N a T)(h:∀i,T' i= .junk\/T' i=T i):eU V N a T':=⟨ht.size,ht.defers,λi hi=>by
 rcases h i with e|e
 ·rw[e];exact .junk _
 ·rw[e];exact ht.rel i hi⟩
theorem JO{T:aD}:∀(l:List (Nat×PV)),(∀p∈l,T p.1=p.2)->∀i,tB l i= .junk\/tB l i=T i
 | [],_,i=>.inl rfl
 | (d,v)::l,h,i=>by
  simp only[tB,nO]
  split
  ·rename_i e;subst e;exact .inr (h (i,v) z6).symm
  ·exact JO l (λp hp=>h p (by simp[hp])) i
section
variable{P:Program}{N nb:Nat}{ops:Array Oper}{C C':aE->Prop}{K:Exit->Act->World->Prop}{T:aD}{H:aC}
def X(P:Program)(N:Nat)(C:aE->Prop)(K:Exit->Act->World->Prop)(c:Code)(T:aD)(H:aC):Prop:=∀(E:aE) (a:Act),C E->E.Ok->E.H=H->eU E.view N a T->c.wp P K a E.w
def XL(P:Program)(N:Nat)(C:aE->Prop)(K:Exit->Act->World->Prop)(ops:Array Oper)(l:List Oper)(T:aD)(H:aC):Prop:=∀(E:aE) (a:Act),C E->E.Ok->E.H=H->eU E.view N a T->wpList P ops K l a E.w
def XP(N:Nat)(C:aE->Prop)(K:Act->World->Prop)(T:aD)(H:aC):Prop:=∀(E:aE) (a:Act),C E->E.Ok->E.H=H->eU E.view N a T->K a E.w
def UB(nb:Nat)(C:aE->Prop):Prop:=∀E E':aE,C E->E.Ok->E.leN nb E'->E'.Ok->C E'
theorem xP{c:Code}(hC:UB nb C)(h:dY P N nb c (λe T' H'=>XP N C (K e) T' H') T H):X P N C K c T H:=
 λE a hc ho hH ht=>wp_mono (h E a ho hH ht) λe a' w' ⟨E',T',h1,h2,h3,h4,h5⟩=>h1▸h5 E' a' (hC E E' hc ho h2 h3) h3 rfl h4
theorem aHp{c:Code}{Q:dG}(hC:UB nb C)(h:dY P N nb c Q T H)(k:∀e T' H',Q e T' H'->XP N C (K e) T' H'):X P N C K c T H:=
 λE a hc ho hH ht=>wp_mono (h E a ho hH ht) λe a' w' ⟨E',T',h1,h2,h3,h4,h5⟩=>h1▸k e T' _ h5 E' a' (hC E E' hc ho h2 h3) h3 rfl h4
theorem lI{y:Code}(h:X P N C K y T H):XP N C ((Exit.then (λa w=>y.wp P K a w) K) .normal) T H:=h
theorem aFx{c:Code}(l:List (Nat×PV))(hl:∀p∈l,T p.1=p.2)(h:X P N C K c (tB l) H):X P N C K c T H:=λE a hc ho hH ht=>h E a hc ho hH (ht.sel (JO l hl))
theorem wN{x y:Code}(h:X P N C (Exit.then (λa w=>y.wp P K a w) K) x T H):X P N C K (.seq x y) T H:=λE a hc ho hH ht=>wp_seq (h E a hc ho hH ht)
theorem QX{id:Nat}{c:Code}(h:X P N C (Exit.inBlock id K) c T H):X P N C K (.block id c) T H:=λE a hc ho hH ht=>wp_block (h E a hc ho hH ht)
theorem aBr{id:Nat}(h:XL P N C K ops ops.toList T H):X P N C K (.region id ops false) T H:=λE a hc ho hH ht=>wp_region_list (h E a hc ho hH ht)
theorem OI(h:XP N C (K .normal) T H):XL P N C K ops [] T H:=h
theorem aFj{o:Oper}{l:List Oper}{v:PV}(hC:UB nb C)(hw:aV ops.toList T N o=some true)(hok:cH N o.op=true)(hv:eW P false H.length T H o.op=some (v,none))(h:XL P N C K ops l (bT T o.dst v) H):XL P N C K ops (o::l) T H:=by
 intro E a hc ho hH ht;subst hH;obtain⟨E',val,h1,h2,h3,h4,h5⟩:=rV (E:=E) ho ht hok (mt:=false) (fresh:=E.H.length) (v:=v) (eff:=none) hv (λ_ h=>by cases h);refine jF (cJ ht hw) ?_;have hn:=h E' (a.put o.dst val) (hC E E' hc ho (h2.leN nb) h3) h3 h4 ((ht.mono h2.view).put o.dst h5);unfold Oper.wp;rcases h1 with h1| ⟨h1,rfl⟩
 ·rw[h1];exact hn
 ·rw[h1];exact hn
theorem SD{o:Oper}{l:List Oper}{f:FuncId}{args:List PV}{R:PV->aC->Prop}(hcall:eV T o.op=some (f,args))(hw:aV ops.toList T N o=some true)(hok:cH N o.op=true)(hgo:aR P f=true)
  (hc:∀(E:aE) (vargs:Array Value),C E->E.Ok->E.H=H->RL E.view vargs args->Calls P f vargs E.w λe w'=>∃(E':aE) (v:Value) (r:PV),e= .returned v/\E'.w=w'/\C' E'/\E'.Ok/\E.view.le E'.view/\aM E'.view v r/\R r E'.H)
  (h:∀r H',R r H'->XL P N C' K ops l (bT T o.dst r) H'):XL P N C K ops (o::l) T H:=by
 obtain⟨fo,xs,ts,pf,pc,hop,hf,hargs⟩:=jB hcall;intro E a hCE ho hH ht;refine jF (cJ ht hw) ?_;have hall:∀x∈o.op.operands.toList,aQ N x=true:=λx hx=>aRo.1 hok x hx;rw[hop]at hall;simp only[Op.operands,Call.operands]at hall;have hr:=aO ht fo (hall fo z6);rw[hf]at hr;obtain⟨first,caps,hval,h1,h2⟩:∃first caps,a.eval fo= .func (.func f) first caps/\RL E.view first pf/\RL E.view caps pc:=by
  generalize a.eval fo=y at hr;cases hr with
  |fn _ first caps _ _ hf hc hrf hrc=>exact⟨first,caps,rfl,⟨hf,hrf⟩,⟨hc,hrc⟩⟩
 have h3:=CE ht xs (aRo.2 λx hx=>hall x (by simp;right;simpa using hx));have hrl:=mH (mH h1 h3) h2;rw[hargs]at hrl;have hrun:(execOp a.eval o).run P E.w= .ok (.enter f (first++xs.map a.eval++caps)) E.w:=by
  unfold execOp;rw[hop];simp only[resolve,hval,Deferred.ofValue,aQ1,aQ4,aQ2,invoke,rY hgo]
 unfold Oper.wp;rw[hrun];refine(hc E _ hCE ho hH hrl).mono ?_;rintro e w' ⟨E',v,r,rfl,rfl,h5,h6,h7,h8,h9⟩;exact h r E'.H h9 E' (a.put o.dst v) h5 h6 rfl ((ht.mono h7).put o.dst h8)
theorem aLz{c:Code}(I:Nat->aE->aD->Prop)(n0:Nat)(h0:∀E,C E->E.Ok->E.H=H->I n0 E T)
  (round:∀n E a T,I n E T->E.Ok->eU E.view N a T->c.wp P (Exit.then (λa' w'=>∃n' E' T',n'<n/\E'.w=w'/\I n' E' T'/\E'.Ok/\eU E'.view N a' T') K) a E.w):X P N C K (.loop c) T H:=by
 intro E a hc ho hH ht
 let J:Nat->Act->World->Prop:=λn a w=>∃E T,E.w=w/\I n E T/\E.Ok/\eU E.view N a T
 refine wp_loop (λa w=>∃n,J n a w) (λa w=>AG (λn=>J n a w)) ⟨n0,E,T,rfl,h0 E hc ho hH,ho,ht⟩ ?_;intro a1 w1 hJ;obtain⟨E1,T1,hw1,hI,ho1,ht1⟩:=sH hJ;have hr:=round _ E1 a1 T1 hI ho1 ht1;rw[hw1]at hr;refine wp_mono hr ?_;intro e a' w' hl;cases e with
 |normal=>
  obtain⟨n',E',T',hn,rfl,hI',ho',ht'⟩:=hl;have hJ':J n' a' E'.w:=⟨E',T',rfl,hI',ho',ht'⟩;exact⟨⟨n',hJ'⟩,Nat.lt_of_le_of_lt (xJ hJ') hn⟩
 |_=>exact hl
end
theorem aBx{P:Program}{N:Nat}{H:aC}{f:FuncId}{fn:Func}{c:Code}{args:List PV}{R:PV->aC->Prop}(hf:P.funcs[f]? =some fn)(hb:fn.body=some c)(hN:fn.ntmps=N)(hl:args.length<=N)
  (h:kB H.length H->∀E0:aE,E0.Ok->E0.H=H->X P N (λE=>E0.leN H.length E) (λe a w=>∃E' T',E'.w=w/\E0.leN H.length E'/\E'.Ok/\eU E'.view N a T'/\(e= .normal\/e= .ret)/\∃r,fN P N T' E'.H fn.results.toList=some r/\R r E'.H) c (enter args) H):aL P f args H R:=by
 intro E vargs ho hH hrl;refine calls_of_wp hf hb (wp_mono (h (by have:=ho.hbel;rw[hH]at this;exact this) E ho hH E _ (.refl _ _) ho hH ⟨by simp[hrl.1,hN];omega,rfl,λi hi=> ?_⟩) ?_)
 ·rw[aQm,Array.getElem?_append];unfold enter
  by_cases hia:i<args.length
  ·rw[if_pos (by rw[hrl.1];exact hia),<-aQm,aRb,aRa hia];exact hrl.2 i hia
  ·rw[aRb,aQv z8];exact .junk _
 ·rintro e a w ⟨E',T',rfl,h2,h3,h4,he,r,hr,hR⟩;obtain⟨val,h5,h6⟩:=uC (P:=P) (fn:=fn) h3 h4 hr;rcases he with rfl|rfl
  ·exact⟨h4.defers,val,h5,E',val,r,rfl,rfl,(hH▸h2:E.leN E.H.length E').le,h3,h6,hR⟩
  ·exact⟨h4.defers,val,h5,E',val,r,rfl,rfl,(hH▸h2:E.leN E.H.length E').le,h3,h6,hR⟩
def aE.forget(E:aE)(id:Nat):aE:= {E with H:=E.H.set id (.glob 0 [])}
section
variable{E:aE}(h:E.Ok){id:Nat}{cs:List PV}(hi:E.H[id]? =some (.row cs))
include h hi
theorem aE.forget_get{x:Nat}{o:AObj}(hx:(E.forget id).H[x]? =some o):(x=id/\o= .glob 0 [])\/(x≠id/\E.H[x]? =some o):=by
 simp only[aE.forget]at hx
 by_cases e:x=id
 ·subst e;rw[aQx (lG hi)]at hx;exact .inl ⟨rfl,(Option.some.inj hx).symm⟩
 ·rw[aQy (Ne.symm e)]at hx;exact .inr ⟨e,hx⟩
theorem aE.forget_view:E.view.le (E.forget id).view:=by
 refine⟨λa v hc=>hc,λx ⟨o,h1,h2⟩=> ?_,λx _=>rfl,λx t' hb ht=>⟨t', ?_, .inl rfl⟩⟩
 ·by_cases e:x=id
  ·subst e;exact⟨.glob 0 [],aQx (lG hi),z6⟩
  ·exact⟨o,by simp only[aE.forget];rw[aQy (Ne.symm e)];exact h1,h2⟩
 ·simp only[aE.view]at ht⊢
  by_cases e:x=id
  ·subst e;rw[show(E.forget x).H[x]? =some (.glob 0 [])from aQx (lG hi)]at ht;cases ht
  ·rw[show(E.forget id).H[x]? =E.H[x]? by simp only[aE.forget];rw[aQy (Ne.symm e)]]at ht;exact ht
theorem aE.forget_owns{b:Nat}(hb:(E.forget id).owns b):E.owns b/\b≠E.ρ id:=by
 rcases hb with⟨x,c,h1,h2⟩| ⟨x,n,sz,h1,h2⟩| ⟨x,k,h1,h2⟩
 ·rcases aE.forget_get h hi h1 with⟨_,e⟩| ⟨e,h1⟩
  ·cases e
  ·exact⟨.inl ⟨x,c,h1,h2⟩,λq=>e (h.injr x id c cs h1 hi (h2.trans q))⟩
 ·rcases aE.forget_get h hi h1 with⟨_,e⟩| ⟨e,h1⟩
  ·cases e
  ·refine⟨.inr (.inl ⟨x,n,sz,h1,h2⟩),λq=> ?_⟩;obtain⟨_,_,_,_,k1⟩:=h.bufs x n sz b h1 h2;obtain⟨_,_,_,_,_,k2⟩:=h.rows id cs hi;rw[q,k2]at k1;cases k1
 ·rcases aE.forget_get h hi h1 with⟨_,e⟩| ⟨e,h1⟩
  ·cases e
  ·refine⟨.inr (.inr ⟨x,k,h1,h2⟩),λq=> ?_⟩;obtain⟨⟨o,k1,k2⟩,_⟩:=h.objs.at_ x k h1;obtain⟨arr,elem,k3,_⟩:=h.rows id cs hi;have h2':E.ρ x=b:=h2;rw[h2',q,k3]at k1;injection k1 with k1;subst k1;exact k2.cells
theorem aE.forget_le:E.le (E.forget id):=⟨rfl,rfl,rfl,aQj _,λ_ _ _=>⟨rfl,rfl⟩,aE.forget_view h hi,λb _ hb=>(aE.forget_owns h hi hb).1⟩
theorem aE.Ok.forget:(E.forget id).Ok:=by
 have hv:=aE.forget_view h hi;refine⟨λx c hx=> ?_,λx n sz b hx hb=> ?_,λx x' c c' h1 h2 e=> ?_,λx x' n sz n' sz' b h1 h2 e1 e2=> ?_,λx b vs hx i hl=> ?_,h.objs.of hv λx k hx=> ?_⟩
 ·rcases aE.forget_get h hi hx with⟨_,e⟩| ⟨e,hx⟩
  ·cases e
  ·obtain⟨arr,elem,k1,k2,k3,k4⟩:=h.rows x c hx;exact⟨arr,elem,k1,k2,λi hl=>(k3 i hl).mono hv,k4⟩
 ·rcases aE.forget_get h hi hx with⟨_,e⟩| ⟨e,hx⟩
  ·cases e
  ·exact h.bufs x n sz b hx hb
 ·rcases aE.forget_get h hi h1 with⟨_,q⟩| ⟨_,h1⟩
  ·cases q
  rcases aE.forget_get h hi h2 with⟨_,q⟩| ⟨_,h2⟩
  ·cases q
  exact h.injr x x' c c' h1 h2 e
 ·rcases aE.forget_get h hi h1 with⟨_,q⟩| ⟨_,h1⟩
  ·cases q
  rcases aE.forget_get h hi h2 with⟨_,q⟩| ⟨_,h2⟩
  ·cases q
  exact h.injb x x' n sz n' sz' b h1 h2 e1 e2
 ·rcases aE.forget_get h hi hx with⟨_,e⟩| ⟨e,hx⟩
  ·injection e with _ e;subst e;simp at hl
  ·exact hv.cell _ _ (h.globs x b vs hx i hl)
 ·rcases aE.forget_get h hi hx with⟨_,e⟩| ⟨e,hx⟩
  ·cases e
  ·exact⟨hx,rfl,rfl,rfl⟩
end
def aE.turn(E:aE)(w':World):aE:= {E with w:=w',κ:=λk=>if k<E.w.heap.size then E.κ k else .mut}
structure aNp(own:Nat->Prop)(w w':World):Prop where
 os:w'.os=w.os
 tape:w'.tape=w.tape
 output:w'.output=w.output
 size:w.heap.size<=w'.heap.size
 block:∀k,k<w.heap.size->¬own k->w'.heap[k]? =w.heap[k]?
section
variable{E:aE}(h:E.Ok){own:Nat->Prop}{w':World}(ht:aNp own E.w w')(hp:∀k,own k->¬E.owns k/\E.κ k= .mut)
include h ht hp
theorem aE.owns_lt{b:Nat}(hb:E.owns b):b<E.w.heap.size:=by
 rcases hb with⟨x,c,h1,h2⟩| ⟨x,n,sz,h1,h2⟩| ⟨x,k,h1,h2⟩
 ·rw[<-h2];exact h.rowBlock h1
 ·exact h.bufBlock h1 h2
 ·rw[<-h2];exact h.objs.lt h1
theorem aE.turn_keep{b:Nat}(hb:E.owns b):(E.turn w').w.heap[b]? =E.w.heap[b]? /\(E.turn w').κ b=E.κ b:=by
 have hl:=aE.owns_lt h ht hp hb;exact⟨ht.block b hl λq=>(hp b q).1 hb,by simp only[aE.turn,if_pos hl]⟩
theorem aE.turn_view:E.view.le (E.turn w').view:=by
 refine⟨λa v hc=> ?_,λx hb=>hb,λx _=>rfl,λx t' hb hx=>⟨t', ?_, .inl rfl⟩⟩
 ·simp only[aE.view]at hc⊢
  split at hc
  ·rename_i hs;have hl:=cell?_lt hc;have hn:¬own a.block:=λq=>by rw[(hp _ q).2]at hs;simp[sD.stable]at hs
   rw[show(E.turn w').κ a.block=E.κ a.block by simp only[aE.turn,if_pos hl],if_pos hs];show w'.cell? a=some v;rw[cell?_congr (ht.block _ hl hn)];exact hc
  ·cases hc
 ·simp only[aE.view]at hx⊢;rw[<-hx];cases e:E.H[x]? with
  |none=>rw[show(E.turn w').H[x]? =E.H[x]? from rfl,e]
  |some o=>
   rw[show(E.turn w').H[x]? =E.H[x]? from rfl,e];cases o with
   |buf n sz=>
    simp only;rw[show(E.turn w').tb x=E.tb x from rfl];cases etb:E.tb x with
    |none=>rfl
    |some b=>rw[aQw,aQw,(aE.turn_keep h ht hp (.inr (.inl ⟨x,n,sz,e,etb⟩))).2]
   |_=>rfl
theorem aE.Ok.turn:(E.turn w').Ok:=by
 have hv:=aE.turn_view h ht hp;refine⟨λx c hx=> ?_,λx n sz b hx hb=> ?_,h.injr,h.injb,h.globs_of hv.cell λ_ _ _ h=>h,h.objs.of hv λx k hx=> ?_⟩
 ·obtain⟨arr,elem,k1,k2,k3,k4⟩:=h.rows x c hx;obtain⟨q1,q2⟩:=aE.turn_keep h ht hp (.inl ⟨x,c,hx,rfl⟩);exact⟨arr,elem,q1.trans k1,k2,λi hl=>(k3 i hl).mono hv,q2.trans k4⟩
 ·obtain⟨arr,elem,pos,k1,k2⟩:=h.bufs x n sz b hx hb;obtain⟨q1,q2⟩:=aE.turn_keep h ht hp (.inr (.inl ⟨x,n,sz,hx,hb⟩));exact⟨arr,elem,pos,q1.trans k1,q2.trans k2⟩
 ·obtain⟨q1,q2⟩:=aE.turn_keep h ht hp (.inr (.inr ⟨x,k,hx,rfl⟩));exact⟨hx,rfl,q1,q2⟩
theorem aE.turn_le{n:Nat}{E0:aE}(h0:E0.leN n E)(hn:∀k,own k->E0.w.heap.size<=k):E0.leN n (E.turn w'):=by
 have hv:=aE.turn_view h ht hp;refine⟨ht.os.trans h0.os,ht.tape.trans h0.tape,ht.output.trans h0.output,aQk h0.size ht.size,λb hb hno=> ?_,λa v hc=>hv.cell _ _ (h0.cell a v hc),λid hid hb=> ?_,λb hb ho=>h0.born b hb ho⟩
 ·obtain⟨e1,e2⟩:=h0.other b hb hno;have hl:=aQl hb h0.size;exact⟨by rw[<-e1];simp only[aE.turn,if_pos hl],by rw[<-e2];exact ht.block b hl λq=>absurd (hn b q) z8⟩
 ·obtain⟨b1,b2,b3⟩:=h0.bornv id hid hb;refine⟨b1,b2,λt' ht'=> ?_⟩;obtain⟨t,q1,q2⟩:=hv.tok id t' b1 ht';obtain⟨t0,q3,q4⟩:=b3 t q1;refine⟨t0,q3, ?_⟩;rcases q2 with rfl|q2
  ·exact q4
  ·rcases q4 with rfl|q4
   ·exact .inr q2
   ·exact .inr z8
end
end Go.Abs
namespace Go.Proofs
open Go.Shelf Go.RowKit
theorem Tryz.szB:(Tryz.prog.info? 126).map (·.size)=some 2:=by kernel_rfl
theorem Tryz.infoByte:(Tryz.prog.info? 5).map (λi=>(i.zero,i.size,i.bytes))=some (some (.int .u8 0),1,1):=by kernel_rfl
theorem Tryz.app1(w:World)(b:Nat)(v:Value)(xs:List Value)(hown:w.ownsRowF b 5 1 v xs.length xs)(a:Addr)(c:Value)(hc:w.cell? a=some c)(h1:c.oneCell'=true)(hb:b<=w.heap.size)(hn:xs.length+1<=140737488355328):
  ∃v' w',(Builtin.append_ #[124,124] 124 #[v, .slice (some a) 1 1]).run Tryz.prog w= .ok v' w'/\w'.ownsRowF b 5 1 v' (xs.length+1) (xs++ [c])/\w.grownBy w' v.ownBlock/\(v'.ownBlock=v.ownBlock\/∃x,v'.ownBlock=some x/\w.heap.size<=x):=by
 obtain⟨i,hi,hz,hs,hy⟩:=info_parts Tryz.infoByte;have hnews:∀j u,[c][j]? =some u->w.cell? (a.add j)=some u:=λj u hj=>by
  match j,hj with
  |0,hj=>simp at hj;subst hj;simpa[Addr.add]using hc
 have h63:xs.length+1<=maxLen:=by unfold maxLen;omega
 have ho:∀u∈ [c],u.oneCell'=true:=λu hu=>by rw[aRz]at hu;subst hu;exact h1
 obtain⟨v',w',r1,r2,r3,_⟩:=run_append_ownF (P:=Tryz.prog) w b 124 124 5 i (.int .u8 0) 1 1 Tryz.underlying124 hi hz hs hy rfl z7 v xs.length xs hown a 1 1 [c] rfl hnews ho h63 z8 hb;refine⟨v',w',r1,r2,r3, ?_⟩;rcases hown.2 with⟨rfl,h0⟩| ⟨g,cap,cur,fz,rfl,hbg,hg,hfz,hnc,hcm,hcs,htake⟩
 ·have hx:xs= []:=List.length_eq_zero_iff.1 h0;subst hx;obtain⟨v2,w2,q1,q2,_,_⟩:=run_append_own (P:=Tryz.prog) w w.heap.size 124 124 5 i (.int .u8 0) 1 1 Tryz.underlying124 hi hz hs hy rfl z7 (.slice none 0 0) 0 [] ⟨rfl, .inl ⟨rfl,rfl⟩⟩ a 1 1 [c] rfl hnews ho h63 z8 (aQj _);rw[q1]at r1;injection r1 with e1 e2;subst e1 e2;rcases q2.2 with⟨_,h⟩| ⟨g,cap,cur,rfl,hx,_⟩
  ·simp at h
  ·exact .inr ⟨g,rfl,hx⟩
 ·by_cases hroom:xs.length+1<=cap
  ·have q1:=run_append_roomF (P:=Tryz.prog) w 124 124 5 i Tryz.underlying124 hi g xs.length cap cur fz hg (by rw[hs];exact hfz) a 1 1 [c] (by rw[hs];rfl) hnews ho hroom (by rw[hs,hcs];simp;omega);rw[q1]at r1;injection r1 with e1 e2;subst e1;exact .inl rfl
  ·have holds:∀j u,xs[j]? =some u->w.cell? ((⟨g,0,none⟩:Addr).add j)=some u:=hown.cells (g:=g) rfl;have q1:=run_append_grow (P:=Tryz.prog) w 124 124 5 i (.int .u8 0) Tryz.underlying124 hi hz ⟨g,0,none⟩ xs.length cap xs (by rw[hs];simp) holds a 1 1 [c] (by rw[hs];rfl) hnews z8 z8 (growslice_fits z8 (by rw[hy];omega));rw[q1]at r1;injection r1 with e1 e2;subst e1;exact .inr ⟨_,rfl,aQj _⟩
set_option maxHeartbeats 1000000 in
set_option maxRecDepth 100000 in
theorem Tryz.ccUsed(b:Nat)(w:World)(h0:w.cell? ⟨b,0,none⟩=some (.pointer (some ⟨b,0,none⟩))):
  Calls Tryz.prog 119 #[.pointer (some ⟨b,0,none⟩)] w λe w'=>e= .returned (.tuple #[])/\w'=w:=by
 obtain⟨j,hj,_⟩:=Option.map_eq_some_iff.1 Tryz.szB;have mixed:Tryz.prog.follows .mixedOrders=true:=by kernel_rfl
 have t72:=Tryz.underlying126;have a72:=Tryz.isAgg126;have z72:=Tryz.sizeOf126;have v72:=Tryz.zeroValue126;have u72:=run_underlying Tryz.underlying126;have t70:=Tryz.underlying123;have a70:=Tryz.isAgg123;have z70:=Tryz.sizeOf123;have v70:=Tryz.zeroValue123;have u70:=run_underlying Tryz.underlying123;have t4:=Tryz.underlying4;have a4:=Tryz.isAgg4;have z4:=Tryz.sizeOf4;have v4:=Tryz.zeroValue4;have u4:=run_underlying Tryz.underlying4;have t164:=Tryz.underlying223;have a164:=Tryz.isAgg223;have z164:=Tryz.sizeOf223;have v164:=Tryz.zeroValue223;have u164:=run_underlying Tryz.underlying223
 go_enter Tryz.func119,Tryz.ntmps119
 go_wp2
 rw[Lib.run_neq_ptr_same w _ Tryz.underlying123 hj]
 go_wp2
 go_end0
 exact⟨rfl,rfl⟩
set_option maxHeartbeats 1000000 in
set_option maxRecDepth 100000 in
theorem Tryz.ccFresh(b:Nat)(w:World)(h0:w.cell? ⟨b,0,none⟩=some (.pointer none))(hsh:w.shape? b=some (126,2))(hfz:w.frozen? ⟨b,0,none⟩=false):
  Calls Tryz.prog 119 #[.pointer (some ⟨b,0,none⟩)] w λe w'=>e= .returned (.tuple #[])/\w'=w.setCell ⟨b,0,none⟩ (.pointer (some ⟨b,0,none⟩)):=by
 obtain⟨j,hj,hjs⟩:=Option.map_eq_some_iff.1 Tryz.szB;have mixed:Tryz.prog.follows .mixedOrders=true:=by kernel_rfl
 have t72:=Tryz.underlying126;have a72:=Tryz.isAgg126;have z72:=Tryz.sizeOf126;have v72:=Tryz.zeroValue126;have u72:=run_underlying Tryz.underlying126;have t70:=Tryz.underlying123;have a70:=Tryz.isAgg123;have z70:=Tryz.sizeOf123;have v70:=Tryz.zeroValue123;have u70:=run_underlying Tryz.underlying123;have t4:=Tryz.underlying4;have a4:=Tryz.isAgg4;have z4:=Tryz.sizeOf4;have v4:=Tryz.zeroValue4;have u4:=run_underlying Tryz.underlying4;have t164:=Tryz.underlying223;have a164:=Tryz.isAgg223;have z164:=Tryz.sizeOf223;have v164:=Tryz.zeroValue223;have u164:=run_underlying Tryz.underlying223
 go_enter Tryz.func119,Tryz.ntmps119
 go_wp2
 rw[Lib.run_to_unsafe w ⟨b,0,none⟩ Tryz.underlying123 Tryz.underlying223 hj (by rw[hjs];decide) hsh (Nat.zero_lt_succ 1)];simp only[Result.andThen];rw[Oper.upon_value]
 go_wp2
 rw[run_callFunc_extern Tryz.func186 (by kernel_rfl) (by kernel_rfl) (by kernel_rfl) (e:=Extern.AbiNoEscape.same) (by kernel_rfl)];rw[Lib.run_noEscape];simp only[Result.andThen];rw[Oper.upon_value]
 go_wp2
 rw[Lib.run_from_unsafe w ⟨b,0,none⟩ Tryz.underlying223 Tryz.underlying123 hj hsh (by kernel_rfl)];simp only[Result.andThen];rw[Oper.upon_value]
 go_wp2
 go_end0
 exact⟨rfl,rfl⟩
def PBu(b:Nat)(l:List UInt8)(w:World)(g:Option Nat):Prop:=∃p v,(p= .pointer none\/p= .pointer (some ⟨b,0,none⟩))/\w.heap[b]? =some (.cells #[p,v] 126 (0,0))/\w.ownsRowF b 5 1 v l.length (Lib.byteCells l)/\v.ownBlock≠some b/\v.ownBlock=g
structure Tn(b:Nat)(g:Option Nat)(w w':World):Prop where
 os:w'.os=w.os
 tape:w'.tape=w.tape
 output:w'.output=w.output
 size:w.heap.size<=w'.heap.size
 block:∀k,k<w.heap.size->k≠b->some k≠g->w'.heap[k]? =w.heap[k]?
theorem Tn.set{b:Nat}{g:Option Nat}{w w':World}(h:Tn b g w w')(off:Nat)(v:Value):Tn b g w (w'.setCell ⟨b,off,none⟩ v):=
 ⟨h.os,h.tape,h.output,by simp[World.setCell,h.size],λk hk hb hg=>by rw[Below.heap_setCell _ _ _ _ (λe=>hb e)];exact h.block k hk hb hg⟩
theorem Tn.grown{b:Nat}{g:Option Nat}{w w1 w':World}(h:Tn b g w w1)(hg:w1.grownBy w' g):Tn b g w w':=
 ⟨hg.os.trans h.os,hg.tape.trans h.tape,hg.output.trans h.output,aQk h.size hg.size,λk hk hb he=>by rw[hg.block k (aQl hk h.size) he];exact h.block k hk hb he⟩
theorem Tn.refl(b:Nat)(g:Option Nat)(w:World):Tn b g w w:=⟨rfl,rfl,rfl,aQj _,λ_ _ _ _=>rfl⟩
theorem Tryz.cc(b:Nat)(l:List UInt8)(w:World)(g:Option Nat)(h:PBu b l w g):
  Calls Tryz.prog 119 #[.pointer (some ⟨b,0,none⟩)] w λe w'=>e= .returned (.tuple #[])/\(∃v,w'.heap[b]? =some (.cells #[.pointer (some ⟨b,0,none⟩),v] 126 (0,0))/\w'.ownsRowF b 5 1 v l.length (Lib.byteCells l)/\v.ownBlock≠some b/\v.ownBlock=g)/\Tn b g w w':=by
 obtain⟨p,v,hp,hb,hown,hne,hg⟩:=h;have c0:w.cell? ⟨b,0,none⟩=some p:=by rw[Lib.cell_of_heap hb];rfl
 rcases hp with rfl|rfl
 ·have hA:Lib.BuilderAtF 126 5 b b (.pointer none) (Lib.byteCells l) w:=⟨aQj _,v,hb,by rw[Lib.byteCells_length];exact hown,hne⟩;refine(Tryz.ccFresh b w c0 hA.shape hA.frozen0).mono ?_;rintro e w' ⟨rfl,rfl⟩;have hlt:b<w.heap.size:=(Array.getElem?_eq_some_iff.1 hb).1;have hsz:(w.setCell ⟨b,0,none⟩ (.pointer (some ⟨b,0,none⟩))).heap.size=w.heap.size:=by simp[World.setCell]
  refine⟨rfl,⟨v, ?_, ?_,hne,hg⟩,(Tn.refl b g w).set 0 _⟩
  ·have:(w.setCell ⟨b,0,none⟩ (.pointer (some ⟨b,0,none⟩))).heap[b]? =some (.cells #[.pointer (some ⟨b,0,none⟩),v] 126 (0,0)):=by
    simp only[World.setCell,Array.getElem?_modify,if_true,hb];rfl
   exact this
  ·exact hown.kept (row:=some b) ⟨rfl,rfl,rfl,by rw[hsz];exact aQj _,λk hk he=>by rw[Below.heap_setCell _ _ _ _ (λe=>he (by rw[e]))]⟩ (.inr hne)
 ·refine(Tryz.ccUsed b w c0).mono ?_;rintro e w' ⟨rfl,rfl⟩;exact⟨rfl,⟨v,hb,hown,hne,hg⟩,Tn.refl b g _⟩
theorem Tryz.wpApp1{ops:Array Oper}{rest:List Oper}{o:Oper}{a:Act}{w:World}{Q:Exit->Act->World->Prop}(hgd:o.guard=none)(s x:Operand)(ho:o.op= .call {callee:=.builtin .append,args:= #[s,x],argTypes:= #[124,124]})(hot:o.type=124)
  (b:Nat) (v:Value) (xs:List Value) (hs:a.eval s=v) (hown:w.ownsRowF b 5 1 v xs.length xs) (ad:Addr) (c:Value) (hx:a.eval x= .slice (some ad) 1 1) (hc:w.cell? ad=some c) (h1:c.oneCell'=true) (hb:b<=w.heap.size) (hn:xs.length+1<=140737488355328)
  (h:∀v' w',w'.ownsRowF b 5 1 v' (xs.length+1) (xs++ [c])->w.grownBy w' v.ownBlock->(v'.ownBlock=v.ownBlock\/∃x,v'.ownBlock=some x/\w.heap.size<=x)->wpList Tryz.prog ops Q rest (a.put o.dst v') w'):wpList Tryz.prog ops Q (o::rest) a w:=by
 refine wpList_plain hgd λK hK=> ?_;obtain⟨v',w',hr,h2,h3,h4⟩:=Tryz.app1 w b v xs hown ad c hc h1 hb hn;unfold Oper.wp execOp;simp only[ho,hot,resolve,invoke,builtin,aQ1,aQ4,aQ2,List.map_toArray,aRd,List.map_nil,hs,hx,hr];exact hK _ _ (h v' w' h2 h3 h4)
set_option maxHeartbeats 2000000 in
set_option maxRecDepth 100000 in
theorem Tryz.wb(b:Nat)(l:List UInt8)(c:UInt8)(w:World)(g:Option Nat)(h:PBu b l w g)(hlen:l.length+1<=140737488355328):
  Calls Tryz.prog 150 #[.pointer (some ⟨b,0,none⟩), .int .u8 c.toNat] w λe w'=>e= .returned .nilIface/\∃g',PBu b (l++ [c]) w' g'/\Tn b g w w'/\(g'=g\/∃x,g'=some x/\w.heap.size<=x):=by
 have mixed:Tryz.prog.follows .mixedOrders=true:=by kernel_rfl
 have t72:=Tryz.underlying126;have a72:=Tryz.isAgg126;have z72:=Tryz.sizeOf126;have v72:=Tryz.zeroValue126;have u72:=run_underlying Tryz.underlying126;have t70:=Tryz.underlying123;have a70:=Tryz.isAgg123;have z70:=Tryz.sizeOf123;have v70:=Tryz.zeroValue123;have u70:=run_underlying Tryz.underlying123;have t4:=Tryz.underlying4;have a4:=Tryz.isAgg4;have z4:=Tryz.sizeOf4;have v4:=Tryz.zeroValue4;have u4:=run_underlying Tryz.underlying4;have t164:=Tryz.underlying223;have a164:=Tryz.isAgg223;have z164:=Tryz.sizeOf223;have v164:=Tryz.zeroValue223;have u164:=run_underlying Tryz.underlying223;have t37:=Tryz.underlying124;have a37:=Tryz.isAgg124;have z37:=Tryz.sizeOf124;have v37:=Tryz.zeroValue124;have u37:=run_underlying Tryz.underlying124;have t9:=Tryz.underlying9;have a9:=Tryz.isAgg9;have z9:=Tryz.sizeOf9;have v9:=Tryz.zeroValue9;have u9:=run_underlying Tryz.underlying9;have t5:=Tryz.underlying5;have a5:=Tryz.isAgg5;have z5:=Tryz.sizeOf5;have v5:=Tryz.zeroValue5;have u5:=run_underlying Tryz.underlying5;have t128:=Tryz.underlying128;have a128:=Tryz.isAgg128;have z128:=Tryz.sizeOf128;have v128:=Tryz.zeroValue128;have u128:=run_underlying Tryz.underlying128;have e240:∀args w,(callFunc 119 args).run Tryz.prog w= .ok (.enter 119 args) w:=enters_of Tryz.func119 (by kernel_rfl) rfl
 go_enter Tryz.func150,Tryz.ntmps150
 go_wp2_with (go_at_fn 119;refine(Tryz.cc b l _ g h).mono ?_)
 rintro e w1 ⟨rfl,⟨v,hbk,hown,hne,hg⟩,hT1⟩;subst hg;have c0:w1.cell? ⟨b,0,none⟩=some (.pointer (some ⟨b,0,none⟩)):=by rw[Lib.cell_of_heap hbk];rfl
 have c1:w1.cell? ⟨b,1,none⟩=some v:=by rw[Lib.cell_of_heap hbk];rfl
 have hlt:b<w1.heap.size:=(Array.getElem?_eq_some_iff.1 hbk).1
 go_wp2_with (at_builtin;refine Tryz.wpApp1 rfl _ _ rfl rfl b _ (Lib.byteCells l) rfl (by rw[Lib.byteCells_length];exact hown.alloc _) ⟨w1.heap.size,0,none⟩ (.int .u8 c.toNat) rfl ?c1 rfl ?c2 ?c3 ?_)
 case c1=>
  have:(w1.alloc (.cells #[.int .u8 c.toNat] 5)).heap[w1.heap.size]? =some (.cells #[.int .u8 c.toNat] 5 (0,0)):=heap_alloc_new w1 _;rw[Lib.cell_of_heap this];rfl
 case c2=>simp;omega
 case c3=>rw[Lib.byteCells_length];exact hlen
 intro v' w2 hown' hgrow hfr;have hb2:w2.heap[b]? =some (.cells #[.pointer (some ⟨b,0,none⟩),v] 126 (0,0)):=by
  rw[hgrow.block b (by simp;omega) (λe=>hne e.symm),Lib.alloc_old w1 _ b hlt];exact hbk
 have d0:w2.cell? ⟨b,0,none⟩=some (.pointer (some ⟨b,0,none⟩)):=by rw[Lib.cell_of_heap hb2];rfl
 have d1:w2.cell? ⟨b,1,none⟩=some v:=by rw[Lib.cell_of_heap hb2];rfl
 have f1:w2.frozen? ⟨b,1,none⟩=false:=Lib.frozen_of_heap hb2 1;obtain⟨ao,n',cap,rfl⟩:∃ao n' cap,v'= .slice ao n' cap:=by
  rcases hown'.2 with⟨hv,_⟩| ⟨g,cap,cur,fz,hv,_⟩
  ·exact⟨_,_,_,hv⟩
  ·exact⟨_,_,_,hv⟩
 go_wp2
 go_ret
 have hvb:(Value.slice ao n' cap).ownBlock≠some b:=by
  rcases hfr with h| ⟨x,h,hx⟩
  ·rw[h];exact hne
  ·rw[h];intro e;injection e with e;have:w1.heap.size<=x:=aQk z6 hx;omega
 have hsz:w1.heap.size<=w2.heap.size:=by have:=hgrow.size;simp at this;omega
 refine⟨rfl,(Value.slice ao n' cap).ownBlock,⟨_, .slice ao n' cap, .inr rfl, ?_, ?_,hvb,rfl⟩, ?_, ?_⟩
 ·simp only[World.setCell,Array.getElem?_modify,if_true,hb2];rfl
 ·have e1:Lib.byteCells (l++ [c])=Lib.byteCells l++ [.int .u8 c.toNat]:=by simp[Lib.byteCells]
  rw[e1,aRf];rw[Lib.byteCells_length]at hown';exact hown'.kept (row:=some b) ⟨rfl,rfl,rfl,by simp[World.setCell],λk hk he=>by rw[Below.heap_setCell _ _ _ _ (λe=>he (by rw[e]))]⟩ (.inr hvb)
 ·have hA:Tn b v.ownBlock w (w1.alloc (.cells #[.int .u8 c.toNat] 5)):=⟨hT1.os,hT1.tape,hT1.output,by have:=hT1.size;simp;omega,λk hk hb he=>by rw[Lib.alloc_old w1 _ k (aQl hk hT1.size)];exact hT1.block k hk hb he⟩;exact(hA.grown hgrow).set 1 _
 ·rcases hfr with h| ⟨x,h,hx⟩
  ·exact .inl h
  ·refine .inr ⟨x,h, ?_⟩;exact aQk hT1.size (aQk z6 hx)
set_option maxHeartbeats 2000000 in
set_option maxRecDepth 100000 in
theorem Tryz.bstr(b:Nat)(l:List UInt8)(w:World)(g:Option Nat)(h:PBu b l w g)(hn:l= []->g=none):
  Calls Tryz.prog 63 #[.pointer (some ⟨b,0,none⟩)] w λe w'=>e= .returned (.string ⟨l.toArray⟩)/\Tn b g w w':=by
 obtain⟨p,v,hp,hbk,hown,hne,hg⟩:=h;have mixed:Tryz.prog.follows .mixedOrders=true:=by kernel_rfl
 have t72:=Tryz.underlying126;have a72:=Tryz.isAgg126;have z72:=Tryz.sizeOf126;have v72:=Tryz.zeroValue126;have u72:=run_underlying Tryz.underlying126;have t70:=Tryz.underlying123;have a70:=Tryz.isAgg123;have z70:=Tryz.sizeOf123;have v70:=Tryz.zeroValue123;have u70:=run_underlying Tryz.underlying123;have t37:=Tryz.underlying124;have a37:=Tryz.isAgg124;have z37:=Tryz.sizeOf124;have v37:=Tryz.zeroValue124;have u37:=run_underlying Tryz.underlying124;have t127:=Tryz.underlying183;have a127:=Tryz.isAgg183;have z127:=Tryz.sizeOf183;have v127:=Tryz.zeroValue183;have u127:=run_underlying Tryz.underlying183;have t3:=Tryz.underlying3;have a3:=Tryz.isAgg3;have z3:=Tryz.sizeOf3;have v3:=Tryz.zeroValue3;have u3:=run_underlying Tryz.underlying3;have t9:=Tryz.underlying9;have a9:=Tryz.isAgg9;have z9:=Tryz.sizeOf9;have v9:=Tryz.zeroValue9;have u9:=run_underlying Tryz.underlying9;have t5:=Tryz.underlying5;have a5:=Tryz.isAgg5;have z5:=Tryz.sizeOf5;have v5:=Tryz.zeroValue5;have u5:=run_underlying Tryz.underlying5;have c1:w.drew.cell? ⟨b,1,none⟩=some v:=by
  have:w.drew.heap[b]? =some (.cells #[p,v] 126 (0,0)):=hbk;rw[Lib.cell_of_heap this];rfl
 rcases hown.2 with⟨rfl,h0⟩| ⟨g',cap,cur,fz,rfl,hbg,hg',hfz,hnc,hcm,hcs,htake⟩
 ·obtain rfl:l= []:=List.length_eq_zero_iff.1 h0;have hSD:(Builtin.unsafeSliceData_ #[124] 183 #[.slice none 0 0]).run Tryz.prog w.drew= .ok (.pointer none) w.drew:=rfl;have hUS:∀W,(Builtin.unsafeString_ #[183,3] 9 #[.pointer none, .int .i64 0]).run Tryz.prog W= .ok (.string .empty) W:=λW=>Lib.run_unsafeString_none W _ _ _ none
  go_enter Tryz.func63,Tryz.ntmps63
  go_wp2
  go_region_o
  all_goals (go_wp2;go_ret;exact⟨rfl,rfl,rfl,rfl,aQj _,λ_ _ _ _=>rfl⟩)
 ·have hl0:l≠ []:=λe=>by have:=hn e;rw[<-hg]at this;cases this
  have hl1:l.length≠0:=λe=>hl0 (List.length_eq_zero_iff.1 e);have hgg:w.drew.heap[g']? =some (.cells cur 5 fz):=hg';have hSD:(Builtin.unsafeSliceData_ #[124] 183 #[.slice (some ⟨g',0,none⟩) l.length cap]).run Tryz.prog w.drew= .ok (.pointer (some ⟨g',0,none⟩)) w.drew:=Lib.run_unsafeSliceData_row _ _ _ _ _ _ z8;have hUS:(Builtin.unsafeString_ #[183,3] 9 #[.pointer (some ⟨g',0,none⟩), .int .i64 l.length]).run Tryz.prog w.drew= .ok (.string ⟨l.toArray⟩) (w.drew.freeze ⟨g',0,none⟩ l.length):=by
   refine Lib.run_unsafeString_row w.drew 183 3 9 5 Tryz.underlying183 (by kernel_rfl) g' cur.size (by simp[World.shape?,hgg]) l hl0 z8 (by unfold maxLen at hcm;omega) ?_;intro j x hx;exact hown.cells (g:=g') rfl j (.int .u8 x.toNat) (by simp[Lib.byteCells,hx])
  have hfin:Tn b g w (w.drew.freeze ⟨g',0,none⟩ l.length):=by
   subst hg;have hq:∀k,k≠g'->(w.drew.freeze ⟨g',0,none⟩ l.length).heap[k]? =w.heap[k]? :=λk hk=>by
    unfold World.freeze
    split
    ·rfl
    ·simp only[Array.getElem?_modify,if_neg (Ne.symm hk)];rfl
   refine⟨?_, ?_, ?_, ?_,λk hk hb he=>hq k λe=>he (by rw[e];rfl)⟩<;>(unfold World.freeze;split<;>first|rfl|exact aQj _|exact Nat.le_of_eq (Array.size_modify).symm)
  clear hn hl0 hl1 hg
  go_enter Tryz.func63,Tryz.ntmps63
  go_wp2
  go_region_o
  all_goals (go_wp2;go_ret;exact⟨rfl,hfin⟩)
end Go.Proofs
namespace Go.Abs
open Go.Proofs Go.RowKit
theorem aE.leN.cut{m n:Nat}{A B:aE}(h:A.leN m B)(hn:n<=m):A.leN n B:=⟨h.os,h.tape,h.output,h.size,h.other,h.cell,λid hi hb=>h.bornv id (aQl hi hn) hb,h.born⟩
structure Bx(E0:aE)(nb id:Nat)(l:List UInt8)(E:aE):Prop where
 le:E0.leN nb E
 born:E.view.born id
 pb:∃g,PBu (E.ρ id) l E.w g/\(l= []->g=none)/\∀x,(x=E.ρ id\/g=some x)->E0.w.heap.size<=x/\x<E.w.heap.size/\¬E.owns x/\E.κ x= .mut
theorem aK5{b:Nat}{l:List UInt8}{w w':World}{g:Option Nat}(h:PBu b l w g)(hb:w'.heap[b]? =w.heap[b]?)(hg:∀x,g=some x->w'.heap[x]? =w.heap[x]?):PBu b l w' g:=by
 obtain⟨p,v,h1,h2,h3,h4,h5⟩:=h;refine⟨p,v,h1,hb.trans h2,⟨h3.1, ?_⟩,h4,h5⟩;rcases h3.2 with q| ⟨x,cap,cur,fz,hv,k1,k2,k3⟩
 ·exact .inl q
 ·exact .inr ⟨x,cap,cur,fz,hv,k1,(hg x (by rw[<-h5,hv];rfl)).trans k2,k3⟩
theorem aB1{E0:aE}{nb nb' id:Nat}{l:List UInt8}(h1:nb<=nb')(h2:id<nb'):UB nb' (Bx E0 nb id l):=by
 intro E E' h ho hle ho';obtain⟨g,hp,hn,hx⟩:=h.pb;obtain⟨b1,b2,_⟩:=hle.bornv id h2 h.born;have hr:E'.ρ id=E.ρ id:=b2;have key:∀x,(x=E.ρ id\/g=some x)->E'.κ x=E.κ x/\E'.w.heap[x]? =E.w.heap[x]? :=λx q=>by
  obtain⟨k1,k2,k3,k4⟩:=hx x q;exact hle.other x k2 k3
 refine⟨h.le.trans (hle.cut h1),b1,g, ?_,hn,λx q=> ?_⟩
 ·rw[hr];exact aK5 hp (key _ (.inl rfl)).2 λx e=>(key x (.inr e)).2
 ·rw[hr]at q;obtain⟨k1,k2,k3,k4⟩:=hx x q;exact⟨k1,aQl k2 hle.size,λo=>k3 (hle.born x k2 o),(key x q).1.trans k4⟩
theorem vV{b:Nat}{g:Option Nat}{w w':World}(h:Tn b g w w'):aNp (λk=>k=b\/g=some k) w w':=
 ⟨h.os,h.tape,h.output,h.size,λk hk hn=>h.block k hk (λe=>hn (.inl e)) λe=>hn (.inr e.symm)⟩
theorem ZO{V:cQ}{vargs:Array Value}{id:Nat}{ps:List PV}(h:RL V vargs (.optr id 0::ps)):vargs[0]? =some (.pointer (some ⟨V.rho id,0,none⟩)):=by
 have h0:=h.2 0 z6;have hs:0<vargs.size:=by rw[h.1];simp
 simp only[List.getElem_cons_zero]at h0;rw[aQm,aQr hs,aQs]at h0;rw[aQr hs];generalize vargs[0]=v at h0;cases h0;rfl
theorem aO1{E0:aE}{nb id:Nat}{l:List UInt8}{c:UInt8}{H:aC}(hlen:l.length+1<=140737488355328)(E:aE)(vargs:Array Value)(hC:Bx E0 nb id l E)(ho:E.Ok)(hH:E.H=H)(hrl:RL E.view vargs [.optr id 0, .int .u8 c.toNat]):
  Calls Tryz.prog 150 vargs E.w λe w'=>∃(E':aE) (v:Value) (r:PV),e= .returned v/\E'.w=w'/\Bx E0 nb id (l++ [c]) E'/\E'.Ok/\E.view.le E'.view/\aM E'.view v r/\(r= .ifc none/\E'.H=H):=by
 obtain⟨g,hp,hn,hx⟩:=hC.pb;have hv:vargs= #[.pointer (some ⟨E.ρ id,0,none⟩), .int .u8 c.toNat]:=by
  have h0:=ZO hrl;have h1:=hrl.2 1 z6;have hs:vargs.size=2:=by rw[hrl.1];rfl
  simp only[List.getElem_cons_succ,List.getElem_cons_zero]at h1;rw[aQm,aQr z8,aQs]at h1;have h2:=h1.int_inv;apply Array.ext
  ·simp[hs]
  ·intro i hi _
   match i,hi with
   |0,_=>have:=h0;rw[aQr z8]at this;exact Option.some.inj this
   |1,_=>exact h2
   |n+2,hi=>omega
 rw[hv];refine(Tryz.wb (E.ρ id) l c E.w g hp hlen).mono ?_;rintro e w' ⟨rfl,g',hp',ht,hg⟩;have hown:∀k,(k=E.ρ id\/g=some k)->¬E.owns k/\E.κ k= .mut:=λk q=>⟨(hx k q).2.2.1,(hx k q).2.2.2⟩;have hok:=ho.turn (vV ht) hown;have hv:=aE.turn_view ho (vV ht) hown;refine⟨E.turn w', .nilIface, .ifc none,rfl,rfl,⟨aE.turn_le ho (vV ht) hown hC.le λk q=>(hx k q).1,hC.born,g',hp',λe=>by simp at e,λx q=> ?_⟩,hok,hv, .nili,rfl,hH⟩;have hb:(E.turn w').ρ id=E.ρ id:=rfl;rw[hb]at q;rcases hg with rfl| ⟨y,rfl,hy⟩
 ·obtain⟨k1,k2,k3,k4⟩:=hx x q;exact⟨k1,aQl k2 ht.size,k3,by simp only[aE.turn,if_pos k2];exact k4⟩
 ·rcases q with rfl|q
  ·obtain⟨k1,k2,k3,k4⟩:=hx _ (.inl rfl);exact⟨k1,aQl k2 ht.size,k3,by simp only[aE.turn,if_pos k2];exact k4⟩
  ·injection q with q;subst q;refine⟨aQk hC.le.size hy, ?_,λo=> ?_,by simp only[aE.turn,if_neg (Nat.not_lt.2 hy)]⟩
   ·obtain⟨p,v,_,_,h3,_,h5⟩:=hp';rcases h3.2 with⟨_,q⟩| ⟨z,cap,cur,fz,hv,_,k2,_⟩
    ·simp at q
    ·rw[hv]at h5;injection h5 with h5;have h5':z=y:=h5;subst h5';exact(Array.getElem?_eq_some_iff.1 k2).1
   ·have:=aE.owns_lt ho (vV ht) hown (b:=y) o;omega
theorem aM8{E0:aE}{nb id:Nat}{l:List UInt8}{H:aC}(E:aE)(vargs:Array Value)(hC:Bx E0 nb id l E)(ho:E.Ok)(hH:E.H=H)(hrl:RL E.view vargs [.optr id 0]):
  Calls Tryz.prog 63 vargs E.w λe w'=>∃(E':aE) (v:Value) (r:PV),e= .returned v/\E'.w=w'/\E0.leN nb E'/\E'.Ok/\E.view.le E'.view/\aM E'.view v r/\(r= .str l/\E'.H=H):=by
 obtain⟨g,hp,hn,hx⟩:=hC.pb;have hv:vargs= #[.pointer (some ⟨E.ρ id,0,none⟩)]:=by
  have h0:=ZO hrl;have hs:vargs.size=1:=by rw[hrl.1];rfl
  apply Array.ext
  ·simp[hs]
  ·intro i hi _
   match i,hi with
   |0,_=>have:=h0;rw[aQr z8]at this;exact Option.some.inj this
   |n+1,hi=>omega
 rw[hv];refine(Tryz.bstr (E.ρ id) l E.w g hp hn).mono ?_;rintro e w' ⟨rfl,ht⟩;have hown:∀k,(k=E.ρ id\/g=some k)->¬E.owns k/\E.κ k= .mut:=λk q=>⟨(hx k q).2.2.1,(hx k q).2.2.2⟩;exact⟨E.turn w', .string ⟨l.toArray⟩, .str l,rfl,rfl,aE.turn_le ho (vV ht) hown hC.le λk q=>(hx k q).1,ho.turn (vV ht) hown,aE.turn_view ho (vV ht) hown,by simpa using aM.str (V:=(E.turn w').view) ⟨l.toArray⟩,rfl,hH⟩
theorem aJp{N:Nat}{ops:Array Oper}{K:Exit->Act->World->Prop}{T:aD}{H:aC}{E0:aE}{nb d:Nat}{o:Oper}{l:List Oper}(hnb:nb<=H.length)(hop:o.op= .alloc 126)(hd:o.dst=some d)(hw:aV ops.toList T N o=some true)
  (h:XL Tryz.prog N (Bx E0 nb H.length []) K ops l (nO T d (.optr H.length 0)) (H++ [.glob 0 []])):XL Tryz.prog N (λE=>E0.leN nb E) K ops (o::l) T H:=by
 intro E a hC ho hH ht;subst hH;have hu:E.ext.H[E.H.length]? =some .unborn:=by simp[aE.ext]
 let E1:=E.ext.newRow E.H.length #[.pointer none, .slice none 0 0] 126 [.nilp, .slice [] .none]
 have hle1:E.le E1:=E.ext_le.trans (aE.newRow_le ho.ext hu _ _ _);have hok1:E1.Ok:=ho.ext.newRow hu _ _ _ rfl λi hl=>by
  match i,hl with
  |0,_=>exact .nilp
  |1,_=>exact .nils _ (by first|trivial|simp[mK])
 have hlen:E.H.length<(E.H++ [AObj.unborn]).length:=z6
 have hr1:E1.H[E.H.length]? =some (.row [.nilp, .slice [] .none]):=by
  show((E.H++ [AObj.unborn]).set _ _)[_]? =_;exact aQx hlen
 have hrho:E1.ρ E.H.length=E.w.heap.size:=by simp[E1,aE.newRow,aE.ext]
 have hle2:=hle1.trans (aE.forget_le hok1 hr1);have hok2:=hok1.forget hr1;have hH2:(E1.forget E.H.length).H=E.H++ [.glob 0 []]:=by
  show((E.H++ [AObj.unborn]).set _ _).set _ _=_;rw[List.set_set,aRu _ _ (aQj _)];simp
 have hborn:(E1.forget E.H.length).view.born E.H.length:=⟨.glob 0 [],by rw[hH2];simp,z6⟩;have hwh:(E1.forget E.H.length).w.heap[E.w.heap.size]? =some (.cells #[.pointer none, .slice none 0 0] 126 (0,0)):=heap_alloc_new _ _;have hB:Bx E0 nb E.H.length [] (E1.forget E.H.length):=by
  refine⟨hC.trans (hle2.leN nb),hborn,none,⟨_,_, .inl rfl, ?_,⟨rfl, .inl ⟨rfl,rfl⟩⟩,(by simp[Value.ownBlock]),rfl⟩,λ_=>rfl,λx q=> ?_⟩
  ·show(E1.forget E.H.length).w.heap[E1.ρ E.H.length]? =_;rw[hrho];exact hwh
  ·rcases q with rfl|q
   ·show E0.w.heap.size<=E1.ρ E.H.length/\_;obtain⟨_,_,_,_,_,k⟩:=hok1.rows _ _ hr1;refine⟨by rw[hrho];exact hC.size, ?_,λq=>(aE.forget_owns hok1 hr1 q).2 rfl,k⟩;show E1.ρ E.H.length<_;rw[hrho];exact(Array.getElem?_eq_some_iff.1 hwh).1
   ·cases q
 refine jF (cJ ht hw) ?_;have hrun:(execOp a.eval o).run Tryz.prog E.w= .ok (.value (.pointer (some ⟨E.w.heap.size,0,none⟩))) (E1.forget E.H.length).w:=by
  unfold execOp;rw[hop];simp only[Instr.alloc,aQ1,Tryz.zeroValue126,aQ2,newVar,newRow,run_newObj,aQ4];rfl
 unfold Oper.wp;rw[hrun];have hptr:aM (E1.forget E.H.length).view (.pointer (some ⟨E.w.heap.size,0,none⟩)) (.optr E.H.length 0):=by
  have:=aM.optr (V:=(E1.forget E.H.length).view) E.H.length 0 hborn;rw[show(E1.forget E.H.length).view.rho E.H.length=E.w.heap.size from hrho]at this;exact this
 have ht2:=(ht.mono hle2.view).put o.dst hptr;rw[hd]at ht2;exact h _ _ hB hok2 hH2 (by rw[hd];exact ht2)
end Go.Abs
namespace Go.Proofs
open Go.Shelf
def Tryz.laysC172_ren:Go.Shelf.Ren:=⟨fun|172=>242|244=>279|245=>280|247=>303|279=>304|280=>305|281=>306|282=>307|287=>327|316=>328|171=>213|205=>329|321=>350|322=>351|243=>259|246=>286|283=>309|284=>310|285=>311|286=>312|129=>181|317=>330|318=>331|319=>332|320=>333|337=>352|338=>353|n=>n,fun|9=>9|3=>3|75=>128|76=>129|4=>4|5=>5|167=>305|37=>124|0=>0|85=>306|2=>2|168=>308|53=>219|175=>321|46=>174|210=>324|127=>183|145=>345|143=>343|21=>21|171=>312|173=>314|212=>327|51=>217|20=>20|213=>328|232=>360|233=>361|80=>131|n=>n,fun|15=>3|16=>4|17=>5|18=>6|19=>7|n=>n⟩
theorem Tryz.laysC172:Go.Proofs.LaysC.n172 Tryz.prog Tryz.laysC172_ren:= {
 mixed:=by kernel_rfl
 f129:=Tryz.func181.trans (congrArg some (by kernel_rfl))
 f171:=Tryz.func213.trans (congrArg some (by kernel_rfl))
 f172:=Tryz.func242.trans (congrArg some (by kernel_rfl))
 f205:=Tryz.func329.trans (congrArg some (by kernel_rfl))
 f243:=Tryz.func259.trans (congrArg some (by kernel_rfl))
 f244:=Tryz.func279.trans (congrArg some (by kernel_rfl))
 f245:=Tryz.func280.trans (congrArg some (by kernel_rfl))
 f246:=Tryz.func286.trans (congrArg some (by kernel_rfl))
 f247:=Tryz.func303.trans (congrArg some (by kernel_rfl))
 f279:=Tryz.func304.trans (congrArg some (by kernel_rfl))
 f280:=Tryz.func305.trans (congrArg some (by kernel_rfl))
 f281:=Tryz.func306.trans (congrArg some (by kernel_rfl))
 f282:=Tryz.func307.trans (congrArg some (by kernel_rfl))
 f283:=Tryz.func309.trans (congrArg some (by kernel_rfl))
 f284:=Tryz.func310.trans (congrArg some (by kernel_rfl))
 f285:=Tryz.func311.trans (congrArg some (by kernel_rfl))
 f286:=Tryz.func312.trans (congrArg some (by kernel_rfl))
 f287:=Tryz.func327.trans (congrArg some (by kernel_rfl))
 f316:=Tryz.func328.trans (congrArg some (by kernel_rfl))
 f317:=Tryz.func330.trans (congrArg some (by kernel_rfl))
 f318:=Tryz.func331.trans (congrArg some (by kernel_rfl))
 f319:=Tryz.func332.trans (congrArg some (by kernel_rfl))
 f320:=Tryz.func333.trans (congrArg some (by kernel_rfl))
 f321:=Tryz.func350.trans (congrArg some (by kernel_rfl))
 f322:=Tryz.func351.trans (congrArg some (by kernel_rfl))
 f337:=Tryz.func352.trans (congrArg some (by kernel_rfl))
 f338:=Tryz.func353.trans (congrArg some (by kernel_rfl))
 t0:=Tryz.underlying0
 a0:=Tryz.isAgg0
 z0:=Tryz.sizeOf0
 v0:=Tryz.zeroValue0
 t2:=Tryz.underlying2
 a2:=Tryz.isAgg2
 z2:=Tryz.sizeOf2
 v2:=Tryz.zeroValue2
 t3:=Tryz.underlying3
 a3:=Tryz.isAgg3
 z3:=Tryz.sizeOf3
 v3:=Tryz.zeroValue3
 t4:=Tryz.underlying4
 a4:=Tryz.isAgg4
 z4:=Tryz.sizeOf4
 v4:=Tryz.zeroValue4
 t5:=Tryz.underlying5
 a5:=Tryz.isAgg5
 z5:=Tryz.sizeOf5
 v5:=Tryz.zeroValue5
 t9:=Tryz.underlying9
 a9:=Tryz.isAgg9
 z9:=Tryz.sizeOf9
 v9:=Tryz.zeroValue9
 t20:=Tryz.underlying20
 a20:=Tryz.isAgg20
 z20:=Tryz.sizeOf20
 v20:=Tryz.zeroValue20
 t21:=Tryz.underlying21
 a21:=Tryz.isAgg21
 z21:=Tryz.sizeOf21
 v21:=Tryz.zeroValue21
 t37:=Tryz.underlying124
 a37:=Tryz.isAgg124
 z37:=Tryz.sizeOf124
 v37:=Tryz.zeroValue124
 t46:=Tryz.underlying174
 a46:=Tryz.isAgg174
 z46:=Tryz.sizeOf174
 v46:=Tryz.zeroValue174
 t51:=Tryz.underlying217
 a51:=Tryz.isAgg217
 z51:=Tryz.sizeOf217
 v51:=Tryz.zeroValue217
 t53:=Tryz.underlying219
 a53:=Tryz.isAgg219
 z53:=Tryz.sizeOf219
 v53:=Tryz.zeroValue219
 t75:=Tryz.underlying128
 a75:=Tryz.isAgg128
 z75:=Tryz.sizeOf128
 v75:=Tryz.zeroValue128
 t76:=Tryz.underlying129
 a76:=Tryz.isAgg129
 z76:=Tryz.sizeOf129
 v76:=Tryz.zeroValue129
 t85:=Tryz.underlying306
 a85:=Tryz.isAgg306
 z85:=Tryz.sizeOf306
 v85:=Tryz.zeroValue306
 t127:=Tryz.underlying183
 a127:=Tryz.isAgg183
 z127:=Tryz.sizeOf183
 v127:=Tryz.zeroValue183
 t143:=Tryz.underlying343
 a143:=Tryz.isAgg343
 z143:=Tryz.sizeOf343
 v143:=Tryz.zeroValue343
 t145:=Tryz.underlying345
 a145:=Tryz.isAgg345
 z145:=Tryz.sizeOf345
 v145:=Tryz.zeroValue345
 t167:=Tryz.underlying305
 a167:=Tryz.isAgg305
 z167:=Tryz.sizeOf305
 v167:=Tryz.zeroValue305
 t168:=Tryz.underlying308
 a168:=Tryz.isAgg308
 z168:=Tryz.sizeOf308
 v168:=Tryz.zeroValue308
 t171:=Tryz.underlying312
 a171:=Tryz.isAgg312
 z171:=Tryz.sizeOf312
 v171:=Tryz.zeroValue312
 t173:=Tryz.underlying314
 a173:=Tryz.isAgg314
 z173:=Tryz.sizeOf314
 v173:=Tryz.zeroValue314
 t175:=Tryz.underlying321
 a175:=Tryz.isAgg321
 z175:=Tryz.sizeOf321
 v175:=Tryz.zeroValue321
 t210:=Tryz.underlying324
 a210:=Tryz.isAgg324
 z210:=Tryz.sizeOf324
 v210:=Tryz.zeroValue324
 t212:=Tryz.underlying327
 a212:=Tryz.isAgg327
 z212:=Tryz.sizeOf327
 v212:=Tryz.zeroValue327
 t213:=Tryz.underlying328
 a213:=Tryz.isAgg328
 z213:=Tryz.sizeOf328
 t232:=Tryz.underlying360
 a232:=Tryz.isAgg360
 z232:=Tryz.sizeOf360
 v232:=Tryz.zeroValue360
 t233:=Tryz.underlying361
 a233:=Tryz.isAgg361
 z233:=Tryz.sizeOf361
 v233:=Tryz.zeroValue361
 g15:=by kernel_rfl
 g16:=by kernel_rfl
 g17:=by kernel_rfl
 g18:=by kernel_rfl
 g19:=by kernel_rfl
 t80:=Tryz.underlying131
 a80:=Tryz.isAgg131
 z80:=Tryz.sizeOf131
 v80:=Tryz.zeroValue131
 i0:=by kernel_rfl
 i2:=by kernel_rfl
 i3:=by kernel_rfl
 i4:=by kernel_rfl
 i5:=by kernel_rfl
 i9:=by kernel_rfl
 i20:=by kernel_rfl
 i21:=by kernel_rfl
 i37:=by kernel_rfl
 i46:=by kernel_rfl
 i51:=by kernel_rfl
 i53:=by kernel_rfl
 i75:=by kernel_rfl
 i76:=by kernel_rfl
 i80:=by kernel_rfl
 i85:=by kernel_rfl
 i127:=by kernel_rfl
 i143:=by kernel_rfl
 i145:=by kernel_rfl
 i167:=by kernel_rfl
 i168:=by kernel_rfl
 i171:=by kernel_rfl
 i173:=by kernel_rfl
 i175:=by kernel_rfl
 i210:=by kernel_rfl
 i212:=by kernel_rfl
 i232:=by kernel_rfl
 i233:=by kernel_rfl
 m15:=by kernel_rfl
 m16:=by kernel_rfl
 m17:=by kernel_rfl
 m18:=by kernel_rfl
 m19:=by kernel_rfl
 c0:=by kernel_rfl
 c2:=by kernel_rfl
 c3:=by kernel_rfl
 c4:=by kernel_rfl
 c5:=by kernel_rfl
 c9:=by kernel_rfl
 c20:=by kernel_rfl
 c21:=by kernel_rfl
 c37:=by kernel_rfl
 c46:=by kernel_rfl
 c51:=by kernel_rfl
 c53:=by kernel_rfl
 c75:=by kernel_rfl
 c76:=by kernel_rfl
 c80:=by kernel_rfl
 c85:=by kernel_rfl
 c127:=by kernel_rfl
 c143:=by kernel_rfl
 c145:=by kernel_rfl
 c167:=by kernel_rfl
 c168:=by kernel_rfl
 c171:=by kernel_rfl
 c173:=by kernel_rfl
 c175:=by kernel_rfl
 c210:=by kernel_rfl
 c212:=by kernel_rfl
 c213:=by kernel_rfl
 c232:=by kernel_rfl
 c233:=by kernel_rfl}
open Go.RowKit in
theorem Tryz.strconv_Atoi_ok(s:ByteArray)(hmax:s.size<=9223372036854775806)(v:Int)(h:Lib.atoiAll s.data.toList= .ok v)(w:World):
  Calls Tryz.prog 242 #[.string s] w λe w'=>e= .returned (.tuple #[.int .i64 v, .nilIface])/\(w'=w\/∃t,w'=Lib.bytesWorld w 5 t):=Any.strconv_Atoi_ok Tryz.laysC172 s hmax v h w
open Go.RowKit in
theorem Tryz.strconv_Atoi_syn(s:ByteArray)(hlim:s.size<=281474976710656)(h:∀x,Lib.atoiAll s.data.toList≠ .ok x)(h':Lib.atoiAll s.data.toList≠ .range)(ev:Value)(w:World)(hv:w.cell? ⟨3,0,none⟩=some ev)(hev:ev= .nilIface\/∃te pe,ev= .iface te pe):
  Calls Tryz.prog 242 #[.string s] w λe w'=>∃N,e= .returned (.tuple #[.int .i64 (0), .iface 308 (.pointer (some ⟨N,0,none⟩))])/\w.heap.size<=N/\w'.heap[N]? =some (.cells #[.string ⟨#[65,116,111,105]⟩, .string s,ev] 324 (0,0))/\Below w.heap.size w w':=Any.strconv_Atoi_syntax Tryz.laysC172 s hlim (by
  cases e:Lib.atoiAll s.data.toList with
  |ok v=>exact absurd e (h v)
  |range=>exact absurd e h'
  |_=>rfl) ev w hv hev
open Go.RowKit in
theorem Tryz.strconv_Atoi_range(s:ByteArray)(hlim:s.size<=281474976710656)(h:Lib.atoiAll s.data.toList= .range)(ev:Value)(w:World)(hv:w.cell? ⟨4,0,none⟩=some ev)(hev:ev= .nilIface\/∃te pe,ev= .iface te pe):
  Calls Tryz.prog 242 #[.string s] w λe w'=>∃N,e= .returned (.tuple #[.int .i64 (Lib.atoiSat s.data.toList), .iface 308 (.pointer (some ⟨N,0,none⟩))])/\w.heap.size<=N/\w'.heap[N]? =some (.cells #[.string ⟨#[65,116,111,105]⟩, .string s,ev] 324 (0,0))/\Below w.heap.size w w':=Any.strconv_Atoi_range Tryz.laysC172 s hlim h ev w hv hev
end Go.Proofs
namespace Go.Abs
open Go.Proofs
def KR:List Int:= [2,3,4,5,6,8,9,11,13,14,15,16,18,31,32,34,44]
def BM(k:Int):Bool:=KR.any λx=>decide (k=x)
def eB(n:Nd)(a b:Int):Nd:=⟨n.kind,n.value,n.text,if n.en<0 then a else n.st,b,n.ns,n.kids⟩
def xC(n:Nd)(v:Int):Nd:=⟨n.kind,v,n.text,n.st,n.en,n.ns,n.kids⟩
def VV(n:Nd)(t:List UInt8):Nd:=⟨n.kind,n.value,t,n.st,n.en,n.ns,n.kids⟩
def XO(n:Nd)(t:List UInt8)(s:Int):Nd:=⟨n.kind,n.value,t,n.st,n.en,s,n.kids⟩
def fJ(n:Nd)(s e:Int):Nd:=⟨n.kind,n.value,n.text,s,e,n.ns,n.kids⟩
def lJ(n m:Nd):Nd:=⟨n.kind,n.value,n.text,n.st,n.en,n.ns,n.kids++ [m]⟩
def dX(n:Nd)(t:List UInt8):Nd:=
 if decide (t= [112,117,98])=true then xC n (orI n.value 1)
 else if decide (t= [109,117,116])=true then xC n (orI n.value 1)
 else if(decide (t= [42])&&decide (n.kind=2))=true then xC n (orI n.value 2)
 else if(decide (t= [116,114,117,101])&&decide (n.kind=28))=true then xC n 1
 else if((decide (n.kind=39)||decide (n.kind=40))&&decide (n.text= []))=true then VV n t
 else n
def dE(n:Nd)(t:List UInt8)(st:Int):Nd:=if(BM n.kind&&decide (n.ns<0))=true then XO n t st else n
def rD(c a b:Int):Dg:=⟨c,0,a,b,[]⟩
def UN:Lib.NumEnd Int->Option Int
 | .ok v=>if v>2147483647 then none else some v
 |_=>none
def yT(t:List UInt8):Option Int:=UN (Lib.atoiAll t)
def lW:List UInt8->Int->List UInt8×List Dg
 | [],_=>([],[])
 | [_],_=>([],[])
 |c::d::r,p=>if c=92 then((if d=110 then 10 else d)::(lW r (p+2)).1,(if d=110\/d=34\/d=92 then []else [rD 6 p (p+2)])++(lW r (p+2)).2)
  else(c::(lW (d::r) (p+1)).1,(lW (d::r) (p+1)).2)
def yC(t:List UInt8)(st:Int):List UInt8×List Dg:=lW (t.drop 1) (st+1)
def gJ(t:St)(off:Nat)(n:Nd)(ds:List Dg):Nd×List Dg:=
 let e:=off+t.text.length
 if decide (t.kind=101)=true then(n,ds)else if decide (t.kind=102)=true then(n,ds)
 else if decide (t.kind=108)=true then(if decide (t.text= [])=true then(n,ds++ [rD 1 off off])else(eB n off e,ds++ [rD 3 off e]))
 else if decide (t.kind=103)=true then(eB (dE n t.text off) off e,if decide ((t.text.length:Int)>30)=true then ds++ [rD 5 off e]else ds)
 else if decide (t.kind=105)=true then(match yT t.text with|some v=>(eB (xC n v) off e,ds)|none=>(eB (xC n 2147483647) off e,ds++ [rD 4 off e]))
 else if decide (t.kind=106)=true then(eB (VV n (yC t.text off).1) off e,ds++(yC t.text off).2)
 else(eB (dX n t.text) off e,ds)
def AV(src:List UInt8)(n:Nd)(ds:List Dg):Option (Nd×List Dg):=
 if decide (n.kind=60)=true then(match n.kids with|c::_=>some (fJ c n.st n.en,ds)| []=>none)
 else if decide (n.kind=46)=true then(if 0<=n.st/\n.st<=n.en/\n.en<=src.length/\ds.length<fE then some (⟨46,0,(src.drop n.st.toNat).take (n.en.toNat-n.st.toNat),n.st,n.en, -1,[]⟩,ds++ [rD (if decide (n.st=n.en)=true then 1 else 2) n.st n.en])else none)
 else some (n,ds)
mutual
def tC(src:List UInt8):St->Nat->List Dg->Option (Nat×Nd×List Dg)
 | .mk k _ ch,off,ds=>if ch.length<fE then(lH src ch off ⟨k,0,[],off, -1, -1,[]⟩ ds).bind λr=>(AV src (fJ r.2.1 r.2.1.st (max r.2.1.en r.2.1.st)) r.2.2).bind λm=>some (r.1,m.1,m.2)else none
def lH(src:List UInt8):List St->Nat->Nd->List Dg->Option (Nat×Nd×List Dg)
 | [],off,n,ds=>some (off,n,ds)
 |c::cs,off,n,ds=>if decide (c.kind>=100)=true then(if ds.length+c.text.length<fE/\off+c.text.length<fE then lH src cs (off+c.text.length) (gJ c off n ds).1 (gJ c off n ds).2 else none)
  else(tC src c off ds).bind λr=>if n.kids.length<fE then lH src cs r.1 (lJ (eB n r.2.1.st r.2.1.en) r.2.1) r.2.2 else none
end
set_option maxRecDepth 4000
theorem oZ{H:aC}{i:Nat}{o:AObj}(h:H[i]? =some o):H.set i o=H:=by
 obtain⟨hl,e⟩:=List.getElem?_eq_some_iff.1 h;rw[<-e];exact List.set_getElem_self hl
theorem rJ{H:aC}{i:Nat}{n:Nd}{cv:PV}(hr:H[i]? =some (.row [.int .i64 n.kind, .int .i64 n.value, .str n.text, .int .i64 n.st, .int .i64 n.en, .int .i64 n.ns,cv]))(a b:Int):aL Tryz.prog 105 [.optr i 0, .int .i64 a, .int .i64 b] H λr H'=>r= .tup []/\H'=H.set i (.row [.int .i64 (eB n a b).kind, .int .i64 (eB n a b).value, .str (eB n a b).text, .int .i64 (eB n a b).st, .int .i64 (eB n a b).en, .int .i64 (eB n a b).ns,cv]):=by
 have hil:=lG hr;have hs1:∀o,(H.set i o)[i]? =some o:=λo=>aQx hil;have hs2:∀o o2,(H.set i o).set i o2=H.set i o2:=λo o2=>List.set_set ..;have nI:(i=H.length)=False:=by simp;omega
 refine aF (N:=19) Tryz.func105 rfl rfl z6 λhb'=> ?_;refine ZE (a5 y3 cW hr hs1 (a2 hs2 nI)) ?_;refine ZI (a4 hr hs1 hs2 nI) (λbt10=> ?_) (λbt10=> ?_)
 ·
  have he:=of_decide_eq_true bt10;have hx:eB n a b=⟨n.kind,n.value,n.text,a,b,n.ns,n.kids⟩:=by unfold eB;rw[if_pos he]
  refine ZE (a5 y3 cW hr hs1 (a2 hs2 nI)) ?_;refine ZE (a5 y3 cW hr hs1 (a2 hs2 nI)) ?_;refine⟨.inl rfl,_,rfl, ?_⟩;rw[hx];exact⟨rfl,rfl⟩
 ·
  have he:=of_decide_eq_false bt10;have hx:eB n a b=⟨n.kind,n.value,n.text,n.st,b,n.ns,n.kids⟩:=by unfold eB;rw[if_neg he]
  refine qK ?_;refine ZE (a5 y3 cW hr hs1 (a2 hs2 nI)) ?_;refine⟨.inl rfl,_,rfl, ?_⟩;rw[hx];exact⟨rfl,rfl⟩
theorem WB{H:aC}{i:Nat}{n:Nd}{cv:PV}(hr:H[i]? =some (.row [.int .i64 n.kind, .int .i64 n.value, .str n.text, .int .i64 n.st, .int .i64 n.en, .int .i64 n.ns,cv]))(text:List UInt8):aL Tryz.prog 171 [.optr i 0, .str text] H λr H'=>r= .tup []/\H'=H.set i (.row [.int .i64 (dX n text).kind, .int .i64 (dX n text).value, .str (dX n text).text, .int .i64 (dX n text).st, .int .i64 (dX n text).en, .int .i64 (dX n text).ns,cv]):=by
 have hil:=lG hr;have hs1:∀o,(H.set i o)[i]? =some o:=λo=>aQx hil;have hs2:∀o o2,(H.set i o).set i o2=H.set i o2:=λo o2=>List.set_set ..;have nI:(i=H.length)=False:=by simp;omega
 refine aF (N:=78) Tryz.func171 rfl rfl z6 λhb'=> ?_;refine qB ?_;refine ZE (a5 y9 hr hs1 hs2 nI) ?_;refine ZI (a4 hr hs1 hs2 nI) (λbt4=> ?_) (λbt4=> ?_)
 ·
  have hx:dX n text=xC n (orI n.value 1):=by unfold dX;rw[if_pos bt4]
  refine ZT 4 (a5 y3 cW hr hs1 (a2 hs2 nI)) ?_;refine jH (oH (a4 hr hs1 hs2 nI)) (xT (op:=.or) (m:=n.value) (n:=1) (r:=orI n.value 1) rfl (.inl ⟨rfl,rfl⟩) z7 z7 (kV (a4 hr hs1 hs2 nI)) (kV (a4 hr hs1 hs2 nI))) ?_;refine ZX (a5 y3 cW hr hs1 (a2 hs2 nI)) ?_;refine⟨.inl rfl,_,rfl, ?_⟩;rw[hx];first|exact⟨rfl,rfl⟩|exact⟨rfl,(oZ hr).symm⟩
 ·
  refine ZE (a5 y9 hr hs1 hs2 nI) ?_;refine ZI (a4 hr hs1 hs2 nI) (λbt14=> ?_) (λbt14=> ?_)
  ·
   have hx:dX n text=xC n (orI n.value 1):=by unfold dX;rw[if_neg (by rw[bt4];simp)];rw[if_pos bt14]
   refine ZT 4 (a5 y3 cW hr hs1 (a2 hs2 nI)) ?_;refine jH (oH (a4 hr hs1 hs2 nI)) (xT (op:=.or) (m:=n.value) (n:=1) (r:=orI n.value 1) rfl (.inl ⟨rfl,rfl⟩) z7 z7 (kV (a4 hr hs1 hs2 nI)) (kV (a4 hr hs1 hs2 nI))) ?_;refine ZX (a5 y3 cW hr hs1 (a2 hs2 nI)) ?_;refine⟨.inl rfl,_,rfl, ?_⟩;rw[hx];first|exact⟨rfl,rfl⟩|exact⟨rfl,(oZ hr).symm⟩
  ·
   refine VF (a5 y3 y9 cW hr (a3 hs1 hs2 nI)) ?_;refine ZI (a4 hr hs1 hs2 nI) (λbt24=> ?_) (λbt24=> ?_)
   ·
    have hx:dX n text=xC n (orI n.value 2):=by unfold dX;rw[if_neg (by rw[bt4];simp)];rw[if_neg (by rw[bt14];simp)];rw[if_pos bt24]
    refine ZL [0] (a4 hr hs1 hs2 nI) ?_;refine ZT 4 (a5 y3 cW hr hs1 (a2 hs2 nI)) ?_;refine jH (oH (a4 hr hs1 hs2 nI)) (xT (op:=.or) (m:=n.value) (n:=2) (r:=orI n.value 2) rfl (.inl ⟨rfl,rfl⟩) z7 z7 (kV (a4 hr hs1 hs2 nI)) (kV (a4 hr hs1 hs2 nI))) ?_;refine ZX (a5 y3 cW hr hs1 (a2 hs2 nI)) ?_;refine⟨.inl rfl,_,rfl, ?_⟩;rw[hx];first|exact⟨rfl,rfl⟩|exact⟨rfl,(oZ hr).symm⟩
   ·
    refine ZL [0,1] (a4 hr hs1 hs2 nI) ?_;refine VF (a5 y3 y9 cW hr (a3 hs1 hs2 nI)) ?_;refine ZI (a4 hr hs1 hs2 nI) (λbt41=> ?_) (λbt41=> ?_)
    ·
     have hx:dX n text=xC n 1:=by unfold dX;rw[if_neg (by rw[bt4];simp)];rw[if_neg (by rw[bt14];simp)];rw[if_neg (by rw[bt24];simp)];rw[if_pos bt41]
     refine ZE (a5 y3 cW hr hs1 (a2 hs2 nI)) ?_;refine⟨.inl rfl,_,rfl, ?_⟩;rw[hx];first|exact⟨rfl,rfl⟩|exact⟨rfl,(oZ hr).symm⟩
    ·
     refine VF (a5 y3 y9 cW hr (a3 hs1 hs2 nI)) ?_;refine ZI (a4 hr hs1 hs2 nI) (λbt54=> ?_) (λbt54=> ?_)
     ·
      have hx:dX n text=VV n text:=by unfold dX;rw[if_neg (by rw[bt4];simp)];rw[if_neg (by rw[bt14];simp)];rw[if_neg (by rw[bt24];simp)];rw[if_neg (by rw[bt41];simp)];rw[if_pos bt54]
      refine ZL [0,1] (a4 hr hs1 hs2 nI) ?_;refine ZE (a5 y9 cW hr hs1 (a2 hs2 nI)) ?_;refine⟨.inl rfl,_,rfl, ?_⟩;rw[hx];first|exact⟨rfl,rfl⟩|exact⟨rfl,(oZ hr).symm⟩
     ·
      have hx:dX n text=n:=by unfold dX;rw[if_neg (by rw[bt4];simp)];rw[if_neg (by rw[bt14];simp)];rw[if_neg (by rw[bt24];simp)];rw[if_neg (by rw[bt41];simp)];rw[if_neg (by rw[bt54];simp)]
      refine qK ?_;refine⟨.inl rfl,_,rfl, ?_⟩;rw[hx];first|exact⟨rfl,rfl⟩|exact⟨rfl,(oZ hr).symm⟩
theorem aAm(xs:List Int)(k:Int)(hx:xs.length<=maxLen):PC Tryz.prog 302 [.slice (xs.map aA) .none,aA k] (aA (mF (λx=>decide (k=x)) xs)):=by
 refine fI (N:=19) Tryz.func302 rfl rfl z6 (by simp[dR,bW.int]) (.int _ _) ?_;refine jU ?_;refine ZE (a2 y3 y48) ?_;refine wQ ?_;refine dS (σ:=Unit) (xs.length) (λ(s:Unit)=> [(0, .slice (xs.map aA) .none),(1,aA k)]) [0,1] ([]) (λ(s:Unit)=> []) (λ(i:Nat) (s:Unit)=>(xs.take i).any (λx=>decide (k=x))=false) (()) ([]) rfl rfl rfl rfl rfl rfl rfl rfl rfl z7 z7 z7 (λ_=>rfl) (hx) (Zt tN) (Zf tN) z6 (λ_ _ _=>by first|exact aRk _| (simp only[aRf];omega)) ?_ ?_ ?_
 ·exact λi s hg=>⟨by first|exact eP _| (simp only[aR0];assumption)| (refine fB hb' z6 ?_;exact ZH),ZR⟩
 ·intro i s hi hg;have g1:=bA hi;have g2:=bS aA hi;refine ZE (a2 g1 g2) ?_;refine ZE (a4 y3 y48 g1 g2) ?_;refine ZI (a2 g1 g2) (λb0=> ?_) (λb0=> ?_)
  ·
   refine ZE (a2 g1 g2) ?_;refine wQ ?_;refine wT ⟨.inr rfl,_,rfl, ?_⟩;rw[pP hi b0 hg];rfl
  ·
   refine qK ?_;exact⟨ZV,(),[],ZV,rfl,eD hi hg b0⟩
 ·intro s hg;rw[aR7]at hg;refine jU ?_;refine wQ ?_;refine wT ⟨.inr rfl,_,rfl, ?_⟩;rw[mM hg];rfl
theorem LY(xs:List Int)(k:Int)(hx:xs.length<=maxLen):PC Tryz.prog 278 [.slice (xs.map aA) .none,aA k] (.bool (xs.any λx=>decide (k=x))):=by
 refine fI (N:=9) Tryz.func278 rfl rfl z6 (by simp[dR,bW.int]) (.bool _) ?_;refine jU ?_;refine PI 2 ?_;refine ZP0 aKh (aAm xs k hx _) ?_;refine ZX y3 ?_;refine wQ ?_;refine wT ⟨.inr rfl,_,rfl, ?_⟩;rw[<-kT];rfl
theorem GH(k:Int):PC Tryz.prog 241 [aA k] (.bool (BM k)):=by
 refine fI (N:=6) Tryz.func241 rfl rfl z6 (by simp[bW.int,bW.str]) (.bool _) ?_;refine jU ?_;refine ZT 2 (a2 y3 y48) ?_;refine oP (Zcy tN) (oH tN) z7 aKn (LY KR k z7 _) ?_;refine VT ?_;refine wQ ?_;refine wT ⟨.inr rfl,_,rfl, ?_⟩;simp only[jN,seval,aA,BM]
 try rfl
set_option maxRecDepth 4000
def gN(src:List UInt8)(off:Nat)(ds:List Dg)(ib:Nat)(cid:List Nat)(H:aC):Prop:=∃dv,H[ib]? =some (.row [.str src, .int .i64 ((off:Nat):Int),dv])/\fS Dg.enc 5 H dv ds cid/\ib∉cid
theorem gN.fr{src:List UInt8}{off:Nat}{ds:List Dg}{ib:Nat}{cid:List Nat}{H H':aC}(h:gN src off ds ib cid H)(he:∀i,i=ib\/i∈cid->H'[i]? =H[i]?):gN src off ds ib cid H':=by
 obtain⟨dv,h1,h2,h3⟩:=h;exact⟨dv,by rw[he _ (.inl rfl)];exact h1,h2.fr λi hi=>he i (.inr hi),h3⟩
theorem gN.lt{src:List UInt8}{off:Nat}{ds:List Dg}{ib:Nat}{cid:List Nat}{H:aC}(h:gN src off ds ib cid H):∀i,i=ib\/i∈cid->i<H.length:=by
 obtain⟨dv,h1,h2,h3⟩:=h;rintro i (rfl|hi)
 ·exact lG h1
 ·exact h2.lt i hi
theorem gN.app{src:List UInt8}{off:Nat}{ds:List Dg}{ib:Nat}{cid:List Nat}{H:aC}(h:gN src off ds ib cid H)(L:aC):gN src off ds ib cid (H++L):=h.fr λi hi=>aQt (h.lt i hi)
theorem fS.cell{α:Type}{enc:α->PV}{sz:Nat}{H:aC}{cv:PV}{xs:List α}{cid:List Nat}(h:fS enc sz H cv xs cid):cv.cells= [cv]/\cv.isCell=true:=by
 cases h<;>exact⟨rfl,rfl⟩
theorem lN(t:Dg):t.enc.cells.all PV.isCell=true:=by rw[Dg.enc_cells];rfl
theorem mV{src:List UInt8}{off ib:Nat}{ds:List Dg}{cid:List Nat}{H:aC}(hB:gN src off ds ib cid H)(hl:ds.length<fE)(code st en:Int):aL Tryz.prog 167 [.optr ib 0, .int .i64 code, .int .i64 st, .int .i64 en] H λr H'=>r= .tup []/\∃cid',gN src off (ds++ [rD code st en]) ib cid' H'/\Fr (ib::cid) (ib::cid') H H':=by
 obtain⟨dv,hb,hk,hne⟩:=hB;have hil:=lG hb;simp only[fE]at hl;refine aF (N:=21) Tryz.func167 rfl rfl z6 λhb'=> ?_;refine ZT 10 (a4 EG BG qJ hb) ?_;refine kH (enc:=Dg.enc) (sz:=5) Dg.enc_len lN z7 (cv:=dv) (xs:=ds) (a:=⟨code,0,st,en,[]⟩) (oH hb) rfl z7 z7 (kV hb) (kV hb) hk tU rfl (by show(_+1)*48<=_;omega) (by simp only[maxLen];omega) (by rw[tU];rfl) KW rfl ?_;intro cv3 cid3 HA hk3 hc3 hl3 hs3;have hb3:HA[ib]? =some (.row [.str src, .int .i64 ((off:Nat):Int),dv]):=by rw[hs3 ib hil hne];exact hb
 have hi3:=lG hb3;have hcv1:=hk3.cell.1;have hcv2:=hk3.cell.2;have hs4:∀o,(HA.set ib o)[ib]? =some o:=λo=>aQx hi3;have nB3:(ib=HA.length)=False:=by simp;omega
 refine ZX (a5 EG BG qJ hb (a5 hb3 hs4 nB3 hcv1 hcv2)) ?_;refine⟨.inl rfl,_,rfl, ?_⟩;have hne3:ib∉cid3:=λh=>by rcases hc3 ib h with h|h;exact hne h;omega
 refine⟨rfl,cid3,⟨cv3,hs4 _,hk3.fr λi hi=>aQy (by rintro rfl;exact hne3 hi),hne3⟩,by rw[lS];exact hl3,λid h1 h2=> ?_,λid h1 h2=> ?_⟩
 ·rw[aQy (by rintro rfl;exact h2 z6)];exact hs3 id h1 λh=>h2 (aSd _ h)
 ·rcases aRs.1 h1 with rfl|h1
  ·simp
  ·rcases hc3 id h1 with h|h
   ·exact aSd _ h
   ·omega
set_option maxRecDepth 4000
theorem yH{i ib:Nat}{cid cid1:List Nat}{H H1:aC}{o:AObj}(f:Fr (ib::cid) (ib::cid1) H H1)(hr:H[i]? =some o)(hib:i≠ib)(hic:i∉cid):H1[i]? =some o/\i∉cid1/\Fr (i::ib::cid) (i::ib::cid1) H H1:=by
 have hl:=lG hr;have hn:i∉ib::cid:=by simp[hib,hic]
 refine⟨by rw[f.same i hl hn];exact hr,λh=>hn (f.ids i (by simp[h]) hl),f.len,λid h1 h2=>f.same id h1 λh=>h2 (aSd _ h),λid h1 h2=> ?_⟩;rcases aRs.1 h1 with rfl|h1
 ·simp
 ·exact aSd _ (f.ids id h1 h2)
theorem gN.set{src:List UInt8}{off:Nat}{ds:List Dg}{ib i:Nat}{cid:List Nat}{H:aC}(h:gN src off ds ib cid H)(h1:i≠ib)(h2:i∉cid)(o:AObj):gN src off ds ib cid (H.set i o):=h.fr λj hj=>aQy (by rintro rfl;rcases hj with rfl|hj;exact h1 rfl;exact h2 hj)
theorem Fr.setI{i ib:Nat}{cid cid1:List Nat}{H H1:aC}(f:Fr (i::ib::cid) (i::ib::cid1) H H1)(o:AObj):Fr (i::ib::cid) (i::ib::cid1) H (H1.set i o):=
 ⟨by rw[lS];exact f.len,λid h1 h2=>by rw[aQy (by rintro rfl;exact h2 z6)];exact f.same id h1 h2,f.ids⟩
theorem aEi{src:List UInt8}{off ib i:Nat}{ds:List Dg}{cid:List Nat}{H:aC}{n:Nd}{cv:PV}(hB:gN src off ds ib cid H)(hl:ds.length<fE)(hr:H[i]? =some (.row [.int .i64 n.kind, .int .i64 n.value, .str n.text, .int .i64 n.st, .int .i64 n.en, .int .i64 n.ns,cv]))(hib:i≠ib)(hic:i∉cid)(text:List UInt8)(st:Int):aL Tryz.prog 168 [.optr ib 0, .optr i 0, .str text, .int .i64 st] H λr H'=>r= .tup []/\∃cid',gN src off (ds++(if decide ((text.length:Int)>30)=true then [rD 5 st off]else [])) ib cid' H'/\H'[i]? =some (.row [.int .i64 (dE n text st).kind, .int .i64 (dE n text st).value, .str (dE n text st).text, .int .i64 (dE n text st).st, .int .i64 (dE n text st).en, .int .i64 (dE n text st).ns,cv])/\i∉cid'/\Fr (i::ib::cid) (i::ib::cid') H H':=by
 obtain⟨dv,hb,hk,hne⟩:=id hB;have hil:=lG hb;refine aF (N:=38) Tryz.func168 rfl rfl z6 λhb'=> ?_;refine ZE (a3 y3 y9 hb) ?_;refine ZI hb (λbt10=> ?_) (λbt10=> ?_)
 ·
  refine ZT 6 (a3 y3 qJ hb) ?_;refine ZA hb uG (mV hB hl 5 st off) ?_;rintro _ H1 ⟨rfl,cid1,hB1,f0⟩;refine oN ?_;refine wQ ?_;obtain⟨hr1,hic1,f1⟩:=yH f0 hr hib hic;have hil1:=lG hr1;have hs1:∀o,(H1.set i o)[i]? =some o:=λo=>aQx hil1;have hs2:∀o o2,(H1.set i o).set i o2=H1.set i o2:=λo o2=>List.set_set ..;have nI:(i=H1.length)=False:=by simp;omega
  have hib1:=hib;have hd:ds++ [rD 5 st off]=ds++(if decide ((text.length:Int)>30)=true then [rD 5 st off]else []):=by rw[if_pos bt10]<;>simp
  rw[hd]at hB1;refine wR ?_;refine bH ?_;refine ZgT 4 (a5 y3 cW hb hr1 (a3 hs1 hs2 nI)) ?_;refine ZgP (a5 hb hr1 hs1 hs2 nI) aB3 (λhc=>GH n.kind _) ?_;refine ZgX (a5 y3 cW hb hr1 (a3 hs1 hs2 nI)) ?_;refine ZI hb (λbt29=> ?_) (λbt29=> ?_)
  ·
   have hx:dE n text st=XO n text st:=by unfold dE;rw[if_pos bt29]
   refine ZL [1,2,3] hb ?_;refine ZE (a5 y3 y9 cW hb (a4 hr1 hs1 hs2 nI)) ?_;refine⟨(by first|exact .inl rfl|exact .inl trivial|trivial),_,rfl, ?_⟩;rw[hx];first|exact⟨rfl,_,hB1,hr1,hic1,f1⟩|exact⟨rfl,_,hB1.set hib1 hic1 _,hs1 _,hic1,f1.setI _⟩
  ·
   have hx:dE n text st=n:=by unfold dE;rw[if_neg (by rw[bt29];simp)]
   refine qK ?_;refine⟨(by first|exact .inl rfl|exact .inl trivial|trivial),_,rfl, ?_⟩;rw[hx];first|exact⟨rfl,_,hB1,hr1,hic1,f1⟩|exact⟨rfl,_,hB1.set hib1 hic1 _,hs1 _,hic1,f1.setI _⟩
 ·
  have hB1:=hB;have f0:=Fr.refl (ib::cid) H;refine qK ?_;refine wQ ?_;obtain⟨hr1,hic1,f1⟩:=yH f0 hr hib hic;have hil1:=lG hr1;have hs1:∀o,(H.set i o)[i]? =some o:=λo=>aQx hil1;have hs2:∀o o2,(H.set i o).set i o2=H.set i o2:=λo o2=>List.set_set ..;have nI:(i=H.length)=False:=by simp;omega
  have hib1:=hib;have hd:ds=ds++(if decide ((text.length:Int)>30)=true then [rD 5 st off]else []):=by rw[if_neg (by rw[bt10];simp)]<;>simp
  rw[hd]at hB1;refine wR ?_;refine bH ?_;refine ZgT 4 (a5 y3 cW hb hr1 (a3 hs1 hs2 nI)) ?_;refine ZgP (a5 hb hr1 hs1 hs2 nI) aB3 (λhc=>GH n.kind _) ?_;refine ZgX (a5 y3 cW hb hr1 (a3 hs1 hs2 nI)) ?_;refine ZI hb (λbt29=> ?_) (λbt29=> ?_)
  ·
   have hx:dE n text st=XO n text st:=by unfold dE;rw[if_pos bt29]
   refine ZL [1,2,3] hb ?_;refine ZE (a5 y3 y9 cW hb (a4 hr1 hs1 hs2 nI)) ?_;refine⟨(by first|exact .inl rfl|exact .inl trivial|trivial),_,rfl, ?_⟩;rw[hx];first|exact⟨rfl,_,hB1,hr1,hic1,f1⟩|exact⟨rfl,_,hB1.set hib1 hic1 _,hs1 _,hic1,f1.setI _⟩
  ·
   have hx:dE n text st=n:=by unfold dE;rw[if_neg (by rw[bt29];simp)]
   refine qK ?_;refine⟨(by first|exact .inl rfl|exact .inl trivial|trivial),_,rfl, ?_⟩;rw[hx];first|exact⟨rfl,_,hB1,hr1,hic1,f1⟩|exact⟨rfl,_,hB1.set hib1 hic1 _,hs1 _,hic1,f1.setI _⟩
open Go.RowKit
theorem EL{P:Program}{f:FuncId}{args:List PV}{H:aC}{Q:PV->Prop}(h:∀(E:aE) (vargs:Array Value),E.Ok->E.H=H->RL E.view vargs args->Calls P f vargs E.w λe w'=>∃v r,e= .returned v/\aM E.view v r/\Q r/\Below E.w.heap.size E.w w'):aL P f args H λr' H'=>Q r'/\H'=H:=by
 intro E vargs ho hH hrl;refine(h E vargs ho hH hrl).mono λe w' ⟨v,r,he,hv,hq,hb⟩=> ?_
 let E':aE:= {E with w:=w'}
 have hview:E.view.le E'.view:=by
  refine⟨λa v hc=> ?_,λid h=>h,λid _=>rfl,λid t' _ ht=>⟨t',ht, .inl rfl⟩⟩;simp only[aE.view,E']at hc⊢
  split at hc
  ·rename_i hs;rw[if_pos hs];exact EC hb _ _ hc
  ·cases hc
 refine⟨E',v,r,he,rfl,⟨hb.os,hb.tape,hb.output,hb.size,λb hlt _=>⟨rfl,hb.block b hlt⟩,hview,λb _=>id⟩, ?_,hv.mono hview,hq,hH⟩;refine⟨?_, ?_,ho.injr,ho.injb,ho.globs_of hview.cell λ_ _ _ h=>h,ho.objs.of hview λid k hi=>⟨hi,rfl,hb.block _ (ho.objs.lt hi),rfl⟩⟩
 ·intro id cs hi;obtain⟨arr,elem,h1,h2,h3,h4⟩:=ho.rows id cs hi;exact⟨arr,elem,(hb.block _ (ho.rowBlock hi)).trans h1,h2,λi hl=>(h3 i hl).mono hview,h4⟩
 ·intro id n sz b hi hb';obtain⟨arr,elem,pos,h1,h2⟩:=ho.bufs id n sz b hi hb';exact⟨arr,elem,pos,(hb.block _ (ho.bufBlock hi hb')).trans h1,h2⟩
end Go.Abs
set_option maxRecDepth 4000
namespace Go.Abs
open Go.Proofs
open Go.RowKit
def oD(e3 e4:Value)(H:aC):Prop:=H[1]? =some (.glob 3 [e3])/\H[2]? =some (.glob 4 [e4])/\(e3= .nilIface\/∃te pe,e3= .iface te pe)/\(e4= .nilIface\/∃te pe,e4= .iface te pe)
theorem aIx{e3 e4:Value}(t:List UInt8)(hs:t.length<=281474976710656){H:aC}(hE:oD e3 e4 H):aL Tryz.prog 242 [.str t] H λr' H'=>(∃v q,r'= .tup [.int .i64 v, .ifc q]/\match Lib.atoiAll t with
  | .ok x=>v=x/\q=none
  |_=>q.isSome=true)/\H'=H:=by
 obtain⟨h1,h2,h3,h4⟩:=hE;refine EL λE vargs ho hH hrl=> ?_;obtain⟨v0,rfl,h0⟩:=XA hrl;have c3:=yF ho (by rw[hH];exact h1) (i:=0) z6;have c4:=yF ho (by rw[hH];exact h2) (i:=0) z6;cases h0 with
 |str z=>
  have hz:z.size<=281474976710656:=by rw[Lib.size_eq];exact hs
  have htup:∀(a:Int) (x:Value) (q:Option (TypeId×Value)),aM E.view x (.ifc q)->aM E.view (.tuple #[.int .i64 a,x]) (.tup [.int .i64 a, .ifc q]):=λa x q hx=>.tup _ _ rfl λi hi=>by
   match i,hi with
   |0,_=>exact .int _ _
   |1,_=>exact hx
  cases hat:Lib.atoiAll z.data.toList with
  |ok v=>
   refine(Tryz.strconv_Atoi_ok z z8 v hat E.w).mono λe w' ⟨q1,q2⟩=>⟨_,_,q1,htup v _ none .nili,⟨v,none,rfl,⟨rfl,rfl⟩⟩, ?_⟩;rcases q2 with rfl| ⟨t,rfl⟩
   ·exact⟨rfl,rfl,rfl,aQj _,λ_ _=>rfl⟩
   ·exact Lib.bytesWorld_below _ _ _
  |range=>exact(Tryz.strconv_Atoi_range z hz hat e4 E.w c4 h4).mono λe w' ⟨N,q1,_,_,q4⟩=>⟨_,_,q1,htup _ _ _ (.ifc _ _),⟨_,_,rfl,rfl⟩,q4⟩
  |_=>exact(Tryz.strconv_Atoi_syn z hz (λx=>by rw[hat];intro q;cases q) (by rw[hat];intro q;cases q) e3 E.w c3 h3).mono λe w' ⟨N,q1,_,_,q4⟩=>⟨_,_,q1,htup 0 _ _ (.ifc _ _),⟨_,_,rfl,rfl⟩,q4⟩
def EU(t:List UInt8):Int:=match yT t with|some v=>v|none=>2147483647
def IS(t:List UInt8)(st en:Int):List Dg:=match yT t with|some _=> []|none=> [rD 4 st en]
theorem VZ{src:List UInt8}{off ib:Nat}{ds:List Dg}{cid:List Nat}{H:aC}{e3 e4:Value}(hE:oD e3 e4 H)(hB:gN src off ds ib cid H)(hl:ds.length<fE)(text:List UInt8)(st:Int)(hs:text.length<=281474976710656):aL Tryz.prog 169 [.optr ib 0, .str text, .int .i64 st] H λr H'=>r= .int .i64 (EU text)/\∃cid',gN src off (ds++IS text st off) ib cid' H'/\Fr (ib::cid) (ib::cid') H H':=by
 obtain⟨dv,hb,hk,hne⟩:=id hB;refine aF (N:=28) Tryz.func169 rfl rfl z6 λhb'=> ?_;refine ZE hb ?_;refine ZT 1 hb ?_;refine ZA hb aLx (aIx text hs hE) ?_;rintro _ _ ⟨⟨v,q,rfl,hv⟩,rfl⟩;refine ZX hb ?_;have hcs:(q=none/\v<=2147483647/\yT text=some v)\/(q=none/\v>2147483647/\yT text=none)\/(q.isSome=true/\yT text=none):=by
  unfold yT
  split at hv
  ·rename_i x hx;rw[hx,hv.1]
   by_cases c:x>2147483647
   ·exact .inr (.inl ⟨hv.2,c,by simp[UN,c]⟩)
   ·exact .inl ⟨hv.2,z8,by simp[UN,c]⟩
  ·rename_i hx;refine .inr (.inr ⟨hv, ?_⟩);unfold UN
   split
   ·rename_i y hy;exact absurd hy (hx y)
   ·rfl
 rcases hcs with⟨rfl,hle,hg⟩| ⟨rfl,hgt,hg⟩| ⟨hq,hg⟩
 ·
  have gl:decide (v>2147483647)=false:=decide_eq_false z8;have hI:EU text=v:=by unfold EU;rw[hg]
  have hD:IS text st off= []:=by unfold IS;rw[hg]
  refine wQ ?_;refine wR ?_;refine eT 1 (by simp only[kA,seval,aA,qG,hb,gl,aRj]<;>with_reducible rfl) z7 ?_;refine tE Tryz.underlying128 (oH tN) rfl z7 (kV tN) ?_;refine iX (by simp only[kA,seval,y3,aA,qG,hb,gl,aRj]<;>with_reducible rfl) z7 ?_;refine wQ ?_;refine wF rfl (by simp only[jN,seval,aA,qG,hb,gl,aRj]<;>with_reducible rfl) ?_;refine qK ?_;refine wQ ?_;refine eE (by simp only[kA,seval,aA,qG,hb,gl,aRj]<;>with_reducible rfl) z7 ?_;refine wQ ?_;refine wT ⟨.inr rfl,_,rfl, ?_⟩;rw[hI,hD,aR0];exact⟨rfl,cid,hB,Fr.refl _ _⟩
 ·
  have gl:decide (v>2147483647)=true:=decide_eq_true z8;have hI:EU text=2147483647:=by unfold EU;rw[hg]
  have hD:IS text st off= [rD 4 st off]:=by unfold IS;rw[hg]
  refine wQ ?_;refine wR ?_;refine eT 1 (by simp only[kA,seval,aA,qG,hb,gl,aRj]<;>with_reducible rfl) z7 ?_;refine tE Tryz.underlying128 (oH tN) rfl z7 (kV tN) ?_;refine iX (by simp only[kA,seval,y3,aA,qG,hb,gl,aRj]<;>with_reducible rfl) z7 ?_;refine wQ ?_;refine bP rfl (by simp only[jN,seval,aA,qG,hb,gl,aRj]<;>with_reducible rfl) ?_;refine wQ ?_;refine wR ?_;refine eT 6 (by simp only[kA,seval,y3,qJ,aA,qG,hb,gl,aRj]<;>with_reducible rfl) z7 ?_;refine oC (by simp only[kC,seval,aA,qG,hb,gl,aRj]<;>with_reducible rfl) (by simp only[kC,seval,aA,qG,hb,gl,aRj]) z7 uG (mV hB hl 4 st off) ?_;rintro _ H1 ⟨rfl,cid1,hB1,f1⟩;refine oN ?_;refine wL [] (by simp only[jN,seval,aA,qG,hb,gl,aRj]<;>with_reducible rfl) ?_;refine wQ ?_;refine eE (by simp only[kA,seval,aA,qG,hb,gl,aRj]<;>with_reducible rfl) z7 ?_;refine wQ ?_;refine wT ⟨.inr rfl,_,rfl, ?_⟩;rw[hI,hD];exact⟨rfl,cid1,hB1,f1⟩
 ·
  have hI:EU text=2147483647:=by unfold EU;rw[hg]
  have hD:IS text st off= [rD 4 st off]:=by unfold IS;rw[hg]
  refine ZT 1 (a2 hb hq) ?_;refine tE Tryz.underlying128 (oH tN) rfl z7 (kV tN) ?_;refine ZX (a3 y3 hb hq) ?_;refine ZG (a2 hb hq) ?_;refine ZT 6 (a4 y3 qJ hb hq) ?_;refine ZA (a2 hb hq) uG (mV hB hl 4 st off) ?_;rintro _ H1 ⟨rfl,cid1,hB1,f1⟩;refine oN ?_;refine ZL [] (a2 hb hq) ?_;refine ZE (a2 hb hq) ?_;refine wQ ?_;refine wT ⟨.inr rfl,_,rfl, ?_⟩;rw[hI,hD];exact⟨rfl,cid1,hB1,f1⟩
end Go.Abs
namespace Go.Abs
open Go.Proofs Go.RowKit
theorem OF{E0:aE}{nb nb':Nat}(h:nb<=nb'):UB nb' (λE=>E0.leN nb E):=λE E' hC ho hle _=>hC.trans (hle.cut h)
theorem aAg{l:List UInt8}{p:Int}(h:l.length<=1):lW l p=([],[]):=by
 match l,h with
 | [],_=>rfl
 | [_],_=>rfl
theorem aN9{src:List UInt8}{off ib:Nat}{ds:List Dg}{cid:List Nat}{H:aC}(hB:gN src off ds ib cid H)(text:List UInt8)(st:Nat)(hl:ds.length+text.length<fE)(hst:st+text.length<fE):
  aL Tryz.prog 170 [.optr ib 0, .str text, .int .i64 (st:Int)] H λr H'=>r= .str (yC text st).1/\∃cid',gN src off (ds++(yC text st).2) ib cid' H'/\Fr (ib::cid) (ib::cid') H H':=by
 have hil:=hB.lt ib (.inl rfl);simp only[fE]at hl hst;refine aBx (N:=46) Tryz.func170 rfl rfl z6 λhb' E0 ho0 hH0=> ?_
 repeat (refine wN ?_)
 refine xP (OF (aQj _)) ?_;refine eE (Za tN) z7 ?_;refine lI ?_
 repeat (refine wN ?_)
 refine aBr ?_;refine aJp (aQj _) rfl rfl rfl ?_;refine OI ?_;refine lI ?_
 repeat (refine wN ?_)
 refine xP (aB1 (nb':=H.length+1) z8 z8) ?_;refine eE (Za tN) z7 ?_;refine lI ?_
 repeat (refine wN ?_)
 refine QX ?_;refine aFx [(0, .optr ib 0),(1, .str text),(2, .int .i64 (st:Int)),(7, .optr H.length 0),(8, .int .i64 ((1:Nat):Int))] (by intro p hp;simp only[aRs,aR2,or_false]at hp;rcases hp with rfl|rfl|rfl|rfl|rfl<;>rfl) ?_;refine aLz (λn E T=>∃p out reps cid1,n=text.length-p/\1<=p/\T=tB [(0, .optr ib 0),(1, .str text),(2, .int .i64 (st:Int)),(7, .optr H.length 0),(8, .int .i64 ((p:Nat):Int))]/\Bx E0 H.length H.length out E/\gN src off (ds++reps) ib cid1 E.H/\Fr (ib::cid) (ib::cid1) H E.H/\
  lW (text.drop 1) ((st:Int)+1)=(out++(lW (text.drop p) ((st:Int)+p)).1,reps++(lW (text.drop p) ((st:Int)+p)).2)/\out.length<=p/\reps.length+1<=p/\p<=text.length+1) (text.length-1) ?_ ?_
 ·intro E hC ho hH;refine⟨1,[],[],cid,z8,aQj _,rfl,hC, ?_, ?_,z6,z6,z6,z8⟩
  ·rw[hH,aR0];exact hB.app _
  ·rw[hH];exact(Fr.refl _ _).app _
 intro n E a T ⟨p,out,reps,cid1,hn,hp1,hT,hbx,hBd,hFr,hu,ho1,ho2,ho3⟩ ho ht;subst hT;generalize hH1:E.H=H1 at hBd hFr;refine(?_:X Tryz.prog 46 (Bx E0 H.length H.length out) _ _ _ H1) E a hbx ho hH1 ht;clear hbx ht ho hH1;have hst:∀l,UB (H.length+1) (Bx E0 H.length H.length l):=λl=>aB1 z8 z8;have gw1:IntKind.i64.wrap (((text.length:Nat):Int) -1)=((text.length:Nat):Int) -1:=aZ z8 z8
 repeat (refine wN ?_)
 refine xP (hst out) ?_;refine eE (Za (a3 y3 y9 gw1)) z7 ?_;refine lI ?_
 by_cases hc:p+1<text.length
 ·have gc:decide (((p:Nat):Int)<((text.length:Nat):Int) -1)=true:=decide_eq_true z8;refine xP (hst out) ?_;refine bP rfl (Zn gc) ?_;refine wK ?_;refine lI ?_;obtain⟨c0,d,r,hdr⟩:∃c0 d r,text.drop p=c0::d::r:=by
   have h1:p<text.length:=z8
   exact⟨text[p],text[p+1],text.drop (p+2),by rw[aR6 h1,aR6 hc]⟩
  have gi0:=bA (n:=text.length) (i:=p) z8;have gi1:=bA (n:=text.length) (i:=p+1) z8;have g0:text[p]? =some c0:=by have:=congrArg (·[0]?) hdr;simpa using this
  have g1:text[p+1]? =some d:=by have:=congrArg (·[1]?) hdr;simpa using this
  have hd1:text.drop (p+1)=d::r:=by have:=congrArg (·.drop 1) hdr;simpa using this
  have hd2:text.drop (p+2)=r:=by have:=congrArg (·.drop 2) hdr;simpa using this
  repeat (refine wN ?_)
  refine QX ?_
  repeat (refine wN ?_)
  refine xP (hst out) ?_;refine eE (Za (a5 y3 y5 y9 g0 gi0)) z7 ?_;refine lI ?_
  repeat (refine wN ?_)
  refine xP (hst out) ?_;refine eE (Za (a3 y3 y5 y9)) z7 ?_;refine lI ?_;refine aHp (Q:=λe T' H'=>e= .normal/\∃(c:UInt8) (p':Nat) (rp:List Dg) (cid':List Nat),T' 0= .optr ib 0/\T' 1= .str text/\T' 2= .int .i64 (st:Int)/\T' 7= .optr H.length 0/\T' 8= .int .i64 ((p':Nat):Int)/\T' 9= .int .u8 c.toNat/\gN src off (ds++(reps++rp)) ib cid' H'/\Fr (ib::cid) (ib::cid') H H'/\p<=p'/\p'+1<=text.length/\
   lW (text.drop p) ((st:Int)+p)=(c::(lW (text.drop (p'+1)) ((st:Int)+(p'+1:Nat))).1,rp++(lW (text.drop (p'+1)) ((st:Int)+(p'+1:Nat))).2)/\rp.length<=1) (hst out) ?_ ?_
  ·have key:∀(H':aC) (c:UInt8) (p':Nat) (rp:List Dg) (cid':List Nat) (T':aD),(T' 0= .optr ib 0/\T' 1= .str text/\T' 2= .int .i64 (st:Int)/\T' 7= .optr H.length 0/\T' 8= .int .i64 ((p':Nat):Int)/\T' 9= .int .u8 c.toNat)->gN src off (ds++(reps++rp)) ib cid' H'/\Fr (ib::cid) (ib::cid') H H'/\p<=p'/\p'+1<=text.length/\
    lW (text.drop p) ((st:Int)+p)=(c::(lW (text.drop (p'+1)) ((st:Int)+(p'+1:Nat))).1,rp++(lW (text.drop (p'+1)) ((st:Int)+(p'+1:Nat))).2)/\rp.length<=1->Exit.normal=Exit.normal/\∃(c:UInt8) (p':Nat) (rp:List Dg) (cid':List Nat),T' 0= .optr ib 0/\T' 1= .str text/\T' 2= .int .i64 (st:Int)/\T' 7= .optr H.length 0/\T' 8= .int .i64 ((p':Nat):Int)/\T' 9= .int .u8 c.toNat/\gN src off (ds++(reps++rp)) ib cid' H'/\Fr (ib::cid) (ib::cid') H H'/\p<=p'/\p'+1<=text.length/\
    lW (text.drop p) ((st:Int)+p)=(c::(lW (text.drop (p'+1)) ((st:Int)+(p'+1:Nat))).1,rp++(lW (text.drop (p'+1)) ((st:Int)+(p'+1:Nat))).2)/\rp.length<=1:=λH' c p' rp cid' T' ⟨h0,h1,h2,h3,h4,h5⟩ ⟨k1,k2,k3,k4,k5,k6⟩=>⟨rfl,c,p',rp,cid',h0,h1,h2,h3,h4,h5,k1,k2,k3,k4,k5,k6⟩
   have hBr:gN src off (ds++(reps++ [])) ib cid1 H1:=by rw[aR0];exact hBd
   have e2:(st:Int)+p+2=(st:Int)+(p+1+1:Nat):=z8
   have e1:(st:Int)+p+1=(st:Int)+(p+1:Nat):=z8
   refine wC rfl (Zn tN) (λb1=> ?_) (λb1=> ?_)
   ·have hc92:c0=92:=by
     have h:=of_decide_eq_true b1;have h:c0.toNat=92:=z8
     exact UInt8.toNat_inj.1 h
    have e3:text.drop (p+1+1)=r:=hd2;have gw3:IntKind.i64.wrap (((p:Nat):Int)+1)=((p+1:Nat):Int):=by rw[aZ z8 z8];omega
    refine ZE (a2 y3 gw3) ?_;refine ZE (a3 y9 g1 gi1) ?_;refine WG [0,1,2,7,8,9] ?_;refine jU ?_;refine qB ?_;refine ZE y5 ?_;refine xA (λb2=> ?_) (λb2=> ?_)
    ·have hd110:d=110:=by
      have h:=of_decide_eq_true b2;have h:d.toNat=110:=z8
      exact UInt8.toNat_inj.1 h
     refine ZE y5 ?_;refine key H1 10 (p+1) [] cid1 _ ⟨rfl,rfl,rfl,rfl,rfl,rfl⟩ ⟨hBr,hFr,z8,z8, ?_,z6⟩;rw[hdr,lW,if_pos hc92,e3,<-e2];simp[hd110]
    ·have hd110:¬d=110:=by rintro rfl;simp at b2
     refine ZE y5 ?_;refine xA (λb3=> ?_) (λb3=> ?_)
     ·have hd34:d=34:=by
       have h:=of_decide_eq_true b3;have h:d.toNat=34:=z8
       exact UInt8.toNat_inj.1 h
      refine wK ?_;refine ZG b3 ?_;refine wK ?_;refine key H1 d (p+1) [] cid1 _ ⟨rfl,rfl,rfl,rfl,rfl,rfl⟩ ⟨hBr,hFr,z8,z8, ?_,z6⟩;rw[hdr,lW,if_pos hc92,e3,<-e2];simp[hd110,hd34]
     ·have hd34:¬d=34:=by rintro rfl;simp at b3
      refine ZE y5 ?_;refine xA (λb4=> ?_) (λb4=> ?_)
      ·have hd92:d=92:=by
        have h:=of_decide_eq_true b4;have h:d.toNat=92:=z8
        exact UInt8.toNat_inj.1 h
       refine wK ?_;refine key H1 d (p+1) [] cid1 _ ⟨rfl,rfl,rfl,rfl,rfl,rfl⟩ ⟨hBr,hFr,z8,z8, ?_,z6⟩;rw[hdr,lW,if_pos hc92,e3,<-e2];simp[hd110,hd34,hd92]
      ·have hd92:¬d=92:=by rintro rfl;simp at b4
       have ga1:IntKind.i64.wrap ((st:Int)+((p+1:Nat):Int))=(st:Int)+((p+1:Nat):Int):=aZ z8 z8;have ga2:IntKind.i64.wrap ((st:Int)+((p+1:Nat):Int) -1)=(st:Int)+p:=by rw[aZ z8 z8];omega
       have ga3:IntKind.i64.wrap ((st:Int)+((p+1:Nat):Int)+1)=(st:Int)+p+2:=by rw[aZ z8 z8];omega
       have ga4:=True.intro;refine ZT 9 (a5 y3 ga1 ga2 ga3 ga4) ?_;refine ZA0 uG (mV hBd (by simp only[aRf,fE];omega) 6 ((st:Int)+p) ((st:Int)+p+2)) ?_;rintro _ H2 ⟨rfl,cid2,hB2,f2⟩;refine oN ?_;rw[aR4]at hB2;refine key H2 d (p+1) [rD 6 ((st:Int)+p) ((st:Int)+p+2)] cid2 _ ⟨rfl,rfl,rfl,rfl,rfl,rfl⟩ ⟨hB2,hFr.trans f2,z8,z8, ?_,z6⟩;rw[hdr,lW,if_pos hc92,e3,<-e2];simp[hd110,hd34,hd92]
   ·refine wK ?_;refine key H1 c0 p [] cid1 _ ⟨rfl,rfl,rfl,rfl,rfl,rfl⟩ ⟨hBr,hFr,aQj _,z8, ?_,z6⟩;have hc92:¬c0=92:=by rintro rfl;simp at b1
    rw[hdr,lW,if_neg hc92,hd1,<-e1];rfl
  ·rintro _ T' H' ⟨rfl,c,p',rp,cid',t0,t1,t2,t7,t8,t9,hBd',hFr',hp',hpl,hu',hrp⟩;refine lI ?_;refine aFx [(0, .optr ib 0),(1, .str text),(2, .int .i64 (st:Int)),(7, .optr H.length 0),(8, .int .i64 ((p':Nat):Int)),(9, .int .u8 c.toNat)] (by intro p hp;simp only[aRs,aR2,or_false]at hp;rcases hp with rfl|rfl|rfl|rfl|rfl|rfl<;>assumption) ?_;refine aBr ?_;refine aFj (hst out) rfl z7 (Za tN) ?_;refine SD (C':=Bx E0 H.length H.length (out++ [c])) (R:=λr H''=>r= .ifc none/\H''=H') (Zc tN) (oH tN) z7 aJ0 (λE vargs hC ho hH hrl=>aO1 z8 E vargs hC ho hH hrl) ?_;rintro _ _ ⟨rfl,rfl⟩;refine OI ?_;refine lI ?_;have gw2:IntKind.i64.wrap (((p':Nat):Int)+1)=((p'+1:Nat):Int):=by rw[aZ z8 z8];omega
   refine xP (hst (out++ [c])) ?_;refine eE (Za (a2 y3 gw2)) z7 ?_;intro E a hC ho hH ht;refine⟨text.length- (p'+1),E,_,z8,rfl,⟨p'+1,out++ [c],reps++rp,cid',rfl,z8,rfl,hC,by rw[hH];exact hBd',by rw[hH];exact hFr', ?_,by simp;omega,by simp;omega,z8⟩,ho,ht.sel (JO _ ?_)⟩
   ·rw[hu,hu'];simp
   ·intro p hp;simp only[aRs,aR2,or_false]at hp;rcases hp with rfl|rfl|rfl|rfl|rfl<;>rfl
 ·have gc:decide (((p:Nat):Int)<((text.length:Nat):Int) -1)=false:=decide_eq_false z8;refine xP (hst out) ?_;refine wF rfl (Zn gc) ?_;refine bG ?_;refine lI ?_
  repeat (refine wN ?_)
  refine aBr ?_;refine SD (C':=λE=>E0.leN H.length E) (R:=λr H'=>r= .str out/\H'=H1) (Zc tN) (oH tN) z7 aOj (λE vargs hC ho hH hrl=>aM8 E vargs hC ho hH hrl) ?_;rintro _ _ ⟨rfl,rfl⟩;refine aFj (OF (aQj _)) rfl z7 (Za tN) ?_;refine OI ?_;refine lI ?_;refine xP (OF (aQj _)) ?_;refine wT ?_;intro E a hC ho hH ht;rw[aAg (l:=text.drop p) (by rw[aQ5];omega),aR0,aR0]at hu;refine⟨E,_,rfl,hC,ho,ht, .inr rfl,_,rfl, ?_⟩;unfold yC;rw[hu,hH];exact⟨rfl,cid1,hBd,hFr⟩
end Go.Abs
set_option maxRecDepth 4000
namespace Go.Abs
open Go.Proofs
theorem oD.fr{e3 e4:Value}{F F':List Nat}{H H':aC}(h:oD e3 e4 H)(f:Fr F F' H H')(h1:1∉F)(h2:2∉F):oD e3 e4 H':=⟨by rw[f.same 1 (lG h.1) h1];exact h.1,by rw[f.same 2 (lG h.2.1) h2];exact h.2.1,h.2.2⟩
theorem gN.glob{src:List UInt8}{off ib i:Nat}{ds:List Dg}{cid:List Nat}{H:aC}(h:gN src off ds ib cid H){b:Nat}{vs:List Value}(hi:H[i]? =some (.glob b vs)):i≠ib/\i∉cid:=by
 obtain⟨dv,h1,h2,h3⟩:=h;refine⟨λe=>(by rw[e,h1]at hi;cases hi),λe=> ?_⟩;cases h2 with
 |nil=>cases e
 |msl hH _ _=>rw[aRz]at e;rw[e,hH]at hi;cases hi
theorem aDh{src:List UInt8}{ib i off:Nat}{t:St}{n:Nd}{cv:PV}{ds:List Dg}{cid:List Nat}{H0:aC}{e3 e4:Value}(hE:oD e3 e4 H0)(hB:gN src off ds ib cid H0)(hr:H0[i]? =some (.row [.int .i64 n.kind, .int .i64 n.value, .str n.text, .int .i64 n.st, .int .i64 n.en, .int .i64 n.ns,cv]))(hib:i≠ib)(hic:i∉cid)(hl:ds.length+t.text.length<fE)(hlt:off+t.text.length<fE):
  aL Tryz.prog 104 [.optr ib 0, .optr i 0,t.enc] H0 λr H'=>r= .tup []/\∃cid',gN src (off+t.text.length) (gJ t off n ds).2 ib cid' H'/\H'[i]? =some (.row [.int .i64 (gJ t off n ds).1.kind, .int .i64 (gJ t off n ds).1.value, .str (gJ t off n ds).1.text, .int .i64 (gJ t off n ds).1.st, .int .i64 (gJ t off n ds).1.en, .int .i64 (gJ t off n ds).1.ns,cv])/\i∉cid'/\Fr (i::ib::cid) (i::ib::cid') H0 H':=by
 obtain⟨dv,hb,hk,hne⟩:=id hB;simp only[fE]at hl hlt;have hbl:=lG hb;have hrl:=lG hr;have qb:=aB hb;have qr:=aB hr;have gw:IntKind.i64.wrap (((off:Nat):Int)+((t.text.length:Nat):Int))=((off+t.text.length:Nat):Int):=by rw[aZ z8 z8];omega
 have qs:∀L o,(H0++L).set ib o=H0.set ib o++L:=λL o=>ap6 hbl;have nB:(ib=H0.length)=False:=by simp;omega
 have nB2:∀k,(ib=H0.length+k)=False:=λk=>by simp;omega
 have nB3:(H0.length=ib)=False:=by simp;omega
 have hcell:=hk.cell;refine aF (N:=81) Tryz.func104 rfl rfl z6 λhb'=> ?_;refine ZE (a5 iN hb hr qb (a5 qr gw qs nB (a2 nB2 nB3))) ?_;refine ZE (a5 y3 qJ hb hr (a5 qb qr gw qs (a3 nB nB2 nB3))) ?_;refine wQ ?_;refine yU 0 (n0:=H0.length+1) (by first|rfl| (simp only[aRf,aQ0,aR1,Nat.reduceAdd,aRe,hb,hr,qb,qr,gw,qs,nB,nB2,nB3,lS];done)) (by kernel_rfl) ?_;refine uS 10 (by first|rfl| (simp only[aRf,aQ0,aR1,Nat.reduceAdd,aRe,hb,hr,qb,qr,gw,qs,nB,nB2,nB3,lS];done)) (Zp (a5 y3 y9 iN qJ (a5 hb hr qb qr (a5 gw qs nB nB2 nB3)))) z7 z7 z7 ?_;refine HN (by first| (simp only[LS,HS,aR4,aQf,aRy,hb,hr,qb,qr,gw,qs,nB,nB2,nB3,lS]<;>with_reducible rfl)|rfl) ?_;refine yA (bm:= [0,1,3,7,0,16,48,127,255,511,1023]) (fresh:=(H0.length+1)) (by kernel_rfl) (Zx (a5 y3 hb hr qb (a5 qr gw qs nB (a2 nB2 nB3)))) z7 (by repeat (first|exact dI.base _|with_reducible apply dI.keep|apply dI.drop)) ?_;refine ZL [0,1,5,6] (a5 hb hr qb qr (a5 gw qs nB nB2 nB3)) ?_;refine wQ ?_;refine dQ (λH1=>gN src (off+t.text.length) ds ib cid H1/\H1[i]? =some (.row [.int .i64 n.kind, .int .i64 n.value, .str n.text, .int .i64 n.st, .int .i64 n.en, .int .i64 n.ns,cv])/\H1[H0.length]? =some (.row [.int .i64 t.kind, .str t.text, .slice (t.ch.map St.enc) .none])/\Fr (i::ib::cid) (i::ib::cid) H0 H1/\oD e3 e4 H1) ?_ ?_
 ·refine⟨⟨dv,ap1 hbl,hk.fr λj hj=>by have:=hk.lt j hj;rw[QY this (by rintro rfl;exact hne hj)],hne⟩,by rw[QY hrl hib];exact hr,ap3 (k:=0),⟨z6,λid h1 h2=>QY h1 (λe=>h2 (by simp[e])),λid h _=>h⟩, ?_⟩;exact⟨by rw[QY (lG hE.1) (hB.glob hE.1).1];exact hE.1,by rw[QY (lG hE.2.1) (hB.glob hE.2.1).1];exact hE.2.1,hE.2.2⟩
 rintro H1 ⟨hB1,hr1,ht1,f1,hE1⟩;obtain⟨dv1,hb1,hk1,hne1⟩:=id hB1;have hil:=lG hr1;refine eE (Za (a5 y3 iN hb hr (a5 qb qr gw qs (a5 nB nB2 nB3 hb1 (a2 hr1 ht1))))) z7 ?_;refine qB ?_;have hcs:t.kind=101\/t.kind=102\/(t.kind=108/\t.text= [])\/(t.kind=108/\¬t.text= [])\/t.kind=103\/t.kind=105\/t.kind=106\/(t.kind≠101/\t.kind≠102/\t.kind≠108/\t.kind≠103/\t.kind≠105/\t.kind≠106):=by
  have h8:t.kind=101\/t.kind=102\/t.kind=108\/t.kind=103\/t.kind=105\/t.kind=106\/(t.kind≠101/\t.kind≠102/\t.kind≠108/\t.kind≠103/\t.kind≠105/\t.kind≠106):=z8
  by_cases h:t.text= []<;>rcases h8 with h1|h1|h1|h1|h1|h1|h1<;>simp[h,h1]
 rcases hcs with hk9|hk9| ⟨hk9,hte⟩| ⟨hk9,hte⟩|hk9|hk9|hk9| ⟨hk9,hk8,hk7,hk6,hk5,hk4⟩
 ·
  have g101:decide (t.kind=101)=true:=decide_eq_true z8;have g102:decide (t.kind=102)=false:=decide_eq_false z8;have g108:decide (t.kind=108)=false:=decide_eq_false z8;have g103:decide (t.kind=103)=false:=decide_eq_false z8;have g105:decide (t.kind=105)=false:=decide_eq_false z8;have g106:decide (t.kind=106)=false:=decide_eq_false z8;have hx:gJ t off n ds=(n,ds):=by unfold gJ;simp only[g101,if_true,if_false,aQ9]
  refine ZE (a5 y3 hb hr qb (a5 qr gw qs nB (a5 nB2 nB3 g101 g102 (a5 g108 g103 g105 g106 (a3 hb1 hr1 ht1))))) ?_;refine ZG (a5 hb hr qb qr (a5 gw qs nB nB2 (a5 nB3 g101 g102 g108 (a5 g103 g105 g106 hb1 (a2 hr1 ht1))))) ?_;refine qK ?_;refine ZG (a5 hb hr qb qr (a5 gw qs nB nB2 (a5 nB3 g101 g102 g108 (a5 g103 g105 g106 hb1 (a2 hr1 ht1))))) ?_;refine wQ ?_;refine wT ⟨.inr rfl,_,rfl, ?_⟩;rw[hx];exact⟨rfl,cid,hB1,hr1,hic,f1⟩
 ·
  have g101:decide (t.kind=101)=false:=decide_eq_false z8;have g102:decide (t.kind=102)=true:=decide_eq_true z8;have g108:decide (t.kind=108)=false:=decide_eq_false z8;have g103:decide (t.kind=103)=false:=decide_eq_false z8;have g105:decide (t.kind=105)=false:=decide_eq_false z8;have g106:decide (t.kind=106)=false:=decide_eq_false z8;have hx:gJ t off n ds=(n,ds):=by unfold gJ;simp only[g101,g102,if_true,if_false,aQ9]
  refine ZE (a5 y3 hb hr qb (a5 qr gw qs nB (a5 nB2 nB3 g101 g102 (a5 g108 g103 g105 g106 (a3 hb1 hr1 ht1))))) ?_;refine ZF (a5 hb hr qb qr (a5 gw qs nB nB2 (a5 nB3 g101 g102 g108 (a5 g103 g105 g106 hb1 (a2 hr1 ht1))))) ?_;refine ZE (a5 y3 hb hr qb (a5 qr gw qs nB (a5 nB2 nB3 g101 g102 (a5 g108 g103 g105 g106 (a3 hb1 hr1 ht1))))) ?_;refine ZG (a5 hb hr qb qr (a5 gw qs nB nB2 (a5 nB3 g101 g102 g108 (a5 g103 g105 g106 hb1 (a2 hr1 ht1))))) ?_;refine wQ ?_;refine wT ⟨.inr rfl,_,rfl, ?_⟩;rw[hx];exact⟨rfl,cid,hB1,hr1,hic,f1⟩
 ·
  have g101:decide (t.kind=101)=false:=decide_eq_false z8;have g102:decide (t.kind=102)=false:=decide_eq_false z8;have g108:decide (t.kind=108)=true:=decide_eq_true z8;have g103:decide (t.kind=103)=false:=decide_eq_false z8;have g105:decide (t.kind=105)=false:=decide_eq_false z8;have g106:decide (t.kind=106)=false:=decide_eq_false z8;have ge:decide (t.text= [])=true:=decide_eq_true hte;have hx:gJ t off n ds=(n,ds++ [rD 1 off off]):=by unfold gJ;simp only[g101,g102,g108,ge,if_true,if_false,aQ9]
  refine ZE (a5 y3 hb hr qb (a5 qr gw qs nB (a5 nB2 nB3 g101 g102 (a5 g108 g103 g105 g106 (a4 hb1 hr1 ht1 ge))))) ?_;refine ZF (a5 hb hr qb qr (a5 gw qs nB nB2 (a5 nB3 g101 g102 g108 (a5 g103 g105 g106 hb1 (a3 hr1 ht1 ge))))) ?_;refine ZE (a5 y3 hb hr qb (a5 qr gw qs nB (a5 nB2 nB3 g101 g102 (a5 g108 g103 g105 g106 (a4 hb1 hr1 ht1 ge))))) ?_;refine ZF (a5 hb hr qb qr (a5 gw qs nB nB2 (a5 nB3 g101 g102 g108 (a5 g103 g105 g106 hb1 (a3 hr1 ht1 ge))))) ?_;refine ZE (a5 y3 hb hr qb (a5 qr gw qs nB (a5 nB2 nB3 g101 g102 (a5 g108 g103 g105 g106 (a4 hb1 hr1 ht1 ge))))) ?_;refine ZG (a5 hb hr qb qr (a5 gw qs nB nB2 (a5 nB3 g101 g102 g108 (a5 g103 g105 g106 hb1 (a3 hr1 ht1 ge))))) ?_;refine ZE (a5 y9 iN hb hr (a5 qb qr gw qs (a5 nB nB2 nB3 g101 (a5 g102 g108 g103 g105 (a5 g106 hb1 hr1 ht1 ge))))) ?_;refine ZG (a5 hb hr qb qr (a5 gw qs nB nB2 (a5 nB3 g101 g102 g108 (a5 g103 g105 g106 hb1 (a3 hr1 ht1 ge))))) ?_;refine ZT 3 (a5 hb hr qb qr (a5 gw qs nB nB2 (a5 nB3 g101 g102 g108 (a5 g103 g105 g106 hb1 (a3 hr1 ht1 ge))))) ?_;refine ZA (a5 hb hr qb qr (a5 gw qs nB nB2 (a5 nB3 g101 g102 g108 (a5 g103 g105 g106 hb1 (a3 hr1 ht1 ge))))) uG (mV hB1 (by simp only[fE];omega) 1 off off) ?_;rintro _ H2 ⟨rfl,cid2,hB2,f2⟩;obtain⟨hr2,hic2,f3⟩:=yH f2 hr1 hib hic;refine oN ?_;refine wQ ?_;refine wT ⟨.inr rfl,_,rfl, ?_⟩;rw[hx];exact⟨rfl,cid2,hB2,hr2,hic2,f1.trans f3⟩
 ·
  have g101:decide (t.kind=101)=false:=decide_eq_false z8;have g102:decide (t.kind=102)=false:=decide_eq_false z8;have g108:decide (t.kind=108)=true:=decide_eq_true z8;have g103:decide (t.kind=103)=false:=decide_eq_false z8;have g105:decide (t.kind=105)=false:=decide_eq_false z8;have g106:decide (t.kind=106)=false:=decide_eq_false z8;have ge:decide (t.text= [])=false:=decide_eq_false hte;have hx:gJ t off n ds=(eB n off ((off+t.text.length:Nat):Int),ds++ [rD 3 off ((off+t.text.length:Nat):Int)]):=by unfold gJ;simp only[g101,g102,g108,ge,if_true,if_false,aQ9]<;>rfl
  refine ZE (a5 y3 hb hr qb (a5 qr gw qs nB (a5 nB2 nB3 g101 g102 (a5 g108 g103 g105 g106 (a4 hb1 hr1 ht1 ge))))) ?_;refine ZF (a5 hb hr qb qr (a5 gw qs nB nB2 (a5 nB3 g101 g102 g108 (a5 g103 g105 g106 hb1 (a3 hr1 ht1 ge))))) ?_;refine ZE (a5 y3 hb hr qb (a5 qr gw qs nB (a5 nB2 nB3 g101 g102 (a5 g108 g103 g105 g106 (a4 hb1 hr1 ht1 ge))))) ?_;refine ZF (a5 hb hr qb qr (a5 gw qs nB nB2 (a5 nB3 g101 g102 g108 (a5 g103 g105 g106 hb1 (a3 hr1 ht1 ge))))) ?_;refine ZE (a5 y3 hb hr qb (a5 qr gw qs nB (a5 nB2 nB3 g101 g102 (a5 g108 g103 g105 g106 (a4 hb1 hr1 ht1 ge))))) ?_;refine ZG (a5 hb hr qb qr (a5 gw qs nB nB2 (a5 nB3 g101 g102 g108 (a5 g103 g105 g106 hb1 (a3 hr1 ht1 ge))))) ?_;refine ZE (a5 y9 iN hb hr (a5 qb qr gw qs (a5 nB nB2 nB3 g101 (a5 g102 g108 g103 g105 (a5 g106 hb1 hr1 ht1 ge))))) ?_;refine ZF (a5 hb hr qb qr (a5 gw qs nB nB2 (a5 nB3 g101 g102 g108 (a5 g103 g105 g106 hb1 (a3 hr1 ht1 ge))))) ?_;refine qK ?_;refine ZT 6 (a5 y3 qJ hb hr (a5 qb qr gw qs (a5 nB nB2 nB3 g101 (a5 g102 g108 g103 g105 (a5 g106 hb1 hr1 ht1 ge))))) ?_;refine ZA (a5 hb hr qb qr (a5 gw qs nB nB2 (a5 nB3 g101 g102 g108 (a5 g103 g105 g106 hb1 (a3 hr1 ht1 ge))))) uG (mV hB1 (by simp only[fE];omega) 3 off ((off+t.text.length:Nat):Int)) ?_;rintro _ H2 ⟨rfl,cid2,hB2,f3⟩;obtain⟨hr2,hic2,f4⟩:=yH f3 hr1 hib hic;have f2:=f1.trans f4;obtain⟨dv2,hb2,hk2,hne2⟩:=id hB2;have hil2:=lG hr2;refine oN ?_;refine ZL [0,1,6] (a5 hb hr qb qr (a5 gw qs nB nB2 (a5 nB3 g101 g102 g108 (a5 g103 g105 g106 hb1 (a5 hr1 ht1 ge hb2 hr2))))) ?_;refine ZT 6 (a5 y3 qJ hb hr (a5 qb qr gw qs (a5 nB nB2 nB3 g101 (a5 g102 g108 g103 g105 (a5 g106 hb1 hr1 ht1 (a3 ge hb2 hr2)))))) ?_;refine ZA (a5 hb hr qb qr (a5 gw qs nB nB2 (a5 nB3 g101 g102 g108 (a5 g103 g105 g106 hb1 (a5 hr1 ht1 ge hb2 hr2))))) yN (rJ (n:=n) (cv:=cv) hr2 ((off:Nat):Int) ((off+t.text.length:Nat):Int)) ?_;rintro _ _ ⟨rfl,rfl⟩;refine oN ?_;refine⟨(by first|exact .inl rfl|exact .inl trivial|trivial),_,rfl, ?_⟩;rw[hx];exact⟨rfl,_,hB2.set hib hic2 _,aQx hil2,hic2,f2.setI _⟩
 ·
  have g101:decide (t.kind=101)=false:=decide_eq_false z8;have g102:decide (t.kind=102)=false:=decide_eq_false z8;have g108:decide (t.kind=108)=false:=decide_eq_false z8;have g103:decide (t.kind=103)=true:=decide_eq_true z8;have g105:decide (t.kind=105)=false:=decide_eq_false z8;have g106:decide (t.kind=106)=false:=decide_eq_false z8;have hx:gJ t off n ds=(eB (dE n t.text off) off ((off+t.text.length:Nat):Int),ds++(if decide ((t.text.length:Int)>30)=true then [rD 5 off ((off+t.text.length:Nat):Int)]else [])):=by
   unfold gJ;simp only[g101,g102,g108,g103,if_true,if_false,aQ9];refine congrArg (Prod.mk _) ?_
   split<;>simp
  refine ZE (a5 y3 hb hr qb (a5 qr gw qs nB (a5 nB2 nB3 g101 g102 (a5 g108 g103 g105 g106 (a3 hb1 hr1 ht1))))) ?_;refine ZF (a5 hb hr qb qr (a5 gw qs nB nB2 (a5 nB3 g101 g102 g108 (a5 g103 g105 g106 hb1 (a2 hr1 ht1))))) ?_;refine ZE (a5 y3 hb hr qb (a5 qr gw qs nB (a5 nB2 nB3 g101 g102 (a5 g108 g103 g105 g106 (a3 hb1 hr1 ht1))))) ?_;refine ZF (a5 hb hr qb qr (a5 gw qs nB nB2 (a5 nB3 g101 g102 g108 (a5 g103 g105 g106 hb1 (a2 hr1 ht1))))) ?_;refine ZE (a5 y3 hb hr qb (a5 qr gw qs nB (a5 nB2 nB3 g101 g102 (a5 g108 g103 g105 g106 (a3 hb1 hr1 ht1))))) ?_;refine ZF (a5 hb hr qb qr (a5 gw qs nB nB2 (a5 nB3 g101 g102 g108 (a5 g103 g105 g106 hb1 (a2 hr1 ht1))))) ?_;refine ZE (a5 y3 hb hr qb (a5 qr gw qs nB (a5 nB2 nB3 g101 g102 (a5 g108 g103 g105 g106 (a3 hb1 hr1 ht1))))) ?_;refine ZG (a5 hb hr qb qr (a5 gw qs nB nB2 (a5 nB3 g101 g102 g108 (a5 g103 g105 g106 hb1 (a2 hr1 ht1))))) ?_;refine ZT 5 (a5 y9 iN hb hr (a5 qb qr gw qs (a5 nB nB2 nB3 g101 (a5 g102 g108 g103 g105 (a4 g106 hb1 hr1 ht1))))) ?_;refine ZA (a5 hb hr qb qr (a5 gw qs nB nB2 (a5 nB3 g101 g102 g108 (a5 g103 g105 g106 hb1 (a2 hr1 ht1))))) aI7 (aEi hB1 (by simp only[fE];omega) hr1 hib hic t.text off) ?_;rintro _ H2 ⟨rfl,cid2,hB2,hr2,hic2,f3⟩;have f2:=f1.trans f3;obtain⟨dv2,hb2,hk2,hne2⟩:=id hB2;have hil2:=lG hr2;refine oN ?_;refine ZL [0,1,6] (a5 hb hr qb qr (a5 gw qs nB nB2 (a5 nB3 g101 g102 g108 (a5 g103 g105 g106 hb1 (a4 hr1 ht1 hb2 hr2))))) ?_;refine ZT 6 (a5 y3 qJ hb hr (a5 qb qr gw qs (a5 nB nB2 nB3 g101 (a5 g102 g108 g103 g105 (a5 g106 hb1 hr1 ht1 (a2 hb2 hr2)))))) ?_;refine ZA (a5 hb hr qb qr (a5 gw qs nB nB2 (a5 nB3 g101 g102 g108 (a5 g103 g105 g106 hb1 (a4 hr1 ht1 hb2 hr2))))) yN (rJ (n:=dE n t.text off) (cv:=cv) hr2 ((off:Nat):Int) ((off+t.text.length:Nat):Int)) ?_;rintro _ _ ⟨rfl,rfl⟩;refine oN ?_;refine⟨(by first|exact .inl rfl|exact .inl trivial|trivial),_,rfl, ?_⟩;rw[hx];exact⟨rfl,_,hB2.set hib hic2 _,aQx hil2,hic2,f2.setI _⟩
 ·
  have g101:decide (t.kind=101)=false:=decide_eq_false z8;have g102:decide (t.kind=102)=false:=decide_eq_false z8;have g108:decide (t.kind=108)=false:=decide_eq_false z8;have g103:decide (t.kind=103)=false:=decide_eq_false z8;have g105:decide (t.kind=105)=true:=decide_eq_true z8;have g106:decide (t.kind=106)=false:=decide_eq_false z8;have hx:gJ t off n ds=(eB (xC n (EU t.text)) off ((off+t.text.length:Nat):Int),ds++IS t.text off ((off+t.text.length:Nat):Int)):=by
   unfold gJ EU IS;simp only[g101,g102,g108,g103,g105,if_true,if_false,aQ9]
   split<;>simp_all
  refine ZE (a5 y3 hb hr qb (a5 qr gw qs nB (a5 nB2 nB3 g101 g102 (a5 g108 g103 g105 g106 (a3 hb1 hr1 ht1))))) ?_;refine ZF (a5 hb hr qb qr (a5 gw qs nB nB2 (a5 nB3 g101 g102 g108 (a5 g103 g105 g106 hb1 (a2 hr1 ht1))))) ?_;refine ZE (a5 y3 hb hr qb (a5 qr gw qs nB (a5 nB2 nB3 g101 g102 (a5 g108 g103 g105 g106 (a3 hb1 hr1 ht1))))) ?_;refine ZF (a5 hb hr qb qr (a5 gw qs nB nB2 (a5 nB3 g101 g102 g108 (a5 g103 g105 g106 hb1 (a2 hr1 ht1))))) ?_;refine ZE (a5 y3 hb hr qb (a5 qr gw qs nB (a5 nB2 nB3 g101 g102 (a5 g108 g103 g105 g106 (a3 hb1 hr1 ht1))))) ?_;refine ZF (a5 hb hr qb qr (a5 gw qs nB nB2 (a5 nB3 g101 g102 g108 (a5 g103 g105 g106 hb1 (a2 hr1 ht1))))) ?_;refine ZE (a5 y3 hb hr qb (a5 qr gw qs nB (a5 nB2 nB3 g101 g102 (a5 g108 g103 g105 g106 (a3 hb1 hr1 ht1))))) ?_;refine ZF (a5 hb hr qb qr (a5 gw qs nB nB2 (a5 nB3 g101 g102 g108 (a5 g103 g105 g106 hb1 (a2 hr1 ht1))))) ?_;refine ZE (a5 y3 hb hr qb (a5 qr gw qs nB (a5 nB2 nB3 g101 g102 (a5 g108 g103 g105 g106 (a3 hb1 hr1 ht1))))) ?_;refine ZG (a5 hb hr qb qr (a5 gw qs nB nB2 (a5 nB3 g101 g102 g108 (a5 g103 g105 g106 hb1 (a2 hr1 ht1))))) ?_;refine ZT 5 (a5 y9 iN hb hr (a5 qb qr gw qs (a5 nB nB2 nB3 g101 (a5 g102 g108 g103 g105 (a4 g106 hb1 hr1 ht1))))) ?_;refine ZA (a5 hb hr qb qr (a5 gw qs nB nB2 (a5 nB3 g101 g102 g108 (a5 g103 g105 g106 hb1 (a2 hr1 ht1))))) aMh (VZ hE1 hB1 (by simp only[fE];omega) t.text off z8) ?_;rintro _ Hq ⟨rfl,cid2,hBq,fq⟩;obtain⟨hrq,hic2,fq2⟩:=yH fq hr1 hib hic;have f2:=f1.trans fq2;obtain⟨dv2,hbq,hkq,hneq⟩:=id hBq;have hilq:=lG hrq;have hs2:∀o,(Hq.set i o)[ib]? =some (.row [.str src, .int .i64 ((off+t.text.length:Nat):Int),dv2]):=λo=>by rw[aQy hib];exact hbq
  have nIq:(i=Hq.length)=False:=by simp;omega
  refine ZX (a5 y3 cW hb hr (a5 qb qr gw qs (a5 nB nB2 nB3 g101 (a5 g102 g108 g103 g105 (a5 g106 hb1 hr1 ht1 (a4 hrq hbq hs2 nIq)))))) ?_;refine ZL [0,1,6] (a5 hb hr qb qr (a5 gw qs nB nB2 (a5 nB3 g101 g102 g108 (a5 g103 g105 g106 hb1 (a5 hr1 ht1 hrq hbq (a2 hs2 nIq)))))) ?_;refine ZT 6 (a5 y3 qJ hb hr (a5 qb qr gw qs (a5 nB nB2 nB3 g101 (a5 g102 g108 g103 g105 (a5 g106 hb1 hr1 ht1 (a4 hrq hbq hs2 nIq)))))) ?_;refine ZA (a5 hb hr qb qr (a5 gw qs nB nB2 (a5 nB3 g101 g102 g108 (a5 g103 g105 g106 hb1 (a5 hr1 ht1 hrq hbq (a2 hs2 nIq)))))) yN (rJ (n:=xC n (EU t.text)) (cv:=cv) (aQx hilq) ((off:Nat):Int) ((off+t.text.length:Nat):Int)) ?_;rintro _ _ ⟨rfl,rfl⟩;refine oN ?_;refine⟨(by first|exact .inl rfl|exact .inl trivial|trivial),_,rfl, ?_⟩;rw[hx,List.set_set];exact⟨rfl,_,hBq.set hib hic2 _,aQx hilq,hic2,f2.setI _⟩
 ·
  have g101:decide (t.kind=101)=false:=decide_eq_false z8;have g102:decide (t.kind=102)=false:=decide_eq_false z8;have g108:decide (t.kind=108)=false:=decide_eq_false z8;have g103:decide (t.kind=103)=false:=decide_eq_false z8;have g105:decide (t.kind=105)=false:=decide_eq_false z8;have g106:decide (t.kind=106)=true:=decide_eq_true z8;have hx:gJ t off n ds=(eB (VV n (yC t.text off).1) off ((off+t.text.length:Nat):Int),ds++(yC t.text off).2):=by unfold gJ;simp only[g101,g102,g108,g103,g105,g106,if_true,if_false,aQ9]<;>rfl
  refine ZE (a5 y3 hb hr qb (a5 qr gw qs nB (a5 nB2 nB3 g101 g102 (a5 g108 g103 g105 g106 (a3 hb1 hr1 ht1))))) ?_;refine ZF (a5 hb hr qb qr (a5 gw qs nB nB2 (a5 nB3 g101 g102 g108 (a5 g103 g105 g106 hb1 (a2 hr1 ht1))))) ?_;refine ZE (a5 y3 hb hr qb (a5 qr gw qs nB (a5 nB2 nB3 g101 g102 (a5 g108 g103 g105 g106 (a3 hb1 hr1 ht1))))) ?_;refine ZF (a5 hb hr qb qr (a5 gw qs nB nB2 (a5 nB3 g101 g102 g108 (a5 g103 g105 g106 hb1 (a2 hr1 ht1))))) ?_;refine ZE (a5 y3 hb hr qb (a5 qr gw qs nB (a5 nB2 nB3 g101 g102 (a5 g108 g103 g105 g106 (a3 hb1 hr1 ht1))))) ?_;refine ZF (a5 hb hr qb qr (a5 gw qs nB nB2 (a5 nB3 g101 g102 g108 (a5 g103 g105 g106 hb1 (a2 hr1 ht1))))) ?_;refine ZE (a5 y3 hb hr qb (a5 qr gw qs nB (a5 nB2 nB3 g101 g102 (a5 g108 g103 g105 g106 (a3 hb1 hr1 ht1))))) ?_;refine ZF (a5 hb hr qb qr (a5 gw qs nB nB2 (a5 nB3 g101 g102 g108 (a5 g103 g105 g106 hb1 (a2 hr1 ht1))))) ?_;refine ZE (a5 y3 hb hr qb (a5 qr gw qs nB (a5 nB2 nB3 g101 g102 (a5 g108 g103 g105 g106 (a3 hb1 hr1 ht1))))) ?_;refine ZF (a5 hb hr qb qr (a5 gw qs nB nB2 (a5 nB3 g101 g102 g108 (a5 g103 g105 g106 hb1 (a2 hr1 ht1))))) ?_;refine ZE (a5 y3 hb hr qb (a5 qr gw qs nB (a5 nB2 nB3 g101 g102 (a5 g108 g103 g105 g106 (a3 hb1 hr1 ht1))))) ?_;refine ZG (a5 hb hr qb qr (a5 gw qs nB nB2 (a5 nB3 g101 g102 g108 (a5 g103 g105 g106 hb1 (a2 hr1 ht1))))) ?_;refine ZT 5 (a5 y9 iN hb hr (a5 qb qr gw qs (a5 nB nB2 nB3 g101 (a5 g102 g108 g103 g105 (a4 g106 hb1 hr1 ht1))))) ?_;refine ZA (a5 hb hr qb qr (a5 gw qs nB nB2 (a5 nB3 g101 g102 g108 (a5 g103 g105 g106 hb1 (a2 hr1 ht1))))) aJ8 (aN9 hB1 t.text off (by simp only[fE];omega) (by simp only[fE];omega)) ?_;rintro _ Hq ⟨rfl,cid2,hBq,fq⟩;obtain⟨hrq,hic2,fq2⟩:=yH fq hr1 hib hic;have f2:=f1.trans fq2;obtain⟨dv2,hbq,hkq,hneq⟩:=id hBq;have hilq:=lG hrq;have hs2:∀o,(Hq.set i o)[ib]? =some (.row [.str src, .int .i64 ((off+t.text.length:Nat):Int),dv2]):=λo=>by rw[aQy hib];exact hbq
  have nIq:(i=Hq.length)=False:=by simp;omega
  refine ZX (a5 y9 cW hb hr (a5 qb qr gw qs (a5 nB nB2 nB3 g101 (a5 g102 g108 g103 g105 (a5 g106 hb1 hr1 ht1 (a4 hrq hbq hs2 nIq)))))) ?_;refine ZL [0,1,6] (a5 hb hr qb qr (a5 gw qs nB nB2 (a5 nB3 g101 g102 g108 (a5 g103 g105 g106 hb1 (a5 hr1 ht1 hrq hbq (a2 hs2 nIq)))))) ?_;refine ZT 6 (a5 y3 qJ hb hr (a5 qb qr gw qs (a5 nB nB2 nB3 g101 (a5 g102 g108 g103 g105 (a5 g106 hb1 hr1 ht1 (a4 hrq hbq hs2 nIq)))))) ?_;refine ZA (a5 hb hr qb qr (a5 gw qs nB nB2 (a5 nB3 g101 g102 g108 (a5 g103 g105 g106 hb1 (a5 hr1 ht1 hrq hbq (a2 hs2 nIq)))))) yN (rJ (n:=VV n (yC t.text off).1) (cv:=cv) (aQx hilq) ((off:Nat):Int) ((off+t.text.length:Nat):Int)) ?_;rintro _ _ ⟨rfl,rfl⟩;refine oN ?_;refine⟨(by first|exact .inl rfl|exact .inl trivial|trivial),_,rfl, ?_⟩;rw[hx,List.set_set];exact⟨rfl,_,hBq.set hib hic2 _,aQx hilq,hic2,f2.setI _⟩
 ·
  have g101:decide (t.kind=101)=false:=decide_eq_false z8;have g102:decide (t.kind=102)=false:=decide_eq_false z8;have g108:decide (t.kind=108)=false:=decide_eq_false z8;have g103:decide (t.kind=103)=false:=decide_eq_false z8;have g105:decide (t.kind=105)=false:=decide_eq_false z8;have g106:decide (t.kind=106)=false:=decide_eq_false z8;have hx:gJ t off n ds=(eB (dX n t.text) off ((off+t.text.length:Nat):Int),ds):=by unfold gJ;simp only[g101,g102,g108,g103,g105,g106,if_true,if_false,aQ9]<;>rfl
  refine ZE (a5 y3 hb hr qb (a5 qr gw qs nB (a5 nB2 nB3 g101 g102 (a5 g108 g103 g105 g106 (a3 hb1 hr1 ht1))))) ?_;refine ZF (a5 hb hr qb qr (a5 gw qs nB nB2 (a5 nB3 g101 g102 g108 (a5 g103 g105 g106 hb1 (a2 hr1 ht1))))) ?_;refine ZE (a5 y3 hb hr qb (a5 qr gw qs nB (a5 nB2 nB3 g101 g102 (a5 g108 g103 g105 g106 (a3 hb1 hr1 ht1))))) ?_;refine ZF (a5 hb hr qb qr (a5 gw qs nB nB2 (a5 nB3 g101 g102 g108 (a5 g103 g105 g106 hb1 (a2 hr1 ht1))))) ?_;refine ZE (a5 y3 hb hr qb (a5 qr gw qs nB (a5 nB2 nB3 g101 g102 (a5 g108 g103 g105 g106 (a3 hb1 hr1 ht1))))) ?_;refine ZF (a5 hb hr qb qr (a5 gw qs nB nB2 (a5 nB3 g101 g102 g108 (a5 g103 g105 g106 hb1 (a2 hr1 ht1))))) ?_;refine ZE (a5 y3 hb hr qb (a5 qr gw qs nB (a5 nB2 nB3 g101 g102 (a5 g108 g103 g105 g106 (a3 hb1 hr1 ht1))))) ?_;refine ZF (a5 hb hr qb qr (a5 gw qs nB nB2 (a5 nB3 g101 g102 g108 (a5 g103 g105 g106 hb1 (a2 hr1 ht1))))) ?_;refine ZE (a5 y3 hb hr qb (a5 qr gw qs nB (a5 nB2 nB3 g101 g102 (a5 g108 g103 g105 g106 (a3 hb1 hr1 ht1))))) ?_;refine ZF (a5 hb hr qb qr (a5 gw qs nB nB2 (a5 nB3 g101 g102 g108 (a5 g103 g105 g106 hb1 (a2 hr1 ht1))))) ?_;refine ZE (a5 y3 hb hr qb (a5 qr gw qs nB (a5 nB2 nB3 g101 g102 (a5 g108 g103 g105 g106 (a3 hb1 hr1 ht1))))) ?_;refine ZF (a5 hb hr qb qr (a5 gw qs nB nB2 (a5 nB3 g101 g102 g108 (a5 g103 g105 g106 hb1 (a2 hr1 ht1))))) ?_;refine ZT 3 (a5 y9 iN hb hr (a5 qb qr gw qs (a5 nB nB2 nB3 g101 (a5 g102 g108 g103 g105 (a4 g106 hb1 hr1 ht1))))) ?_;refine ZA (a5 hb hr qb qr (a5 gw qs nB nB2 (a5 nB3 g101 g102 g108 (a5 g103 g105 g106 hb1 (a2 hr1 ht1))))) aL2 (WB (n:=n) (cv:=cv) hr1 t.text) ?_;rintro _ H2 ⟨rfl,hH2⟩;have hB2:gN src (off+t.text.length) ds ib cid H2:=by rw[hH2];exact hB1.set hib hic _
  have hr2:H2[i]? =some (.row [.int .i64 (dX n t.text).kind, .int .i64 (dX n t.text).value, .str (dX n t.text).text, .int .i64 (dX n t.text).st, .int .i64 (dX n t.text).en, .int .i64 (dX n t.text).ns,cv]):=by rw[hH2];exact aQx hil
  have f2:Fr (i::ib::cid) (i::ib::cid) H0 H2:=by rw[hH2];exact f1.setI _
  have hic2:=hic;obtain⟨dv2,hb2,hk2,hne2⟩:=id hB2;have hil2:=lG hr2;refine oN ?_;refine ZL [0,1,6] (a5 hb hr qb qr (a5 gw qs nB nB2 (a5 nB3 g101 g102 g108 (a5 g103 g105 g106 hb1 (a4 hr1 ht1 hb2 hr2))))) ?_;refine ZT 6 (a5 y3 qJ hb hr (a5 qb qr gw qs (a5 nB nB2 nB3 g101 (a5 g102 g108 g103 g105 (a5 g106 hb1 hr1 ht1 (a2 hb2 hr2)))))) ?_;refine ZA (a5 hb hr qb qr (a5 gw qs nB nB2 (a5 nB3 g101 g102 g108 (a5 g103 g105 g106 hb1 (a4 hr1 ht1 hb2 hr2))))) yN (rJ (n:=dX n t.text) (cv:=cv) hr2 ((off:Nat):Int) ((off+t.text.length:Nat):Int)) ?_;rintro _ _ ⟨rfl,rfl⟩;refine oN ?_;refine⟨(by first|exact .inl rfl|exact .inl trivial|trivial),_,rfl, ?_⟩;rw[hx];exact⟨rfl,_,hB2.set hib hic2 _,aQx hil2,hic2,f2.setI _⟩
set_option maxRecDepth 4000
theorem XZ{src:List UInt8}{n m:Nd}{ds ds':List Dg}(h:AV src n ds=some (m,ds')):(n.kind=60/\ds'=ds/\∃c cs,n.kids=c::cs/\m=fJ c n.st n.en)\/
  (n.kind=46/\∃cd,cd=(if decide (n.st=n.en)=true then(1:Int)else 2)/\(0<=n.st/\n.st<=n.en/\n.en<=src.length/\ds.length<fE)/\m=⟨46,0,(src.drop n.st.toNat).take (n.en.toNat-n.st.toNat),n.st,n.en, -1,[]⟩/\ds'=ds++ [rD cd n.st n.en])\/(n.kind≠60/\n.kind≠46/\n=m/\ds=ds'):=by
 unfold AV at h;simp only[decide_eq_true_eq]at h
 split at h
 ·rename_i h1
  split at h
  ·rename_i c cs hc;injection h with h;injection h with h2 h3;exact .inl ⟨h1,h3.symm,c,cs,hc,h2.symm⟩
  ·cases h
 rename_i h60
 split at h
 ·rename_i h46
  split at h
  ·rename_i hb;injection h with h;injection h with h2 h3;exact .inr (.inl ⟨h46,_,rfl,hb,h2.symm,by simpa using h3.symm⟩)
  ·cases h
 ·rename_i h46;injection h with h;injection h with h2 h3;exact .inr (.inr ⟨h60,h46,h2,h3⟩)
theorem aAy{src:List UInt8}{n m:Nd}{ds ds':List Dg}{off ib:Nat}{cid:List Nat}{H:aC}(hm:AV src n ds=some (m,ds'))(hB:gN src off ds ib cid H):aL Tryz.prog 106 [.optr ib 0,n.enc] H λr H'=>r=m.enc/\∃cid',gN src off ds' ib cid' H'/\Fr (ib::cid) (ib::cid') H H':=by
 have hcs:=XZ hm;refine aF (N:=51) Tryz.func106 rfl rfl z6 λhb'=> ?_;refine ZE cW ?_;rcases hcs with⟨hk,rfl,c,cs,hc,rfl⟩| ⟨hk,cd,hcde,⟨hb0,hb1,hb9,hlr⟩,rfl,rfl⟩| ⟨h1,h2,rfl,rfl⟩
 ·
  have g60:decide (n.kind=60)=true:=decide_eq_true z8;have g46:decide (n.kind=46)=false:=decide_eq_false z8;have gc:n.kids.map Nd.enc=c.enc::cs.map Nd.enc:=by rw[hc];rfl
  have gpos:((0:Int)<((cs.length+1:Nat):Int))=True:=eq_true z8;refine wQ ?_;refine eE (by simp only[kA,seval,y3,cW,aA,qC,bM,bN,g60,g46,gc,hc,gpos,aRl,Nd.enc_len]<;>with_reducible rfl) z7 ?_;refine qB ?_;refine wQ ?_;refine eE (by simp only[kA,seval,y3,aA,qC,bM,bN,g60,g46,gc,hc,gpos,aRl,Nd.enc_len]<;>with_reducible rfl) z7 ?_;refine wQ ?_;refine bP rfl (by simp only[jN,seval,aA,qC,bM,bN,g60,g46,gc,hc,gpos,aRl,Nd.enc_len]<;>with_reducible rfl) ?_;refine wQ ?_;refine eE (by simp only[kA,seval,tT,cW,aA,qC,bM,bN,g60,g46,gc,hc,gpos,aRl,Nd.enc_len]<;>with_reducible rfl) z7 ?_;refine wQ ?_;refine yU 0 (n0:=H.length+3) (by first|rfl| (simp only[aRf,aQ0,aR1,Nat.reduceAdd,aRe,g60,g46,gc,hc,gpos,aRl,Nd.enc_len];done)) (by kernel_rfl) ?_;refine HN (by first| (simp only[LS,HS,aR4,aQf,aRy,g60,g46,gc,hc,gpos,aRl,Nd.enc_len]<;>with_reducible rfl)|rfl) ?_;refine yA (bm:= [0,1,0,4,3,19,63,127]) (fresh:=(H.length+3)) (by kernel_rfl) (by simp only[jX,jO,jN,seval,y3,cW,aA,qC,bM,bN,g60,g46,gc,hc,gpos,aRl,Nd.enc_len]<;>with_reducible rfl) z7 (by repeat (first|exact dI.base _|with_reducible apply dI.keep|apply dI.drop)) ?_;refine wL [4,5] (by simp only[jN,seval,aA,qC,bM,bN,g60,g46,gc,hc,gpos,aRl,Nd.enc_len]<;>with_reducible rfl) ?_;refine wQ ?_;refine eE (by simp only[kA,seval,cW,aA,qC,bM,bN,g60,g46,gc,hc,gpos,aRl,Nd.enc_len]<;>with_reducible rfl) z7 ?_;refine wQ ?_;refine wT ⟨.inr rfl,_,(kQ 4 31 rfl lZ z7 (by simp only[jL,jN,seval,aA,qC,bM,bN,g60,g46,gc,hc,gpos,aRl,Nd.enc_len]<;>with_reducible rfl)), ?_⟩;refine⟨?_,cid,hB.app _,(Fr.refl _ _).app _⟩
  first|rfl| (simp only[jN,seval,aA,qC,bM,bN];done)|simp only[fJ,Nd.enc_eq,PV.drop1,List.map,PV.drop0,Nd.kind,Nd.value,Nd.text,Nd.st,Nd.en,Nd.ns,Nd.kids]
 ·
  have g60:decide (n.kind=60)=false:=decide_eq_false z8;have g46:decide (n.kind=46)=true:=decide_eq_true z8;refine ZE (a4 y3 cW g60 g46) ?_;refine qB ?_;refine ZE (a3 y3 g60 g46) ?_;refine ZF (a2 g60 g46) ?_;refine ZE (a3 y3 g60 g46) ?_;refine ZG (a2 g60 g46) ?_;refine ZE (a2 g60 g46) ?_;refine ZE (a4 y3 cW g60 g46) ?_;refine ZI (a2 g60 g46) (λbt28=> ?_) (λbt28=> ?_)
  ·
   have hcd:cd=1:=by rw[hcde];exact if_pos bt28
   refine ZE (a2 g60 g46) ?_;refine ZL [0,3,4,6] (a2 g60 g46) ?_;refine ZT 6 (a4 y3 cW g60 g46) ?_;refine ZA (a2 g60 g46) uG (mV (hB.app _) hlr 1 n.st n.en) ?_;rintro _ H2 ⟨rfl,cid2,hB2,f2⟩;obtain⟨dv2,hb2,hk2,hne2⟩:=id hB2;have hlt:=hB.lt;have n3:H.length∉ib::cid:=λe=>by have:=hlt H.length (by simpa using e);omega
   have n4:H.length+1∉ib::cid:=λe=>by have:=hlt (H.length+1) (by simpa using e);omega
   have h3:H2[H.length]? =some (.row [.int .i64 n.kind, .int .i64 n.value, .str n.text, .int .i64 n.st, .int .i64 n.en, .int .i64 n.ns, .slice (n.kids.map Nd.enc) .none]):=by rw[f2.same _ z6 n3];simp
   have h4:H2[H.length+1]? =some (.row [.int .i64 0, .int .i64 0, .str [], .int .i64 0, .int .i64 0, .int .i64 0, .slice [] .full]):=by rw[f2.same _ z6 n4];simp
   have hl4:=lG h4;have hs4:∀o,(H2.set (H.length+1) o)[H.length+1]? =some o:=λo=>aQx hl4;have nI4:(H.length+1=H2.length)=False:=by simp;omega
   have MZ:(0<=n.en/\n.en<=(src.length:Int))=True:=eq_true ⟨z8,hb9⟩;have NO:(0<=n.st/\n.st<=((n.en.toNat:Nat):Int))=True:=eq_true ⟨hb0,z8⟩;have gs3:List.drop n.st.toNat (List.take n.en.toNat src)=(src.drop n.st.toNat).take (n.en.toNat-n.st.toNat):=List.drop_take;refine oN ?_;refine wQ ?_;refine yU 0 rfl (by kernel_rfl) ?_;refine uS 14 rfl (by simp only[jP,jO,jN,seval,y3,y9,cW,qJ,jS,aA,qC,bM,bN,g60,g46,hb2,h3,h4,hs4,nI4,MZ,NO,gs3,lS]<;>with_reducible rfl) z7 z7 z7 ?_;refine HN (by first| (simp only[LS,HS,aR4,aQf,aRy,g60,g46,hb2,h3,h4,hs4,nI4,MZ,NO,gs3,lS]<;>with_reducible rfl)|rfl) ?_;refine yA (bm:= [0,1,3,7,0,16,0,64,255,0,512,0,2048,8191,16383]) (fresh:=0) (by kernel_rfl) (Zx (a5 cW g60 g46 hb2 (a5 h3 h4 hs4 nI4 (a3 MZ NO gs3)))) z7 (by repeat (first|exact dI.base _|with_reducible apply dI.keep|apply dI.drop)) ?_;refine wQ ?_;refine wT ⟨.inr rfl,_,(kQ 4 31 rfl lZ z7 (by simp only[jL,jN,seval,aA,qC,bM,bN,g60,g46,hb2,h3,h4,hs4,nI4,MZ,NO,gs3,lS]<;>with_reducible rfl)), ?_⟩;rw[hcd];refine⟨?_,cid2,hB2.set (λe=>n4 (by simp[e])) (λe=> ?_) _, ?_⟩
   ·first|rfl| (simp only[jN,seval,aA,qC,bM,bN];done)|simp only[Nd.enc_eq,PV.drop1,List.map,PV.drop0,Nd.kind,Nd.value,Nd.text,Nd.st,Nd.en,Nd.ns,Nd.kids]
   ·exact n4 (f2.ids _ (aSd _ e) z6)
   ·have f3:=f2.of_app;exact⟨by rw[lS];exact f3.len,λid q1 q2=>by rw[aQy z8];exact f3.same id q1 q2,f3.ids⟩
  ·
   have hcd:cd=2:=by rw[hcde];exact if_neg (by rw[bt28];simp)
   refine qK ?_;refine ZT 6 (a4 y3 cW g60 g46) ?_;refine ZA (a2 g60 g46) uG (mV (hB.app _) hlr 2 n.st n.en) ?_;rintro _ H2 ⟨rfl,cid2,hB2,f2⟩;obtain⟨dv2,hb2,hk2,hne2⟩:=id hB2;have hlt:=hB.lt;have n3:H.length∉ib::cid:=λe=>by have:=hlt H.length (by simpa using e);omega
   have n4:H.length+1∉ib::cid:=λe=>by have:=hlt (H.length+1) (by simpa using e);omega
   have h3:H2[H.length]? =some (.row [.int .i64 n.kind, .int .i64 n.value, .str n.text, .int .i64 n.st, .int .i64 n.en, .int .i64 n.ns, .slice (n.kids.map Nd.enc) .none]):=by rw[f2.same _ z6 n3];simp
   have h4:H2[H.length+1]? =some (.row [.int .i64 0, .int .i64 0, .str [], .int .i64 0, .int .i64 0, .int .i64 0, .slice [] .full]):=by rw[f2.same _ z6 n4];simp
   have hl4:=lG h4;have hs4:∀o,(H2.set (H.length+1) o)[H.length+1]? =some o:=λo=>aQx hl4;have nI4:(H.length+1=H2.length)=False:=by simp;omega
   have MZ:(0<=n.en/\n.en<=(src.length:Int))=True:=eq_true ⟨z8,hb9⟩;have NO:(0<=n.st/\n.st<=((n.en.toNat:Nat):Int))=True:=eq_true ⟨hb0,z8⟩;have gs3:List.drop n.st.toNat (List.take n.en.toNat src)=(src.drop n.st.toNat).take (n.en.toNat-n.st.toNat):=List.drop_take;refine oN ?_;refine ZL [0,3,4] (a5 g60 g46 hb2 h3 (a5 h4 hs4 nI4 MZ (a2 NO gs3))) ?_;refine wQ ?_;refine yU 0 rfl (by kernel_rfl) ?_;refine uS 14 rfl (by simp only[jP,jO,jN,seval,y3,y9,cW,qJ,jS,aA,qC,bM,bN,g60,g46,hb2,h3,h4,hs4,nI4,MZ,NO,gs3,lS]<;>with_reducible rfl) z7 z7 z7 ?_;refine HN (by first| (simp only[LS,HS,aR4,aQf,aRy,g60,g46,hb2,h3,h4,hs4,nI4,MZ,NO,gs3,lS]<;>with_reducible rfl)|rfl) ?_;refine yA (bm:= [0,1,3,7,0,16,0,64,255,0,512,0,2048,8191,16383]) (fresh:=0) (by kernel_rfl) (Zx (a5 cW g60 g46 hb2 (a5 h3 h4 hs4 nI4 (a3 MZ NO gs3)))) z7 (by repeat (first|exact dI.base _|with_reducible apply dI.keep|apply dI.drop)) ?_;refine wQ ?_;refine wT ⟨.inr rfl,_,(kQ 4 31 rfl lZ z7 (by simp only[jL,jN,seval,aA,qC,bM,bN,g60,g46,hb2,h3,h4,hs4,nI4,MZ,NO,gs3,lS]<;>with_reducible rfl)), ?_⟩;rw[hcd];refine⟨?_,cid2,hB2.set (λe=>n4 (by simp[e])) (λe=> ?_) _, ?_⟩
   ·first|rfl| (simp only[jN,seval,aA,qC,bM,bN];done)|simp only[Nd.enc_eq,PV.drop1,List.map,PV.drop0,Nd.kind,Nd.value,Nd.text,Nd.st,Nd.en,Nd.ns,Nd.kids]
   ·exact n4 (f2.ids _ (aSd _ e) z6)
   ·have f3:=f2.of_app;exact⟨by rw[lS];exact f3.len,λid q1 q2=>by rw[aQy z8];exact f3.same id q1 q2,f3.ids⟩
 ·
  have g60:decide (n.kind=60)=false:=decide_eq_false z8;have g46:decide (n.kind=46)=false:=decide_eq_false z8;refine ZE (a4 y3 cW g60 g46) ?_;refine qB ?_;refine ZE (a3 y3 g60 g46) ?_;refine ZF (a2 g60 g46) ?_;refine ZE (a3 y3 g60 g46) ?_;refine ZF (a2 g60 g46) ?_;refine qK ?_;refine ZE (a3 cW g60 g46) ?_;refine wQ ?_;refine wT ⟨.inr rfl,_,(kQ 4 31 rfl lZ z7 (by simp only[jL,jN,seval,aA,qC,bM,bN,g60,g46]<;>with_reducible rfl)), ?_⟩;refine⟨?_,cid,hB.app _,(Fr.refl _ _).app _⟩
  first|rfl| (simp only[jN,seval,aA,qC,bM,bN];done)|exact Nd.enc_drop1 _
set_option maxRecDepth 4000
theorem ER:PV.fits ⟨true,7,80⟩ (aU (Value.agg #[Value.int IntKind.i64 0,Value.int IntKind.i64 0,Value.string {data:= #[]},Value.int IntKind.i64 0,Value.int IntKind.i64 0,Value.int IntKind.i64 0,Value.slice none 0 0]))=true:=by kernel_rfl
theorem ES:(aU (Value.agg #[Value.int IntKind.i64 0,Value.int IntKind.i64 0,Value.string {data:= #[]},Value.int IntKind.i64 0,Value.int IntKind.i64 0,Value.int IntKind.i64 0,Value.slice none 0 0])).drop1= .agg [.int .i64 0, .int .i64 0, .str [], .int .i64 0, .int .i64 0, .int .i64 0, .slice [] .none]:=by rfl
theorem IV(t:Nd):t.enc.cells.all PV.isCell=true:=by rw[Nd.enc_cells];rfl
theorem pO(kids:List Nd)(t:Nd):aH ((kids++ [t]).map Nd.enc)=aH (kids.map Nd.enc)++ [.int .i64 t.kind, .int .i64 t.value, .str t.text, .int .i64 t.st, .int .i64 t.en, .int .i64 t.ns, .slice (t.kids.map Nd.enc) .none]:=by
 rw[aRt,cM];simp[aH,Nd.enc_cells]
theorem sC(kids:List Nd):(aH (kids.map Nd.enc)).length=kids.length*7:=jJ Nd.enc_len kids
theorem aCe{A rest:List PV}{m:Nat}{x0 x1 x2 x3 x4 x5 x6 a0 a1 a2 a3 a4 a5 a6:PV}(hA:A.length=m):
  (((((((A++x0::x1::x2::x3::x4::x5::x6::rest).set m a0).set (m+1) a1).set (m+2) a2).set (m+3) a3).set (m+4) a4).set (m+5) a5).set (m+6) a6=A++ [a0,a1,a2,a3,a4,a5,a6]++rest:=by
 subst hA;rw[aRu _ _ (aQj _),Nat.sub_self]
 iterate 6 rw[aRu _ _ z8]
 simp[show A.length+1-A.length=1 by omega,show A.length+2-A.length=2 by omega,show A.length+3-A.length=3 by omega,show A.length+4-A.length=4 by omega,show A.length+5-A.length=5 by omega,show A.length+6-A.length=6 by omega]
theorem Nd.enc_agg(t:Nd):PV.agg t.enc.cells=t.enc:=by rw[Nd.enc_cells,Nd.enc_eq]
theorem MD(n:Nd)(t:List UInt8)(s:Int):(dE n t s).kids=n.kids:=by unfold dE;split<;>rfl
theorem QL(n:Nd)(t:List UInt8):(dX n t).kids=n.kids:=by
 unfold dX
 split
 ·rfl
 split
 ·rfl
 split
 ·rfl
 split
 ·rfl
 split
 ·rfl
 ·rfl
theorem uX(t:St)(off:Nat)(n:Nd)(ds:List Dg):(gJ t off n ds).1.kids=n.kids:=by
 unfold gJ;simp only
 split
 ·rfl
 split
 ·rfl
 split
 ·split<;>rfl
 split
 ·exact MD n _ _
 split
 ·split<;>rfl
 split
 ·rfl
 ·exact QL n _
theorem Fr.out{F F':List Nat}{H H':aC}(f:Fr F F' H H'){x:Nat}(h:x<H.length)(hx:x∉F):x∉F':=λe=>hx (f.ids x e h)
theorem aPf{F F1 F2:List Nat}{H H1 H2 L:aC}(a:Fr F F1 H H1)(b:Fr F1 F2 (H1++L) H2):Fr F F2 H H2:=a.trans b.of_app
theorem aPd{F F1 F2:List Nat}{i:Nat}{H H1 H2 L:aC}(a:Fr F F1 H H1)(b:Fr (i::F1) (i::F2) (H1++L) H2)(hi:H.length<=i):Fr F F2 H H2:=
 ⟨aQk a.len (aQk z6 b.len),λid h1 h2=>by
  have h3:=a.len;rw[b.same id (by simp;omega) (λe=>by rcases aRs.1 e with e|e;omega;exact h2 (a.ids id e h1)),aQt z8];exact a.same id h1 h2,λid h1 h2=>by
  have h3:=a.len;rcases aRs.1 (b.ids id (aSd _ h1) (by simp;omega))with e|e
  ·omega
  ·exact a.ids id e h2⟩
theorem oD.app{e3 e4:Value}{H:aC}(h:oD e3 e4 H)(L:aC):oD e3 e4 (H++L):=⟨aB h.1 L,aB h.2.1 L,h.2.2⟩
def NC(src:List UInt8)(e3 e4:Value)(ib:Nat)(t:St):Prop:=∀(off:Nat) (ds:List Dg) (off':Nat) (m:Nd) (ds':List Dg) (cid:List Nat) (H:aC),tC src t off ds=some (off',m,ds')->gN src off ds ib cid H->oD e3 e4 H->
 aL Tryz.prog 56 [.optr ib 0,t.enc] H λr H'=>r=m.enc/\∃cid',gN src off' ds' ib cid' H'/\Fr (ib::cid) (ib::cid') H H'
theorem wE(src:List UInt8)(t:St)(off:Nat)(ds:List Dg):tC src t off ds=if t.ch.length<fE then(lH src t.ch off ⟨t.kind,0,[],off, -1, -1,[]⟩ ds).bind λr=>(AV src (fJ r.2.1 r.2.1.st (max r.2.1.en r.2.1.st)) r.2.2).bind λm=>some (r.1,m.1,m.2)else none:=by
 cases t;rw[tC];rfl
theorem sK(src:List UInt8)(c:St)(cs:List St)(off:Nat)(n:Nd)(ds:List Dg):lH src (c::cs) off n ds=if decide (c.kind>=100)=true then(if ds.length+c.text.length<fE/\off+c.text.length<fE then lH src cs (off+c.text.length) (gJ c off n ds).1 (gJ c off n ds).2 else none)
  else(tC src c off ds).bind λr=>if n.kids.length<fE then lH src cs r.1 (lJ (eB n r.2.1.st r.2.1.en) r.2.1) r.2.2 else none:=by rw[lH]
theorem aJj{src:List UInt8}{e3 e4:Value}{ib:Nat}{t:St}(ih:∀c∈t.ch,NC src e3 e4 ib c):NC src e3 e4 ib t:=by
 intro off ds off' m ds' cid H0 hm hB hE;rw[wE]at hm
 split at hm
 case isFalse=>cases hm
 rename_i hlen;simp only[fE]at hlen;obtain⟨⟨off2,n2,ds2⟩,hkids,hm⟩:=oB hm;obtain⟨⟨m',dm⟩,hfin,hm⟩:=oB hm;injection hm with hm;injection hm with hm1 hm2;injection hm2 with hm2 hm3;simp only at hfin hm1;subst hm1 hm2 hm3;have hmx:maxLen=9223372036854775807:=z7
 have hblt:=hB.lt;have hbl:=hblt ib (.inl rfl);obtain⟨dv,hb,hk,hne⟩:=id hB;have qb:=aB hb;have nc:∀k,H0.length+k∉cid:=λk e=>by have:=hblt _ (.inr e);omega
 have h1b:=(hB.glob hE.1);have h2b:=(hB.glob hE.2.1);refine aF (N:=57) Tryz.func56 rfl rfl z6 λhb'=> ?_;refine ZE (a4 cW iN hb qb) ?_;refine ZE (a4 y3 qJ hb qb) ?_;refine ZE (a5 y3 cW iN hb qb) ?_;refine ZE (a4 pI iN hb qb) ?_;refine qB ?_;refine cL (σ:=Nat×Nat×Nd×List Dg) (λ(z:Nat×Nat×Nd×List Dg)=> [(0, .optr ib 0),(4, .optr (H0.length+1) 0),(6, .optr (H0.length+2) 0),(19, .slice (t.ch.map St.enc) .none),(20,aA (t.ch.length:Int)),(21,aA (z.1:Int))]) (λ(z:Nat×Nat×Nd×List Dg)=>λH1=>z.1<=t.ch.length/\lH src (t.ch.drop z.1) z.2.1 z.2.2.1 z.2.2.2=some (off2,n2,ds2)/\∃cid1,gN src z.2.1 z.2.2.2 ib cid1 H1/\(∃cv kid,H1[H0.length+2]? =some (.row [.int .i64 z.2.2.1.kind, .int .i64 z.2.2.1.value, .str z.2.2.1.text, .int .i64 z.2.2.1.st, .int .i64 z.2.2.1.en, .int .i64 z.2.2.1.ns,cv])/\fS Nd.enc 7 H1 cv z.2.2.1.kids kid/\∀x∈kid,H0.length+3<=x/\x∉cid1)/\H1[H0.length+1]? =some (.row [.int .i64 0, .int .i64 0, .str [], .int .i64 0, .int .i64 0, .int .i64 0, .slice [] .full])/\H0.length+1∉cid1/\H0.length+2∉cid1/\Fr (ib::cid) (ib::cid1) H0 H1) (λ(z:Nat×Nat×Nd×List Dg)=>t.ch.length-z.1) ((0,off,(Nd.mk t.kind 0 [] ((off:Nat):Int) (-1) (-1) []),ds)) (Zt (a2 hb qb)) (⟨aRk _,hkids,cid,hB.app _,⟨.slice [] .full,[],by simp[Nd.kind,Nd.value,Nd.text,Nd.st,Nd.en,Nd.ns], .nil,λx hx=>by cases hx⟩,z6,nc 1,nc 2,(Fr.refl _ H0).app _⟩) ?_;intro z H1 hg;obtain⟨j,off1,n,ds1⟩:=z;obtain⟨hj,hk1,cid1,hB1,⟨cv,kid,hn1,hc1,hd1⟩,hz1,hzc1,hnc1,f1⟩:=hg;simp only at hj hk1 hB1 hn1 hc1 hz1 f1;have hil1:=lG hn1;have hE1:=hE.fr f1 (by simp[h1b.1,h1b.2]) (by simp[h2b.1,h2b.2]);have qn1:=aB hn1;have qz1:=aB hz1;rcases aQi j t.ch.length with hi|hi
 ·
  have gi:=bA hi;have ge:=bS St.enc hi;have gl:decide ((j:Int)<(t.ch.length:Int))=true:=decide_eq_true z8;have gwj:IntKind.i64.wrap ((j:Int)+1)=((j+1:Nat):Int):=by rw[aZ z8 z8];omega
  rw[aR6 hi,sK]at hk1;refine ZE (a5 y3 hb qb hn1 (a5 hz1 qn1 qz1 gi (a3 ge gl gwj))) ?_;refine ZG (a5 hb qb hn1 hz1 (a5 qn1 qz1 gi ge (a2 gl gwj))) ?_;refine qK ?_;refine qB ?_;refine ZE (a5 pI iN hb qb (a5 hn1 hz1 qn1 qz1 (a4 gi ge gl gwj))) ?_;refine ZE (a5 y3 iN hb qb (a5 hn1 hz1 qn1 qz1 (a4 gi ge gl gwj))) ?_;refine ZI (a5 hb qb hn1 hz1 (a5 qn1 qz1 gi ge (a2 gl gwj))) (λbt27=> ?_) (λbt27=> ?_)
  ·
   rw[if_pos bt27]at hk1
   split at hk1
   case isFalse=>cases hk1
   rename_i hgd;refine ZT 2 (a5 iN hb qb hn1 (a5 hz1 qn1 qz1 gi (a3 ge gl gwj))) ?_;refine ZA (a5 hb qb hn1 hz1 (a5 qn1 qz1 gi ge (a2 gl gwj))) aJl (aDh (hE1.app _) (hB1.app _) (qn1 _) z8 hnc1 hgd.1 hgd.2) ?_;rintro _ H2 ⟨rfl,cid2,hB2,hn2,hnc2,g2⟩;refine oN ?_;refine wQ ?_;refine bG ?_;simp only[aY,aT,reduceIte,Nat.reduceEqDiff,aR5,if_true,if_false];refine ZE (a5 y3 hb qb hn1 (a5 hz1 qn1 qz1 gi (a3 ge gl gwj))) ?_
   try simp only[aY,aT]
   have f2:=aPd f1 g2 z8;have hkx:∀x∈kid,x<H1.length/\x∉(H0.length+2)::ib::cid1:=λx hx=>⟨hc1.lt x hx,by have:=hd1 x hx;simp only[aRs,not_or];exact⟨z8,z8,this.2⟩⟩;have hzx:H0.length+1∉(H0.length+2)::ib::cid1:=by simp only[aRs,not_or];exact⟨z8,z8,hzc1⟩
   have hzl:=lG hz1;exact⟨(j+1,off1+t.ch[j].text.length,(gJ t.ch[j] off1 n ds1).1,(gJ t.ch[j] off1 n ds1).2),by show t.ch.length- (j+1)<t.ch.length-j;omega,ZV,hi,hk1,cid2,hB2,⟨cv,kid,hn2,by rw[uX];exact hc1.fr (λx hx=>by rw[g2.same x (by have:=(hkx x hx).1;simp;omega) (hkx x hx).2,aQt (hkx x hx).1]),λx hx=>⟨(hd1 x hx).1,λe=>g2.out (by have:=(hkx x hx).1;simp;omega) (hkx x hx).2 (by simp[e])⟩⟩,by rw[g2.same _ (by simp;omega) hzx];exact qz1 _,λe=>g2.out (by simp;omega) hzx (by simp[e]),hnc2,f2⟩
  ·
   rw[if_neg (by rw[bt27];simp)]at hk1;obtain⟨⟨off3,m3,ds3⟩,hnode,hk1⟩:=oB hk1;simp only at hk1
   split at hk1
   case isFalse=>cases hk1
   rename_i hlk;refine qK ?_;refine ZT 2 (a5 iN hb qb hn1 (a5 hz1 qn1 qz1 gi (a3 ge gl gwj))) ?_;refine ZA (a5 hb qb hn1 hz1 (a5 qn1 qz1 gi ge (a2 gl gwj))) aFw (ih t.ch[j] (aRh hi) off1 ds1 off3 m3 ds3 cid1 _ hnode (hB1.app _) (hE1.app _)) ?_;rintro _ H2 ⟨rfl,cid2,hB2,g2⟩;have f2:=aPf f1 g2;have hnx:H0.length+2∉ib::cid1:=by simp only[aRs,not_or];exact⟨z8,hnc1⟩
   have hzx:H0.length+1∉ib::cid1:=by simp only[aRs,not_or];exact⟨z8,hzc1⟩
   have hzl:=lG hz1;have hkx:∀x∈kid,x<H1.length/\x∉ib::cid1:=λx hx=>⟨hc1.lt x hx,by have:=hd1 x hx;simp only[aRs,not_or];exact⟨z8,this.2⟩⟩;have hn2:H2[H0.length+2]? =some (.row [.int .i64 n.kind, .int .i64 n.value, .str n.text, .int .i64 n.st, .int .i64 n.en, .int .i64 n.ns,cv]):=by rw[g2.same _ (by simp;omega) hnx];exact qn1 _
   have hz2:H2[H0.length+1]? =some (.row [.int .i64 0, .int .i64 0, .str [], .int .i64 0, .int .i64 0, .int .i64 0, .slice [] .full]):=by rw[g2.same _ (by simp;omega) hzx];exact qz1 _
   have hc2:fS Nd.enc 7 H2 cv n.kids kid:=hc1.fr λx hx=>by rw[g2.same x (by have:=(hkx x hx).1;simp;omega) (hkx x hx).2,aQt (hkx x hx).1]
   have hd2:∀x∈kid,H0.length+3<=x/\x∉cid2:=λx hx=>⟨(hd1 x hx).1,λe=>g2.out (by have:=(hkx x hx).1;simp;omega) (hkx x hx).2 (by simp[e])⟩;have hnc2:H0.length+2∉cid2:=λe=>g2.out (by simp;omega) hnx (by simp[e]);have hzc2:H0.length+1∉cid2:=λe=>g2.out (by simp;omega) hzx (by simp[e]);have qn2:=aB hn2;have hil2:=lG hn2;refine ZX (a5 cW hb qb hn1 (a5 hz1 qn1 qz1 gi (a5 ge gl gwj hn2 qn2))) ?_;refine ZT 4 (a5 y3 cW hb qb (a5 hn1 hz1 qn1 qz1 (a5 gi ge gl gwj (a2 hn2 qn2)))) ?_;refine ZA (a5 hb qb hn1 hz1 (a5 qn1 qz1 gi ge (a4 gl gwj hn2 qn2))) yN (rJ (n:=n) (cv:=cv) (qn2 _) m3.st m3.en) ?_;rintro _ _ ⟨rfl,rfl⟩;refine oN ?_;refine ZL [0,4,6,9,19,20,21] (a5 hb qb hn1 hz1 (a5 qn1 qz1 gi ge (a4 gl gwj hn2 qn2))) ?_;refine dQ (λH3=>gN src off3 ds3 ib cid2 H3/\(∃cv kid,H3[H0.length+2]? =some (.row [.int .i64 (eB n m3.st m3.en).kind, .int .i64 (eB n m3.st m3.en).value, .str (eB n m3.st m3.en).text, .int .i64 (eB n m3.st m3.en).st, .int .i64 (eB n m3.st m3.en).en, .int .i64 (eB n m3.st m3.en).ns,cv])/\fS Nd.enc 7 H3 cv n.kids kid/\∀x∈kid,H0.length+3<=x/\x∉cid2)/\H3[H0.length+1]? =some (.row [.int .i64 0, .int .i64 0, .str [], .int .i64 0, .int .i64 0, .int .i64 0, .slice [] .full])/\(∃mid,mid=H2.length/\mid<H3.length/\H0.length+3<=mid/\H3[mid]? =some (.row [.int .i64 m3.kind, .int .i64 m3.value, .str m3.text, .int .i64 m3.st, .int .i64 m3.en, .int .i64 m3.ns, .slice (m3.kids.map Nd.enc) .none]))/\Fr (ib::cid) (ib::cid2) H0 H3) ?_ ?_
   ·have hl2:=lG hn2;have hg2:=f2.len;refine⟨(hB2.app _).set z8 hnc2 _,⟨cv,kid,by rw[aQx (by simp;omega)],(hc2.fr λx hx=>by have:=hd1 x hx;have:=hc2.lt x hx;rw[aQy z8,aQt z8]),hd2⟩,by rw[aQy z8];exact aB hz2 _,⟨H2.length,rfl,z6,z8,by rw[aQy z8];simp⟩,⟨by simp;omega,λid h1 h2=>by rw[aQy z8,aQt z8];exact f2.same id h1 h2,λid h1 h2=>f2.ids id h1 h2⟩⟩
   rintro H3 ⟨hB3,⟨cv3,kid3,hn3,hc3,hd3⟩,hz3,⟨mid,hmid,hml,hmg,hM3⟩,f3⟩;rw[<-hmid];have hil3:=lG hn3;have hzl3:=lG hz3;have qn3:=aB hn3;have qM3:=aB hM3;rcases hc3.cases2 with⟨hke,rfl,hkd⟩| ⟨ic,c1,rest1,rfl,hkd,hic,hicc,hicm⟩
   ·
    have hkl:n.kids.length=0:=by rw[hke];rfl
    refine wQ ?_;refine eR 0 (by kernel_rfl) ?_;refine gZ 5 (bm:= [0,1,0,3,0,31,63,127,63,319]) (by kernel_rfl) z7 (by kernel_rfl) (by kernel_rfl) ?_;refine lU (by simp only[jP,jO,jN,seval,tT,cW,aA,qC,bM,bN,hn3,hM3,qn3,qM3,ER,ES,if_true,lS,tN,aQp]<;>with_reducible rfl) z7 (by repeat (first|exact dI.base _|with_reducible apply dI.keep|apply dI.drop)) ?_;refine kK (k:=5) (bm:= [0,1,0,3,0,31,63,127,63,319]) (by kernel_rfl) rfl (by kernel_rfl) (by kernel_rfl) ?_;refine kH (enc:=Nd.enc) (sz:=7) Nd.enc_len IV z7 (xs:=n.kids) (a:=⟨0,0,[],0,0,0,[]⟩) (by simp only[kC,seval,aA,qC,bM,bN,hn3,hM3,qn3,qM3,ER,ES,if_true,lS,tN]) rfl z7 z7 (by simp only[kC,seval,aA,qC,bM,bN,hn3,hM3,qn3,qM3,ER,ES,if_true,lS,tN]<;>first|done|rfl) (by simp only[kC,seval,aA,qC,bM,bN,hn3,hM3,qn3,qM3,ER,ES,if_true,lS,tN]<;>first|done|rfl) hc3 vD rfl (by show(_+1)*80<=_;simp only[fE]at hlk;omega) (by simp only[fE]at hlk;omega) (by rw[vD];rfl) FQ rfl ?_;intro cvA kidA HA hkA hcA hlA hsA;refine oN ?_;show jM _ _ _ _ _ _ _ _;rcases hkA.cases2 with⟨e,_⟩| ⟨ic3,c3,tG,rfl,rfl,hic3,hcl3,hmx3⟩
    ·simp at e
    obtain⟨RR,hRR⟩:∃RR,RR=aH ((n.kids++ [(⟨0,0,[],0,0,0,[]⟩:Nd)]).map Nd.enc)++tG:=⟨_,rfl⟩;rw[<-hRR]at hic3;simp only[aRf,aQ0,aR1,aRe]at hcl3⊢;have lRR:RR.length=c3*7:=by rw[hRR,aRf,sC];simp;omega
    have hb7:(n.kids.length*7+7<=c3*7)=True:=by simp;omega
    have gk:=bA (n:=n.kids.length+1) (i:=n.kids.length) z8;have gp:(0<((n.kids.length+1:Nat):Int))=True:=eq_true z8;have hb8:(7<=c3*7)=True:=by simp;omega
    have hicA:=lG hic3;have hicn:ic3≠H0.length+2/\H0.length+3<=ic3/\ic3∉cid2/\ic3≠ib:=by
     rcases hcA ic3 z6 with h|h
     ·have:=hd3 ic3 h;exact⟨z8,this.1,this.2,z8⟩
     ·exact⟨z8,z8,λe=>by have:=hB3.lt ic3 (.inr e);omega,z8⟩
    have knil:∀x,x<H3.length->x∉kid3->HA[x]? =H3[x]? :=hsA;have hnA:=(hsA _ (show H0.length+2<H3.length by omega) (λe=>by have:=hd3 _ e;omega)).trans hn3;have hlA2:=lG hnA;have q5:∀o,(HA.set ic3 o)[ic3]? =some o:=λo=>aQx hicA;have q6:=λo=>(aQy (a:=o) hicn.1).trans hnA;have q7:∀o o2,(HA.set ic3 o).set ic3 o2=HA.set ic3 o2:=λo o2=>List.set_set ..;have q8:∀o,(HA.set (H0.length+2) o)[ic3]? =some (.row RR):=λo=>by rw[aQy (Ne.symm hicn.1)];exact hic3
    have n1:(ic3==H0.length+2)=false:=by simpa using hicn.1
    have n2:(H0.length+2==ic3)=false:=by simpa using Ne.symm hicn.1
    have n3:∀k,(ic3=HA.length+k)=False:=λk=>by simp;omega
    have n4:∀k,(H0.length+2=HA.length+k)=False:=λk=>by simp;omega
    have n5:(ic3=HA.length)=False:=by simp;omega
    have n6:(H0.length+2=HA.length)=False:=by simp;omega
    refine gW 4 (bm:= [0,1,0,3,0,31,63,127,63,319]) (by kernel_rfl) z7 (by kernel_rfl) (by kernel_rfl) ?_;refine iT (bm:= [0,1,0,3,0,31,63,127,63,319]) (fresh:=HA.length+7) (by kernel_rfl) (by simp only[jD,jO,jN,seval,tT,cW,aA,qC,bM,bN,hn3,hM3,qn3,qM3,ER,ES,if_true,lS,tN,hb7,hb8,lRR,gk,gp,Nat.zero_mul,aRe,hic3,hnA,q5,q6,q7,q8,n1,n2,n3,n4,n5,n6]<;>with_reducible rfl) z7 ?_;refine fO ?_;refine dQ (λH4=>gN src off3 ds3 ib cid2 H4/\(∃cv kid,H4[H0.length+2]? =some (.row [.int .i64 (lJ (eB n m3.st m3.en) m3).kind, .int .i64 (lJ (eB n m3.st m3.en) m3).value, .str (lJ (eB n m3.st m3.en) m3).text, .int .i64 (lJ (eB n m3.st m3.en) m3).st, .int .i64 (lJ (eB n m3.st m3.en) m3).en, .int .i64 (lJ (eB n m3.st m3.en) m3).ns,cv])/\fS Nd.enc 7 H4 cv (lJ (eB n m3.st m3.en) m3).kids kid/\∀x∈kid,H0.length+3<=x/\x∉cid2)/\H4[H0.length+1]? =some (.row [.int .i64 0, .int .i64 0, .str [], .int .i64 0, .int .i64 0, .int .i64 0, .slice [] .full])/\Fr (ib::cid) (ib::cid2) H0 H4) ?_ ?_
    ·have hg:∀x,x<H3.length->x∉kid3->x≠H0.length+2->∀o1 o2,((HA.set ic3 o1).set (H0.length+2) o2)[x]? =H3[x]? :=λx h1 h2 h3 o1 o2=>by
      rw[aQy (Ne.symm h3),aQy (λe=>by subst e;rcases hcA ic3 z6 with h|h;exact h2 h;omega)];exact hsA x h1 h2
     have hl3:=hB3.lt;refine⟨hB3.fr λx hx=>hg x (hl3 x hx) (λe=>by have:=hd3 x e;rcases hx with rfl|hx;omega;exact this.2 hx) (by rintro rfl;rcases hx with h|hx;omega;exact hnc2 hx) _ _,⟨.msl ic3 0 (n.kids.length+1) c3,[ic3],by rw[aQx (by simpa using hlA2)];rfl, .of (rest:=tG) (by simp[lJ,eB,Nd.kids]) ?_ z8 hmx3,λx hx=>by rw[aRz]at hx;subst hx;exact⟨hicn.2.1,hicn.2.2.1⟩⟩,by rw[hg _ z8 (λe=>by have:=hd3 _ e;omega) z8];exact hz3,by simp only[lS];have:=f3.len;omega,λid h1 h2=>by have:=f3.len;rw[hg id z8 (λe=>by have:=hd3 id e;omega) z8];exact f3.same id h1 h2,λid h1 h2=>f3.ids id h1 h2⟩;rw[aQy (Ne.symm hicn.1),aQx hicA,hRR];show _=some (AObj.row (aH ((n.kids++ [m3]).map Nd.enc)++tG));rw[pO,pO];refine congrArg (λz=>some (AObj.row z)) ?_;rw[aR4]
     first|exact aCe (sC n.kids)|exact aCe (m:=0) (by rw[hke];rfl)
    rintro H4 ⟨hB4,⟨cv4,kid4,hn4,hc4,hd4⟩,hz4,f4⟩;refine ZE (a5 y3 hb qb hn1 (a5 hz1 qn1 qz1 gi (a5 ge gl gwj hn2 (a2 qn2 hkl)))) ?_
    try simp only[aY,aT]
    exact⟨(j+1,off3,lJ (eB n m3.st m3.en) m3,ds3),by show t.ch.length- (j+1)<t.ch.length-j;omega,ZV,hi,hk1,cid2,hB4,⟨cv4,kid4,hn4,hc4,hd4⟩,hz4,hzc2,hnc2,f4⟩
   ·
    refine wQ ?_;refine eR 0 (by kernel_rfl) ?_;refine gZ 5 (bm:= [0,1,0,3,0,31,63,127,63,319]) (by kernel_rfl) z7 (by kernel_rfl) (by kernel_rfl) ?_;refine lU (by simp only[jP,jO,jN,seval,tT,cW,aA,qC,bM,bN,hn3,hM3,qn3,qM3,ER,ES,if_true,lS,tN,aQp]<;>with_reducible rfl) z7 (by repeat (first|exact dI.base _|with_reducible apply dI.keep|apply dI.drop)) ?_;refine kK (k:=5) (bm:= [0,1,0,3,0,31,63,127,63,319]) (by kernel_rfl) rfl (by kernel_rfl) (by kernel_rfl) ?_;refine kH (enc:=Nd.enc) (sz:=7) Nd.enc_len IV z7 (xs:=n.kids) (a:=⟨0,0,[],0,0,0,[]⟩) (by simp only[kC,seval,aA,qC,bM,bN,hn3,hM3,qn3,qM3,ER,ES,if_true,lS,tN]) rfl z7 z7 (by simp only[kC,seval,aA,qC,bM,bN,hn3,hM3,qn3,qM3,ER,ES,if_true,lS,tN]<;>first|done|rfl) (by simp only[kC,seval,aA,qC,bM,bN,hn3,hM3,qn3,qM3,ER,ES,if_true,lS,tN]<;>first|done|rfl) hc3 vD rfl (by show(_+1)*80<=_;simp only[fE]at hlk;omega) (by simp only[fE]at hlk;omega) (by rw[vD];rfl) FQ rfl ?_;intro cvA kidA HA hkA hcA hlA hsA;refine oN ?_;show jM _ _ _ _ _ _ _ _;rcases hkA.cases2 with⟨e,_⟩| ⟨ic3,c3,tG,rfl,rfl,hic3,hcl3,hmx3⟩
    ·simp at e
    obtain⟨RR,hRR⟩:∃RR,RR=aH ((n.kids++ [(⟨0,0,[],0,0,0,[]⟩:Nd)]).map Nd.enc)++tG:=⟨_,rfl⟩;rw[<-hRR]at hic3;simp only[aRf,aQ0,aR1,aRe]at hcl3⊢;have lRR:RR.length=c3*7:=by rw[hRR,aRf,sC];simp;omega
    have hb7:(n.kids.length*7+7<=c3*7)=True:=by simp;omega
    have gk:=bA (n:=n.kids.length+1) (i:=n.kids.length) z8;have gp:(0<((n.kids.length+1:Nat):Int))=True:=eq_true z8;have hb8:(7<=c3*7)=True:=by simp;omega
    have hicA:=lG hic3;have hicn:ic3≠H0.length+2/\H0.length+3<=ic3/\ic3∉cid2/\ic3≠ib:=by
     rcases hcA ic3 z6 with h|h
     ·have:=hd3 ic3 h;exact⟨z8,this.1,this.2,z8⟩
     ·exact⟨z8,z8,λe=>by have:=hB3.lt ic3 (.inr e);omega,z8⟩
    have knil:∀x,x<H3.length->x∉kid3->HA[x]? =H3[x]? :=hsA;have hnA:=(hsA _ (show H0.length+2<H3.length by omega) (λe=>by have:=hd3 _ e;omega)).trans hn3;have hlA2:=lG hnA;have q5:∀o,(HA.set ic3 o)[ic3]? =some o:=λo=>aQx hicA;have q6:=λo=>(aQy (a:=o) hicn.1).trans hnA;have q7:∀o o2,(HA.set ic3 o).set ic3 o2=HA.set ic3 o2:=λo o2=>List.set_set ..;have q8:∀o,(HA.set (H0.length+2) o)[ic3]? =some (.row RR):=λo=>by rw[aQy (Ne.symm hicn.1)];exact hic3
    have n1:(ic3==H0.length+2)=false:=by simpa using hicn.1
    have n2:(H0.length+2==ic3)=false:=by simpa using Ne.symm hicn.1
    have n3:∀k,(ic3=HA.length+k)=False:=λk=>by simp;omega
    have n4:∀k,(H0.length+2=HA.length+k)=False:=λk=>by simp;omega
    have n5:(ic3=HA.length)=False:=by simp;omega
    have n6:(H0.length+2=HA.length)=False:=by simp;omega
    refine gW 4 (bm:= [0,1,0,3,0,31,63,127,63,319]) (by kernel_rfl) z7 (by kernel_rfl) (by kernel_rfl) ?_;refine iT (bm:= [0,1,0,3,0,31,63,127,63,319]) (fresh:=HA.length+7) (by kernel_rfl) (by simp only[jD,jO,jN,seval,tT,cW,aA,qC,bM,bN,hn3,hM3,qn3,qM3,ER,ES,if_true,lS,tN,hb7,hb8,lRR,gk,gp,Nat.zero_mul,aRe,hic3,hnA,q5,q6,q7,q8,n1,n2,n3,n4,n5,n6]<;>with_reducible rfl) z7 ?_;refine fO ?_;refine dQ (λH4=>gN src off3 ds3 ib cid2 H4/\(∃cv kid,H4[H0.length+2]? =some (.row [.int .i64 (lJ (eB n m3.st m3.en) m3).kind, .int .i64 (lJ (eB n m3.st m3.en) m3).value, .str (lJ (eB n m3.st m3.en) m3).text, .int .i64 (lJ (eB n m3.st m3.en) m3).st, .int .i64 (lJ (eB n m3.st m3.en) m3).en, .int .i64 (lJ (eB n m3.st m3.en) m3).ns,cv])/\fS Nd.enc 7 H4 cv (lJ (eB n m3.st m3.en) m3).kids kid/\∀x∈kid,H0.length+3<=x/\x∉cid2)/\H4[H0.length+1]? =some (.row [.int .i64 0, .int .i64 0, .str [], .int .i64 0, .int .i64 0, .int .i64 0, .slice [] .full])/\Fr (ib::cid) (ib::cid2) H0 H4) ?_ ?_
    ·have hg:∀x,x<H3.length->x∉kid3->x≠H0.length+2->∀o1 o2,((HA.set ic3 o1).set (H0.length+2) o2)[x]? =H3[x]? :=λx h1 h2 h3 o1 o2=>by
      rw[aQy (Ne.symm h3),aQy (λe=>by subst e;rcases hcA ic3 z6 with h|h;exact h2 h;omega)];exact hsA x h1 h2
     have hl3:=hB3.lt;refine⟨hB3.fr λx hx=>hg x (hl3 x hx) (λe=>by have:=hd3 x e;rcases hx with rfl|hx;omega;exact this.2 hx) (by rintro rfl;rcases hx with h|hx;omega;exact hnc2 hx) _ _,⟨.msl ic3 0 (n.kids.length+1) c3,[ic3],by rw[aQx (by simpa using hlA2)];rfl, .of (rest:=tG) (by simp[lJ,eB,Nd.kids]) ?_ z8 hmx3,λx hx=>by rw[aRz]at hx;subst hx;exact⟨hicn.2.1,hicn.2.2.1⟩⟩,by rw[hg _ z8 (λe=>by have:=hd3 _ e;omega) z8];exact hz3,by simp only[lS];have:=f3.len;omega,λid h1 h2=>by have:=f3.len;rw[hg id z8 (λe=>by have:=hd3 id e;omega) z8];exact f3.same id h1 h2,λid h1 h2=>f3.ids id h1 h2⟩;rw[aQy (Ne.symm hicn.1),aQx hicA,hRR];show _=some (AObj.row (aH ((n.kids++ [m3]).map Nd.enc)++tG));rw[pO,pO];refine congrArg (λz=>some (AObj.row z)) ?_;rw[aR4]
     first|exact aCe (sC n.kids)|exact aCe (m:=0) (by rw[hke];rfl)
    rintro H4 ⟨hB4,⟨cv4,kid4,hn4,hc4,hd4⟩,hz4,f4⟩;refine ZE (a5 y3 hb qb hn1 (a5 hz1 qn1 qz1 gi (a5 ge gl gwj hn2 qn2))) ?_
    try simp only[aY,aT]
    exact⟨(j+1,off3,lJ (eB n m3.st m3.en) m3,ds3),by show t.ch.length- (j+1)<t.ch.length-j;omega,ZV,hi,hk1,cid2,hB4,⟨cv4,kid4,hn4,hc4,hd4⟩,hz4,hzc2,hnc2,f4⟩
 ·
  have gl:decide ((j:Int)<(t.ch.length:Int))=false:=decide_eq_false z8;rw[List.drop_eq_nil_of_le hi,lH]at hk1;injection hk1 with hk1;injection hk1 with hk1 hk2;injection hk2 with hk2 hk3;subst hk1 hk2 hk3;refine ZE (a5 y3 hb qb hn1 (a4 hz1 qn1 qz1 gl)) ?_;refine ZF (a5 hb qb hn1 hz1 (a3 qn1 qz1 gl)) ?_;refine wQ ?_;refine bG ?_;simp only[aY,aT,reduceIte,Nat.reduceEqDiff,aR5,if_true,if_false];refine wQ ?_;have hs12:∀o,(H1.set (H0.length+2) o)[H0.length+2]? =some o:=λo=>aQx hil1;have nI1:(H0.length+2=H1.length)=False:=by simp;omega
  refine eE (Za (a5 y3 cW hb qb (a5 hn1 hz1 qn1 qz1 (a3 gl hs12 nI1)))) z7 ?_;obtain⟨hkn,rfl,rfl⟩| ⟨ic,c',rest',rfl,rfl,hH,hcl',hmx'⟩:=hc1.cases2
  ·
   refine dQ (λH5=>gN src off1 ds1 ib cid1 H5/\H5[H0.length+1]? =some (.row [.int .i64 0, .int .i64 0, .str [], .int .i64 0, .int .i64 0, .int .i64 0, .slice [] .full])/\(∃cs,H5[H0.length+2]? =some (.row cs)/\7<=cs.length/\(cs.take 7).map PV.drop1=(fJ n n.st (max n.en n.st)).enc.cells)/\Fr (ib::cid) (ib::cid1) H0 H5) ?_ ?_
   ·exact⟨hB1.set z8 hnc1 _,by rw[aQy z8];exact hz1,⟨_,aQx hil1,z6,by rw[Nd.enc_cells];show _= [_,_,_,_,_,_,PV.slice (n.kids.map Nd.enc) .none];rw[hkn];rfl⟩,⟨by simp only[lS];exact f1.len,λid h1 h2=>by rw[aQy z8];exact f1.same id h1 h2,f1.ids⟩⟩
   rintro H5 ⟨hB5,hz5,⟨cs5,hcs5,hl5,hd5⟩,f5⟩;have hl5:(7<=cs5.length)=True:=by simp;omega
   have hz5l:=lG hz5;have hL5:(cs5.take 7).length=7:=by simp;omega
   refine wQ ?_;refine wR ?_;refine eT 2 (by simp only[kA,seval,cW,aA,qC,bM,bN,hb,qb,hn1,hz1,qn1,qz1,gl,hz5,hcs5,hl5,hL5,hd5,Nd.enc_cells,Nd.enc_agg]<;>with_reducible rfl) z7 ?_;refine oC (by simp only[kC,seval,aA,qC,bM,bN,hb,qb,hn1,hz1,qn1,qz1,gl,hz5,hcs5,hl5,hL5,hd5,Nd.enc_cells,Nd.enc_agg]<;>with_reducible rfl) (by simp only[kC,seval,aA,qC,bM,bN,hb,qb,hn1,hz1,qn1,qz1,gl,hz5,hcs5,hl5,hL5,hd5,Nd.enc_cells,Nd.enc_agg]) z7 WQ (aAy hfin hB5) ?_;rintro _ H6 ⟨rfl,cid6,hB6,g6⟩;have hzx6:H0.length+1∉ib::cid1:=by simp only[aRs,not_or];exact⟨z8,hzc1⟩
   have hz6:H6[H0.length+1]? =some (.row [.int .i64 0, .int .i64 0, .str [], .int .i64 0, .int .i64 0, .int .i64 0, .slice [] .full]):=by rw[g6.same _ hz5l hzx6];exact hz5
   have hz6l:=lG hz6;have hzc6:H0.length+1∉cid6:=λe=>g6.out hz5l hzx6 (by simp[e]);have hs6:∀o,(H6.set (H0.length+1) o)[H0.length+1]? =some o:=λo=>aQx hz6l;have nZ6:(H0.length+1=H6.length)=False:=by simp;omega
   have f6:=f5.trans g6;refine iX (by simp only[kA,seval,cW,aA,qC,bM,bN,hb,qb,hn1,hz1,qn1,qz1,gl,hz6,hs6,nZ6,hz5,hcs5,hl5,hL5,hd5,Nd.enc_cells,Nd.enc_agg]<;>with_reducible rfl) z7 ?_;refine wQ ?_;refine wT ⟨.inr rfl,_,(kQ 4 31 rfl lZ z7 (by simp only[jL,jN,seval,aA,qC,bM,bN,hb,qb,hn1,hz1,qn1,qz1,gl,hz6,hs6,nZ6,hs6]<;>with_reducible rfl)), ?_⟩;exact⟨rfl,cid6,hB6.set z8 hzc6 _,by rw[lS];exact f6.len,λid h1 h2=>by rw[aQy z8];exact f6.same id h1 h2,f6.ids⟩
  ·
   obtain⟨es,he1,he2,he3⟩:=PH 7 (c'-n.kids.length) rest' z8;have hicd:=hd1 ic z6;have hrow:((H1.set (H0.length+2) (.row [.int .i64 n.kind, .int .i64 n.value, .str n.text, .int .i64 n.st, .int .i64 (max n.en n.st), .int .i64 n.ns, .msl ic 0 n.kids.length c'])))[ic]? =some (.row (aH (n.kids.map Nd.enc++es))):=by rw[aQy z8,hH,cM,he2]
   refine FM ic n.kids.length 7 (H0.length+2) (n.kids.map Nd.enc++es) hrow z6 (λe he=> ?_) (aQx hil1) z8 (cs':= [.int .i64 n.kind, .int .i64 n.value, .str n.text, .int .i64 n.st, .int .i64 (max n.en n.st), .int .i64 n.ns, .slice (n.kids.map Nd.enc) .none]) rfl (λi h1 h2=> ?_) ?_
   ·rcases aRp.1 he with he|he
    ·obtain⟨v,_,rfl⟩:=aRn.1 he;exact v.enc_len
    ·exact he3 e he
   ·match i,h1,h2 with
    |0,_,_=>exact .same _
    |1,_,_=>exact .same _
    |2,_,_=>exact .same _
    |3,_,_=>exact .same _
    |4,_,_=>exact .same _
    |5,_,_=>exact .same _
    |6,_,_=>
     have:(n.kids.map Nd.enc++es).take n.kids.length=n.kids.map Nd.enc:=by rw[List.take_append_of_le_length z6,aR8 z6]
     have h:=Fz.msl (id:=ic) (k:=n.kids.length) (es:=n.kids.map Nd.enc++es) c' z8;rw[this]at h;exact h
   refine dQ (λH5=>gN src off1 ds1 ib cid1 H5/\H5[H0.length+1]? =some (.row [.int .i64 0, .int .i64 0, .str [], .int .i64 0, .int .i64 0, .int .i64 0, .slice [] .full])/\(∃cs,H5[H0.length+2]? =some (.row cs)/\7<=cs.length/\(cs.take 7).map PV.drop1=(fJ n n.st (max n.en n.st)).enc.cells)/\Fr (ib::cid) (ib::cid1) H0 H5) ?_ ?_
   ·exact⟨((hB1.set z8 hnc1 _).set z8 hicd.2 _).set z8 hnc1 _,by rw[aQy z8,aQy z8,aQy z8];exact hz1,⟨_,aQx (by simpa using hil1),z6,by rw[Nd.enc_cells];rfl⟩,⟨by simp only[lS];exact f1.len,λid h1 h2=>by rw[aQy z8,aQy z8,aQy z8];exact f1.same id h1 h2,f1.ids⟩⟩
   rintro H5 ⟨hB5,hz5,⟨cs5,hcs5,hl5,hd5⟩,f5⟩;have hl5:(7<=cs5.length)=True:=by simp;omega
   have hz5l:=lG hz5;have hL5:(cs5.take 7).length=7:=by simp;omega
   refine wQ ?_;refine wR ?_;refine eT 2 (by simp only[kA,seval,cW,aA,qC,bM,bN,hb,qb,hn1,hz1,qn1,qz1,gl,hz5,hcs5,hl5,hL5,hd5,Nd.enc_cells,Nd.enc_agg]<;>with_reducible rfl) z7 ?_;refine oC (by simp only[kC,seval,aA,qC,bM,bN,hb,qb,hn1,hz1,qn1,qz1,gl,hz5,hcs5,hl5,hL5,hd5,Nd.enc_cells,Nd.enc_agg]<;>with_reducible rfl) (by simp only[kC,seval,aA,qC,bM,bN,hb,qb,hn1,hz1,qn1,qz1,gl,hz5,hcs5,hl5,hL5,hd5,Nd.enc_cells,Nd.enc_agg]) z7 WQ (aAy hfin hB5) ?_;rintro _ H6 ⟨rfl,cid6,hB6,g6⟩;have hzx6:H0.length+1∉ib::cid1:=by simp only[aRs,not_or];exact⟨z8,hzc1⟩
   have hz6:H6[H0.length+1]? =some (.row [.int .i64 0, .int .i64 0, .str [], .int .i64 0, .int .i64 0, .int .i64 0, .slice [] .full]):=by rw[g6.same _ hz5l hzx6];exact hz5
   have hz6l:=lG hz6;have hzc6:H0.length+1∉cid6:=λe=>g6.out hz5l hzx6 (by simp[e]);have hs6:∀o,(H6.set (H0.length+1) o)[H0.length+1]? =some o:=λo=>aQx hz6l;have nZ6:(H0.length+1=H6.length)=False:=by simp;omega
   have f6:=f5.trans g6;refine iX (by simp only[kA,seval,cW,aA,qC,bM,bN,hb,qb,hn1,hz1,qn1,qz1,gl,hz6,hs6,nZ6,hz5,hcs5,hl5,hL5,hd5,Nd.enc_cells,Nd.enc_agg]<;>with_reducible rfl) z7 ?_;refine wQ ?_;refine wT ⟨.inr rfl,_,(kQ 4 31 rfl lZ z7 (by simp only[jL,jN,seval,aA,qC,bM,bN,hb,qb,hn1,hz1,qn1,qz1,gl,hz6,hs6,nZ6,hs6]<;>with_reducible rfl)), ?_⟩;exact⟨rfl,cid6,hB6.set z8 hzc6 _,by rw[lS];exact f6.len,λid h1 h2=>by rw[aQy z8];exact f6.same id h1 h2,f6.ids⟩
theorem KX(src:List UInt8)(e3 e4:Value)(ib:Nat):∀(k:Nat) (t:St),SizeOf.sizeOf t<k->NC src e3 e4 ib t
 |0,t,h=>z8
 |k+1,t,h=>aJj λc hc=>KX src e3 e4 ib k c (by
  cases t with
  |mk kk tx ch=>
   have:=List.sizeOf_lt_of_mem (show c∈ch from hc);simp at h;omega)
theorem aDm(src:List UInt8)(e3 e4:Value)(ib:Nat)(t:St):NC src e3 e4 ib t:=KX src e3 e4 ib _ t (aR3 _)
open Go.Proofs Go.Shelf Go.RowKit Go.Lib Go.Sort
def toX(d:Dg):XD:=(d.code,d.st,d.en)
def XW(x:XD):Dg:=⟨x.1,0,x.2.1,x.2.2,[]⟩
def LK(d:Dg):Prop:=d.mod=0/\d.name= []
def ltD(x y:XD):Bool:=decide (x.2.1<y.2.1\/(x.2.1=y.2.1/\(x.2.2<y.2.2\/(x.2.2=y.2.2/\x.1<y.1))))
theorem ltX(x y:XD):ltOf PW x y=ltD x y:=by
 obtain⟨a,b,c⟩:=x;obtain⟨a',b',c'⟩:=y;unfold ltOf PW ltD Lib.compareInt;simp only[orL];rw[decide_eq_decide]
 repeat' split
 all_goals simp_all
 all_goals omega
theorem aPh:SWO (ltOf PW) where
 irrefl x:=by rw[ltX];simp[ltD]
 trans x y z h1 h2:=by rw[ltX]at*;simp only[ltD,decide_eq_true_eq]at*;omega
 ntrans x y z h1 h2:=by rw[ltX]at*;simp only[ltD,decide_eq_false_iff_not]at*;omega
theorem yD:∀(ds:List Dg) (i j:Nat) (hi:i<ds.length) (hj:j<5),(aH (ds.map Dg.enc))[i*5+j]? =some (ds[i].enc.cells[j]'(by rw[Dg.enc_len];exact hj))
 |d::ds,0,j,_,hj=>by
  rw[Nat.zero_mul,aRe,aRd,show aH (d.enc::ds.map Dg.enc)=d.enc.cells++aH (ds.map Dg.enc)from rfl,aQt (by rw[Dg.enc_len];exact hj),aRa];rfl
 |d::ds,i+1,j,hi,hj=>by
  rw[aRd,show aH (d.enc::ds.map Dg.enc)=d.enc.cells++aH (ds.map Dg.enc)from rfl,aQu (by rw[Dg.enc_len];omega),Dg.enc_len,show(i+1)*5+j-5=i*5+j by omega];exact yD ds i j (by simpa using hi) hj
theorem aCu{V:cQ}{v:Value}:aM V v (.str [])↔v= .string ⟨#[]⟩:=by
 constructor
 ·intro h;generalize hs:([]:List UInt8)=s at h;cases h with
  |str z=>
   obtain⟨⟨l⟩⟩:=z;have hs:l= []:=hs.symm;rw[hs]
 ·rintro rfl;exact .str ⟨#[]⟩
theorem aEq{V:cQ}{v:Value}{d:Dg}(hx:LK d):∀(j:Nat) (hj:j<5),aM V v (d.enc.cells[j]'(by rw[Dg.enc_len];exact hj))↔v=(sJ (toX d))[j]! :=by
 intro j hj;have hc:d.enc.cells= [.int .i64 d.code, .int .i64 0, .int .i64 d.st, .int .i64 d.en, .str []]:=by rw[Dg.enc_cells,hx.1,hx.2]
 have hg:d.enc.cells[j]'(by rw[Dg.enc_len];exact hj)= [PV.int .i64 d.code, .int .i64 0, .int .i64 d.st, .int .i64 d.en, .str []][j]'hj:=by simp only[hc]
 rw[hg];have hi:∀n:Int,aM V v (.int .i64 n)↔v= .int .i64 n:=λn=>⟨λh=>h.int_inv,by rintro rfl;exact .int _ _⟩
 match j,hj with
 |0,_=>exact hi _
 |1,_=>exact hi _
 |2,_=>exact hi _
 |3,_=>exact hi _
 |4,_=>exact aCu
def XJ(P:Program)(f g:FuncId):Prop:=∀(blk cap:Nat) (d:Array XD) (w:World),HoldsK sJ 5 w blk 0 d->blk<w.heap.size->d.size<4611686018427387904->
 Calls P f #[.slice (some ⟨blk,0,none⟩) d.size cap, .func (.func g) #[] #[]] w λe w'=>e= .returned (.tuple #[])/\∃d' n os,PermIn 0 d.size d d'/\SortedIn (ltOf PW) 0 d.size d'/\w'=sortWorldK sJ 5 w blk 0 n d' os
theorem QE{E:aE}{blk n:Nat}{arr:Array Value}{elem:TypeId}{d':Array XD}{os:Array Obj}(h1:E.w.heap[blk]? =some (.cells arr elem (0,0))):
  (sortWorldK sJ 5 E.w blk 0 n d' os).heap[blk]? =some (.cells (putCells id 0 (flatK sJ 5 d') arr) elem (0,0)):=by
 have hlt:blk<E.w.heap.size:=(Array.getElem?_eq_some_iff.1 h1).1;show((E.w.heap.modify blk (onCells (putCells id 0 (flatK sJ 5 d'))))++os)[blk]? =_;rw[Array.getElem?_append_left (by simpa using hlt),Array.getElem?_modify,if_pos rfl,h1];rfl
theorem SE{w:World}{blk n:Nat}{d':Array XD}{os:Array Obj}:World.Re w (sortWorldK sJ 5 w blk 0 n d' os) blk:=by
 refine⟨rfl,rfl,rfl, ?_,λx hx hne=> ?_⟩
 ·show w.heap.size<=((w.heap.modify blk (onCells (putCells id 0 (flatK sJ 5 d'))))++os).size;simp
 ·show((w.heap.modify blk (onCells (putCells id 0 (flatK sJ 5 d'))))++os)[x]? =_;rw[Array.getElem?_append_left (by simpa using hx),Array.getElem?_modify,if_neg (Ne.symm hne)]
def aDt(ds:List Dg):Prop:=ds.Pairwise λa b=>ltD (toX b) (toX a)=false
theorem II{P:Program}{f g:FuncId}(HC:XJ P f g){H:aC}{id c:Nat}{bs:List Dg}{rest:List PV}(hid:H[id]? =some (.row (aH (bs.map Dg.enc)++rest)))(hX:∀d∈bs,LK d)(hlen:bs.length<4611686018427387904):
  aL P f [.msl id 0 bs.length c, .fn (.func g) [] []] H λr' H'=>r'= .tup []/\∃bs',bs'.Perm bs/\aDt bs'/\H'=H.set id (.row (aH (bs'.map Dg.enc)++rest)):=by
 intro E vargs ho hH hrl;subst hH;obtain⟨arr,elem,h1,h2,h3,h4⟩:=ho.rows id _ hid;have hlt:E.ρ id<E.w.heap.size:=ho.rowBlock hid;have dU:∀l:List Dg,(aH (l.map Dg.enc)).length=l.length*5:=λl=>jJ Dg.enc_len l;have hsz:arr.size=bs.length*5+rest.length:=by rw[h2,aRf,dU]
 have hv:vargs= #[.slice (some ⟨E.ρ id,0,none⟩) bs.length c, .func (.func g) #[] #[]]:=by
  obtain⟨hs,hv⟩:=hrl;simp at hs;have v0:aM E.view (vargs.getD 0 undef) (.msl id 0 bs.length c):=hv 0 z6;have v1:aM E.view (vargs.getD 1 undef) (.fn (.func g) [] []):=hv 1 z6;have e0:vargs.getD 0 undef= .slice (some ⟨E.ρ id,0,none⟩) bs.length c:=by generalize vargs.getD 0 undef=q at v0;cases v0;rfl
  have e1:vargs.getD 1 undef= .func (.func g) #[] #[]:=by
   generalize vargs.getD 1 undef=q at v1;cases v1;rename_i a b _ _ _ _;have ha:a= #[]:=Array.eq_empty_of_size_eq_zero (by assumption);have hb:b= #[]:=Array.eq_empty_of_size_eq_zero (by assumption);rw[ha,hb]
  refine Array.ext (by simpa using hs) λi hi hi'=> ?_;simp at hi'
  match i,hi' with
  |0,_=>simpa[Array.getD,hs]using e0
  |1,_=>simpa[Array.getD,hs]using e1
 subst hv;have hget:∀(i j:Nat) (hi:i<bs.length) (hj:j<5),arr.getD (i*5+j) undef=(sJ (toX bs[i]))[j]! :=λi j hi hj=>by
  have hl:i*5+j<(aH (bs.map Dg.enc)++rest).length:=by rw[aRf,dU];omega
  have h:=h3 (i*5+j) hl;have e:(aH (bs.map Dg.enc)++rest)[i*5+j]? =some (bs[i].enc.cells[j]'(by rw[Dg.enc_len];exact hj)):=by
   rw[aQt (by rw[dU];omega)];exact yD bs i j hi hj
  rw[aRa hl]at e;injection e with e;rw[e]at h;exact(aEq (hX _ (aRh hi)) j hj).1 h
 have hds:(bs.map toX).toArray.size=bs.length:=z6
 have hholds:HoldsK sJ 5 E.w (E.ρ id) 0 (bs.map toX).toArray:=by
  intro j hj;rw[size_flatK,hds]at hj;have hd:j/5<bs.length:=z8
  have hm:j%5<5:=Nat.mod_lt _ z8;constructor
  ·have:=hget (j/5) (j%5) hd hm;rw[show j/5*5+j%5=j by omega]at this;rw[get_flatK _ _ _ _ (by rw[hds];exact hj)];unfold World.cell?;simp only[aRe,h1];rw[show(none:Option Nat).isSome=false from rfl];have hj2:j<arr.size:=z8
   rw[aQm,aQr hj2,aQs]at this;simp only[aQ9,if_false,aQr hj2,this,_root_.id];simp[hd]
  ·unfold World.frozen?;simp only[h1];simp
 have hc:=HC (E.ρ id) c (bs.map toX).toArray E.w hholds hlt (by rw[hds];exact hlen);rw[hds]at hc;refine hc.mono ?_;rintro e w' ⟨rfl,d',n,os,⟨hp1, -,hp3⟩,hs,rfl⟩;rw[hds]at hp1;have hperm:d'.toList.Perm (bs.map toX):=by
  have e1:d'.extract 0 bs.length=d':=by rw[<-hp1];exact Array.extract_size
  have e2:(bs.map toX).toArray.extract 0 bs.length=(bs.map toX).toArray:=by
   have:bs.length=(bs.map toX).toArray.size:=hds.symm;rw[this];exact Array.extract_size
  rw[e1,e2]at hp3;exact hp3
 have hfx:(bs.map toX).map XW=bs:=by
  rw[List.map_map]
  conv=>rhs;rw[<-List.map_id bs]
  refine List.map_congr_left λd hd=> ?_;obtain⟨q1,q2⟩:=hX d hd;obtain⟨a,b,c',d',e⟩:=d;simp only at q1 q2;subst q1 q2;rfl
 obtain⟨bs',hb'⟩:∃bs',bs'=d'.toList.map XW:=⟨_,rfl⟩;have hpb:bs'.Perm bs:=by rw[hb'];have:=hperm.map XW;rwa [hfx]at this
 have hl':bs'.length=bs.length:=hpb.length_eq;have hX':∀d∈bs',LK d:=λd hd=>hX d (hpb.mem_iff.1 hd);have hbg:∀i (hi:i<bs'.length),toX bs'[i]=d'[i]! :=λi hi=>by
  have hi2:i<d'.size:=z8
  rw[getElem!_pos d' i hi2];simp only[hb',aQg,Array.getElem_toList];rfl
 have hsorted:aDt bs':=by
  unfold aDt;rw[List.pairwise_iff_getElem];intro i j hi hj hij;have:=hs i j (aRk _) hij z8;rw[ltX]at this;rw[hbg i hi,hbg j hj];exact this
 refine⟨E.reRow id (sortWorldK sJ 5 E.w (E.ρ id) 0 n d' os) (aH (bs'.map Dg.enc)++rest), .tuple #[], .tup [],rfl,rfl,aE.reRow_le ho hid SE _,ho.reRow hid SE _ ⟨_,elem,QE h1, ?_, ?_⟩, .tup _ _ rfl (λi hi=>absurd hi z6),rfl,bs',hpb,hsorted,rfl⟩
 ·rw[aRf,dU,hl'];simp only[putCells,Array.size_mapIdx];exact hsz
 ·intro i hi;have hi0:i<arr.size:=by rw[aRf,dU,hl']at hi;omega
  have hgt:(putCells (_root_.id:Value->Value) 0 (flatK sJ 5 d') arr).getD i undef=if i<bs.length*5 then(flatK sJ 5 d')[i]! else arr.getD i undef:=by
   unfold putCells;rw[aQm,Array.getElem?_mapIdx,aQr hi0];simp only[aQz,aQs,size_flatK,hp1,aRk,true_and,aRe,Nat.sub_zero,_root_.id]
   split
   ·rfl
   ·simp[Array.getD,hi0]
  rw[hgt]
  split
  ·rename_i hlt';have hd:i/5<bs'.length:=z8
   have hm:i%5<5:=Nat.mod_lt _ z8;rw[get_flatK _ _ _ _ (by rw[hp1];exact hlt'),<-hbg _ hd];have e:=yD bs' (i/5) (i%5) hd hm;rw[show i/5*5+i%5=i by omega]at e;have e2:(aH (bs'.map Dg.enc)++rest)[i]? =some (bs'[i/5].enc.cells[i%5]'(by rw[Dg.enc_len];exact hm)):=by
    rw[aQt (by rw[dU];omega)];exact e
   rw[aRa hi]at e2;injection e2 with e2;rw[e2];exact(aEq (hX' _ (aRh hd)) _ hm).2 rfl
  ·rename_i hge;have h:=h3 i (by rw[aRf,dU];omega);have e1:(aH (bs.map Dg.enc)++rest)[i]'(by rw[aRf,dU];omega)=rest[i-bs.length*5]'z8:=by
    rw[List.getElem_append_right (by rw[dU];omega)];simp only[dU]
   have e2:(aH (bs'.map Dg.enc)++rest)[i]'hi=rest[i-bs.length*5]'z8:=by
    rw[List.getElem_append_right (by rw[dU];omega)];simp only[dU,hl']
   rw[e1]at h;rw[e2];simpa[Array.getD,hi0]using h
end Go.Abs
namespace Go.Abs
section
variable{P:Program}{N nb:Nat}{ops:Array Oper}{Q:dG}
theorem KF{o:Oper}{l:List Oper}{T:aD}{H:aC}{x:Operand}{t:TypeId}{ei:TypeId×TI}{id off n c:Nat}{cs:List PV}{z:PV}(hid:H[id]? =some (.row cs))(hw:aV ops.toList T N o=some true)
  (hop:o.op= .call ⟨.builtin .clear, #[x], #[t]⟩) (okx:aQ N x=true) (hx:bO T x= .msl id off n c) (hte:cN P t=some ei) (hz:cF P ei.1=some z) (hzf:z.fits ei.2=true) (hzc:z.cells.all PV.isCell=true) (hfit:off+n*ei.2.sz<=cs.length)
  (h:bB P N nb ops Q l (bT T o.dst .junk) (H.set id (.row (cP cs off (aQ3 n z.cells).flatten)))):bB P N nb ops Q (o::l) T H:=by
 obtain⟨e,i⟩:=ei;obtain⟨h1,h2⟩:=cX hte;obtain⟨dd,f,h3,h4,rfl⟩:=bQ h2;obtain⟨f',zv,h5,h6,rfl⟩:=eI hz;simp only at h5 hzf hfit;rw[h4]at h5;cases h5;obtain⟨hzs,hzj⟩:=PV.fits_spec hzf;simp only at hzs;have hsrc:((aQ3 n (aU zv).cells).flatten).length=n*f.size:=by simp[hzs]
 refine fA hw (λE a ho hH ht=> ?_) h;subst hH;have hvx:=aO ht x okx;rw[hx]at hvx;have vx:a.eval x= .slice (some ⟨E.ρ id,off,none⟩) n c:=by
  generalize a.eval x=w at hvx;cases hvx with
  |msl _ _ _ _ hbn hm=>rfl
 have hzl:RL E.view (Builtin.zeroCells zv.cells n) ((aQ3 n (aU zv).cells).flatten):=by
  have:=nT (V:=E.view) zv hzj n;rw[kD]at this;exact this
 have hall:((aQ3 n (aU zv).cells).flatten).all PV.isCell=true:=by
  rw[aRo]at hzc⊢;intro v hv;obtain⟨l,hl,hv⟩:=List.mem_flatten.1 hv;rw[List.mem_replicate]at hl;rw[hl.2]at hv;exact hzc v hv
 obtain⟨E',e1',e2,e3,e4⟩:=uE (P:=P) (id:=id) (off:=off) (Builtin.zeroCells zv.cells n).toList ((aQ3 n (aU zv).cells).flatten) 0 E cs ho hid (by rw[aQq];exact hzl.1) (λj hj=>by
  have:=hzl.2 j hj;rw[aQm]at this;rw[aRb,aRc];exact this) hall (by rw[aQq,hzl.1,hsrc];omega)
 refine⟨E', .tuple #[], .inl ?_,e2,e3,by rw[e4,Nat.add_zero], .junk _⟩;unfold execOp;rw[hop];simp only;refine(fH (c:=⟨.builtin .clear, #[x], #[t]⟩) (a:=a) (E:=E) (P:=P) (xs:= [x]) (ts:= [t]) (ty:=o.type) rfl rfl rfl (s:=Builtin.clear_ #[t] o.type #[a.eval x]) rfl).trans ?_
 by_cases hn:n=0
 ·subst hn;have hE:E'.w=E.w:=by
   have:(Builtin.zeroCells zv.cells 0).toList= []:=by simp[Builtin.zeroCells]
   rw[this]at e1';injection e1' with _ e1';exact e1'.symm
  simp only[Builtin.clear_,aQ7,aRl,aQ1,aS h1,aQ2,aQ4,vx,hE]
 ·obtain⟨n',rfl⟩:∃n',n=n'+1:=⟨n-1,z8⟩;simp only[Builtin.clear_,aQ7,aRl,aQ1,aS h1,hO h4 h6,aQ2,aQ4,vx,e1']
theorem zR{o:Oper}{T:aD}{t y':TypeId}{x y:Operand}{ks:List FT}{ps qs:List PV}(ng:Bool)(F:xZ P t ks)(hop:o.op= .binOp (if ng then .neq else .eql) t x y y')(hx:bO T x= .agg ps)(hy:bO T y= .agg qs)(fx:sZ ks ps=true)(fy:sZ ks qs=true)(okx:aQ N x=true)(oky:aQ N y=true):
  ∀(E:aE) (a:Act),E.Ok->(∀x∈o.op.operands.toList,aQ N x=true->aM E.view (a.eval x) (bO T x))->∃val,(execOp a.eval o).run P E.w= .ok (.value val) E.w/\aM E.view val (.bool (xor ng (iJ ps qs))):=by
 intro E A ho he;have rx:=he x (by rw[hop];simp[Op.operands]) okx;have ry:=he y (by rw[hop];simp[Op.operands]) oky;rw[hx]at rx;rw[hy]at ry;generalize hvx:A.eval x=vx at rx;generalize hvy:A.eval y=vy at ry;cases rx with
 |agg xs _ a1 a2=>
  cases ry with
  |agg ys _ b1 b2=>
   have g:∀op w,(eqGuard op t x y (.agg xs) (.agg ys)).run P w= .ok () w:=λop w=>by
    unfold eqGuard;simp only[aQ1,run_program,aQ2,F.gu,aRm,if_true,Sem.run_ite,aQ4]
    split<;>rfl
   refine⟨.bool (xor ng (iJ ps qs)), ?_, .bool _⟩;unfold execOp;rw[hop];cases ng<;>simp only[aQ9,if_true,if_false,aQ1,hvx,hvy,g,aQ2,binOp,CT F (.agg xs _ a1 a2) (.agg ys _ b1 b2) (mQ fx) (mQ fy) (λi h h1 h2=>⟨oV fx i h h1,oV fy i h h2⟩),aQ4,Bool.false_xor,Bool.true_xor]
end
set_option maxRecDepth 4000
open Go.Proofs
def ID(a b:Dg):Bool:=iJ a.enc.cells b.enc.cells
def gd(ds:List Dg)(m:Nat):Dg:=ds.getD m ⟨0,0,0,0,[]⟩
def cU(ds:List Dg):Nat->List Dg
 |0=> []
 |m+1=>if m=0\/ID (gd ds m) (gd ds (m-1))=false then cU ds m++ [gd ds m]else cU ds m
theorem JS(ds:List Dg):∀m,(cU ds m).length<=m
 |0=>aQj _
 |m+1=>by
  have:=JS ds m;unfold cU
  split
  ·rw[aRf];simp;omega
  ·omega
def pQ(ds:List Dg):List Dg:=cU ds ds.length
theorem EB{ds:List Dg}{m:Nat}(h:m<ds.length):gd ds m=ds[m]:=by unfold gd;rw[aRb,aRa h];rfl
theorem RJ(L:List Dg)(rest:List PV)(pos:Nat)(h:pos<L.length):(((aH (L.map Dg.enc)++rest).drop (pos*5)).take 5).map PV.drop1=(L[pos]).enc.cells:=by
 have e:L=L.take pos++L[pos]::L.drop (pos+1):=by rw[<-aR6 h,List.take_append_drop]
 have hl:(aH ((L.take pos).map Dg.enc)).length=pos*5:=by rw[jJ Dg.enc_len,aQ6,Nat.min_eq_left z8]
 conv=>lhs;rw[e]
 rw[aRt,cM,aR4,<-hl,List.drop_left];rw[aRd,show aH (L[pos].enc::(L.drop (pos+1)).map Dg.enc)=L[pos].enc.cells++aH ((L.drop (pos+1)).map Dg.enc)from rfl,aR4];rw[List.take_append_of_le_length (by rw[Dg.enc_len];omega),aR8 (by rw[Dg.enc_len];omega),Dg.enc_cells];rfl
theorem aNc(A B:List Dg)(x y:Dg)(rest:List PV):cP (aH ((A++y::B).map Dg.enc)++rest) (A.length*5) x.enc.cells=aH ((A++x::B).map Dg.enc)++rest:=by
 have hl:(aH (A.map Dg.enc)).length=A.length*5:=jJ Dg.enc_len A;have e:∀z:Dg,aH ((A++z::B).map Dg.enc)++rest=aH (A.map Dg.enc)++(z.enc.cells++(aH (B.map Dg.enc)++rest)):=λz=>by
  rw[aRt,cM,aRd,show aH (z.enc::B.map Dg.enc)=z.enc.cells++aH (B.map Dg.enc)from rfl];simp
 rw[e,e,<-hl,iW _ _ _ (by rw[aRf,Dg.enc_len,Dg.enc_len];omega),aR4];congr 2
theorem aE0:xZ Tryz.prog 84 [.int, .int, .int, .int, .str]:=⟨⟨_,Tryz.underlying84,rfl,λi h h2=>by
 match i,h2 with
 |0,_=>exact⟨z6,rfl,Tryz.underlying3⟩
 |1,_=>exact⟨z6,rfl,Tryz.underlying3⟩
 |2,_=>exact⟨z6,rfl,Tryz.underlying3⟩
 |3,_=>exact⟨z6,rfl,Tryz.underlying3⟩
 |4,_=>exact⟨z6,rfl,Tryz.underlying9⟩⟩,by kernel_rfl,by kernel_rfl⟩
def zD:List PV:= [.int .i64 0, .int .i64 0, .int .i64 0, .int .i64 0, .str []]
def pM(ds:List Dg)(rest:List PV):List PV:=(aQ3 (ds.length- (pQ ds).length) zD).flatten++rest
theorem LD(ds:List Dg):(pQ ds).length<=ds.length:=JS ds _
theorem UK(ds:List Dg)(rest:List PV){c:Nat}(hc:ds.length*5+rest.length=c*5):(pQ ds).length*5+(pM ds rest).length=c*5:=by
 have:=LD ds;unfold pM;rw[aRf];simp[zD];omega
theorem HX(t:Dg):sZ [.int, .int, .int, .int, .str] t.enc.cells=true:=by rw[Dg.enc_cells];rfl
theorem TO{H:aC}{id c:Nat}{ds:List Dg}{rest:List PV}(hH:H[id]? =some (.row (aH (ds.map Dg.enc)++rest)))(hc:ds.length*5+rest.length=c*5)(hm:c<=maxLen)(hl:ds.length<fE):aL Tryz.prog 59 [.msl id 0 ds.length c] H λr H'=>r= .msl id 0 (pQ ds).length c/\H'=H.set id (.row (aH ((pQ ds).map Dg.enc)++pM ds rest)):=by
 have hil:=lG hH;simp only[fE]at hl;have hmx:maxLen=9223372036854775807:=z7
 obtain⟨R,hR⟩:∃R,R=aH (ds.map Dg.enc)++rest:=⟨_,rfl⟩;rw[<-hR]at hH;have dU:∀l:List Dg,(aH (l.map Dg.enc)).length=l.length*5:=λl=>jJ Dg.enc_len l;have lR:R.length=c*5:=by rw[hR,aRf,dU];exact hc
 have hs1:∀o,(H.set id o)[id]? =some o:=λo=>aQx hil;have hs2:∀o o2,(H.set id o).set id o2=H.set id o2:=λo o2=>List.set_set ..;have hs3:H.set id (.row R)=H:=oZ hH;refine aF (N:=61) Tryz.func59 rfl rfl z6 λhb'=> ?_;refine jU ?_;rcases aQi ds.length 2 with hn2|hn2
 ·
  have g2:decide (((ds.length:Nat):Int)<2)=true:=decide_eq_true z8;have hself:pQ ds=ds:=by
   match ds,hn2 with
   | [],_=>rfl
   | [_],_=>rfl
  refine ZE (a4 y3 EG BG g2) ?_;refine ZG g2 ?_;refine ZE g2 ?_;refine wQ ?_;refine wT ⟨.inr rfl,_,rfl, ?_⟩;have hrs:pM ds rest=rest:=by unfold pM;rw[hself,Nat.sub_self];rfl
  exact⟨by rw[hself];rfl,by rw[hself,hrs,<-hR];exact hs3.symm⟩
 ·
  have g2:decide (((ds.length:Nat):Int)<2)=false:=decide_eq_false z8;have c1take:cU ds 1=ds.take 1:=by
   match ds,hn2 with
   |d::r,_=>rfl
  refine ZE (a4 y3 EG BG g2) ?_;refine ZF g2 ?_;refine qK ?_;refine ZE g2 ?_;refine qB ?_;refine cL (σ:=Nat) (λ(k:Nat)=> [(0, .msl id 0 ds.length c),(3,aA (k:Int))]) (λ(k:Nat)=>λH1=>1<=k/\k<=ds.length/\cU ds k=ds.take k/\H1=H) (λ(k:Nat)=>ds.length-k) (1) (Zt g2) (⟨aQj _,z8,c1take,rfl⟩) ?_;intro k H1 hg;obtain⟨hk1,hk2,hcu,hHe⟩:=hg;subst hHe;rcases aQi k ds.length with hkl|hkl
  ·
   have gl0:decide (((k:Nat):Int)<((ds.length:Nat):Int))=true:=decide_eq_true z8;have gi1:=bA (n:=ds.length) (i:=k) z8;have gi2:=bA (n:=ds.length) (i:=k-1) z8;have gw1:IntKind.i64.wrap (((k:Nat):Int) -1)=((k-1:Nat):Int):=by rw[aZ z8 z8];omega
   have gw2:IntKind.i64.wrap (((k:Nat):Int)+1)=((k+1:Nat):Int):=by rw[aZ z8 z8];omega
   have gb1:(k*5+5<=R.length)=True:=eq_true (by rw[lR];omega);have gb2:((k-1)*5+5<=R.length)=True:=eq_true (by rw[lR];omega);have gl1:((R.drop (k*5)).take 5).map PV.drop1=(gd ds k).enc.cells:=by rw[hR,RJ _ _ _ z8,EB z8]
   have gl2:((R.drop ((k-1)*5)).take 5).map PV.drop1=(gd ds (k-1)).enc.cells:=by rw[hR,RJ _ _ _ z8,EB z8]
   refine ZE (a5 y3 EG BG g2 gl0) ?_;refine ZG g2 ?_;refine qK ?_;refine qB ?_;refine wQ ?_;refine eA (by kernel_rfl) ?_;refine ZpT 9 (a5 y3 EG BG g2 (a5 lN gi1 gi2 gw1 (a5 gb1 gb2 gl1 gl2 hH))) ?_;refine vZ (Ze (a5 lN gi1 gi2 gw1 (a5 gb1 gb2 gl1 gl2 hH))) (by rfl) (zR false aE0 (ps:=(gd ds k).enc.cells) (qs:=(gd ds (k-1)).enc.cells) rfl (SH (a5 lN gi1 gi2 gw1 (a5 gb1 gb2 gl1 gl2 hH))) (SH (a5 lN gi1 gi2 gw1 (a5 gb1 gb2 gl1 gl2 hH))) (HX _) (HX _) z7 z7) ?_;refine lU (by simp only[jP,jO,jN,seval,aA,g2,Dg.enc_len,lN,tN,gi1,gi2,gw1,gb1,gb2,gl1,gl2,hH]<;>with_reducible rfl) z7 (by repeat (first|exact dI.base _|with_reducible apply dI.keep|apply dI.drop)) ?_;refine wQ ?_;refine wC rfl (by simp only[jN,seval,aA,g2]<;>with_reducible rfl) (λbt25=> ?_) (λbt25=> ?_)
   ·
    have hcu1:cU ds (k+1)=cU ds k:=by
     have he:ID (gd ds k) (gd ds (k-1))=true:=by simpa[ID]using bt25
     rw[cU,if_neg (by rintro(h|h);omega;rw[he]at h;cases h)]
    refine ZT 2 g2 ?_;refine jH (oH tN) (fF (id:=id) (n:=ds.length) (c:=c) (k:=k) (kk:=.i64) rfl z7 z7 tU (kV tN) (kV tN) z8 z8) ?_;refine ZX g2 ?_;refine ZL [0,3,4] g2 ?_;refine ZE g2 ?_;refine qB ?_;refine cL (σ:=Nat×Nat) (λ(z:Nat×Nat)=> [(0, .msl id 0 ds.length c),(3,aA (z.1:Int)),(4, .msl id (k*5) (ds.length-k) (c-k)),(5,aA (z.2:Int))]) (λ(z:Nat×Nat)=>λH2=>1<=z.2/\k+z.2<=ds.length/\z.1=(cU ds (k+z.2)).length/\z.1+1<=k+z.2/\∃RI,RI=aH ((cU ds (k+z.2)++ds.drop z.1).map Dg.enc)++rest/\H2=H1.set id (.row RI)) (λ(z:Nat×Nat)=>ds.length-z.2) ((k,1)) (Zt g2) (⟨aQj _,z8,by rw[hcu1,hcu,aQ6];show k=_;omega,aQj _,R,by rw[hcu1,hcu,hR];show _=aH ((ds.take k++ds.drop k).map Dg.enc)++rest;rw[List.take_append_drop],hs3.symm⟩) ?_;intro z H2 hg;obtain⟨k1,k2⟩:=z;obtain⟨hz1,hz2,hz3,hz4,RI,hRI,hHI⟩:=hg;simp only at hz1 hz2 hz3 hz4 hRI;subst hHI;rcases aQi (k+k2) ds.length with hlt|hge
    ·
     have gl9:decide (((k2:Nat):Int)<((ds.length-k:Nat):Int))=true:=decide_eq_true z8;have nIs:(id=H1.length)=False:=by simp;omega
     have gi3:=bA (n:=ds.length-k) (i:=k2) z8;have gi4:=bA (n:=ds.length-k) (i:=k2-1) z8;have gi5:=bA (n:=ds.length) (i:=k1) z8;have gw3:IntKind.i64.wrap (((k2:Nat):Int) -1)=((k2-1:Nat):Int):=by rw[aZ z8 z8];omega
     have gw5:IntKind.i64.wrap (((k1:Nat):Int)+1)=((k1+1:Nat):Int):=by rw[aZ z8 z8];omega
     have gw6:IntKind.i64.wrap (((k2:Nat):Int)+1)=((k2+1:Nat):Int):=by rw[aZ z8 z8];omega
     have hcl:=JS ds (k+k2);have lL:(cU ds (k+k2)++ds.drop k1).length=ds.length:=by rw[aRf,<-hz3,aQ5];omega
     have lRI:RI.length=c*5:=by rw[hRI,aRf,dU,lL];exact hc
     have gb3:(k*5+k2*5+5<=c*5)=True:=eq_true z8;have gb4:(k*5+(k2-1)*5+5<=c*5)=True:=eq_true z8;have gb5:(k1*5+5<=c*5)=True:=eq_true z8;have hLg:∀p (h1:k1<=p) (h2:p<ds.length),(cU ds (k+k2)++ds.drop k1)[p]'(by rw[lL];exact h2)=gd ds p:=λp h1 h2=>by
      rw[List.getElem_append_right z8,List.getElem_drop,EB h2];congr 1;omega
     have gl3:((RI.drop (k*5+k2*5)).take 5).map PV.drop1=(gd ds (k+k2)).enc.cells:=by rw[hRI,<-Nat.add_mul,RJ _ _ _ (by rw[lL];omega),hLg _ z8 z8]
     have gl4:((RI.drop (k*5+(k2-1)*5)).take 5).map PV.drop1=(gd ds (k+k2-1)).enc.cells:=by rw[hRI,<-Nat.add_mul,RJ _ _ _ (by rw[lL];omega),hLg _ z8 z8,show k+(k2-1)=k+k2-1 by omega]
     refine ZE (a5 y3 EG BG g2 gl9) ?_;refine ZG g2 ?_;refine qK ?_;refine qB ?_;refine wQ ?_;refine eA (by kernel_rfl) ?_;refine ZpT 9 (a5 y3 EG BG g2 (a5 lN hs1 hs2 nIs (a5 gi3 gi4 gi5 gw3 (a5 gb3 gb4 gb5 gl3 (a2 gl4 lRI))))) ?_;refine vZ (Ze (a5 lN hs1 hs2 nIs (a5 gi3 gi4 gi5 gw3 (a5 gb3 gb4 gb5 gl3 (a2 gl4 lRI))))) (by rfl) (zR true aE0 (ps:=(gd ds (k+k2)).enc.cells) (qs:=(gd ds (k+k2-1)).enc.cells) rfl (SH (a5 lN hs1 hs2 nIs (a5 gi3 gi4 gi5 gw3 (a5 gb3 gb4 gb5 gl3 (a2 gl4 lRI))))) (SH (a5 lN hs1 hs2 nIs (a5 gi3 gi4 gi5 gw3 (a5 gb3 gb4 gb5 gl3 (a2 gl4 lRI))))) (HX _) (HX _) z7 z7) ?_;refine lU (by simp only[jP,jO,jN,seval,aA,g2,Dg.enc_len,lN,tN,hs1,hs2,nIs,lS,gi3,gi4,gi5,gw3,gb3,gb4,gb5,gl3,gl4,lRI]<;>with_reducible rfl) z7 (by repeat (first|exact dI.base _|with_reducible apply dI.keep|apply dI.drop)) ?_;refine wQ ?_;refine wC rfl (by simp only[jN,seval,aA,g2]<;>with_reducible rfl) (λbt44=> ?_) (λbt44=> ?_)
     ·
      have hne:ID (gd ds (k+k2)) (gd ds (k+k2-1))=false:=by simpa[ID]using bt44
      have hcn:cU ds (k+(k2+1))=cU ds (k+k2)++ [gd ds (k+k2)]:=by
       rw[show k+(k2+1)=(k+k2)+1 by omega,cU,if_pos (.inr hne)]
      refine wQ ?_;refine eE (by simp only[kA,seval,EG,BG,aA,g2,Dg.enc_len,lN,tN,hs1,hs2,nIs,lS,gi3,gi4,gi5,gw3,gb3,gb4,gb5,gl3,gl4,lRI]<;>with_reducible rfl) z7 ?_;refine wL [0,3,4,5] (by simp only[jN,seval,aA,g2]<;>with_reducible rfl) ?_;refine wQ ?_;refine eE (by simp only[kA,seval,y3,aA,g2,gw5]<;>with_reducible rfl) z7 ?_;refine wQ ?_;refine eE (by simp only[kA,seval,y3,aA,g2,gw6]<;>with_reducible rfl) z7 ?_
      try simp only[aY,aT]
      refine⟨(k1+1,k2+1),by show ds.length- (k2+1)<ds.length-k2;omega,ZV,by show 1<=k2+1;omega,by show k+(k2+1)<=_;omega,by show k1+1=_;rw[hcn,aRf,<-hz3];rfl,by show k1+1+1<=k+(k2+1);omega,_, ?_,rfl⟩;rw[hRI];have hdk:ds.drop k1=gd ds k1::ds.drop (k1+1):=by rw[aR6 z8,EB z8]
      show cP _ (k1*5) _=aH ((cU ds (k+(k2+1))++ds.drop (k1+1)).map Dg.enc)++rest;rw[hcn,hdk];have hst:=aNc (cU ds (k+k2)) (ds.drop (k1+1)) (gd ds (k+k2)) (gd ds k1) rest;rw[<-hz3]at hst;rw[hst];simp
     ·
      have hne:ID (gd ds (k+k2)) (gd ds (k+k2-1))=true:=by simpa[ID]using bt44
      have hcn:cU ds (k+(k2+1))=cU ds (k+k2):=by
       rw[show k+(k2+1)=(k+k2)+1 by omega,cU,if_neg (by rintro(h|h);omega;rw[hne]at h;cases h)]
      refine qK ?_;refine ZE (a3 y3 g2 gw6) ?_
      try simp only[aY,aT]
      refine⟨(k1,k2+1),by show ds.length- (k2+1)<ds.length-k2;omega,ZV,by show 1<=k2+1;omega,by show k+(k2+1)<=_;omega,by show k1=_;rw[hcn];exact hz3,by show k1+1<=k+(k2+1);omega,RI, ?_,rfl⟩;show RI=aH ((cU ds (k+(k2+1))++ds.drop k1).map Dg.enc)++rest;rw[hcn];exact hRI
    ·
     have gl9:decide (((k2:Nat):Int)<((ds.length-k:Nat):Int))=false:=decide_eq_false z8;have hcl:=JS ds (k+k2);have lL:(cU ds (k+k2)++ds.drop k1).length=ds.length:=by rw[aRf,<-hz3,aQ5];omega
     have lRI:RI.length=c*5:=by rw[hRI,aRf,dU,lL];exact hc
     refine ZE (a5 y3 EG BG g2 gl9) ?_;refine ZF g2 ?_;refine wQ ?_;refine bG ?_;simp only[aY,aT,reduceIte,Nat.reduceEqDiff,aR5,if_true,if_false];refine ZT 2 g2 ?_;refine jH (oH tN) (fF (id:=id) (n:=ds.length) (c:=c) (k:=k1) (kk:=.i64) rfl z7 z7 tU (kV tN) (kV tN) z8 z8) ?_;refine KF (hs1 _) (oH tN) rfl z7 (kV tN) tU KW rfl z7 (by show k1*5+(ds.length-k1)*5<=_;rw[lRI];omega) ?_;obtain⟨src,hse⟩:∃src,src=(aQ3 (ds.length-k1) zD).flatten:=⟨_,rfl⟩;have hsrc:src.length=(ds.length-k1)*5:=by rw[hse];simp[zD]
     rw[hs2];show bB _ _ _ _ _ _ _ (H1.set id (.row (cP RI (k1*5) (aQ3 (ds.length-k1) zD).flatten)));rw[<-hse];refine oN ?_;refine ZT 2 g2 ?_;refine nE (id:=id) (n:=ds.length) (c:=c) (kk:=.i64) (k:=k1) (oH tN) rfl z7 z7 tU (kV tN) (kV tN) z8 ?_;refine ZX g2 ?_;refine wQ ?_;refine wT ⟨.inr rfl,_,rfl, ?_⟩;have hkn:k+k2=ds.length:=z8
     rw[hkn]at hz3 hRI;refine⟨by rw[hz3];rfl, ?_⟩
     ·congr 2;have hrs:pM ds rest=src++rest:=by unfold pM pQ;rw[<-hz3,hse]
      rw[hRI,hrs];unfold pQ;rw[aRt,cM,aR4,hz3,<-dU,iW _ _ _ (by rw[aRf,dU,aQ5,hsrc];omega),aR4];congr 2;rw[List.drop_append_of_le_length (by rw[dU,aQ5,hsrc];omega),List.drop_of_length_le (by rw[dU,aQ5,hsrc];omega)];rfl
   ·
    have hcu1:cU ds (k+1)=cU ds k++ [gd ds k]:=by
     have he:ID (gd ds k) (gd ds (k-1))=false:=by simpa[ID]using bt25
     rw[cU,if_pos (.inr he)]
    refine qK ?_;refine ZE (a3 y3 g2 gw2) ?_
    try simp only[aY,aT]
    exact⟨k+1,by show ds.length- (k+1)<ds.length-k;omega,ZV,z8,z8,by rw[hcu1,hcu,EB z8,List.take_succ_eq_append_getElem z8],by trivial⟩
  ·
   have gl0:decide (((k:Nat):Int)<((ds.length:Nat):Int))=false:=decide_eq_false z8;have hself:pQ ds=ds:=by
    unfold pQ;rw[show ds.length=k by omega,hcu,aR8 hkl]
   refine ZE (a5 y3 EG BG g2 gl0) ?_;refine ZF g2 ?_;refine wQ ?_;refine bG ?_;simp only[aY,aT,reduceIte,Nat.reduceEqDiff,aR5,if_true,if_false];refine ZE g2 ?_;refine wQ ?_;refine wT ⟨.inr rfl,_,rfl, ?_⟩;have hrs:pM ds rest=rest:=by unfold pM;rw[hself,Nat.sub_self];rfl
   exact⟨by rw[hself];rfl,by rw[hself,hrs,<-hR];exact hs3.symm⟩
open Go.Proofs Go.Shelf Go.RowKit Go.Lib Go.Sort
theorem aL9:XJ Tryz.prog 57 58:=λblk cap d w hH hblk hsz=>
 AnyQ.slices_SortFunc Tryz.laysSort 5 Tryz.isAgg84 Tryz.sizeOf84 sJ (λ_=>rfl) (λx v hv=>by simp[sJ]at hv;rcases hv with rfl|rfl|rfl|rfl|rfl<;>rfl) PW aPh 58 #[] blk 0 cap d w
  (enters_of Tryz.func58 (by kernel_rfl) rfl) (λ_ _ _ _ x y=>Tryz.cmp58 x y _) hH hblk hsz
theorem aCw{H:aC}{tl:iQ}:aL Tryz.prog 57 [.slice [] tl, .fn (.func 58) [] []] H λr' H'=>r'= .tup []/\H'=H:=by
 intro E vargs ho hH hrl;obtain⟨hs,hv⟩:=hrl;simp at hs;have v0:aM E.view (vargs.getD 0 undef) (.slice [] tl):=hv 0 z6;have e0:∃ad cap,vargs.getD 0 undef= .slice ad 0 cap:=by
  generalize vargs.getD 0 undef=q at v0;cases v0
  ·exact⟨_,_,rfl⟩
  ·have hl:= ‹([]:List PV).length=_›;exact⟨_,_,by rw[<-hl];rfl⟩
 obtain⟨ad,cap,e0⟩:=e0;have hv:vargs= #[.slice ad 0 cap,vargs.getD 1 undef]:=by
  refine Array.ext (by simpa using hs) λi hi hi'=> ?_;simp at hi'
  match i,hi' with
  |0,_=>simpa[Array.getD,hs]using e0
  |1,_=>simp[Array.getD,hs]
 rw[hv];refine(AnyF.slices_SortFunc_none {Tryz.laysSort with} ad cap _ E.w).mono ?_;rintro e w' ⟨rfl,rfl⟩;exact⟨E, .tuple #[], .tup [],rfl,rfl, .refl E,ho, .tup _ _ rfl (λi hi=>absurd hi z6),rfl,hH⟩
end Go.Abs
set_option maxRecDepth 4000
namespace Go.Abs
open Go.Proofs
theorem TY(H:aC):aL Tryz.prog 59 [.slice [] .none] H λr H'=>r= .slice [] .none/\H'=H:=by
 refine aF (N:=61) Tryz.func59 rfl rfl z6 λhb'=> ?_;refine jU ?_;refine ZE (a3 y3 EG BG) ?_;refine ZG tN ?_;refine jU ?_;refine wQ ?_;refine wT ⟨.inr rfl,_,rfl, ?_⟩;exact⟨rfl,rfl⟩
theorem PT(src:List UInt8)(k n:Nat){e3 e4:Value}{H0:aC}(hs:src.length<=maxLen)(h2000:(src.length:Int)<=2000)(hlim:(toks src).length<=fE)(hG:vE G0 H0)(hE:oD e3 e4 H0){tr:St}(hp:vT (toks src) k n=some tr){off':Nat}{nd:Nd}{ds:List Dg}(hn:tC src tr 0 []=some (off',nd,ds))(hX:∀d∈ds,LK d)(hl:ds.length<fE):aL Tryz.prog 27 [.str src] H0 λr H'=>∃ds',ds'.Perm ds/\aDt ds'/\r= .tup [(fJ nd 0 src.length).enc, .slice ((pQ ds').map Dg.enc) .none,aA 0]/\Fr [] [] H0 H':=by
 obtain⟨nk,nv,nt,nst,nen,nns,nks⟩:=nd;have hG0:=hG 0 _ rfl;have hH0:=lG hG0;simp only[fE]at hl;refine aF (N:=39) Tryz.func27 rfl rfl z6 λhb'=> ?_;refine ZE cW ?_;refine PI 1 ?_;refine ZA0 aM7 (aCv src k n hs h2000 hlim (hG.app _) hp) ?_;rintro _ H1 ⟨rfl,g1⟩;have hl1:=g1.len;simp only[aRf,aQ0,aR1]at hl1;have hz1:H1[H0.length]? =some (.row [.int .i64 0, .int .i64 0, .str [], .int .i64 0, .int .i64 0, .int .i64 0, .slice [] .full]):=(g1.same _ z6 z6).trans z6;refine ZX iN ?_;refine ZE KC ?_;refine ZF0 ?_;refine qK ?_;refine ZE qJ ?_;refine WG [0,2,5,7] ?_;refine ZT 2 iN ?_;refine ZA0 aFw (aDm src e3 e4 (H1.length+1) tr 0 [] off' _ ds [] _ hn ⟨.slice [] .full,z6, .nil,z6⟩ (((hE.app _).fr g1 z6 z6).app _)) ?_;rintro _ H2 ⟨rfl,cid2,hB2,g2⟩;have hl2:=g2.len;simp only[aRf,aQ0,aR1]at hl2;have hz2:H2[H0.length]? =some (.row [.int .i64 0, .int .i64 0, .str [], .int .i64 0, .int .i64 0, .int .i64 0, .slice [] .full]):=(g2.same _ (by simp;omega) (by simp;omega)).trans (aB hz1 _);have hzl:=lG hz2;have hc2:∀x∈cid2,H1.length+1<x/\x<H2.length:=λx hx=>⟨by
  obtain⟨_,_,_,hne⟩:=hB2;rcases aQi (H1.length+1) x with h|h
  ·exact h
  ·have:=g2.ids x (by simp[hx]) (by simp;omega);simp at this;subst this;exact absurd hx hne,hB2.lt x (.inr hx)⟩
 have f12:Fr [] [] H0 H2:=⟨z8,λid h1 _=>by rw[g2.same id (by simp;omega) (by simp;omega),aQt z8,g1.same id (by simp;omega) z6,aQt h1],λid h=>by cases h⟩;refine ZX cW ?_;refine ZE (a3 y3 y9 cW) ?_;refine dQ (λH3=>gN src off' ds (H1.length+1) cid2 H3/\H3[H0.length]? =some (.row [.int .i64 0, .int .i64 0, .str [], .int .i64 0, .int .i64 0, .int .i64 0, .slice [] .full])/\(∃mid,mid=H2.length/\mid<H3.length/\H3[mid]? =some (.row [.int .i64 nk, .int .i64 nv, .str nt, .int .i64 0, .int .i64 (src.length:Int), .int .i64 nns, .slice (nks.map Nd.enc) .none]))/\Fr [] [] H0 H3/\(∀x∈cid2,H1.length+1<x/\x<H2.length)) ?_ ?_
 ·exact⟨hB2.app _,aB hz2 _,⟨H2.length,rfl,z6,z6⟩,f12.app _,hc2⟩
 rintro H3 ⟨hB3,hz3,⟨mid,hmid,hml,hM3⟩,f3,hc3⟩;rw[<-hmid];obtain⟨dv,hb3,hk3,hne3⟩:=id hB3;rcases hk3.cases2 with⟨rfl,rfl,rfl⟩| ⟨ic,c1,rest1,rfl,rfl,hic3,hcl,hmx⟩
 ·
  refine ZT 4 (a5 EG BG qJ hb3 (a2 hM3 hz3)) ?_;refine ZA (a3 hb3 hM3 hz3) aF2 (aCw) ?_;rintro _ _ ⟨rfl,rfl⟩;have nz0:(H0.length=0)=False:=eq_false z8;refine oN ?_;refine wQ ?_;refine yU 0 rfl (by kernel_rfl) ?_;refine uS 5 rfl (Zp (a5 cW EG BG qJ (a4 hb3 hM3 hz3 nz0))) z7 z7 z7 ?_;refine QW rfl (Ze (a4 hb3 hM3 hz3 nz0)) (Ze (a4 hb3 hM3 hz3 nz0)) (Zeo (a4 hb3 hM3 hz3 nz0)) z7 aEu (λhc L=>TY _) ?_;refine HN (by first| (simp only[LS,HS,aR4,aQf,aRy,lS,hb3,hM3,hz3,nz0]<;>with_reducible rfl)|rfl) ?_;refine yA (bm:= [0,0,2,6,14,30,63,127,255]) (fresh:=0) (by kernel_rfl) (Zx (a5 cW hb3 hM3 hz3 nz0)) z7 (by repeat (first|exact dI.base _|with_reducible apply dI.keep|apply dI.drop)) ?_;refine wQ ?_;have hz6:=aQx (a:=AObj.row [PV.int .i64 nk, .int .i64 nv, .str nt, .int .i64 0, .int .i64 (src.length:Int), .int .i64 nns, .slice (nks.map Nd.enc) .none]) (lG hz3);refine wT ⟨.inr rfl,_,(oX (.cell 2 31) (.tmp 3) (.tmp 4) rfl (eS lZ z7 (Zl hz6)) (aP z7) (aP z7)), ?_⟩;exact⟨[], .refl _,List.Pairwise.nil,rfl,by rw[lS];exact f3.len,λid h1 h2=>by rw[aQy z8];exact f3.same id h1 h2,λid h=>by cases h⟩
 ·
  have hic:=hc3 ic z6;have hil3:=lG hic3;refine ZT 4 (a4 EG BG qJ hb3) ?_;refine ZA hb3 aF2 (II aL9 hic3 hX z8) ?_;rintro _ H4 ⟨rfl,ds1,hp1,hs1,h4⟩;have hln:=hp1.length_eq;have hl4:H4.length=H3.length:=by rw[h4,lS]
  have he4:∀j,j≠ic->H4[j]? =H3[j]? :=λj hj=>by rw[h4,aQy (Ne.symm hj)]
  have hb4:=(he4 (H1.length+1) z8).trans hb3;rw[<-hln]at hb4 hcl;have hM4:=(he4 mid z8).trans hM3;have hz4:=(he4 H0.length z8).trans hz3;have hic4:H4[ic]? =some (.row (aH (ds1.map Dg.enc)++rest1)):=by rw[h4,aQx hil3]
  have qz5:∀o,(H4.set ic o)[H0.length]? =some (.row [.int .i64 0, .int .i64 0, .str [], .int .i64 0, .int .i64 0, .int .i64 0, .slice [] .full]):=λo=>by rw[aQy z8];exact hz4
  have nzi:(H0.length==ic)=false:=by simp;omega
  have niz:(ic==H0.length)=false:=by simp;omega
  have nmi:(mid==ic)=false:=by simp;omega
  have nim:(ic==mid)=false:=by simp;omega
  have nbi:(H1.length+1==ic)=false:=by simp;omega
  have nib:(ic==H1.length+1)=false:=by simp;omega
  have nz0:(H0.length=0)=False:=eq_false z8;refine oN ?_;refine wQ ?_;refine iK 0 (by kernel_rfl) ?_;refine iY (bm:= [0,0,2,6,14,30,63,127,255]) 5 (fresh:=0) (by kernel_rfl) (Zd (a5 cW EG BG qJ (a5 hb3 hb4 hM4 hz4 (a5 qz5 nzi niz nmi (a4 nim nbi nib nz0))))) z7 z7 ?_;refine IJ (bm:= [0,0,2,6,14,30,63,127,255]) [ic] ic (.row (aH ((pQ ds1).map Dg.enc)++pM ds1 rest1)) (by kernel_rfl) (Zc (a5 hb3 hb4 hM4 hz4 (a5 qz5 nzi niz nmi (a4 nim nbi nib nz0)))) (oH (a5 hb3 hb4 hM4 hz4 (a5 qz5 nzi niz nmi (a4 nim nbi nib nz0)))) z7 aEu (λH' hr=>TO (by rw[hr ic z6];exact hic4) hcl hmx (by simp only[fE];omega)) z6 (Zdr (a5 hb3 hb4 hM4 hz4 (a5 qz5 nzi niz nmi (a4 nim nbi nib nz0)))) ?_;refine iT (bm:= [0,0,2,6,14,30,63,127,255]) (fresh:=0) (by kernel_rfl) (Zd (a5 cW hb3 hb4 hM4 (a5 hz4 qz5 nzi niz (a5 nmi nim nbi nib nz0)))) z7 ?_;refine wQ ?_;refine rE (cid:= [ic]) Dg.enc_len z7 3 (.of (xs:=pQ ds1) (rest:=pM ds1 rest1) rfl (by rw[aQy z8,aQx z8]) (UK ds1 rest1 hcl) hmx) rfl λH6 hl6 hs6=> ?_;have hz6:=(hs6 H0.length (by simp;omega)).trans (aQx (by rw[lS];exact lG hz4));refine wT ⟨.inr rfl,_,(oX (.cell 2 31) (.tmp 3) (.tmp 4) rfl (eS lZ z7 (Zl hz6)) (aP z7) (aP z7)), ?_⟩;exact⟨ds1,hp1,hs1,rfl,by rw[hl6,lS,lS,hl4];exact f3.len,λid h1 h2=>by rw[hs6 id (by simp;omega),aQy z8,aQy z8,he4 id z8];exact f3.same id h1 h2,λid h=>by cases h⟩
mutual
def zP:St->List Tk
 | .mk k t ch=>if t= []then vB ch else [⟨k,t⟩]
def vB:List St->List Tk
 | []=> []
 |s::ss=>zP s++vB ss
end
theorem uU:∀a b,vB (a++b)=vB a++vB b
 | [],b=>by simp[vB]
 |t::a,b=>by simp only[aQf,vB,uU a b,aR4]
def neT(t:Tk):Bool:= !decide (t.text= [])
def WL(toks:List Tk)(i j:Nat):List Tk:=((toks.drop i).take (j-i)).filter neT
theorem uI(toks:List Tk)(i:Nat):WL toks i i= []:=by simp[WL]
theorem JW(toks:List Tk){i j k:Nat}(h1:i<=j)(h2:j<=k):WL toks i k=WL toks i j++WL toks j k:=by
 unfold WL;rw[<-List.filter_append];congr 1;rw[show k-i=(j-i)+(k-j)by omega,List.take_add,List.drop_drop,show i+(j-i)=j by omega]
theorem aDp(toks:List Tk){i:Nat}(h:i<toks.length):WL toks i (i+1)=if toks[i].text= []then []else [toks[i]]:=by
 have e:(toks.drop i).take (i+1-i)= [toks[i]]:=by rw[aR6 h,show i+1-i=1 by omega];rfl
 unfold WL;rw[e]
 by_cases c:toks[i].text= []<;>simp[neT,c]
def AY(k:Int):Bool:=decide (k=7)||decide (k=12)||decide (k=13)
def JY(k c:Int):Bool:=if c=13 then decide (k=12)else if c=12 then decide (k=3)||decide (k=9)||decide (k=38)else if c=7 then decide (k=1)else true
def rK(k:Int):Bool:=decide (k=101)||decide (k=102)
def tY:List St->Bool
 | []=>false
 |c::cs=>if rK c.kind=true then tY cs else decide (100<=c.kind)&& !decide (c.text= [])&& !decide (c.kind=108/\c.text= [])
def okN(k:Int)(t:List UInt8)(ch:List St):Bool:=ch.all (λc=>JY k c.kind)&&(!decide (k=60)||ch.any λc=>decide (c.kind<100))&&(!decide (k=7)||tY ch)&&(!decide (k=103)|| !decide (t= []))
mutual
def AQ:St->Bool
 | .mk k t ch=>okN k t ch&&okL ch
def okL:List St->Bool
 | []=>true
 |s::ss=>AQ s&&okL ss
end
theorem BE:∀(l:List St),okL l=l.all AQ
 | []=>rfl
 |s::ss=>by simp only[okL,aQc,BE ss]
theorem uW{s:PS}{t:St}{f:vH}{fs:List vH}(h:s.stack=f::fs)(hl:f.kids.length<fE):pJ t s=some {s with stack:=⟨f.kind,f.kids++ [t]⟩::fs}:=by
 unfold pJ;rw[h];simp only;rw[if_pos hl]
def BF(toks:List Tk):Prop:=∀t∈toks,t.text≠ []/\100<t.kind
def MY(k:Int):List Int:=if k=12 then [13]else if k=3\/k=9\/k=38 then [12]else if k=1 then [7]else []
theorem aJ7{k c:Int}(h:AY c=true->c∈MY k):JY k c=true:=by
 unfold JY
 by_cases h13:c=13
 ·have:=h (by rw[h13];rfl);unfold MY at this;rw[if_pos h13]
  split at this
  ·simp[*]
  ·split at this
   ·rw[h13]at this;simp at this
   ·split at this<;> · rw[h13]at this;simp at this
 rw[if_neg h13]
 by_cases h12:c=12
 ·have:=h (by rw[h12];rfl);unfold MY at this;rw[if_pos h12]
  split at this
  ·rw[h12]at this;simp at this
  ·split at this
   ·rename_i q;rcases q with q|q|q<;>simp[q]
   ·split at this<;> · rw[h12]at this;simp at this
 rw[if_neg h12]
 by_cases h7:c=7
 ·have:=h (by rw[h7];rfl);unfold MY at this;rw[if_pos h7]
  split at this
  ·rw[h7]at this;simp at this
  ·split at this
   ·rw[h7]at this;simp at this
   ·split at this
    ·simp[*]
    ·cases this
 rw[if_neg h7]
inductive Cq where
 |at(xs:List (List UInt8))|kd (k:Int)|ap|tx (t:List UInt8)|no (c:Cq)|and (c d:Cq)|fl|bo (b:Bool)
def Cq.ev(toks:List Tk)(s:PS):Cq->Bool
 | .at xs=>eC (aG toks s.pos) xs
 | .kd k=>decide ((aG toks s.pos).kind=k)
 | .ap=>HV (aG toks s.pos)
 | .tx t=>decide ((aG toks s.pos).text=t)
 | .no c=> !c.ev toks s
 | .and c d=>c.ev toks s&&d.ev toks s
 | .fl=>s.flag
 | .bo b=>b
inductive Pr where
 |skip|setf (b:Bool)|bump (p:Pr)|acc (xs:List (List UInt8)) (p:Pr)|acif (xs:List (List UInt8)) (p q:Pr)|exp (x:List UInt8) (p:Pr)|idt (p:Pr)|mis (k:Int) (p:Pr)
 |call (fn:wD) (p:Pr)|node (k:Int) (q p:Pr)|wrap (k:Int) (q p:Pr)|opt (t:List UInt8) (q p:Pr)|lst (c:List UInt8) (q p:Pr)|lop (c:Cq) (q p:Pr)|lopF (c:Cq) (q p:Pr)|lpw (c:Cq) (q p:Pr)|lpe (xs:List (List UInt8)) (q p:Pr)
 |ite (c:Cq) (p q:Pr)|look (c:Cq) (p q:Pr)|look2 (c d:Cq) (p q r:Pr)|ins (p:Pr)|seq (q p:Pr)|use (p:Pr)|callT (fn:wD)|bumpT|nodeT (k:Int) (q:Pr)|lpeT (xs:List (List UInt8)) (q:Pr)|lpwT (c:Cq) (q:Pr)
def lT(toks:List Tk)(n:Nat)(R:dK):Pr->PS->Option PS
 | .skip,s=>some s
 | .setf b,s=>some {s with flag:=b}
 | .bump p,s=>(cI toks s).bind λs=>lT toks n R p s
 | .acc xs p,s=>(cA toks xs s).bind λs=>lT toks n R p s
 | .acif xs p q,s=>(cA toks xs s).bind λs'=>if eC (aG toks s.pos) xs=true then lT toks n R p s' else lT toks n R q s'
 | .exp x p,s=>(bK toks x s).bind λs=>lT toks n R p s
 | .idt p,s=>(bE toks s).bind λs=>lT toks n R p s
 | .mis k p,s=>(nQ k s).bind λs=>lT toks n R p s
 | .call fn p,s=>(R fn s).bind λs=>lT toks n R p s
 | .node k q p,s=>(bY k (lT toks n R q) s).bind λs=>lT toks n R p s
 | .wrap k q p,s=>(iA k (lT toks n R q) s).bind λs=>lT toks n R p s
 | .opt t q p,s=>(iM toks t (lT toks n R q) s).bind λs=>lT toks n R p s
 | .lst c q p,s=>(oW toks n c (lT toks n R q) s).bind λs=>lT toks n R p s
 | .lop c q p,s=>(dJ (λs=>c.ev toks s) (lT toks n R q) n s).bind λs=>lT toks n R p s
 | .lopF c q p,s=>(dJ (λs=>c.ev toks s) (lT toks n R q) n {s with flag:=false}).bind λs=>lT toks n R p s
 | .lpw c q p,s=>(dJ (λs=>c.ev toks s) (lT toks n R q) n s).bind λs=>lT toks n R p s
 | .lpe xs q p,s=>(kS (λs=>eC (aG toks s.pos) xs) (cA toks xs) (lT toks n R q) n s).bind λs=>lT toks n R p s
 | .ite c p q,s=>if c.ev toks s=true then lT toks n R p s else lT toks n R q s
 | .look c p q,s=>(nR toks s).bind λz=>if c.ev toks z=true then lT toks n R p s else lT toks n R q s
 | .look2 c d p q r,s=>(nR toks s).bind λz=>if c.ev toks z=true then(nR toks z).bind λy=>if d.ev toks y=true then lT toks n R p s else lT toks n R q s else lT toks n R r s
 | .ins p,s=>(rX s).bind λs=>lT toks n R p s
 | .seq q p,s=>(lT toks n R q s).bind λs=>lT toks n R p s
 | .use p,s=>(m86 toks n s).bind λs=>lT toks n R p s
 | .callT fn,s=>R fn s
 | .bumpT,s=>cI toks s
 | .nodeT k q,s=>bY k (lT toks n R q) s
 | .lpeT xs q,s=>kS (λs=>eC (aG toks s.pos) xs) (cA toks xs) (lT toks n R q) n s
 | .lpwT c q,s=>dJ (λs=>c.ev toks s) (lT toks n R q) n s
abbrev kFn:List UInt8:= [102,110]
abbrev tyT:Pr:=.callT .typeExpr
abbrev aIm:List (List UInt8):= [[109,117,116]]
def aPj:Pr:=.bump (.call .expr (.exp [41] .skip))
def aO8:Pr:=.bump (.call .expr (.exp [59] .skip))
def aO3(b:Bool):Pr:=.ite (.at [[59]]) (.acc [[59]] .skip) (.acc [[59]] (.ite (.no (.bo b)) (.mis 108 .skip) .skip))
def aO7:Pr:=.bump (.call .expr (.call .block .skip))
def aM3:Pr:=.ite (.at [[38]]) (.node 19 (.bump (.acc aIm (.call .typeExpr .skip))) .skip) (.ite (.at [kFn]) (.node 20 (.bump (.exp [40] (.lst [41] tyT (.opt [45,62] tyT .skip)))) .skip) (.ite (.kd 103) (.call (.path true) .skip) (.mis 46 .skip)))
def aIa:Pr:=.exp [123] (.lop (.at [[116,121,112,101],kFn]) (.ite (.at [kFn]) (.node 3 (.bump (.call (.function false) .skip)) .skip) (.node 16 (.bump (.idt (.opt [61] tyT (.exp [59] .skip)))) .skip)) (.exp [125] .skip))
def aNd(b:Bool):Pr:=.idt (.ite (.bo b) (.acif [[60]] (.lst [62] tyT .skip) .skip) .skip)
def aPb(k:Int):Pr:=.idt (.call .typeParams (.exp [123] (.lst [125] (.ite (.no (.kd 103)) .skip (.ite (.bo (decide (k=4))) (.node 14 (.bump (.exp [58] (.call .typeExpr .skip))) .skip) (.node 15 (.bump (.acif [[40]] (.lst [41] aM3 .skip) .skip)) .skip))) .skip)))
def aO5:Pr:=.node 46 (.bump (.lop (.and (.no (.kd 100)) (.no (.at yL))) (.bump .skip) .skip)) .skip
def aPk:Pr:=.call .typeParams (.call .typeExpr (.acif [[102,111,114]] (.call .typeExpr (.seq aIa .skip)) (.ins (.seq aIa .skip))))
def aOi(c:List UInt8)(p:Pr->Pr):Pr:=.idt (.exp c (p (.exp [61] (.call .expr (.exp [59] .skip)))))
def prog:wD->Pr
 | .block=>.node 21 (.exp [123] (.lopF (.and (.and (.and (.no .fl) (.no (.at [[125]]))) (.no (.kd 100))) (.no (.at yL))) (.call .statement .skip) (.ite (.no .fl) (.mis 0 (.exp [125] .skip)) (.exp [125] .skip)))) .skip
 | .letS=>.bump (.call .pattern (.opt [58] tyT (.exp [61] (.call .expr (.exp [59] .skip)))))
 | .returnStmt=>.bump (.ite (.at [[59]]) (.mis 0 (.exp [59] .skip)) (.call .expr (.exp [59] .skip)))
 | .expr=>.call (.binary 0) .skip
 | .binary 0=>.call (.binary 1) (.lpwT (.at (uL 0)) (.wrap 39 (.bump (.call (.binary 1) .skip)) .skip))
 | .binary 1=>.call (.binary 2) (.lpwT (.at (uL 1)) (.wrap 39 (.bump (.call (.binary 2) .skip)) .skip))
 | .binary 2=>.call (.binary 3) (.ite (.at (uL 2)) (.wrap 39 (.bump (.call (.binary 3) .skip)) .skip) .skip)
 | .binary 3=>.call (.binary 4) (.lpwT (.at (uL 3)) (.wrap 39 (.bump (.call (.binary 4) .skip)) .skip))
 | .binary 4=>.call (.binary 5) (.lpwT (.at (uL 4)) (.wrap 39 (.bump (.call (.binary 5) .skip)) .skip))
 | .binary _=>.call .unary .skip
 | .unary=>.ite (.at [[45],[33],[42]]) (.node 40 (.bump (.call .unary .skip)) .skip) (.ite (.at [[38]]) (.node 41 (.bump (.acc aIm (.call .unary .skip))) .skip) (.call .primary (.call .postfx .skip)))
 | .arguments=>.bump (.lst [41] (.call (.binary 0) .skip) .skip)
 | .postfx=>.lpw (.at [[40],[46]]) (.ite (.at [[40]]) (.wrap 30 (.callT .arguments) .skip) (.look2 (.kd 103) (.at [[40]]) (.wrap 31 (.bump (.bump (.call .arguments .skip))) .skip) (.wrap 32 (.bump (.idt .skip)) .skip) (.wrap 32 (.bump (.idt .skip)) .skip))) .skip
 | .primary=>.ite (.kd 105) (.node 27 .bumpT .skip) (.ite (.kd 106) (.node 29 .bumpT .skip) (.ite (.at [[116,114,117,101],[102,97,108,115,101]]) (.node 28 .bumpT .skip) (.ite (.kd 103) (.call (.path false) (.ite (.at [[33]]) (.look (.at [[40]]) (.wrap 42 (.bump (.call .arguments .skip)) .skip) .skip) .skip))
   (.ite (.at [[40]]) (.node 60 aPj .skip) (.ite (.at [[123]]) (.call .block .skip) (.ite (.at [[105,102]]) (.call .ifExpr .skip) (.ite (.at [[109,97,116,99,104]]) (.node 35 (.callT .matchE) .skip) (.ite (.at [[110,101,119]]) (.node 33 (.callT .structLit) .skip) (.ite (.at [[124],[124,124]]) (.node 38 (.callT .lambda) .skip) (.mis 46 .skip))))))))))
 | .ifExpr=>.node 37 (.bump (.call .expr (.call .block (.opt [101,108,115,101] (.ite (.at [[105,102]]) (.call .ifExpr .skip) (.call .block .skip)) .skip)))) .skip
 | .matchE=>.bump (.call .expr (.exp [123] (.lst [125] (.ite .ap (.node 36 (.call .pattern (.exp [61,62] (.call .expr .skip))) .skip) .skip) .skip)))
 | .structLit=>.bump (.call (.path false) (.exp [123] (.lst [125] (.ite (.kd 103) (.node 34 (.bump (.exp [58] (.call .expr .skip))) .skip) .skip) .skip)))
 | .lambda=>.ite (.at [[124,124]]) (.bump (.node 12 .skip (.call .expr .skip))) (.bump (.call (.params [124]) (.call .expr .skip)))
 | .pattern=>.ite (.at aIm) (.node 44 (.bump (.idt .skip)) .skip) (.ite (.and (.kd 103) (.tx [95])) (.node 43 .bumpT .skip) (.ite (.kd 103) (.look (.no (.at [[40],[58,58]])) (.node 44 .bumpT .skip) (.node 45 (.call (.path false) (.acif [[40]] (.lst [41] (.callT .pattern) .skip) .skip)) .skip))
   (.ite (.kd 105) (.node 27 .bumpT .skip) (.ite (.at [[116,114,117,101],[102,97,108,115,101]]) (.node 28 .bumpT .skip) (.mis 46 .skip)))))
 | .path b=>.node 17 (.node 18 (aNd b) (.lpeT [[58,58]] (.nodeT 18 (aNd b)))) .skip
 | .typeExpr=>aM3
 | .typeParams=>.node 10 (.acif [[60]] (.lst [62] (.ite (.no (.kd 103)) .skip (.node 11 (.bump (.acif [[58]] (.call (.path true) (.lpe [[43]] (.call (.path true) .skip) .skip)) .skip)) .skip)) .skip) .skip) .skip
 | .params c=>.node 12 (.lst c (.ite (.kd 103) (.node 13 (.bump (.opt [58] tyT .skip)) .skip) .skip) .skip) .skip
 | .function b=>.idt (.call .typeParams (.exp [40] (.call (.params [41]) (.opt [45,62] tyT (.ite (.bo b) (.call .block .skip) (.acif [[59]] (.mis 0 .skip) (.call .block .skip)))))))
 | .itemBody k=>if k=2 then .use .skip else if k=3 then .call (.function true) .skip else if k=4\/k=5 then .seq (aPb k) .skip else if k=6 then .idt (.seq aIa .skip)else if k=7 then .seq aPk .skip else if k=8 then aOi [58] (.call .typeExpr)else if k=9 then aOi [40] (.call (.params [41]))else .skip
 | .statement=>.skip| .item=>.skip
section
variable(toks:List Tk)(n:Nat)(R:dK)
theorem VW:∀l,l<=5->aDa toks n R l=lT toks n R (prog (.binary l))
 |0,_=>rfl|1,_=>rfl|2,_=>rfl|3,_=>rfl|4,_=>rfl|5,_=>rfl|n+6,h=>z8
theorem MK(k:Int):∀s,m82 toks n R k s=lT toks n R (prog (.itemBody k)) s:=λs=>by
 by_cases h2:k=2
 ·subst h2;rfl
 by_cases h3:k=3
 ·subst h3;rfl
 by_cases h4:k=4
 ·subst h4;rfl
 by_cases h5:k=5
 ·subst h5;rfl
 by_cases h6:k=6
 ·subst h6;rfl
 by_cases h7:k=7
 ·subst h7;rfl
 by_cases h8:k=8
 ·subst h8;rfl
 by_cases h9:k=9
 ·subst h9;rfl
 unfold m82 prog;simp only[decide_eq_true_eq,h2,h3,h4,h5,h6,h7,h8,h9,if_false,or_self];rfl
end
def J(toks:List Tk)(S:Int)(al:List Int)(nd:Bool)(s0 s:PS):Prop:=∃f fs new,s0.stack=f::fs/\s.stack=⟨f.kind,f.kids++new⟩::fs/\s0.pos<=s.pos/\s.pos<=toks.length/\
 (bV new:Int)+(if s0.pos<s.pos then 60 else 0)<=S+300*((s.pos:Int) -s0.pos)/\vB new=WL toks s0.pos s.pos/\(∀t∈new,AQ t=true/\(AY t.kind=true->t.kind∈al))/\(nd=true->∃t∈new,t.kind<100)
def Rm(toks:List Tk)(d r:Nat)(s:PS):Prop:=∃f fs,s.stack=f::fs/\s.pos<=toks.length/\f.kids.length+r+300*(toks.length-s.pos)<fE/\s.stack.length+d<fE
theorem iV:∀a b,bV (a++b)=bV a+bV b
 | [],b=>by simp[bV]
 |t::a,b=>by simp only[aQf,bV,iV a b];omega
theorem St.size_pos(t:St):1<=t.size:=by cases t;simp only[St.size];omega
theorem pR:∀l,l.length<=bV l
 | []=>aRk _
 |t::l=>by have:=pR l;have:=t.size_pos;simp only[aQ0,bV];omega
section
variable{toks:List Tk}{S S2:Int}{al al2:List Int}{nd nd2:Bool}{s0 s1 s s':PS}{d r:Nat}
theorem EF{xs:List (List UInt8)}(h:eC (aG toks s.pos) xs=true):s.pos<toks.length:=by
 apply Decidable.byContradiction;intro c;rw[rO z8]at h;simp[eC,aC6]at h
theorem IG(h:JC toks s=false):s.pos<toks.length:=by
 apply Decidable.byContradiction;intro c;unfold JC at h;rw[rO z8]at h;simp[aC6]at h
theorem J.trans(h:J toks S al nd s0 s1)(k:J toks S2 al2 nd2 s1 s):J toks (S+S2) (al++al2) (nd||nd2) s0 s:=by
 obtain⟨f,fs,n1,a1,a2,a3,a4,a5,a6,a7,a8⟩:=h;obtain⟨g,gs,n2,b1,b2,b3,b4,b5,b6,b7,b8⟩:=k;rw[a2]at b1;injection b1 with b1 b0;subst b1 b0;refine⟨f,fs,n1++n2,a1,by rw[b2];simp,z8,b4, ?_,by rw[uU,a6,b6,<-JW toks a3 b3],λt ht=> ?_,λh=> ?_⟩
 ·rw[iV]
  split at a5<;>split at b5<;>split<;>omega
 ·rcases aRp.1 ht with q|q
  ·exact⟨(a7 t q).1,λz=>aSa _ ((a7 t q).2 z)⟩
  ·exact⟨(b7 t q).1,λz=>aR9 _ ((b7 t q).2 z)⟩
 ·rcases(by simpa using h:nd=true\/nd2=true)with q|q
  ·obtain⟨t,t1,t2⟩:=a8 q;exact⟨t,aSa _ t1,t2⟩
  ·obtain⟨t,t1,t2⟩:=b8 q;exact⟨t,aR9 _ t1,t2⟩
theorem J.mono(h:J toks S al nd s0 s)(h1:S<=S2)(h2:∀x∈al,x∈al2)(h3:nd2=true->nd=true):J toks S2 al2 nd2 s0 s:=by
 obtain⟨f,fs,n1,a1,a2,a3,a4,a5,a6,a7,a8⟩:=h;exact⟨f,fs,n1,a1,a2,a3,a4,z8,a6,λt ht=>⟨(a7 t ht).1,λz=>h2 _ ((a7 t ht).2 z)⟩,λz=>a8 (h3 z)⟩
theorem J.pos(h:J toks S al nd s0 s):s0.pos<=s.pos/\s.pos<=toks.length:=by obtain⟨f,fs,n1,a1,a2,a3,a4,_⟩:=h;exact⟨a3,a4⟩
theorem Rm.refl(h:Rm toks d r s):J toks 0 [] false s s:=by
 obtain⟨f,fs,b1,b2,b3,b4⟩:=h;exact⟨f,fs,[],b1,by rw[b1];simp,aQj _,b2,by simp[bV],by simp[vB,uI],λt ht=>(by cases ht),λh=>by cases h⟩
theorem J.rm(h:J toks S al nd s0 s)(k:Rm toks d (r+400) s0)(hS:S<=390):Rm toks d r s:=by
 obtain⟨f,fs,n1,a1,a2,a3,a4,a5,a6,a7,a8⟩:=h;obtain⟨g,gs,b1,b2,b3,b4⟩:=k;rw[a1]at b1;injection b1 with b1 b0;subst b1 b0;have:=pR n1;refine⟨_,_,a2,a4, ?_,by rw[a2];rw[a1]at b4;simpa using b4⟩;simp only[aRf]
 split at a5<;>omega
theorem Rm.mono{d' r':Nat}(h:Rm toks d r s)(h1:d'<=d)(h2:r'<=r):Rm toks d' r' s:=by
 obtain⟨f,fs,b1,b2,b3,b4⟩:=h;exact⟨f,fs,b1,b2,z8,z8⟩
theorem J.absorb(h:J toks S al nd s0 s1)(hm:s0.pos<s1.pos)(k:J toks S2 al2 nd2 s1 s)(hm2:s1.pos<s.pos)(h60:S2<=60):J toks S (al++al2) (nd||nd2) s0 s:=by
 obtain⟨f,fs,n,a1,a2,a3,a4,a5,a6⟩:=h.trans k;obtain⟨f',fs',n1,c1,c2,c3,c4,c5,c6⟩:=h;obtain⟨g,gs,n2,b1,b2,b3,b4,b5,b6⟩:=k;rw[c1]at a1;injection a1 with a1 a0;subst a1 a0;rw[c2]at b1;injection b1 with b1 b0;subst b1 b0;have hn:n=n1++n2:=by
  rw[a2]at b2;injection b2 with b2 _;injection b2 with _ b2;rw[aR4]at b2;exact List.append_cancel_left b2
 refine⟨_,_,n,c1,a2,a3,a4, ?_,a6⟩;rw[hn,iV];rw[if_pos hm]at c5;rw[if_pos hm2]at b5;rw[if_pos z8];omega
def TR(toks:List Tk)(s s':PS):Prop:=∃f fs new,s.stack=f::fs/\s'.stack=⟨f.kind,f.kids++new⟩::fs/\s.pos<=s'.pos/\s'.pos<=toks.length/\bV new=s'.pos-s.pos/\vB new=WL toks s.pos s'.pos/\∀t∈new,AQ t=true/\AY t.kind=false
theorem TR.j(h:TR toks s s'):J toks 0 [] false s s'/\(s.pos<s'.pos->J toks (-239) [] false s s'):=by
 obtain⟨f,fs,n,a1,a2,a3,a4,a5,a6,a7⟩:=h;refine⟨⟨f,fs,n,a1,a2,a3,a4,by rw[a5];split<;>omega,a6,λt ht=>⟨(a7 t ht).1,λz=>by rw[(a7 t ht).2]at z;cases z⟩,λz=>by cases z⟩,λhm=>⟨f,fs,n,a1,a2,a3,a4,by rw[a5,if_pos hm];omega,a6,λt ht=>⟨(a7 t ht).1,λz=>by rw[(a7 t ht).2]at z;cases z⟩,λz=>by cases z⟩⟩
theorem TR.trans(h:TR toks s s1)(k:TR toks s1 s'):TR toks s s':=by
 obtain⟨f,fs,n1,a1,a2,a3,a4,a5,a6,a7⟩:=h;obtain⟨g,gs,n2,b1,b2,b3,b4,b5,b6,b7⟩:=k;rw[a2]at b1;injection b1 with b1 b0;subst b1 b0;refine⟨f,fs,n1++n2,a1,by rw[b2];simp,z8,b4,by rw[iV];omega,by rw[uU,a6,b6,<-JW toks a3 b3],λt ht=> ?_⟩;rcases aRp.1 ht with q|q
 ·exact a7 t q
 ·exact b7 t q
theorem Rm.tr(h:Rm toks d r s):TR toks s s:=by
 obtain⟨f,fs,b1,b2,b3,b4⟩:=h;exact⟨f,fs,[],b1,by rw[b1];simp,aQj _,b2,by simp[bV],by simp[vB,uI],λt ht=>by cases ht⟩
theorem TR.rm(h:TR toks s s')(k:Rm toks d r s):Rm toks d r s':=by
 obtain⟨f,fs,n1,a1,a2,a3,a4,a5,a6⟩:=h;obtain⟨g,gs,b1,b2,b3,b4⟩:=k;rw[a1]at b1;injection b1 with b1 b0;subst b1 b0;have:=pR n1;exact⟨_,_,a2,a4,by simp only[aRf];omega,by rw[a2];rw[a1]at b4;simpa using b4⟩
variable(hT:BF toks)
include hT
theorem WK(h:s.pos<toks.length)(rm:Rm toks d r s):∃s',JI toks s=some s'/\TR toks s s'/\s'.pos=s.pos+1:=by
 obtain⟨f,fs,b1,b2,b3,b4⟩:=rm;have ht:=hT _ (aRh h);have h60:¬toks[s.pos].kind=60:=z8
 have h7:¬toks[s.pos].kind=7:=z8
 have h12:¬toks[s.pos].kind=12:=z8
 have h13:¬toks[s.pos].kind=13:=z8
 refine⟨⟨s.pos+1,⟨f.kind,f.kids++ [St.mk toks[s.pos].kind toks[s.pos].text []]⟩::fs,s.flag⟩, ?_,⟨f,fs,[_],b1,rfl,Nat.le_succ _,h,by simp[bV,St.size], ?_,λt q=> ?_⟩,rfl⟩
 ·unfold JI;rw[aRa h];simp only[uW b1 (show f.kids.length<fE by omega),aQz]
 ·simp only[aDp toks h,vB,zP]
  split<;>simp_all
 ·rw[aRz]at q;subst q;exact⟨by simp[AQ,okN,okL,ht.1,h60,h7],by simp[AY,St.kind,h7,h12,h13]⟩
theorem IY:∀(n:Nat) {s:PS},toks.length-s.pos<=n->Rm toks d r s->∃s',vI toks n s=some s'/\TR toks s s'
 |0,s,hn,rm=>⟨s,rfl,rm.tr⟩
 |n+1,s,hn,rm=>by
  unfold vI
  by_cases h:s.pos<toks.length
  ·rw[aRa h];simp only
   by_cases c:CM toks[s.pos].kind=true
   ·rw[if_pos c];obtain⟨s1,e1,x1,p1⟩:=WK hT h rm;obtain⟨s2,e2,x2⟩:=IY n (s:=s1) z8 (x1.rm rm);exact⟨s2,by rw[e1];exact e2,x1.trans x2⟩
   ·rw[if_neg c];exact⟨s,rfl,rm.tr⟩
  ·rw[aQv z8];exact⟨s,rfl,rm.tr⟩
theorem mT(rm:Rm toks d r s):∃s',cI toks s=some s'/\J toks 0 [] false s s'/\(s.pos<toks.length->s.pos<s'.pos/\J toks (-239) [] false s s'):=by
 obtain⟨s1,e1,x1⟩:=IY hT _ (aQj _) rm;unfold cI AA;rw[e1];simp only[aQw];have hp:s.pos<=s1.pos:=by obtain⟨f,fs,n1,a1,a2,a3,_⟩:=x1;exact a3
 have hp2:s1.pos<=toks.length:=by obtain⟨f,fs,n1,a1,a2,a3,a4,_⟩:=x1;exact a4
 by_cases h:s1.pos<toks.length
 ·rw[if_pos h];obtain⟨s2,e2,x2,p2⟩:=WK hT h (x1.rm rm);have x:=(x1.trans x2).j;exact⟨s2,e2,x.1,λ_=>⟨z8,x.2 z8⟩⟩
 ·rw[if_neg h];exact⟨s1,rfl,x1.j.1,λ_=>⟨z8,x1.j.2 z8⟩⟩
theorem oS{xs:List (List UInt8)}(rm:Rm toks d r s):∃s',cA toks xs s=some s'/\J toks 0 [] false s s'/\(eC (aG toks s.pos) xs=true->s.pos<s'.pos/\J toks (-239) [] false s s')/\(¬eC (aG toks s.pos) xs=true->s'=s):=by
 unfold cA
 by_cases c:eC (aG toks s.pos) xs=true
 ·rw[if_pos c];obtain⟨s1,e1,x1,y1⟩:=mT hT rm;exact⟨s1,e1,x1,λ_=>y1 (EF c),λq=>absurd c q⟩
 ·rw[if_neg c];exact⟨s,rfl,rm.refl,λq=>absurd q c,λ_=>rfl⟩
end
section
variable{toks:List Tk}{S S2:Int}{al al2:List Int}{nd nd2:Bool}{s0 s1 s s':PS}{d r n:Nat}
def SY(k:Int):List Int:=if AY k=true then [k]else []
theorem aJr{t:St}(rm:Rm toks d r s)(hr:0<r)(hz:(t.size:Int)<=S)(hw:zP t= [])(ht:AQ t=true):∃s',pJ t s=some s'/\J toks S (SY t.kind) (decide (t.kind<100)) s s'/\s'.pos=s.pos:=by
 obtain⟨f,fs,b1,b2,b3,b4⟩:=rm;refine⟨_,uW b1 z8,⟨f,fs,[t],b1,rfl,aQj _,b2, ?_,by simp[vB,hw,uI],λx hx=> ?_,λq=>⟨t,z6,by simpa using q⟩⟩,rfl⟩
 ·simp only[bV];rw[if_neg (Nat.lt_irrefl _)];omega
 ·rw[aRz]at hx;subst hx;exact⟨ht,λq=>by unfold SY;rw[if_pos q];simp⟩
theorem IK{k:Int}(rm:Rm toks d r s)(hr:0<r)(hk:AY k=false)(h6:k≠60)(h103:k≠103):∃s',nQ k s=some s'/\J toks 1 [] (decide (k<100)) s s'/\s'.pos=s.pos:=by
 have h7:k≠7:=by rintro rfl;cases hk
 obtain⟨s',e,x,p⟩:=aJr (S:=1) (t:=⟨k,[],[]⟩) rm hr (by simp[St.size,bV]) (by simp[zP,vB]) (by simp[AQ,okN,okL,h6,h103,h7]);refine⟨s',e, ?_,p⟩;have:SY k= []:=by unfold SY;rw[hk];rfl
 have x':J toks 1 (SY k) (decide (k<100)) s s':=x
 rwa [this]at x'
theorem xM(hT:BF toks){x:List UInt8}(rm:Rm toks d (r+1) s):∃s',bK toks x s=some s'/\J toks 1 [] false s s'/\(eC (aG toks s.pos) [x]=true->s.pos<s'.pos/\J toks (-239) [] false s s'):=by
 obtain⟨s1,e1,x1,y1,z1⟩:=oS hT (xs:= [x]) rm;unfold bK;rw[e1];simp only[aQw]
 by_cases c:eC (aG toks s.pos) [x]=true
 ·exact⟨s1,by simp only[c,if_true],x1.mono z8 (λ_ h=>h) (λh=>h),λ_=>y1 c⟩
 ·rw[z1 c]at*;obtain⟨s2,e2,x2,p2⟩:=IK (k:=108) rm z8 rfl z7 z7;exact⟨s2,by simp only[c];exact e2,x2.mono (Int.le_refl _) (λ_ h=>h) (λh=>by cases h),λq=>absurd q c⟩
theorem AZ(hT:BF toks)(rm:Rm toks d (r+1) s):∃s',bE toks s=some s'/\J toks 1 [] false s s':=by
 unfold bE
 split
 ·obtain⟨s1,e1,x1,_⟩:=mT hT rm;exact⟨s1,e1,x1.mono z8 (λ_ h=>h) (λh=>h)⟩
 ·obtain⟨s2,e2,x2,p2⟩:=IK (k:=108) rm z8 rfl z7 z7;exact⟨s2,e2,x2.mono (Int.le_refl _) (λ_ h=>h) (λh=>by cases h)⟩
theorem JH{k:Int}{ch:List St}(h1:∀t∈ch,AQ t=true/\(AY t.kind=true->t.kind∈MY k))(h60:k=60->∃t∈ch,t.kind<100)(h7:k=7->tY ch=true)(h100:k<100):AQ ⟨k,[],ch⟩=true:=by
 simp only[AQ,okN,BE,aQd,aRo];refine⟨⟨⟨⟨λt ht=>aJ7 (h1 t ht).2, ?_⟩, ?_⟩,by simp;omega⟩,λt ht=>(h1 t ht).1⟩
 ·by_cases h:k=60
  ·obtain⟨t,t1,t2⟩:=h60 h;simp only[h,decide_true,aRq,Bool.false_or,List.any_eq_true];exact⟨t,t1,by simpa using t2⟩
  ·simp[h]
 ·by_cases h:k=7
  ·simp[h,h7 h]
  ·simp[h]
theorem RX{k:Int}{a:PS->Option PS}{s2:PS}(rm:Rm toks (d+1) (r+1) s)(e:a ⟨s.pos,⟨k,[]⟩::s.stack,s.flag⟩=some s2)(x:J toks S al nd ⟨s.pos,⟨k,[]⟩::s.stack,s.flag⟩ s2)(h100:k<100)
  (hok:∀new,s2.stack=⟨k,new⟩::s.stack->(∀t∈new,AQ t=true/\(AY t.kind=true->t.kind∈al))->AQ (St.mk k [] new)=true):∃s',bY k a s=some s'/\J toks (S+1) (SY k) true s s'/\s'.pos=s2.pos:=by
 obtain⟨g,gs,new,c1,c2,c3,c4,c5,c6,c7,c8⟩:=x;injection c1 with c1 c0;subst c1 c0;simp only[aRy]at c2 c3 c5 c6;obtain⟨f,fs,b1,b2,b3,b4⟩:=rm;have ha:pJ (St.mk k [] new) {s2 with stack:=s.stack}=some {s2 with stack:=⟨f.kind,f.kids++ [St.mk k [] new]⟩::fs}:=uW (f:=f) (fs:=fs) b1 z8;refine⟨⟨s2.pos,⟨f.kind,f.kids++ [St.mk k [] new]⟩::fs,s2.flag⟩, ?_,⟨f,fs,[St.mk k [] new],b1,rfl,c3,c4, ?_,by simp[vB,zP,c6],λt ht=> ?_,λ_=>⟨St.mk k [] new,z6,h100⟩⟩,rfl⟩
 ·unfold bY RT;rw[if_pos z8];simp only[aQw,e];unfold pL;rw[c2,b1];simp only;rw[<-b1];exact ha
 ·simp only[bV,St.size]
  split at c5<;>split<;>omega
 ·rw[aRz]at ht;subst ht;exact⟨hok new c2 c7,λq=>by have q':AY k=true:=q;simp[SY,q',St.kind]⟩
theorem BK{k:Int}{a:PS->Option PS}{s2:PS}(rm:Rm toks (d+1) (r+1) s)(e:a ⟨s.pos,⟨k,[]⟩::s.stack,s.flag⟩=some s2)(x:J toks S al nd ⟨s.pos,⟨k,[]⟩::s.stack,s.flag⟩ s2)(h100:k<100)(h7:k≠7)(hal:∀y∈al,y∈MY k)(h60:k=60->nd=true):∃s',bY k a s=some s'/\J toks (S+1) (SY k) true s s'/\s'.pos=s2.pos:=
 RX rm e x h100 λnew hn h=>by
  obtain⟨g,gs,new',c1,c2,c3,c4,c5,c6,c7,c8⟩:=x;injection c1 with c1 c0;subst c1 c0;simp only[aRy]at c2;rw[hn]at c2;injection c2 with c2 _;injection c2 with _ c2;subst c2;exact JH (λt ht=>⟨(h t ht).1,λq=>hal _ ((h t ht).2 q)⟩) (λq=>c8 (h60 q)) (λq=>absurd q h7) h100
theorem aGz{k:Int}{a:PS->Option PS}{S0:Int}{s2:PS}{y:St}{f:vH}{fs:List vH}{ini:List St}(rm:Rm toks (d+1) (r+1) s)(x:J toks S0 [] true s0 s)(hy:s.stack=⟨f.kind,f.kids++ini++ [y]⟩::fs)(h0:s0.stack=f::fs)
  (e:a ⟨s.pos,⟨k,[y]⟩::⟨f.kind,f.kids++ini⟩::fs,s.flag⟩=some s2) (z:J toks S [] nd ⟨s.pos,⟨k,[y]⟩::⟨f.kind,f.kids++ini⟩::fs,s.flag⟩ s2) (h100:k<100) (hk:AY k=false) (h6:k≠60):∃s',iA k a s=some s'/\J toks (S0+S+1) [] true s0 s'/\s'.pos=s2.pos:=by
 obtain⟨f',fs',new,x1,x2,x3,x4,x5,x6,x7,x8⟩:=x;rw[h0]at x1;injection x1 with x1 x0;subst x1 x0;have hnew:new=ini++ [y]:=by
  rw[hy]at x2;injection x2 with x2 _;injection x2 with _ x2;rw[aR4]at x2;exact(List.append_cancel_left x2).symm
 subst hnew;obtain⟨g,gs,n2,c1,c2,c3,c4,c5,c6,c7,c8⟩:=z;injection c1 with c1 c0;subst c1 c0;simp only at c2 c3 c5 c6;obtain⟨f3,fs3,b1,b2,b3,b4⟩:=rm;rw[hy]at b1;injection b1 with b1 b0;subst b1 b0;have hkids:(f.kids++ini).length<fE:=by simp only[aRf,aQ0,aR1]at b3⊢;omega
 have ho:rN k s=some ⟨s.pos,⟨k,[y]⟩::⟨f.kind,f.kids++ini⟩::fs,s.flag⟩:=by
  unfold rN;rw[hy];rw[hy]at b4;simp only;rw[if_pos z8];simp only[List.getLast?_concat,List.dropLast_concat]
 have ha:pJ (St.mk k [] ([y]++n2)) {s2 with stack:=⟨f.kind,f.kids++ini⟩::fs}=some ⟨s2.pos,⟨f.kind,f.kids++ini++ [St.mk k [] ([y]++n2)]⟩::fs,s2.flag⟩:=uW (s:=⟨s2.pos,⟨f.kind,f.kids++ini⟩::fs,s2.flag⟩) (f:=⟨f.kind,f.kids++ini⟩) (fs:=fs) rfl hkids;have h7:k≠7:=by rintro rfl;cases hk
 have hyo:=x7 y z6;refine⟨⟨s2.pos,⟨f.kind,f.kids++ini++ [St.mk k [] ([y]++n2)]⟩::fs,s2.flag⟩, ?_,⟨f,fs,ini++ [St.mk k [] ([y]++n2)],h0,z6,by simp only;omega,c4, ?_, ?_,λt ht=> ?_,λ_=>⟨St.mk k [] ([y]++n2),z6,h100⟩⟩,rfl⟩
 ·unfold iA;rw[ho];simp only[aQw,e];unfold pL;rw[c2];simp only;exact ha
 ·rw[iV]at x5⊢;simp only[aQf,aRy,bV,St.size]at x5⊢
  split at x5<;>split at c5<;>split<;>omega
 ·rw[JW toks x3 c3,<-x6,<-c6];simp[uU,vB,zP]
 ·rcases aRp.1 ht with q|q
  ·exact x7 t (by simp[q])
  ·rw[aRz]at q;subst q;refine⟨JH (λu hu=> ?_) (λq=>absurd q h6) (λq=>absurd q h7) h100,λq=>by simp only[St.kind]at q;rw[hk]at q;cases q⟩;rcases aRp.1 hu with q|q
   ·rw[aRz]at q;subst q;exact⟨hyo.1,λq=>by cases hyo.2 q⟩
   ·exact⟨(c7 u q).1,λq'=>by cases(c7 u q).2 q'⟩
theorem J.last(x:J toks S al true s0 s):∃f fs ini y,s0.stack=f::fs/\s.stack=⟨f.kind,f.kids++ini++ [y]⟩::fs:=by
 obtain⟨f,fs,new,x1,x2,x3,x4,x5,x6,x7,x8⟩:=x;obtain⟨t0,ht0,_⟩:=x8 rfl;exact⟨f,fs,new.dropLast,new.getLast (List.ne_nil_of_mem ht0),x1,by rw[x2,aR4,List.dropLast_concat_getLast]⟩
theorem YV{c:PS->Bool}{b:PS->Option PS}(hS:S<=60)(rm:Rm toks d (r+400) s)(hb:∀t,s.pos<=t.pos->Rm toks d r t->c t=true->∃t',b t=some t'/\J toks S al nd t t'/\t.pos<t'.pos):
  ∀(n:Nat) (t:PS),(t=s\/(s.pos<t.pos/\J toks (max S 0) al nd s t))->toks.length-t.pos<n->∃s',dJ c b n t=some s'/\(s'=s\/(s.pos<s'.pos/\J toks (max S 0) al nd s s'))
 |0,t,hi,h=>z8
 |n+1,t,hi,h=>by
  unfold dJ
  by_cases e:c t=true
  ·rw[if_pos e];have hrm:Rm toks d r t:=by
    rcases hi with rfl| ⟨_,hj⟩
    ·exact rm.mono (aQj _) z8
    ·exact hj.rm rm z8
   have hle:s.pos<=t.pos:=by rcases hi with rfl| ⟨h,_⟩<;>omega
   obtain⟨t1,e1,x1,l1⟩:=hb t hle hrm e;have hp:=x1.pos.2;obtain⟨s2,e2,i2⟩:=YV hS rm hb n t1 (.inr (by
    rcases hi with rfl| ⟨hm,hj⟩
    ·exact⟨l1,x1.mono z8 (λ_ h=>h) (λh=>h)⟩
    ·refine⟨z8,(hj.absorb hm (x1.mono (S2:=max S 0) z8 (λ_ h=>h) (λh=>h)) l1 z8).mono (Int.le_refl _) (λx hx=> ?_) (λh=>by simp[h])⟩;rcases aRp.1 hx with q|q<;>exact q)) z8
   exact⟨s2,by rw[e1];exact e2,i2⟩
  ·rw[if_neg e];exact⟨t,rfl,hi⟩
theorem JD{c:PS->Bool}{b:PS->Option PS}(hn:toks.length<n)(hS:S<=60)(rm:Rm toks d (r+400) s)(hb:∀t,s.pos<=t.pos->Rm toks d r t->c t=true->∃t',b t=some t'/\J toks S al nd t t'/\t.pos<t'.pos):∃s',dJ c b n s=some s'/\J toks (max S 0) al false s s':=by
 obtain⟨s',e,h⟩:=YV hS rm hb n s (.inl rfl) z8;refine⟨s',e, ?_⟩;rcases h with rfl| ⟨_,h⟩
 ·exact rm.refl.mono z8 (λx hx=>by cases hx) (λh=>h)
 ·exact h.mono (Int.le_refl _) (λ_ h=>h) (λh=>by cases h)
theorem SZ(hT:BF toks){xs:List (List UInt8)}{b:PS->Option PS}(hS:S<=60)(rm:Rm toks d (r+400) s)(hb:∀t,s.pos<t.pos->Rm toks d r t->∃t',b t=some t'/\J toks (S+239) al nd t t'):
  ∀(n:Nat) (t:PS),(t=s\/(s.pos<t.pos/\J toks (max S 0) al false s t))->toks.length-t.pos<n->∃s',kS (λs=>eC (aG toks s.pos) xs) (cA toks xs) b n t=some s'/\(s'=s\/(s.pos<s'.pos/\J toks (max S 0) al false s s'))
 |0,t,hi,h=>z8
 |n+1,t,hi,h=>by
  unfold kS;have hrm:Rm toks d r t:=by
   rcases hi with rfl| ⟨_,hj⟩
   ·exact rm.mono (aQj _) z8
   ·exact hj.rm rm z8
  obtain⟨t0,e0,x0,y0,z0⟩:=oS hT (xs:=xs) hrm
  by_cases e:eC (aG toks t.pos) xs=true
  ·rw[if_pos e];obtain⟨l0,y0⟩:=y0 e;have hle:s.pos<=t.pos:=by rcases hi with rfl| ⟨h,_⟩<;>omega
   have hrm0:Rm toks d r t0:=by
    rcases hi with rfl| ⟨hm,hj⟩
    ·exact x0.rm rm z8
    ·exact((hj.absorb hm (y0.mono (S2:=max S 0) z8 (λ_ h=>h) (λh=>h)) l0 z8).rm rm z8)
   obtain⟨t1,e1,x1⟩:=hb t0 z8 hrm0;have x2:J toks S al false t t1:=(y0.trans x1).mono z8 (λx hx=>by simpa using hx) (λh=>by cases h);have hp:=x1.pos;obtain⟨s2,e2,i2⟩:=SZ hT hS rm hb n t1 (.inr (by
    rcases hi with rfl| ⟨hm,hj⟩
    ·exact⟨z8,x2.mono z8 (λ_ h=>h) (λh=>h)⟩
    ·refine⟨z8,(hj.absorb hm (x2.mono (S2:=max S 0) z8 (λ_ h=>h) (λh=>h)) z8 z8).mono (Int.le_refl _) (λx hx=> ?_) (λh=>by simp[h])⟩;rcases aRp.1 hx with q|q<;>exact q)) z8
   exact⟨s2,by rw[e0];simp only[aQw,e1];exact e2,i2⟩
  ·rw[if_neg e,e0,z0 e];exact⟨t,rfl,hi⟩
theorem aI3(hT:BF toks){c:List UInt8}{a:PS->Option PS}(hn:toks.length<n)(hS:S<=58)(rm:Rm toks (d+1) (r+1202) s)(ha:∀t,s.pos<=t.pos->t.pos<toks.length->Rm toks (d+1) (r+402) t->∃t',a t=some t'/\J toks S al nd t t'):∃s',oW toks n c a s=some s'/\J toks (max S 0+2) al false s s':=by
 have hL:=JD (toks:=toks) (al:=al) (nd:=false) (S:=max S 0+1) (d:=d+1) (r:=r+802) (s:=s) (n:=n) (c:=λs=>(!PF toks s [c]&& !JC toks s)&& !JA toks s) (b:=wV toks c a) hn z8 rm λt hle hrm ct=>by
  have hl:t.pos<toks.length:=by
   simp only[aQd,aQe]at ct;exact IG ct.1.2
  obtain⟨t1,e1,x1⟩:=ha t hle hl (hrm.mono (aQj _) z8);have hq:=x1.pos;have rm1:Rm toks (d+1) (r+402) t1:=x1.rm hrm z8;unfold wV;rw[e1];simp only[aQw]
  by_cases q:t1.pos=t.pos
  ·rw[if_pos q];obtain⟨u,eu,xu,yu⟩:=mT hT (d:=d) (r:=1) (s:=⟨t1.pos,⟨46,[]⟩::t1.stack,t1.flag⟩) (by
    obtain⟨f,fs,b1,b2,b3,b4⟩:=rm1;exact⟨_,_,rfl,b2,by simp;omega,by simp only[aQ0];omega⟩)
   obtain⟨lu,yu⟩:=yu (by simp only;omega);obtain⟨t2,e2,x2,p2⟩:=BK (k:=46) (rm1.mono (aQj _) z8:Rm toks (d+1) (1+1) t1) eu yu z7 z7 (λ_ h=>by cases h) (λh=>by cases h);exact⟨t2,e2,(x1.trans x2).mono z8 (λx hx=>by simpa[SY,AY]using hx) (λh=>by cases h),by simp only at lu;omega⟩
  ·rw[if_neg q]
   split
   ·exact⟨t1,rfl,x1.mono z8 (λ_ h=>h) (λh=>by cases h),z8⟩
   ·obtain⟨t2,e2,x2,_⟩:=xM hT (x:= [44]) (rm1.mono (aQj _) z8:Rm toks (d+1) (1+1) t1);exact⟨t2,e2,(x1.trans x2).mono z8 (λx hx=>by simpa using hx) (λh=>by cases h),by have:=x2.pos;omega⟩
 obtain⟨s1,e1,x1⟩:=hL;obtain⟨s2,e2,x2,_⟩:=xM hT (x:=c) (x1.rm (r:=1+1) (rm.mono (aQj _) z8) z8);exact⟨s2,by unfold oW;rw[e1];exact e2,(x1.trans x2).mono z8 (λx hx=>by simpa using hx) (λh=>by cases h)⟩
end
def EX(toks:List Tk)(s:PS):Bool:=eC (aG toks s.pos) [[123]]
def SF:wD->Int
 | .path _=>3| .typeExpr=>3| .typeParams=>1| .params _=>3| .pattern=>4| .primary=>3| .postfx=>0| .unary=>3| .binary _=>3| .expr=>3| .block=>9| .ifExpr=>0| .statement=>5| .letS=>0| .returnStmt=>0
 | .arguments=>5| .matchE=>0| .structLit=>0| .lambda=>0| .function _=>20| .itemBody _=>24| .item=>1
def xV:wD->Bool| .block=>true|_=>false
def TH:wD->Bool| .arguments=>true|_=>false
def SFb(fn:wD)(br ne:Bool):Int:=if xV fn&&br then 0 else if TH fn&&ne then -200 else SF fn
def IZ:wD->Bool| .ifExpr=>true| .matchE=>true| .structLit=>true| .lambda=>true| .letS=>true| .returnStmt=>true| .statement=>true| .item=>true|_=>false
def aAw:wD->Bool| .binary l=>decide (l<=5)|_=>true
def mvF:wD->Bool| .arguments=>true|fn=>IZ fn
def alF:wD->List Int
 | .params _=> [12]| .function _=> [12]| .lambda=> [12]| .item=> [7]| .itemBody k=>if k=3\/k=9 then [12]else []|_=> []
def ndF:wD->Bool
 | .expr=>true| .binary _=>true| .unary=>true| .primary=>true| .block=>true| .ifExpr=>true| .path _=>true| .typeParams=>true|_=>false
def rmx:wD->Nat
 | .path _=>1| .typeParams=>1| .params _=>1| .typeExpr=>2| .pattern=>3| .primary=>4| .postfx=>1| .unary=>5
 | .binary l=>11-l| .expr=>12| .letS=>13| .returnStmt=>13| .statement=>14| .block=>15
 | .function _=>16| .itemBody _=>17| .item=>18| .arguments=>0| .ifExpr=>0| .matchE=>0| .structLit=>0| .lambda=>0
def MP(fn:wD)(br:Bool):Nat:=if xV fn&&br then 0 else rmx fn
def nX(toks:List Tk)(fn:wD)(s:PS):Nat:=32*(toks.length-s.pos)+MP fn (EX toks s)
structure Ab where
 S:Int
 nd:Bool
 mi:Bool
 mv:Bool
 me:Bool
 ne:Bool
 br:Bool
 al:List Int
def Ab.go(a:Ab)(S:Int)(al:List Int)(nd m:Bool):Ab:=⟨a.S+S,a.nd||nd,a.mi||m,a.mv||m,a.me,false,false,a.al++al⟩
def Ab.bump(a:Ab):Ab:= {a.go (if a.ne then -239 else 0) [] false a.ne with me:=true}
def oO(x y:Ab):Ab:=⟨max x.S y.S,x.nd&&y.nd,x.mi&&y.mi,x.mv&&y.mv,x.me&&y.me,false,false,x.al++y.al⟩
def LJ:Option Ab->Option Ab->Option Ab|some x,some y=>some (oO x y)|_,_=>none
mutual
def Cq.tn:Cq->Bool
 | .at _=>true| .kd k=> !decide (k=100)| .ap=>true| .tx _=>false| .no c=>c.fn| .and c d=>c.tn||d.tn| .fl=>false| .bo _=>false
def Cq.fn:Cq->Bool
 | .kd k=>decide (k=100)| .no c=>c.tn|_=>false
end
def Cq.tb:Cq->Bool| .at xs=>decide (xs= [[123]])|_=>false
def Ab.inf(a:Ab)(c:Cq)(v:Bool):Ab:= {a with ne:=a.ne||(if v then c.tn else c.fn),br:=a.br||(v&&c.tb),mv:=a.mv||(a.me&&(if v then c.tn else c.fn))}
def Ab.inn(a:Ab):Ab:=⟨0,false,a.mi,a.mv,a.me,a.ne,a.br,[]⟩
def TX:wD->Bool| .postfx=>true|_=>false
def RU(self:Nat)(fn:wD)(a:Ab):Option Ab:=
 if(a.mv||decide (MP fn a.br<self))&&(!IZ fn||a.ne)&&aAw fn&&(!TX fn||(a.nd&&a.al.isEmpty&&decide (a.S<=80)&&decide (1<self)))then some (a.go (SFb fn a.br a.ne) (alF fn) (ndF fn) (mvF fn&&a.ne))else none
def JB(k:Int)(a:Ab):Option Ab->Option Ab
 |some b=>if decide (k<100)&& !decide (k=7)&&b.al.all (λy=>(MY k).contains y)&&(!decide (k=60)||b.nd)&&decide (b.S<=300)then some ⟨a.S+(b.S+1),true,b.mi,b.mv,b.me,false,false,a.al++SY k⟩else none
 |none=>none
def XI(k:Int)(a:Ab):Option Ab->Option Ab
 |some b=>if decide (k<100)&& !AY k&& !decide (k=60)&&b.al.isEmpty&&decide (b.S<=300)&&a.nd&&a.al.isEmpty then some ⟨a.S+b.S+1,true,b.mi,b.mv,b.me,false,false,[]⟩else none
 |none=>none
def PO(mx:Int)(pl:Int)(a:Ab):Option Ab->Option Ab
 |some b=>if decide (b.S<=mx)then some (a.go (max b.S 0+pl) b.al false false)else none
 |none=>none
def aDe(a:Ab):Option Ab->Option Ab
 |some b=>if decide (b.S<=a.S)&&b.nd&&b.mi&&b.al.isEmpty&&a.nd&&a.al.isEmpty then some {a with ne:=false,br:=false}else none
 |none=>none
def aDd(a:Ab):Option Ab->Option Ab
 |some b=>if decide (b.S<=239)then some (a.go 0 b.al false false)else none
 |none=>none
def RG(o:Option Ab)(f:Ab->Option Ab):Option Ab:=match o with|some a=>f a|none=>none
def gH(self:Nat):Nat->Pr->Ab->Option Ab
 |dp,p,a=>if 300<a.S then none else match p with
  | .skip=>some a
  | .setf _=>some a
  | .bump p=>gH self dp p a.bump
  | .acc _ p=>gH self dp p (a.go 0 [] false false)
  | .acif _ p q=>LJ (gH self dp p (a.go (-239) [] false true)) (gH self dp q {a with ne:=a.ne})
  | .exp x p=>if a.br&&decide (x= [123])then gH self dp p (a.go (-239) [] false true)else gH self dp p (a.go 1 [] false false)
  | .idt p=>gH self dp p (a.go 1 [] false false)
  | .mis k p=>if AY k||decide (k=60)||decide (k=103)then none else gH self dp p (a.go 1 [] (decide (k<100)) false)
  | .call fn p=>RG (RU self fn a) λa=>gH self dp p a
  | .callT fn=>RU self fn a
  | .bumpT=>some a.bump
  | .node k q p=>match dp with
   |0=>none
   |dp+1=>RG (JB k a (gH self dp q a.inn)) λa=>gH self (dp+1) p a
  | .nodeT k q=>match dp with
   |0=>none
   |dp+1=>JB k a (gH self dp q a.inn)
  | .wrap k q p=>match dp with
   |0=>none
   |dp+1=>RG (XI k a (gH self dp q a.inn)) λa=>gH self (dp+1) p a
  | .opt _ q p=>RG (LJ (gH self dp q (a.go (-239) [] false true)) (some (a.go 1 [] true false))) λa=>gH self dp p a
  | .lst _ q p=>match dp with
   |0=>none
   |dp+1=>RG (PO 58 2 a (gH self dp q ⟨0,false,false,a.mv||a.me,false,true,false,[]⟩)) λa=>gH self (dp+1) p a
  | .lop c q p=>match dp with
   |0=>none
   |dp+1=>if c.tn then RG (PO 60 0 a (RG (gH self dp q ⟨0,false,false,a.mv||a.me,false,true,false,[]⟩) λb=>if b.mi then some b else none)) λa=>gH self (dp+1) p a else none
  | .lopF c q p=>match dp with
   |0=>none
   |dp+1=>if c.tn then RG (PO 60 0 a (RG (gH self dp q ⟨0,false,false,a.mv||a.me,false,true,false,[]⟩) λb=>if b.mi then some b else none)) λa=>gH self (dp+1) p a else none
  | .lpw c q p=>if c.tn then RG (aDe a (gH self dp q {a with mi:=false,mv:=a.mv||a.me,ne:=true,br:=false})) λa=>gH self dp p a else none
  | .lpwT c q=>if c.tn then aDe a (gH self dp q {a with mi:=false,mv:=a.mv||a.me,ne:=true,br:=false})else none
  | .lpe _ q p=>match dp with
   |0=>none
   |dp+1=>RG (aDd a (gH self dp q ⟨0,false,true,true,false,false,false,[]⟩)) λa=>gH self (dp+1) p a
  | .lpeT _ q=>match dp with
   |0=>none
   |dp+1=>aDd a (gH self dp q ⟨0,false,true,true,false,false,false,[]⟩)
  | .ite c p q=>LJ (gH self dp p (a.inf c true)) (gH self dp q (a.inf c false))
  | .look _ p q=>LJ (gH self dp p a) (gH self dp q a)
  | .look2 _ _ p q r=>LJ (LJ (gH self dp p a) (gH self dp q a)) (gH self dp r a)
  | .ins p=>if a.nd then gH self dp p (a.go 1 [] false false)else none
  | .seq q p=>RG (gH self dp q a) λa=>gH self dp p a
  | .use p=>match dp with
   |0=>none
   |1=>none
   |2=>none
   |dp+3=>gH self (dp+3) p (a.go 6 [] false false)
def DA(fn:wD):Ab:=⟨0,false,false,false,false,IZ fn,false,[]⟩
def fM(fn:wD)(a:Ab)(S:Int):Bool:=match gH (MP fn a.br) 8 (prog fn) a with
 |some b=>decide (b.S<=S)&&(!ndF fn||b.nd)&&(!(mvF fn&&a.ne)||b.mi)&&b.al.all λy=>(alF fn).contains y
 |none=>false
theorem QP:fM .block (DA .block) 9=true/\fM .block {DA .block with ne:=true,br:=true} 0=true:=⟨rfl,rfl⟩
theorem aLc:fM .letS (DA .letS) 0=true:=rfl
theorem JJ:fM .returnStmt (DA .returnStmt) 0=true:=rfl
theorem aHo:fM .expr (DA .expr) 3=true:=rfl
theorem aB0:∀l,l<=5->fM (.binary l) (DA (.binary l)) 3=true
 |0,_=>rfl|1,_=>rfl|2,_=>rfl|3,_=>rfl|4,_=>rfl|5,_=>rfl|n+6,h=>z8
theorem aDb:fM .unary (DA .unary) 3=true:=rfl
theorem zM:fM .arguments (DA .arguments) 5=true/\fM .arguments {DA .arguments with ne:=true} (-200)=true:=⟨rfl,rfl⟩
theorem TE:fM .primary (DA .primary) 3=true:=rfl
theorem XX:fM .ifExpr (DA .ifExpr) 0=true:=rfl
theorem aA5:fM .matchE (DA .matchE) 0=true:=rfl
theorem KZ:fM .structLit (DA .structLit) 0=true:=rfl
theorem YA:fM .lambda (DA .lambda) 0=true:=rfl
theorem WC:fM .pattern (DA .pattern) 4=true:=rfl
theorem aI2(b:Bool):fM (.path b) (DA (.path b)) 3=true:=rfl
theorem OX:fM .typeExpr (DA .typeExpr) 3=true:=rfl
theorem JG:fM .typeParams (DA .typeParams) 1=true:=rfl
theorem aBg(c:List UInt8):fM (.params c) (DA (.params c)) 3=true:=rfl
theorem QA(b:Bool):fM (.function b) (DA (.function b)) 20=true:=rfl
section
variable{toks:List Tk}{s0 s s':PS}{a b:Ab}{d r pF pi n:Nat}{off:Int}{R:dK}
structure pG(toks:List Tk)(pF pi:Nat)(off:Int)(s0 s:PS)(a:Ab):Prop where
 j:J toks (a.S+off) a.al a.nd s0 s
 hi:pi<=s.pos
 hF:pF<=s.pos
 mi:a.mi=true->pi<s.pos
 mv:a.mv=true->pF<s.pos
 me:a.me=true->s.pos<toks.length->pF<s.pos
 ne:a.ne=true->s.pos<toks.length
 br:a.br=true->EX toks s=true
theorem pG.go(h:pG toks pF pi off s0 s a){S:Int}{al:List Int}{nd m:Bool}(x:J toks S al nd s s')(hm:m=true->s.pos<s'.pos):pG toks pF pi off s0 s' (a.go S al nd m):=by
 have p:=x.pos;have h1:=h.hi;have h2:=h.hF;refine⟨(h.j.trans x).mono (by simp only[Ab.go];omega) (λ_ h=>h) (λh=>h),z8,z8,λq=> ?_,λq=> ?_,λq l=> ?_,λq=>(by cases q),λq=>by cases q⟩
 ·rcases(by simpa[Ab.go]using q:a.mi=true\/m=true)with q|q
  ·have:=h.mi q;omega
  ·have:=hm q;omega
 ·rcases(by simpa[Ab.go]using q:a.mv=true\/m=true)with q|q
  ·have:=h.mv q;omega
  ·have:=hm q;omega
 ·have:=h.me q z8;omega
theorem pG.bump(h:pG toks pF pi off s0 s a)(x:J toks 0 [] false s s')(y:s.pos<toks.length->s.pos<s'.pos/\J toks (-239) [] false s s'):pG toks pF pi off s0 s' a.bump:=by
 have h1:=h.hF;have p:=x.pos;have g:pG toks pF pi off s0 s' (a.go (if a.ne then -239 else 0) [] false a.ne):=by
  by_cases c:a.ne=true
  ·rw[if_pos c];exact h.go (y (h.ne c)).2 λ_=>(y (h.ne c)).1
  ·rw[if_neg c];exact h.go x λq=>absurd q c
 exact⟨g.j,g.hi,g.hF,g.mi,g.mv,λ_ l=>by have:=y z8;omega,g.ne,g.br⟩
theorem pG.joinL{b:Ab}(h:pG toks pF pi off s0 s a):pG toks pF pi off s0 s (oO a b):=
 ⟨h.j.mono (by simp only[oO];omega) (λ_ h=>aSa _ h) (λh=>by simp only[oO,aQd]at h;exact h.1),h.hi,h.hF,λq=>h.mi (by simp only[oO,aQd]at q;exact q.1),λq=>h.mv (by simp only[oO,aQd]at q;exact q.1),λq=>h.me (by simp only[oO,aQd]at q;exact q.1),λq=>(by cases q),λq=>by cases q⟩
theorem pG.joinR{b:Ab}(h:pG toks pF pi off s0 s a):pG toks pF pi off s0 s (oO b a):=
 ⟨h.j.mono (by simp only[oO];omega) (λ_ h=>aR9 _ h) (λh=>by simp only[oO,aQd]at h;exact h.2),h.hi,h.hF,λq=>h.mi (by simp only[oO,aQd]at q;exact q.2),λq=>h.mv (by simp only[oO,aQd]at q;exact q.2),λq=>h.me (by simp only[oO,aQd]at q;exact q.2),λq=>(by cases q),λq=>by cases q⟩
theorem uZ{x y:Option Ab}{b:Ab}(h:LJ x y=some b):∃u v,x=some u/\y=some v/\b=oO u v:=by
 cases x<;>cases y<;>simp only[LJ]at h<;>first| (cases h;done)| (injection h with h;exact⟨_,_,rfl,rfl,h.symm⟩)
theorem pA{o:Option Ab}{f:Ab->Option Ab}{b:Ab}(h:RG o f=some b):∃a,o=some a/\f a=some b:=by
 cases o with
 |none=>cases h
 |some a=>exact⟨a,rfl,h⟩
theorem QZ(h:(aG toks s.pos).kind≠100):s.pos<toks.length:=IG (by simpa[JC]using h)
theorem zQ:∀c:Cq,(c.tn=true->c.ev toks s=true->s.pos<toks.length)/\(c.fn=true->c.ev toks s=false->s.pos<toks.length)
 | .at xs=>⟨λ_ h=>EF h,λh=>by simp[Cq.fn]at h⟩
 | .kd k=>⟨λh e=>by
   simp only[Cq.tn,aQe,decide_eq_false_iff_not]at h;simp only[Cq.ev,decide_eq_true_eq]at e;exact QZ (by rw[e];exact h),λh e=>by
   simp only[Cq.fn,decide_eq_true_eq]at h;simp only[Cq.ev,decide_eq_false_iff_not]at e;exact QZ (by rw[<-h];exact e)⟩
 | .ap=>⟨λ_ e=>by
   refine QZ λq=> ?_;simp[Cq.ev,HV,eC,q]at e,λh=>by simp[Cq.fn]at h⟩
 | .tx t=>⟨λh=>by simp[Cq.tn]at h,λh=>by simp[Cq.fn]at h⟩
 | .no c=>⟨λh e=>(zQ c).2 (by simpa[Cq.tn]using h) (by simpa[Cq.ev]using e),λh e=>(zQ c).1 (by simpa[Cq.fn]using h) (by simpa[Cq.ev]using e)⟩
 | .and c d=>⟨λh e=>by
   simp only[Cq.ev,aQd]at e;rcases(by simpa[Cq.tn]using h:c.tn=true\/d.tn=true)with q|q
   ·exact(zQ c).1 q e.1
   ·exact(zQ d).1 q e.2,λh=>by simp[Cq.fn]at h⟩
 | .fl=>⟨λh=>by simp[Cq.tn]at h,λh=>by simp[Cq.fn]at h⟩
 | .bo b=>⟨λh=>by simp[Cq.tn]at h,λh=>by simp[Cq.fn]at h⟩
theorem pG.inf(h:pG toks pF pi off s0 s a){c:Cq}{v:Bool}(hv:c.ev toks s=v):pG toks pF pi off s0 s (a.inf c v):=by
 have hl:(if v then c.tn else c.fn)=true->s.pos<toks.length:=λq=>by
  cases v
  ·exact(zQ c).2 q hv
  ·exact(zQ c).1 q hv
 refine⟨h.j,h.hi,h.hF,h.mi,λq=> ?_,h.me,λq=> ?_,λq=> ?_⟩
 ·rcases(by simpa[Ab.inf]using q:a.mv=true\/(a.me=true/\(if v=true then c.tn else c.fn)=true))with q|q
  ·exact h.mv q
  ·exact h.me q.1 (hl q.2)
 ·rcases(by simpa[Ab.inf]using q:a.ne=true\/(if v=true then c.tn else c.fn)=true)with q|q
  ·exact h.ne q
  ·exact hl q
 ·rcases(by simpa[Ab.inf]using q:a.br=true\/(v=true/\c.tb=true))with q|q
  ·exact h.br q
  ·have e:=q.2;cases c<;>first| (simp[Cq.tb]at e;done)| (simp only[Cq.tb,decide_eq_true_eq]at e;subst e;rw[q.1]at hv;exact hv)
def Spc(toks:List Tk)(dB rB:Nat)(fn:wD)(m:PS->Option PS)(s:PS):Prop:=
 (TX fn=true->∀S s0,S<=80->J toks S [] true s0 s->Rm toks dB (rB+402) s0->∃s',m s=some s'/\J toks S [] true s0 s'/\s.pos<=s'.pos)/\
 (TX fn=false->Rm toks dB rB s->∃s',m s=some s'/\J toks (SFb fn (EX toks s) (decide (s.pos<toks.length))) (alF fn) (ndF fn) s s'/\(mvF fn=true->s.pos<toks.length->s.pos<s'.pos))
def WE(toks:List Tk)(dB rB K:Nat)(R:dK):Prop:=∀fn s,(IZ fn=true->s.pos<toks.length)->aAw fn=true->nX toks fn s<K->Spc toks dB rB fn (R fn) s
theorem J.rm0{S:Int}{al:List Int}{nd:Bool}(h:J toks S al nd s0 s)(k:Rm toks d r s0)(hS:S<=0):Rm toks d r s:=by
 obtain⟨f,fs,n1,a1,a2,a3,a4,a5,a6,a7,a8⟩:=h;obtain⟨g,gs,b1,b2,b3,b4⟩:=k;rw[a1]at b1;injection b1 with b1 b0;subst b1 b0;have:=pR n1;refine⟨_,_,a2,a4, ?_,by rw[a2];rw[a1]at b4;simpa using b4⟩;simp only[aRf]
 split at a5<;>omega
theorem DQ(hT:BF toks)(rm:Rm toks d r s):∃q,nR toks s=some q/\Rm toks d r q:=by
 obtain⟨f,fs,b1,b2,b3,b4⟩:=rm;have r1:Rm toks d r ⟨s.pos,[⟨0,[]⟩],false⟩:=⟨_,_,rfl,b2,by simp;omega,by rw[b1]at b4;simp only[aQ0,aR1]at b4⊢;omega⟩;obtain⟨q,e,x,_⟩:=mT hT r1;exact⟨q,e,x.rm0 r1 (Int.le_refl _)⟩
theorem aIl{fn:wD}{b c:Bool}(h:b=true->c=true):MP fn c<=MP fn b:=by
 cases b<;>cases c<;>simp_all [MP]
 split<;>omega
theorem aKk{fn:wD}{b c b' c':Bool}(h:b=true->c=true)(h':b'=true->c'=true):SFb fn c c'<=SFb fn b b':=by
 cases fn<;>cases b<;>cases c<;>cases b'<;>cases c'<;>first|exact Int.le_refl _|exact absurd (h rfl) Bool.false_ne_true|exact absurd (h' rfl) Bool.false_ne_true|decide
theorem aIy{fn:wD}(hb:aAw fn=true)(b:Bool):MP fn b<=18:=by
 unfold MP;split
 ·omega
 ·cases fn<;>simp only[rmx]<;>omega
variable{dB rB K self dp:Nat}
theorem WM(IH:WE toks dB rB K R)(hk:32*(toks.length-pF)+self<=K){fn:wD}(hc:RU self fn a=some b)(ho:off<=80/\(1<self->off=0))(hS:a.S<=300)(iv:pG toks pF pi off s0 s a)(rm:Rm toks (dB+dp) (rB+402+1300*dp) s0):∃s',R fn s=some s'/\pG toks pF pi off s0 s' b:=by
 unfold RU at hc
 split at hc
 case isFalse=>cases hc
 rename_i c;injection hc with hc;subst hc;simp only[aQd,aRv,aQe,decide_eq_true_eq]at c;obtain⟨⟨⟨c1,c2⟩,c3⟩,c4⟩:=c;obtain⟨ho,ho2⟩:=ho;have hp:=iv.j.pos;have h18:=aIy c3 (EX toks s);have hle:=aIl (fn:=fn) iv.br;have hF:=iv.hF;have hn:nX toks fn s<K:=by
  unfold nX;rcases c1 with c1|c1
  ·have:=iv.mv c1;omega
  ·omega
 have sp:=IH fn s (λq=>by rcases c2 with c2|c2;(rw[q]at c2;cases c2);exact iv.ne c2) c3 hn
 by_cases hpo:TX fn=true
 ·obtain rfl:fn= .postfx:=by cases fn<;>first|rfl|cases hpo
  rcases c4 with c4| ⟨⟨⟨c4,c5⟩,c6⟩,c7⟩
  ·cases c4
  have h0:=ho2 c7;have j:=iv.j;rw[c4,List.isEmpty_iff.1 c5]at j;obtain⟨s',e,x,y⟩:=sp.1 rfl _ s0 z8 j (rm.mono z8 z8);have hq:=x.pos;exact⟨s',e,⟨x.mono (by simp[Ab.go,SFb,xV,TH,SF]) (λx hx=>by cases hx) (λ_=>rfl),by have:=iv.hi;omega,z8,λq=>by have:=iv.mi (by simpa[Ab.go,mvF,IZ]using q);omega,λq=>by have:=iv.mv (by simpa[Ab.go,mvF,IZ]using q);omega,λq l=>by have:=iv.me q z8;omega,λq=>(by cases q),λq=>by cases q⟩⟩
 ·have hpo':TX fn=false:=by simpa using hpo
  obtain⟨s',e,x,y⟩:=sp.2 hpo' (iv.j.rm (rm.mono (d':=dB) (r':=rB+400) z8 z8) z8);refine⟨s',e,iv.go (x.mono (aKk iv.br λq=>decide_eq_true (iv.ne q)) (λ_ h=>h) (λh=>h)) λq=> ?_⟩;simp only[aQd]at q;exact y q.1 (iv.ne q.2)
end
section
variable{toks:List Tk}{dB rB K self n pF:Nat}{R:dK}
theorem gI{dp:Nat}{p:Pr}{a b:Ab}(h:gH self dp p a=some b):a.S<=300:=by
 unfold gH at h
 split at h
 ·cases h
 ·omega
def Snd(toks:List Tk)(n:Nat)(R:dK)(dB rB self pF:Nat)(p:Pr):Prop:=∀(dp:Nat) (a b:Ab) (pi:Nat) (off:Int) (s0 s:PS),gH self dp p a=some b->(off<=80/\(1<self->off=0))->pG toks pF pi off s0 s a->Rm toks (dB+dp) (rB+402+1300*dp) s0->∃s',lT toks n R p s=some s'/\pG toks pF pi off s0 s' b
section
variable{dp pi:Nat}{off:Int}{s0 s:PS}{a a1:Ab}{k:Int}{q:Pr}(hq:Snd toks n R dB rB self pF q)(ho:off<=80/\(1<self->off=0))(iv:pG toks pF pi off s0 s a)(hS:a.S<=300)
theorem pG.rs(iv:pG toks pF pi off s0 s a)(ho:off<=80/\(1<self->off=0))(hS:a.S<=300)(rm:Rm toks (dB+dp) (rB+402+1300*dp) s0):Rm toks (dB+dp) (rB+2+1300*dp) s:=iv.j.rm (rm.mono (aQj _) z8) z8
theorem bI{o:Option PS}{s1:PS}{f:PS->Option PS}{P:PS->Prop}(e:o=some s1)(h:∃s',f s1=some s'/\P s'):∃s',o.bind f=some s'/\P s':=by rw[e];exact h
include hq ho iv hS
theorem aBv(h:JB k a (gH self dp q a.inn)=some a1)(rm:Rm toks (dB+(dp+1)) (rB+402+1300*(dp+1)) s0):∃s',bY k (lT toks n R q) s=some s'/\pG toks pF pi off s0 s' a1:=by
 cases hc:gH self dp q a.inn with
 |none=>rw[hc]at h;cases h
 |some b=>
  rw[hc]at h;unfold JB at h;simp only at h
  split at h
  case isFalse=>cases h
  rename_i c;injection h with h;subst h;simp only[aQd,aRv,aQe,decide_eq_true_eq,decide_eq_false_iff_not,aRo,List.contains_iff_mem]at c;obtain⟨⟨⟨⟨c1,c2⟩,c3⟩,c4⟩,c5⟩:=c;have rs:=iv.rs ho hS rm;have rk:Rm toks (dB+dp) (rB+402+1300*dp) ⟨s.pos,⟨k,[]⟩::s.stack,s.flag⟩:=by
   obtain⟨f,fs,b1,b2,b3,b4⟩:=rs;exact⟨_,_,rfl,b2,by simp;omega,by simp only[aQ0];omega⟩
  obtain⟨s2,e2,i2⟩:=hq dp _ _ pi 0 _ _ hc ⟨z8,λ_=>rfl⟩ ⟨rk.refl,iv.hi,iv.hF,iv.mi,iv.mv,iv.me,iv.ne,iv.br⟩ rk;obtain⟨s3,e3,x3,p3⟩:=BK (r:=1) (d:=dB+dp) (rs.mono z8 z8) e2 i2.j c1 c2 c3 (λz=>by rcases c4 with c4|c4;exact absurd z c4;exact c4);exact⟨s3,e3,⟨(iv.j.trans x3).mono (by simp only;omega) (λ_ h=>h) (λ_=>z6),by rw[p3];exact i2.hi,by rw[p3];exact i2.hF,by rw[p3];exact i2.mi,by rw[p3];exact i2.mv,by rw[p3];exact i2.me,λq=>(by cases q),λq=>by cases q⟩⟩
theorem aKw(h:XI k a (gH self dp q a.inn)=some a1)(rm:Rm toks (dB+(dp+1)) (rB+402+1300*(dp+1)) s0):∃s',iA k (lT toks n R q) s=some s'/\pG toks pF pi off s0 s' a1:=by
 cases hc:gH self dp q a.inn with
 |none=>rw[hc]at h;cases h
 |some b=>
  rw[hc]at h;unfold XI at h;simp only at h
  split at h
  case isFalse=>cases h
  rename_i c;injection h with h;subst h;simp only[aQd,aRv,aQe,decide_eq_true_eq,decide_eq_false_iff_not,List.isEmpty_iff]at c;obtain⟨⟨⟨⟨⟨⟨c1,c2⟩,c3⟩,c4⟩,c5⟩,c6⟩,c7⟩:=c;have rs:=iv.rs ho hS rm;have j:=iv.j;rw[c6,c7]at j;obtain⟨f,fs,ini,y,z1,z2⟩:=j.last;have rk:Rm toks (dB+dp) (rB+402+1300*dp) ⟨s.pos,⟨k,[y]⟩::⟨f.kind,f.kids++ini⟩::fs,s.flag⟩:=by
   obtain⟨f',fs',b1,b2,b3,b4⟩:=rs;rw[z2]at b4;exact⟨_,_,rfl,b2,by simp;omega,by simp only[aQ0]at b4⊢;omega⟩
  have hbr:EX toks ⟨s.pos,⟨k,[y]⟩::⟨f.kind,f.kids++ini⟩::fs,s.flag⟩=EX toks s:=rfl;obtain⟨s2,e2,i2⟩:=hq dp _ _ pi 0 _ _ hc ⟨z8,λ_=>rfl⟩ ⟨rk.refl,iv.hi,iv.hF,iv.mi,iv.mv,iv.me,iv.ne,iv.br⟩ rk;have j2:=i2.j;rw[c4]at j2;obtain⟨s3,e3,x3,p3⟩:=aGz (r:=1) (d:=dB+dp) (rs.mono z8 z8) j z2 z1 e2 j2 c1 c2 c3;exact⟨s3,e3,⟨x3.mono (by simp only;omega) (λ_ h=>h) (λ_=>rfl),by rw[p3];exact i2.hi,by rw[p3];exact i2.hF,by rw[p3];exact i2.mi,by rw[p3];exact i2.mv,by rw[p3];exact i2.me,λq=>(by cases q),λq=>by cases q⟩⟩
omit hq ho iv hS in
theorem SN{mx pl:Int}{o:Option Ab}(h:PO mx pl a o=some a1):∃b,o=some b/\b.S<=mx/\a1=a.go (max b.S 0+pl) b.al false false:=by
 cases o with
 |none=>cases h
 |some b=>
  unfold PO at h;simp only[decide_eq_true_eq]at h
  split at h
  ·injection h with h;exact⟨b,rfl,by assumption,h.symm⟩
  ·cases h
theorem aOa(hT:BF toks)(hn:toks.length<n){c:List UInt8}(h:PO 58 2 a (gH self dp q ⟨0,false,false,a.mv||a.me,false,true,false,[]⟩)=some a1)(rm:Rm toks (dB+(dp+1)) (rB+402+1300*(dp+1)) s0):∃s',oW toks n c (lT toks n R q) s=some s'/\pG toks pF pi off s0 s' a1:=by
 obtain⟨b,hc,hb,rfl⟩:=SN h;have rs:=iv.rs ho hS rm;obtain⟨s1,e1,x1⟩:=aI3 (r:=rB+1300*dp) (d:=dB+dp) (al:=b.al) (nd:=b.nd) (a:=lT toks n R q) hT hn hb (rs.mono z8 z8) λt ht hl rt=>by
  obtain⟨t',e,i⟩:=hq dp _ _ t.pos 0 t t hc ⟨z8,λ_=>rfl⟩ ⟨rt.refl,aQj _,by have:=iv.hF;omega,λq=>(by cases q),λq=>(by
   simp only[aRv]at q;rcases q with q|q
   ·have:=iv.mv q;omega
   ·have:=iv.me q z8;omega),λq=>(by cases q),λ_=>hl,λq=>by cases q⟩ (rt.mono z8 z8)
  exact⟨t',e,i.j.mono z8 (λ_ h=>h) (λh=>h)⟩
 exact⟨s1,e1,iv.go x1 λq=>by cases q⟩
theorem aE6(hT:BF toks)(hn:toks.length<n){c:Cq}(hcn:c.tn=true)(h:PO 60 0 a (RG (gH self dp q ⟨0,false,false,a.mv||a.me,false,true,false,[]⟩) λb=>if b.mi then some b else none)=some a1)(rm:Rm toks (dB+(dp+1)) (rB+402+1300*(dp+1)) s0):∃s',dJ (λs=>c.ev toks s) (lT toks n R q) n s=some s'/\pG toks pF pi off s0 s' a1:=by
 obtain⟨b,hc0,hb,rfl⟩:=SN h;obtain⟨b',hc,hm⟩:=pA hc0
 split at hm
 case isFalse=>cases hm
 rename_i hm';injection hm with hm;subst hm;have rs:=iv.rs ho hS rm;obtain⟨s1,e1,x1⟩:=JD (r:=rB+402+1300*dp) (d:=dB+dp) (al:=b'.al) (nd:=b'.nd) (c:=λs=>c.ev toks s) (b:=lT toks n R q) hn hb (rs.mono z8 z8) λt ht rt ct=>by
  have hl:=(zQ c).1 hcn ct;obtain⟨t',e,i⟩:=hq dp _ _ t.pos 0 t t hc ⟨z8,λ_=>rfl⟩ ⟨rt.refl,aQj _,by have:=iv.hF;omega,λq=>(by cases q),λq=>(by
   simp only[aRv]at q;rcases q with q|q
   ·have:=iv.mv q;omega
   ·have:=iv.me q z8;omega),λq=>(by cases q),λ_=>hl,λq=>by cases q⟩ rt
  exact⟨t',e,i.j.mono z8 (λ_ h=>h) (λh=>h),i.mi hm'⟩
 exact⟨s1,e1,iv.go (x1.mono z8 (λ_ h=>h) (λh=>h)) λq=>by cases q⟩
theorem aFy(hT:BF toks)(hn:toks.length<n){xs:List (List UInt8)}(h:aDd a (gH self dp q ⟨0,false,true,true,false,false,false,[]⟩)=some a1)(rm:Rm toks (dB+(dp+1)) (rB+402+1300*(dp+1)) s0):∃s',kS (λs=>eC (aG toks s.pos) xs) (cA toks xs) (lT toks n R q) n s=some s'/\pG toks pF pi off s0 s' a1:=by
 cases hc:gH self dp q ⟨0,false,true,true,false,false,false,[]⟩with
 |none=>rw[hc]at h;cases h
 |some b=>
  rw[hc]at h;unfold aDd at h;simp only[decide_eq_true_eq]at h
  split at h
  case isFalse=>cases h
  rename_i hb;injection h with h;subst h;have rs:=iv.rs ho hS rm;have hp:=iv.hF;have hi:=iv.hi;obtain⟨s1,e1,i1⟩:=SZ (S:=b.S-239) (r:=rB+402+1300*dp) (d:=dB+dp) (al:=b.al) (nd:=b.nd) (b:=lT toks n R q) hT (xs:=xs) z8 (rs.mono z8 z8) (λt ht rt=>by
   obtain⟨t',e,i⟩:=hq dp _ _ pi 0 t t hc ⟨z8,λ_=>rfl⟩ ⟨rt.refl,z8,z8,λ_=>z8,λ_=>z8,λq=>(by cases q),λq=>(by cases q),λq=>by cases q⟩ rt;exact⟨t',e,i.j.mono z8 (λ_ h=>h) (λh=>h)⟩) n s (.inl rfl) z8
  refine⟨s1,e1,iv.go ?_ λq=>by cases q⟩;rcases i1 with rfl| ⟨_,j⟩
  ·exact rs.refl.mono (Int.le_refl _) (λx hx=>by cases hx) (λh=>h)
  ·exact j.mono z8 (λ_ h=>h) (λh=>by cases h)
omit hS in
theorem aE3(hn:toks.length<n){c:Cq}(hcn:c.tn=true)(h:aDe a (gH self dp q {a with mi:=false,mv:=a.mv||a.me,ne:=true,br:=false})=some a1)(rm:Rm toks (dB+dp) (rB+402+1300*dp) s0):∃s',dJ (λs=>c.ev toks s) (lT toks n R q) n s=some s'/\pG toks pF pi off s0 s' a1:=by
 cases hc:gH self dp q {a with mi:=false,mv:=a.mv||a.me,ne:=true,br:=false}with
 |none=>rw[hc]at h;cases h
 |some b=>
  rw[hc]at h;unfold aDe at h;simp only at h
  split at h
  case isFalse=>cases h
  rename_i hb;injection h with h;subst h;simp only[aQd,decide_eq_true_eq,List.isEmpty_iff]at hb;obtain⟨⟨⟨⟨⟨h1,h2⟩,h3⟩,h4⟩,h5⟩,h6⟩:=hb;have hp:=iv.j.pos
  suffices hL:∀(m:Nat) (t:PS),pG toks pF pi off s0 t {a with ne:=false,br:=false}->s.pos<=t.pos->toks.length-t.pos<m->∃s',dJ (λs=>c.ev toks s) (lT toks n R q) m t=some s'/\pG toks pF pi off s0 s' {a with ne:=false,br:=false}from
   hL n s ⟨iv.j,iv.hi,iv.hF,iv.mi,iv.mv,iv.me,λq=>(by cases q),λq=>by cases q⟩ (aQj _) z8
  intro m
  induction m with
  |zero=>intro t _ _ h;omega
  |succ m ih=>
   intro t it ht hm;unfold dJ
   by_cases e:c.ev toks t=true
   ·rw[if_pos e];have hl:=(zQ c).1 hcn e;obtain⟨t1,e1,i1⟩:=hq dp _ _ t.pos off s0 t hc ho ⟨it.j,aQj _,it.hF,λq=>(by cases q),λq=>(by
     simp only[aRv]at q;rcases q with q|q
     ·exact it.mv q
     ·exact it.me q hl),it.me,λ_=>hl,λq=>by cases q⟩ rm
    have hlt:=i1.mi h3;have hpi:=it.hi;have hpF:=it.hF;have hj1:=i1.j.pos;obtain⟨s',e2,i2⟩:=ih t1 ⟨i1.j.mono (by simp only;omega) (λx hx=>by rw[h4]at hx;cases hx) (λ_=>h2),z8,z8,λq=>by have:=it.mi q;omega,λq=>by have:=it.mv q;omega,λq l=>by have:=it.me q z8;omega,λq=>(by cases q),λq=>by cases q⟩ z8 z8;exact⟨s',by rw[e1];exact e2,i2⟩
   ·rw[if_neg e];exact⟨t,rfl,it⟩
end
end
end Go.Abs
